/-
  The texts X4, X5, X6, PB6, PSa6, PV6, PSb6 of the proof, one behind the other. No conditions.
-/
import Derived.Test.YtmbhnllcfmiajaaGreatG3
namespace Go.Proofs.YtmbhnllcfmiajaaGreat
open _root_.Go.Proofs.Tryz
open Go.RowKit
set_option maxRecDepth 100000
set_option maxHeartbeats 4000000
set_option synthInstance.maxSize 4000
set_option synthInstance.maxHeartbeats 400000
section
def Qgb (_N:Nat) (p0:List Int):Option Unit:=
  chk (!p0.isEmpty)<|
  chk (!p0.isEmpty)<|
  chk (decide ((0+p0.length)*8≤140737488355328))<|
  some ()
def Zpt:AV:=.acc 0 3 1 ((([]:List Int):List Int).map Qac)
theorem Qmr (N:Nat) (p0:List Int) (r:Unit) (h:Qgb N p0=some r):Spec prog 95 [(.dat 1 (p0.map Qac))] [] (.own 0 1 (0) p0.length) [(.own 1 (p0.map Qac))]:=by
  refine sF func95 1 fun _ _ _ hq hd0=>?_
  unfold Qgb at h
  refine wxz<|wsq ?_
  obtain⟨hz1,h⟩:=cko h
  refine wx tbk [(1,rp [(.tmp 3,(.dat 1 (p0.map Qac))),((.const (.slice none 0 0)),nilS)] (B false))] ⟨Qmm rfl underlying27 rfl (Qhe hz1),tv⟩<|wfa<|Qam<|thn ?_
  obtain⟨ha3,h⟩:=cko h
  obtain⟨ha2,h⟩:=cko h
  refine wx tbk [(0,⟨[],[(0,.unused)],Zpt,[(0,.tok)],false⟩),(2,⟨[(.tmp 5,Zpt),(.tmp 6,(.dat 1 (p0.map Qac)))],[(0,.tok),(1,.unused)],(.own 1 1 (0) p0.length),[(0,.dead),(1,(.own 1 (p0.map Qac)))],false⟩)] ⟨Qd5 rfl underlying27 ti3 tz3,Qtl rfl underlying27 te3 (Base.acc _ _) rfl rfl (Qhe ha3) (Qh1 Qac Qf0 _) (Quw Qac ha2) (Quv Qac ha2 (by decide)) (List.length_map _),tv⟩ ?_
  refine wmr (mto (n:=8) (l':=[(2,(.own 0 1 (0) p0.length))]) (own':=[(.own 1 (p0.map Qac))]) [(2,(.own 1 1 (0) p0.length))] [1] [(.own 1 (p0.map Qac))] hq (pc (.rn (Qav rfl)) pn) (qc (spr Qah) qn))<|Qai ?_
  obtain rfl:=osi h
  exact⟨_,Mor.rfl,fio [(.own 0 1 (0) p0.length)] ⟨rot,tv⟩⟩
theorem Qs4:DRet prog 96 [1,1]:=by
  refine Qt3 (t:=5) (args:=[.any,.any]) func96 rfl (fun _ _=>rfl) (by kernel_rfl) Zm0 0 (nle rfl) (fun X φ0 w0 hq=>?_)
  exact Qao<|wx tbk [(0,rp [(.tmp 5,(.lit .nilIface)),(.const .nilIface,(.lit .nilIface))] (B true))] ⟨Q22 rfl underlying20,tv⟩<|wtr<|wxz1<|bln<|fend ⟨[],tv,rfl⟩ (.tup _ nl0)
def Qgr (_N:Nat) (p0:Qaf) (p1:Int):Option Int:=
  chk (p0.Narrow != 0)<|
  (some (if (w64 (p0.Wide-(w64 (p1.tdiv p0.Narrow))))>0 then w64 (p0.Wide-(w64 (p1.tdiv p0.Narrow))) else 0)).bind fun x2=>
  some x2
theorem Qkf (N:Nat) (p0:Qaf) (p1 r:Int) (h:Qgr N p0 p1=some r):Spec prog 74 [(.agg (Qae p0)),(I p1)] [] (I r) []:=by
  refine sA func74 0 fun _ _ _ hq hd0=>?_
  unfold Qgr at h
  refine wxz ?_
  obtain⟨hz1,h⟩:=cko h
  obtain⟨x2,hl3,h⟩:=bno h
  refine wxd tbk [(5,rp [(.tmp 7,I p1),(.tmp 9,I p0.Narrow)] (I (w64 (p1.tdiv p0.Narrow)))),(7,rp [ci 0,(.tmp 11,(I (w64 (p0.Wide-(w64 (p1.tdiv p0.Narrow))))))] (I x2))] ⟨Qkc rfl (Qko hz1),Qhg hl3 (Qml rfl),tv⟩<|Qai ?_
  obtain rfl:=osi h
  exact fend ⟨[I x2],⟨rot,tv⟩,rfl⟩ nll
def Qhp (_N:Nat) (_p0:Int) (_p1:List GRow) (_p2:List Qaf) (_p3 _p4 _p5:Nat) (_p6:List Qaa) (_p7:Int) (_p8:List (List Qaa)) (_p9:List Qa1) (_p10:List Int):Option Unit:=
  some ()
abbrev Zfy (p1:List GRow) (p2:List Qaf) (p3 p4 p5:Nat) (p6:List Qaa) (p7:Int):Slot:=.own 7 [[(.dat 5 (p1.map Qap)),(.dat 7 (p2.map Qae)),(.own 1 1 (0) p3),(.own 2 4 (0) p4),(.own 3 1 (0) p5),(.dat 4 (p6.map Qad)),(I p7)]]
abbrev Zas:AV:=.fn (.func 133) [] [(.ref 4 1 (0) 0),(.ref 5 1 (0) 0)]
abbrev Zlt:Slot:=.own 1 [[(.ref 0 7 (0) 0)]]
theorem Qp4 (N:Nat) (p0:Int) (p1:List GRow) (p2:List Qaf) (p3 p4 p5:Nat) (p6:List Qaa) (p7:Int) (p8:List (List Qaa)) (p9:List Qa1) (p10:List Int) (r:Unit) (h:Qhp N p0 p1 p2 p3 p4 p5 p6 p7 p8 p9 p10=some r):Spec prog 116 [(.ref 0 7 (0) 0),(I p0)] [(Zfy p1 p2 p3 p4 p5 p6 p7),(.own 1 (p8.map Qag)),(.own 4 (p9.map Qat)),(.own 1 (p10.map Qac))] Zas [(Zfy p1 p2 p3 p4 p5 p6 p7),(.own 1 (p8.map Qag)),(.own 4 (p9.map Qat)),(.own 1 (p10.map Qac)),Zlt,(.own 1 [[(I p0)]])]:=by
  refine sF func116 6 fun _ _ _ hq hd0=>?_
  unfold Qhp at h
  refine wxz<|wx tbk [(0,rp [(.tmp 2,.ref 4 1 0 0),(.tmp 3,.ref 5 1 0 0)] Zas)] ⟨Qfv (fs:=[]) (cs:=[.ref 4 1 0 0,.ref 5 1 0 0]) rfl rfl rfl rfl,tv⟩ ?_
  refine wmr (mto (n:=6) (l':=[(4,Zas)]) (own':=[(Zfy p1 p2 p3 p4 p5 p6 p7),(.own 1 (p8.map Qag)),(.own 4 (p9.map Qat)),(.own 1 (p10.map Qac)),Zlt,(.own 1 [[I p0]])]) [(4,Zas)] [0,1,2,3,4,5] [(Zfy p1 p2 p3 p4 p5 p6 p7),(.own 1 (p8.map Qag)),(.own 4 (p9.map Qat)),(.own 1 (p10.map Qac)),Zlt,(.own 1 [[I p0]])] hq (pc (.rn (Qbj rn0 (rnc (rqr rfl) (rnc (rqr rfl) rn0)))) pn) (qb (lc (rnd Qan) (lc (rnd Qab) (lc (.rn (Qav rfl)) (lc (.rn (Qav rfl)) (lc (.rn (Qav rfl)) (lc (rnd Qal) (lc rwl ln))))))) (qc (spr Qak) (qc (spr Qa2) (qc (spr Qah) (qb (lc (.rn (rqr rfl)) ln) (qb (lc rwl ln) qn)))))))<|Qai ?_
  obtain rfl:=osi h
  exact⟨_,Mor.rfl,fio [Zas] ⟨rot,tv⟩⟩
def Qch (N:Nat) (p0:List Int) (k1:Unit→Option Int) (p1:Int):Nat→Int→Option Int
  |0,_=>none
  |n4+1,y2=>
    bif (decide (y2<(p0.length:Int))) then
     (getI p0 y2).bind fun x6=>
     bif (p1==x6) then
      some y2
     else
      Qch N p0 k1 p1 n4 (w64 (y2+1))
    else
     k1 ()
def Qfo (N:Nat) (p0:List Int) (p1:Int):Option Int:=
  Qbc (fun _=>
    some (-1)) fun k1:Unit→Option Int=>
  Qch N p0 k1 p1 N 0
theorem Qjg (N:Nat) (p0:List Int) (p1 r:Int) (h:Qfo N p0 p1=some r):Spec prog 134 [(.dat 1 (p0.map Qac)),(I p1)] [] (I r) []:=by
  refine sA func134 0 fun _ _ _ hq hd0=>?_
  unfold Qfo at h
  refine wxz ?_
  obtain⟨k1,hk_k1,h⟩:=jko h
  refine wjn (τ:=Unit) (fun t=>k1 t=some r) (fun _=>⟨mk 19 [],[]⟩) (fun t h=>?_) ?_
  ·subst hk_k1
   refine wxz<|Qai ?_
   obtain rfl:=osi h
   exact fend ⟨[(I ((-1)))],⟨rot,tv⟩,rfl⟩ nll
  ·skip
   refine wx tbk [(1,rp _ _)] ⟨alq 1 Qac p0 underlying27,tv⟩<|Qao ?_
   refine wmr (mto (n:=19) (l':=[(0,(.dat 1 (p0.map Qac))),(1,I p1),(7,(I ((p0.length:Int)))),(8,I 0)]) (own':=[]) [(0,(.dat 1 (p0.map Qac))),(1,I p1),(7,(I ((p0.length:Int)))),(8,I 0)] [] [] hq (pc (rnd Qah) (pw (pw (pw pn)))) qn) ?_
   refine Qbl (τ:=Int) (fun n t=>Qch N p0 k1 p1 n t=some r) (fun y2=>⟨mk 19 [(0,(.dat 1 (p0.map Qac))),(1,I p1),(7,(I ((p0.length:Int)))),(8,I y2)],[]⟩) (fun t h=>by rw[Qch] at h;cases h) (fun n4 ih y2 h=>?_) N (0) h
   rw[Qch] at h
   skip
   refine wxz<|wsq ?_
   refine bfe h (fun hc5 h=>?_) fun hc5 h=>?_
   ·refine wft hc5<|Qam<|thn<|wsq<|Qao<|wxz ?_
    obtain⟨x6,hg7,h⟩:=bno h
    obtain⟨hi8,hj9⟩:=gsm hg7
    refine wx tbk [(3,rp _ _)] ⟨aiq underlying27 ti3 Qac hi8 hj9,tv⟩ ?_
    refine bfe h (fun hc10 h=>?_) fun hc10 h=>?_
    ·refine wft hc10<|wxz<|Qai<|Qar<|Qaj<|Qaj<|Qar<|Qaj ?_
     obtain rfl:=osi h
     exact fend ⟨[I y2],⟨rot,tv⟩,rfl⟩ nll
    ·exact wfn hc10<|Qam<|bln<|thn<|wxz1<|thn<|arm (mto (n:=19) [(0,(.dat 1 (p0.map Qac))),(1,I p1),(7,(I ((p0.length:Int)))),(8,(I (w64 (y2+1))))] [] [] hq (pc (rnd Qah) (pw (pw (pw pn)))) qn) (ih (w64 (y2+1)) h)
   ·exact wfn hc5<|Qa7<|Qau<|Qau<|Qa6 rfl<|thn<|⟨(),h,(mto (n:=19) [] [] [] hq pn qn)⟩
def Qdc (N:Nat) (x1:Qaf) (p2:List (List Qaa)):Nat→Int→Option (List Qaa)
  |0,_=>none
  |n19+1,y15=>
    bif (decide (y15<(x1.From.length:Int))) then
     (getI x1.From y15).bind fun x21=>
     (getI p2 x21.Element).bind fun x25=>
     (getI x25 x21.Outlet).bind fun x29=>
     yld x29<|
     Qdc N x1 p2 n19 (w64 (y15+1))
    else
     some ([])
def Qho (N:Nat) (p0:List GRow) (p1:List Qaf) (p2:List (List Qaa)) (_p3:List Qa1) (_p4:List Int) (p5:List Qaa) (_p6 p7:Int):Option (List Qaa):=
  (getI p1 p7).bind fun x1=>
  bif (x1.Kind==1) then
   (Qg9 N (⟨p0,p1⟩:GNet) 1).bind fun x7=>
   (Qfo N x7 p7).bind fun x9=>
   (getI p5 x9).bind fun x10=>
   yld x10<|
   some ([])
  else
   Qdc N x1 p2 N 0
abbrev Qhj (p1:List Qaf):AV:=.dat 7 (p1.map Qae)
abbrev Qgy (p2:List (List Qaa)):AV:=.dat 1 (p2.map Qag)
abbrev Qhk (p3:List Qa1):AV:=.dat 4 (p3.map Qat)
abbrev Qgx (p5:List Qaa):AV:=.dat 4 (p5.map Qad)
def Zfw (p0:List GRow) (p1:List Qaf):AV:=.agg [(.dat 5 (p0.map Qap)),(Qhj p1)]
def Zfv (x10:Qaa):AV:=.agg [(I x10.Mass),(I x10.Heat),(I x10.Silica),(I x10.Gas)]
def Zfu (x1:Qaf):AV:=.dat 2 (x1.From.map Qaw)
def Qtp (x21:Qbn):Slot:=.own 2 [[(I x21.Element),(I x21.Outlet)]]
def Q5h (x29:Qaa):AV:=.agg [(I x29.Mass),(I x29.Heat),(I x29.Silica),(I x29.Gas)]
theorem Qp3 (N:Nat) (p0:List GRow) (p1:List Qaf) (p2:List (List Qaa)) (p3:List Qa1) (p4:List Int) (p5:List Qaa) (p6 p7:Int) (r:List Qaa) (h:Qho N p0 p1 p2 p3 p4 p5 p6 p7=some r):Qw8 prog 133 [(.dptr [(.dptr [(.dat 5 (p0.map Qap)),(Qhj p1),(Qgy p2),(Qhk p3),(.dat 1 (p4.map Qac)),(Qgx p5),(I p6)] 0)] 0),(.dptr [(I p7)] 0)] [] (fun x=>[(.agg #[(.int .i64 x.Mass),(.int .i64 x.Heat),(.int .i64 x.Silica),(.int .i64 x.Gas)])]) r:=by
  refine Qxw func133 rfl rfl (fun X φ0 w0 l J hq hy=>?_)
  unfold Qho at h
  refine wsq ?_
  obtain⟨x1,hg2,h⟩:=bno h
  obtain⟨hi3,hj4⟩:=gsm hg2
  refine wxd tbk [(6,rp _ _)] ⟨aiq underlying40 Qkd Qae hi3 hj4,tv⟩ ?_
  refine bfe h (fun hc5 h=>?_) fun hc5 h=>?_
  ·refine wft hc5 ?_
   obtain⟨x7,hf6,h⟩:=bno h
   obtain⟨x9,hf8,h⟩:=bno h
   obtain⟨x10,hg11,h⟩:=bno h
   obtain⟨hi12,hj13⟩:=gsm hg11
   obtain⟨q14,hy_,hq_⟩:=Q3o h
   clear h
   subst hq_
   have h:=hy_
   clear hy_
   refine Q2z 14 [mv 0 (.lit (.func (.yield l) #[] #[])),rp [(.tmp 1,(.dptr [(.dptr [(.dat 5 (p0.map Qap)),(Qhj p1),(Qgy p2),(Qhk p3),(.dat 1 (p4.map Qac)),(Qgx p5),I p6] 0)] 0))] (.dptr [(.dat 5 (p0.map Qap)),(Qhj p1),(Qgy p2),(Qhk p3),(.dat 1 (p4.map Qac)),(Qgx p5),I p6] 0),mv 17 (.dptr [(.dat 5 (p0.map Qap)),(Qhj p1),(Qgy p2),(Qhk p3),(.dat 1 (p4.map Qac)),(Qgx p5),I p6] 0),rp [(.tmp 18,(.dptr [(.dat 5 (p0.map Qap)),(Qhj p1),(Qgy p2),(Qhk p3),(.dat 1 (p4.map Qac)),(Qgx p5),I p6] 0))] (.dptr [(.dat 5 (p0.map Qap)),(Qhj p1),(Qgy p2),(Qhk p3),(.dat 1 (p4.map Qac)),(Qgx p5),I p6] 5),rp [(.tmp 19,(.dptr [(.dat 5 (p0.map Qap)),(Qhj p1),(Qgy p2),(Qhk p3),(.dat 1 (p4.map Qac)),(Qgx p5),I p6] 5))] (Qgx p5),rp [(.tmp 1,(.dptr [(.dptr [(.dat 5 (p0.map Qap)),(Qhj p1),(Qgy p2),(Qhk p3),(.dat 1 (p4.map Qac)),(Qgx p5),I p6] 0)] 0))] (.dptr [(.dat 5 (p0.map Qap)),(Qhj p1),(Qgy p2),(Qhk p3),(.dat 1 (p4.map Qac)),(Qgx p5),I p6] 0),mv 21 (.dptr [(.dat 5 (p0.map Qap)),(Qhj p1),(Qgy p2),(Qhk p3),(.dat 1 (p4.map Qac)),(Qgx p5),I p6] 0),mv 22 (.dptr [(.dat 5 (p0.map Qap)),(Qhj p1),(Qgy p2),(Qhk p3),(.dat 1 (p4.map Qac)),(Qgx p5),I p6] 0),rp [(.tmp 23,(.dptr [(.dat 5 (p0.map Qap)),(Qhj p1),(Qgy p2),(Qhk p3),(.dat 1 (p4.map Qac)),(Qgx p5),I p6] 0))] (Zfw p0 p1),rp [fu 67,(.tmp 24,(Zfw p0 p1)),(.const (.int .u8 1),(K .u8 (1)))] (.dat 1 (x7.map Qac)),rp [(.tmp 2,(.dptr [I p7] 0))] (I p7),rp [fu 134,(.tmp 25,(.dat 1 (x7.map Qac))),(.tmp 26,I p7)] (I x9),rp [(.tmp 20,(Qgx p5)),(.tmp 27,I x9)] (.dptr (Qad x10) 0),rp [(.tmp 28,(.dptr (Qad x10) 0))] (Zfv x10),⟨[(.tmp 16,(.lit (.func (.yield l) #[] #[]))),(.tmp 29,(Zfv x10))],[(0,(.far (J (some (x10::q14)))))],B true,[(0,(.far (J (some q14))))],false⟩] [mv 0 (.lit (.func (.yield l) #[] #[])),rp [(.tmp 1,(.dptr [(.dptr [(.dat 5 (p0.map Qap)),(Qhj p1),(Qgy p2),(Qhk p3),(.dat 1 (p4.map Qac)),(Qgx p5),I p6] 0)] 0))] (.dptr [(.dat 5 (p0.map Qap)),(Qhj p1),(Qgy p2),(Qhk p3),(.dat 1 (p4.map Qac)),(Qgx p5),I p6] 0),mv 17 (.dptr [(.dat 5 (p0.map Qap)),(Qhj p1),(Qgy p2),(Qhk p3),(.dat 1 (p4.map Qac)),(Qgx p5),I p6] 0),rp [(.tmp 18,(.dptr [(.dat 5 (p0.map Qap)),(Qhj p1),(Qgy p2),(Qhk p3),(.dat 1 (p4.map Qac)),(Qgx p5),I p6] 0))] (.dptr [(.dat 5 (p0.map Qap)),(Qhj p1),(Qgy p2),(Qhk p3),(.dat 1 (p4.map Qac)),(Qgx p5),I p6] 5),rp [(.tmp 19,(.dptr [(.dat 5 (p0.map Qap)),(Qhj p1),(Qgy p2),(Qhk p3),(.dat 1 (p4.map Qac)),(Qgx p5),I p6] 5))] (Qgx p5),rp [(.tmp 1,(.dptr [(.dptr [(.dat 5 (p0.map Qap)),(Qhj p1),(Qgy p2),(Qhk p3),(.dat 1 (p4.map Qac)),(Qgx p5),I p6] 0)] 0))] (.dptr [(.dat 5 (p0.map Qap)),(Qhj p1),(Qgy p2),(Qhk p3),(.dat 1 (p4.map Qac)),(Qgx p5),I p6] 0),mv 21 (.dptr [(.dat 5 (p0.map Qap)),(Qhj p1),(Qgy p2),(Qhk p3),(.dat 1 (p4.map Qac)),(Qgx p5),I p6] 0),mv 22 (.dptr [(.dat 5 (p0.map Qap)),(Qhj p1),(Qgy p2),(Qhk p3),(.dat 1 (p4.map Qac)),(Qgx p5),I p6] 0),rp [(.tmp 23,(.dptr [(.dat 5 (p0.map Qap)),(Qhj p1),(Qgy p2),(Qhk p3),(.dat 1 (p4.map Qac)),(Qgx p5),I p6] 0))] (Zfw p0 p1),rp [fu 67,(.tmp 24,(Zfw p0 p1)),(.const (.int .u8 1),(K .u8 (1)))] (.dat 1 (x7.map Qac)),rp [(.tmp 2,(.dptr [I p7] 0))] (I p7),rp [fu 134,(.tmp 25,(.dat 1 (x7.map Qac))),(.tmp 26,I p7)] (I x9),rp [(.tmp 20,(Qgx p5)),(.tmp 27,I x9)] (.dptr (Qad x10) 0),rp [(.tmp 28,(.dptr (Qad x10) 0))] (Zfv x10),⟨[(.tmp 16,(.lit (.func (.yield l) #[] #[]))),(.tmp 29,(Zfv x10))],[(0,(.far (J (some (x10::q14)))))],B false,[(0,(.far (J none)))],false⟩] (by exact⟨by kernel_rfl,by kernel_rfl⟩) (by exact⟨by kernel_rfl,by kernel_rfl⟩) rfl rfl rfl rfl (Qq4 (rd':=(.tmp 16,.lit (.func (.yield l) #[] #[]))::[(.tmp 29,.lit (.agg #[(.int .i64 x10.Mass),(.int .i64 x10.Heat),(.int .i64 x10.Silica),(.int .i64 x10.Gas)]))]) ⟨rfl,lrf,rfl,(Less.lits [(.int .i64 x10.Mass),(.int .i64 x10.Heat),(.int .i64 x10.Silica),(.int .i64 x10.Gas)]),tv⟩ (Qpi (x:=x10) (rest:=q14) rfl rfl hy rfl)) (⟨fun _ _=>amv rfl,fun _ _=>ald_ rfl Qpz (by decide) (nle rfl) rfl,fun _ _=>anc rfl rfl,fun _ _=>afd rfl underlying140 rfl rfl ti45 (by decide) rfl,fun _ _=>ald_ rfl ti45 (by decide) (nle rfl) rfl,fun _ _=>ald_ rfl Qpz (by decide) (nle rfl) rfl,fun _ _=>anc rfl rfl,fun _ _=>afd rfl underlying140 rfl rfl ti42 (by decide) rfl,fun _ _=>ald_ rfl ti42 (by decide) (nle rfl) rfl,fun _ _=>apw Qwm (Qif N (⟨p0,p1⟩:GNet) 1 _ hf6),fun _ _=>ald_ rfl ti3 (by decide) (nle rfl) rfl,fun _ _=>apw Q69 (Qjg N x7 p7 _ hf8),fun _ _=>aiq underlying45 ti63 Qad hi12 hj13,fun _ _=>ald_ rfl ti63 (by decide) (nle rfl) rfl,fun _ h=>absurd rfl h,tv⟩) (⟨fun _ _=>amv rfl,fun _ _=>ald_ rfl Qpz (by decide) (nle rfl) rfl,fun _ _=>anc rfl rfl,fun _ _=>afd rfl underlying140 rfl rfl ti45 (by decide) rfl,fun _ _=>ald_ rfl ti45 (by decide) (nle rfl) rfl,fun _ _=>ald_ rfl Qpz (by decide) (nle rfl) rfl,fun _ _=>anc rfl rfl,fun _ _=>afd rfl underlying140 rfl rfl ti42 (by decide) rfl,fun _ _=>ald_ rfl ti42 (by decide) (nle rfl) rfl,fun _ _=>apw Qwm (Qif N (⟨p0,p1⟩:GNet) 1 _ hf6),fun _ _=>ald_ rfl ti3 (by decide) (nle rfl) rfl,fun _ _=>apw Q69 (Qjg N x7 p7 _ hf8),fun _ _=>aiq underlying45 ti63 Qad hi12 hj13,fun _ _=>ald_ rfl ti63 (by decide) (nle rfl) rfl,fun _ h=>absurd rfl h,tv⟩) ?_ ?_
   ·skip
    refine Qai<|Qaj ?_
    obtain rfl:=osi h
    exact Or.inl rfl
   ·clear h
    exact Qai<|Qaj<|Or.inr (by kernel_rfl)
  ·refine wfn hc5<|Qam<|thn ?_
   refine wxd tbk [(6,rp _ _),(9,rp _ _)] ⟨aiq underlying40 Qkd Qae hi3 hj4,alq 2 Qaw x1.From underlying116,tv⟩<|Qao ?_
   refine wmr (mto (n:=62) (l':=[(0,(.lit (.func (.yield l) #[] #[]))),(1,(.dptr [(.dptr [(.dat 5 (p0.map Qap)),(Qhj p1),(Qgy p2),(Qhk p3),(.dat 1 (p4.map Qac)),(Qgx p5),I p6] 0)] 0)),(39,(Zfu x1)),(40,(I ((x1.From.length:Int)))),(41,I 0)]) (own':=[(.far (J (some r)))]) [(0,(.lit (.func (.yield l) #[] #[]))),(1,(.dptr [(.dptr [(.dat 5 (p0.map Qap)),(Qhj p1),(Qgy p2),(Qhk p3),(.dat 1 (p4.map Qac)),(Qgx p5),I p6] 0)] 0)),(39,(Zfu x1)),(40,(I ((x1.From.length:Int)))),(41,I 0)] [0] [(.far (J (some r)))] hq (pw (pc (.rn (.plain _ (NLt.dptr _ _ (nlc (NLt.dptr _ _ (nlc (nld Qan _) (nlc (nld Qab _) (nlc (nld Qak _) (nlc (nld Qa2 _) (nlc (nld Qah _) (nlc (nld Qal _) (nlc nll nl0)))))))) nl0)))) (pc (rnd Qbf) (pw (pw pn))))) (qc (.far _) qn)) ?_
   refine Qbl (τ:=(Int)×List Qaa) (fun n t=>Qdc N x1 p2 n t.1=some t.2) (fun ⟨y15,q16⟩=>⟨mk 62 [(0,(.lit (.func (.yield l) #[] #[]))),(1,(.dptr [(.dptr [(.dat 5 (p0.map Qap)),(Qhj p1),(Qgy p2),(Qhk p3),(.dat 1 (p4.map Qac)),(Qgx p5),I p6] 0)] 0)),(39,(Zfu x1)),(40,(I ((x1.From.length:Int)))),(41,I y15)],[(.far (J (some q16)))]⟩) (fun t h=>by rw[Qdc] at h;cases h) (fun n19 ih t h=>?_) N ((0),r) h
   obtain⟨y15,q16⟩:=t
   rw[Qdc] at h
   try dsimp only at h
   refine wxz<|wsq ?_
   refine bfe h (fun hc20 h=>?_) fun hc20 h=>?_
   ·refine wft hc20<|Qam<|thn<|wsq<|Qao ?_
    obtain⟨x21,hg22,h⟩:=bno h
    obtain⟨hi23,hj24⟩:=gsm hg22
    refine wx tbk [(0,rp _ _)] ⟨aiq underlying116 Qql Qaw hi23 hj24,tv⟩ ?_
    obtain⟨x25,hg26,h⟩:=bno h
    obtain⟨hi27,hj28⟩:=gsm hg26
    obtain⟨x29,hg30,h⟩:=bno h
    obtain⟨hi31,hj32⟩:=gsm hg30
    obtain⟨q33,hy_,hq_⟩:=Q3o h
    clear h
    subst hq_
    have h:=hy_
    clear hy_
    refine Q2z 14 [mv 0 (.lit (.func (.yield l) #[] #[])),rp [(.tmp 1,(.dptr [(.dptr [(.dat 5 (p0.map Qap)),(Qhj p1),(Qgy p2),(Qhk p3),(.dat 1 (p4.map Qac)),(Qgx p5),I p6] 0)] 0))] (.dptr [(.dat 5 (p0.map Qap)),(Qhj p1),(Qgy p2),(Qhk p3),(.dat 1 (p4.map Qac)),(Qgx p5),I p6] 0),mv 46 (.dptr [(.dat 5 (p0.map Qap)),(Qhj p1),(Qgy p2),(Qhk p3),(.dat 1 (p4.map Qac)),(Qgx p5),I p6] 0),rp [(.tmp 47,(.dptr [(.dat 5 (p0.map Qap)),(Qhj p1),(Qgy p2),(Qhk p3),(.dat 1 (p4.map Qac)),(Qgx p5),I p6] 0))] (.dptr [(.dat 5 (p0.map Qap)),(Qhj p1),(Qgy p2),(Qhk p3),(.dat 1 (p4.map Qac)),(Qgx p5),I p6] 2),mv 48 (.dptr [(.dat 5 (p0.map Qap)),(Qhj p1),(Qgy p2),(Qhk p3),(.dat 1 (p4.map Qac)),(Qgx p5),I p6] 2),rp [(.tmp 49,(.dptr [(.dat 5 (p0.map Qap)),(Qhj p1),(Qgy p2),(Qhk p3),(.dat 1 (p4.map Qac)),(Qgx p5),I p6] 2))] (Qgy p2),rb [(.tmp 5,.ref 1 2 0 0)] [(1,(Qtp x21))] (.ref 1 2 0 0),rb [(.tmp 51,.ref 1 2 0 0)] [(1,(Qtp x21))] (I x21.Element),rp [(.tmp 50,(Qgy p2)),(.tmp 52,I x21.Element)] (.dptr (Qag x25) 0),rp [(.tmp 53,(.dptr (Qag x25) 0))] (.dat 4 (x25.map Qad)),rb [(.tmp 5,.ref 1 2 0 0)] [(1,(Qtp x21))] (.ref 1 2 0 1),rb [(.tmp 55,.ref 1 2 0 1)] [(1,(Qtp x21))] (I x21.Outlet),rp [(.tmp 54,(.dat 4 (x25.map Qad))),(.tmp 56,I x21.Outlet)] (.dptr (Qad x29) 0),rp [(.tmp 57,(.dptr (Qad x29) 0))] (Q5h x29),⟨[(.tmp 45,(.lit (.func (.yield l) #[] #[]))),(.tmp 58,(Q5h x29))],[(0,(.far (J (some (x29::q33)))))],B true,[(0,(.far (J (some q33))))],false⟩,rp [(.tmp 59,B true)] (B false)] [mv 0 (.lit (.func (.yield l) #[] #[])),rp [(.tmp 1,(.dptr [(.dptr [(.dat 5 (p0.map Qap)),(Qhj p1),(Qgy p2),(Qhk p3),(.dat 1 (p4.map Qac)),(Qgx p5),I p6] 0)] 0))] (.dptr [(.dat 5 (p0.map Qap)),(Qhj p1),(Qgy p2),(Qhk p3),(.dat 1 (p4.map Qac)),(Qgx p5),I p6] 0),mv 46 (.dptr [(.dat 5 (p0.map Qap)),(Qhj p1),(Qgy p2),(Qhk p3),(.dat 1 (p4.map Qac)),(Qgx p5),I p6] 0),rp [(.tmp 47,(.dptr [(.dat 5 (p0.map Qap)),(Qhj p1),(Qgy p2),(Qhk p3),(.dat 1 (p4.map Qac)),(Qgx p5),I p6] 0))] (.dptr [(.dat 5 (p0.map Qap)),(Qhj p1),(Qgy p2),(Qhk p3),(.dat 1 (p4.map Qac)),(Qgx p5),I p6] 2),mv 48 (.dptr [(.dat 5 (p0.map Qap)),(Qhj p1),(Qgy p2),(Qhk p3),(.dat 1 (p4.map Qac)),(Qgx p5),I p6] 2),rp [(.tmp 49,(.dptr [(.dat 5 (p0.map Qap)),(Qhj p1),(Qgy p2),(Qhk p3),(.dat 1 (p4.map Qac)),(Qgx p5),I p6] 2))] (Qgy p2),rb [(.tmp 5,.ref 1 2 0 0)] [(1,(Qtp x21))] (.ref 1 2 0 0),rb [(.tmp 51,.ref 1 2 0 0)] [(1,(Qtp x21))] (I x21.Element),rp [(.tmp 50,(Qgy p2)),(.tmp 52,I x21.Element)] (.dptr (Qag x25) 0),rp [(.tmp 53,(.dptr (Qag x25) 0))] (.dat 4 (x25.map Qad)),rb [(.tmp 5,.ref 1 2 0 0)] [(1,(Qtp x21))] (.ref 1 2 0 1),rb [(.tmp 55,.ref 1 2 0 1)] [(1,(Qtp x21))] (I x21.Outlet),rp [(.tmp 54,(.dat 4 (x25.map Qad))),(.tmp 56,I x21.Outlet)] (.dptr (Qad x29) 0),rp [(.tmp 57,(.dptr (Qad x29) 0))] (Q5h x29),⟨[(.tmp 45,(.lit (.func (.yield l) #[] #[]))),(.tmp 58,(Q5h x29))],[(0,(.far (J (some (x29::q33)))))],B false,[(0,(.far (J none)))],false⟩,rp [(.tmp 59,B false)] (B true)] (by exact⟨by kernel_rfl,by kernel_rfl⟩) (by exact⟨by kernel_rfl,by kernel_rfl⟩) rfl rfl rfl rfl (Qq4 (rd':=(.tmp 45,.lit (.func (.yield l) #[] #[]))::[(.tmp 58,.lit (.agg #[(.int .i64 x29.Mass),(.int .i64 x29.Heat),(.int .i64 x29.Silica),(.int .i64 x29.Gas)]))]) ⟨rfl,lrf,rfl,(Less.lits [(.int .i64 x29.Mass),(.int .i64 x29.Heat),(.int .i64 x29.Silica),(.int .i64 x29.Gas)]),tv⟩ (Qpi (x:=x29) (rest:=q33) rfl rfl hy rfl)) (⟨fun _ _=>amv rfl,fun _ _=>ald_ rfl Qpz (by decide) (nle rfl) rfl,fun _ _=>anc rfl rfl,fun _ _=>afd rfl underlying140 rfl rfl ti34 (by decide) rfl,fun _ _=>afd rfl underlying34 rfl rfl ti31 (by decide) rfl,fun _ _=>ald_ rfl ti31 (by decide) (nle rfl) rfl,fun _ _=>afa rfl underlying120 rfl rfl ti3 (by decide) rfl,fun _ _=>ald rfl ti3 (by decide) rfl (nle rfl) rfl,fun _ _=>aiq underlying31 ti45 Qag hi27 hj28,fun _ _=>ald_ rfl ti45 (by decide) (nle rfl) rfl,fun _ _=>afa rfl underlying120 rfl rfl ti3 (by decide) rfl,fun _ _=>ald rfl ti3 (by decide) rfl (nle rfl) rfl,fun _ _=>aiq underlying45 ti63 Qad hi31 hj32,fun _ _=>ald_ rfl ti63 (by decide) (nle rfl) rfl,fun _ h=>absurd rfl h,fun _ _=>Qmk rfl,tv⟩) (⟨fun _ _=>amv rfl,fun _ _=>ald_ rfl Qpz (by decide) (nle rfl) rfl,fun _ _=>anc rfl rfl,fun _ _=>afd rfl underlying140 rfl rfl ti34 (by decide) rfl,fun _ _=>afd rfl underlying34 rfl rfl ti31 (by decide) rfl,fun _ _=>ald_ rfl ti31 (by decide) (nle rfl) rfl,fun _ _=>afa rfl underlying120 rfl rfl ti3 (by decide) rfl,fun _ _=>ald rfl ti3 (by decide) rfl (nle rfl) rfl,fun _ _=>aiq underlying31 ti45 Qag hi27 hj28,fun _ _=>ald_ rfl ti45 (by decide) (nle rfl) rfl,fun _ _=>afa rfl underlying120 rfl rfl ti3 (by decide) rfl,fun _ _=>ald rfl ti3 (by decide) rfl (nle rfl) rfl,fun _ _=>aiq underlying45 ti63 Qad hi31 hj32,fun _ _=>ald_ rfl ti63 (by decide) (nle rfl) rfl,fun _ h=>absurd rfl h,fun _ _=>Qmk rfl,tv⟩) ?_ ?_
    ·skip
     exact wfa<|Qam<|bln<|thn<|wxz1<|thn<|arm (mto (n:=62) [(0,(.lit (.func (.yield l) #[] #[]))),(1,(.dptr [(.dptr [(.dat 5 (p0.map Qap)),(Qhj p1),(Qgy p2),(Qhk p3),(.dat 1 (p4.map Qac)),(Qgx p5),I p6] 0)] 0)),(39,(Zfu x1)),(40,(I ((x1.From.length:Int)))),(41,(I (w64 (y15+1))))] [0] [(.far (J (some q33)))] hq (pw (pc (.rn (.plain _ (NLt.dptr _ _ (nlc (NLt.dptr _ _ (nlc (nld Qan _) (nlc (nld Qab _) (nlc (nld Qak _) (nlc (nld Qa2 _) (nlc (nld Qah _) (nlc (nld Qal _) (nlc nll nl0)))))))) nl0)))) (pc (rnd Qbf) (pw (pw pn))))) (qc (.far _) qn)) (ih ((w64 (y15+1)),q33) h)
    ·clear h
     exact wtr<|Qai<|Qar<|Qaj<|Qaj<|Qar<|Or.inr (by kernel_rfl)
   ·refine wfn hc20<|Qa7<|Qau<|Qau<|Qa6 rfl ?_
    obtain rfl:=osi h
    exact Or.inl rfl
def Qax (N:Nat) (k3:(List Qaa)→Option (List Qaa)):(List Qaa)→(List Qaa)→Option (List Qaa)
  |[],y6=>
    k3 (y6)
  |x9::q10,y6=>
    chk (decide ((y6.length+([x9]).length)*32≤140737488355328))<|
    Qax N k3 q10 (y6++([x9]))
def Qb9 (N:Nat) (p0:List GRow) (p1:List Qaf) (p2:List (List Qaa)) (p3:List Qa1) (p4:List Int) (p5:List Qaa) (p6 p7:Int):Option (List Qaa):=
  Qbc (fun y2=>
    some y2) fun k3:(List Qaa)→Option (List Qaa)=>
  (Qho N p0 p1 p2 p3 p4 p5 p6 p7).bind fun q4=>
  Qax N k3 q4 ([])
abbrev Zls (p0:List GRow) (p1:List Qaf) (p2:List (List Qaa)) (p3:List Qa1) (p4:List Int) (p5:List Qaa) (p6 p7:Int):AV:=.fn (.func 133) [] [(.dptr [(.dptr [(.dat 5 (p0.map Qap)),(.dat 7 (p1.map Qae)),(.dat 1 (p2.map Qag)),(.dat 4 (p3.map Qat)),(.dat 1 (p4.map Qac)),(.dat 4 (p5.map Qad)),(I p6)] 0)] 0),(.dptr [(I p7)] 0)]
def Zka (x9:Qaa):AV:=.agg [(I x9.Mass),(I x9.Heat),(I x9.Silica),(I x9.Gas)]
theorem Qg6 (N:Nat) (p0:List GRow) (p1:List Qaf) (p2:List (List Qaa)) (p3:List Qa1) (p4:List Int) (p5:List Qaa) (p6 p7:Int) (r:List Qaa) (h:Qb9 N p0 p1 p2 p3 p4 p5 p6 p7=some r):Spec prog 132 [nilS,(Zls p0 p1 p2 p3 p4 p5 p6 p7)] [] (.acc 0 63 4 (r.map Qad)) [.tok]:=by
  refine sF func132 1 fun _ _ _ hq hd0=>?_
  unfold Qb9 at h
  refine wxz ?_
  obtain⟨k3,hk_k3,h⟩:=jko h
  refine wjn (τ:=(List Qaa)) (fun t=>k3 t=some r) (fun y2=>⟨mk 13 [(2,.ref 0 1 0 0)],[(.own 1 [[(.acc 1 63 4 (y2.map Qad))]]),.tok]⟩) (fun y2 h=>?_) ?_
  ·subst hk_k3
   refine wxz<|wmr (mto (n:=13) (l':=[(4,(.acc 0 63 4 (y2.map Qad)))]) (own':=[.tok]) [(4,(.acc 1 63 4 (y2.map Qad)))] [1] [.tok] hq (pc (.rn (Qa3 rfl (Qay Qal _))) pn) (qc .tok qn))<|Qai ?_
   obtain rfl:=osi h
   exact⟨_,Mor.rfl,fio [(.acc 0 63 4 (y2.map Qad))] ⟨rot,tv⟩⟩
  ·skip
   refine wxz<|Qao ?_
   obtain⟨q4,hL5,h⟩:=bno h
   refine wmr (mto (n:=13) (l':=[(2,.ref 0 1 0 0),(6,(Zls p0 p1 p2 p3 p4 p5 p6 p7))]) (own':=[(.own 1 [[nilS]])]) [(2,.ref 0 1 0 0),(6,(Zls p0 p1 p2 p3 p4 p5 p6 p7))] [0] [(.own 1 [[nilS]])] hq (prr (pc (.rn (Qbj rn0 (rnc (.plain _ (NLt.dptr _ _ (nlc (NLt.dptr _ _ (nlc (nld Qan _) (nlc (nld Qab _) (nlc (nld Qak _) (nlc (nld Qa2 _) (nlc (nld Qah _) (nlc (nld Qal _) (nlc nll nl0)))))))) nl0))) (rnc (.plain _ (NLt.dptr _ _ (nlc nll nl0))) rn0)))) pn)) (qb (lc rwl ln) qn)) ?_
   refine wmr (Qn4 (n:=1) (ty:=63) (m:=4) (q:=0) (mq:=1) (c:=[nilS]) 0 (by kernel_rfl) (by kernel_rfl) (by kernel_rfl) (by decide)) ?_
   refine Qyd (τ:=((List Qaa))) (kb:=1) (caps:=[(.dptr [(.dptr [(.dat 5 (p0.map Qap)),(.dat 7 (p1.map Qae)),(.dat 1 (p2.map Qag)),(.dat 4 (p3.map Qat)),(.dat 1 (p4.map Qac)),(.dat 4 (p5.map Qad)),I p6] 0)] 0),(.dptr [I p7] 0)]) (σr:=[]) (encs:=fun x=>[(.agg #[(.int .i64 x.Mass),(.int .i64 x.Heat),(.int .i64 x.Silica),(.int .i64 x.Gas)])]) (fun x=>[(.agg [I x.Mass,I x.Heat,I x.Silica,I x.Gas])]) [] (fun n hn=>hq n (Nat.le_trans (nle rfl) hn)) hd0 (Qp3 N p0 p1 p2 p3 p4 p5 p6 p7 _ hL5) Zid (by kernel_rfl) (by kernel_rfl) (Qbr (rnc (.plain _ (NLt.dptr _ _ (nlc (NLt.dptr _ _ (nlc (nld Qan _) (nlc (nld Qab _) (nlc (nld Qak _) (nlc (nld Qa2 _) (nlc (nld Qah _) (nlc (nld Qal _) (nlc nll nl0)))))))) nl0))) (rnc (.plain _ (NLt.dptr _ _ (nlc nll nl0))) rn0))) Qas (by kernel_rfl) (fun _=>rfl) (fun x=>⟨(Less.unlits [(.int .i64 x.Mass),(.int .i64 x.Heat),(.int .i64 x.Silica),(.int .i64 x.Gas)]),tv⟩) (Zk8 (Qup (NLt.ref _ _ _ _ (by decide)) (Qup (NLt.of0 (NLt.fn _ _ _ nl0 (nlc (NLt.dptr _ _ (nlc (NLt.dptr _ _ (nlc (nld Qan _) (nlc (nld Qab _) (nlc (nld Qak _) (nlc (nld Qa2 _) (nlc (nld Qah _) (nlc (nld Qal _) (nlc nll nl0)))))))) nl0)) (nlc (NLt.dptr _ _ (nlc nll nl0)) nl0)))) Zc9))) (fun y6=>[(.own 1 [[(.acc 1 63 4 (y6.map Qad))]]),.tok]) (fun _=>rfl) (fun _=>rfl) (fun l t=>Qax N k3 l t=some r) ([]) h (by kernel_rfl) ?_ ?_
   ·intro l11 o12 X15 φ16 w17 hφ14 x9 q10 y6 h
    rw[Qax] at h
    refine wxz1 ?_
    refine⟨by kernel_rfl,fun o13=>?_⟩
    refine Qao ?_
    obtain⟨ha18,h⟩:=cko h
    refine wx1 tbk [(2,rp [(.tmp 9,(Zka x9))] (.dat 4 (([x9]:List Qaa).map Qad))),(3,⟨[(.tmp 8,(.acc 1 63 4 (y6.map Qad))),(.tmp 10,(.dat 4 (([x9]:List Qaa).map Qad)))],[(1,.tok),(4,.unused)],(.acc 4 63 4 ((y6++([x9]):List Qaa).map Qad)),[(1,.dead),(4,.tok)],false⟩)] ⟨Qbm (vs:=[(Zka x9)]) rfl underlying45 ti63 tz63 rfl (by decide) rfl (by decide) (by rfl) (by rfl) (by rfl) rfl,Qc7 rfl underlying45 te63 (Base.acc _ _) rfl rfl (by rfl) (Qf7 Qad ha18) (Qf6 Qad ha18 (by decide)) (Qf5 Qad) rfl rfl,tv⟩<|bln ?_
    exact⟨(y6++([x9])),h,Zk4 (own':=[(.own 1 [[(.acc 1 63 4 (((y6++([x9])):List Qaa).map Qad))]]),.tok,(.far (farL l11 o13))]) [0,4,2] [(.own 1 [[(.acc 4 63 4 ((y6++([x9]):List Qaa).map Qad))]]),.tok,(.far (farL l11 o13))] (by kernel_rfl) (by kernel_rfl) ⟨(spb (lc (.rn (Qa3 rfl (Qay Qal _))) ln)),.tok,.far _,tv⟩⟩
   ·intro y6 h
    rw[Qax] at h
    exact bln<|thn<|⟨(y6),h,(mto (n:=13) [(2,.ref 0 1 0 0)] [0,1] [(.own 1 [[(.acc 1 63 4 (y6.map Qad))]]),.tok] hq (prr pn) (qb (lc (.rn (Qa3 rfl (Qay Qal _))) ln) (qc .tok qn)))⟩
def Qb0 (N:Nat) (p0:List GRow) (p1:List Qaf) (p2:List (List Qaa)) (p3:List Qa1) (p4:List Int) (p5:List Qaa) (p6 p7:Int):Option (List Qaa):=
  (Qb9 N p0 p1 p2 p3 p4 p5 p6 p7).bind fun x3=>
  some x3
abbrev Zpq (p0:List GRow) (p1:List Qaf) (p2:List (List Qaa)) (p3:List Qa1) (p4:List Int) (p5:List Qaa) (p6 p7:Int):AV:=.fn (.func 133) [] [(.dptr [(.dptr [(.dat 5 (p0.map Qap)),(.dat 7 (p1.map Qae)),(.dat 1 (p2.map Qag)),(.dat 4 (p3.map Qat)),(.dat 1 (p4.map Qac)),(.dat 4 (p5.map Qad)),(I p6)] 0)] 0),(.dptr [(I p7)] 0)]
def Zfx (x3:List Qaa):AV:=.acc 0 63 4 (x3.map Qad)
theorem Qjw (N:Nat) (p0:List GRow) (p1:List Qaf) (p2:List (List Qaa)) (p3:List Qa1) (p4:List Int) (p5:List Qaa) (p6 p7:Int) (r:List Qaa) (h:Qb0 N p0 p1 p2 p3 p4 p5 p6 p7=some r):Spec prog 115 [(Zpq p0 p1 p2 p3 p4 p5 p6 p7)] [] (.acc 0 63 4 (r.map Qad)) [.tok]:=by
  refine sF func115 1 fun _ _ _ hq hd0=>?_
  unfold Qb0 at h
  refine wxz ?_
  obtain⟨x3,hf2,h⟩:=bno h
  refine wx tbk [(1,⟨_,_,_,_,false⟩)] ⟨acq [nilS,(Zpq p0 p1 p2 p3 p4 p5 p6 p7)] [] [.tok] (Zfx x3) [0] Zie (Qg6 N p0 p1 p2 p3 p4 p5 p6 p7 _ hf2) (Qbr (rnc (.plain _ nll) (rnc (.plain _ (NLt.fn _ _ _ nl0 (nlc (NLt.dptr _ _ (nlc (NLt.dptr _ _ (nlc (nld Qan _) (nlc (nld Qab _) (nlc (nld Qak _) (nlc (nld Qa2 _) (nlc (nld Qah _) (nlc (nld Qal _) (nlc nll nl0)))))))) nl0)) (nlc (NLt.dptr _ _ (nlc nll nl0)) nl0)))) rn0))) Qas (slc .tok Qas) (Zcp rfl (Qay Qal _)),tv⟩ ?_
  refine wmr (mto (n:=5) (l':=[(2,(Zfx x3))]) (own':=[.tok]) [(2,(Zfx x3))] [0] [.tok] hq (pc (.rn (Qa3 rfl (Qay Qal _))) pn) (qc .tok qn))<|Qai ?_
  obtain rfl:=osi h
  exact⟨_,Mor.rfl,fio [(Zfx x3)] ⟨rot,tv⟩⟩
def Qgg (_N:Nat) (_p0:Int) (p1:Qaa) (_p2:List GRow) (_p3:List Qaf) (_p4 _p5 _p6:Nat) (_p7:List Qaa) (_p8:Int) (_p9:List (List Qaa)) (_p10:List Qa1) (_p11:List Int):Option (List Qaa):=
  some ([p1])
abbrev Zlr (p1:Qaa):AV:=.agg [(I p1.Mass),(I p1.Heat),(I p1.Silica),(I p1.Gas)]
abbrev Zfs (p2:List GRow) (p3:List Qaf) (p4 p5 p6:Nat) (p7:List Qaa) (p8:Int):Slot:=.own 7 [[(.dat 5 (p2.map Qap)),(.dat 7 (p3.map Qae)),(.own 1 1 (0) p4),(.own 2 4 (0) p5),(.own 3 1 (0) p6),(.dat 4 (p7.map Qad)),(I p8)]]
def Zft (p1:Qaa):AV:=.dat 4 (([p1]:List Qaa).map Qad)
theorem Qiv (N:Nat) (p0:Int) (p1:Qaa) (p2:List GRow) (p3:List Qaf) (p4 p5 p6:Nat) (p7:List Qaa) (p8:Int) (p9:List (List Qaa)) (p10:List Qa1) (p11:List Int) (r:List Qaa) (h:Qgg N p0 p1 p2 p3 p4 p5 p6 p7 p8 p9 p10 p11=some r):Spec prog 117 [(.ref 0 7 (0) 0),(I p0),(Zlr p1)] [(Zfs p2 p3 p4 p5 p6 p7 p8),(.own 1 (p9.map Qag)),(.own 4 (p10.map Qat)),(.own 1 (p11.map Qac))] (.dat 4 (r.map Qad)) [(Zfs p2 p3 p4 p5 p6 p7 p8),(.own 1 (p9.map Qag)),(.own 4 (p10.map Qat)),(.own 1 (p11.map Qac))]:=by
  refine sF func117 4 fun _ _ _ hq hd0=>?_
  unfold Qgg at h
  refine wxz<|wx tbk [(1,rp [(.tmp 7,(Zlr p1))] (Zft p1))] ⟨Qbm (vs:=[(Zlr p1)]) rfl underlying45 ti63 tz63 rfl (by decide) rfl (by decide) (by rfl) (by rfl) (by rfl) rfl,tv⟩ ?_
  refine wmr (mto (n:=9) (l':=[(6,(Zft p1))]) (own':=[(Zfs p2 p3 p4 p5 p6 p7 p8),(.own 1 (p9.map Qag)),(.own 4 (p10.map Qat)),(.own 1 (p11.map Qac))]) [(6,(Zft p1))] [0,1,2,3] [(Zfs p2 p3 p4 p5 p6 p7 p8),(.own 1 (p9.map Qag)),(.own 4 (p10.map Qat)),(.own 1 (p11.map Qac))] hq (pc (rnd Qal) pn) (qb (lc (rnd Qan) (lc (rnd Qab) (lc (.rn (Qav rfl)) (lc (.rn (Qav rfl)) (lc (.rn (Qav rfl)) (lc (rnd Qal) (lc rwl ln))))))) (qc (spr Qak) (qc (spr Qa2) (qc (spr Qah) qn)))))<|Qai ?_
  obtain rfl:=osi h
  exact⟨_,Mor.rfl,fio [(Zft p1)] ⟨rot,tv⟩⟩
def Qir (_N:Nat) (p0:Int) (p1:Qaa) (_p2:List GRow) (p3:List Qaf) (_p4 p5 _p6:Nat) (_p7:List Qaa) (_p8:Int) (_p9:List (List Qaa)) (p10:List Qa1) (_p11:List Int):Option ((List Qaa)×(List Qa1)):=
  (getI p3 p0).bind fun x3=>
  (some (if p1.Heat<x3.Amount then p1.Heat else x3.Amount)).bind fun x7=>
  chk (decide (0≤p0)&&decide (p0.toNat<p5))<|
  (p10[p0.toNat]?).bind fun x10=>
  some ([(⟨p1.Mass,w64 (p1.Heat-x7),p1.Silica,p1.Gas⟩:Qaa)],p10.set p0.toNat (⟨x7,x10.Silica,x10.Gas,x10.Scale⟩:Qa1))
abbrev Q7w (p2:List GRow) (p3:List Qaf) (p4 p5 p6:Nat) (p7:List Qaa) (p8:Int):Slot:=.own 7 [[(.dat 5 (p2.map Qap)),(.dat 7 (p3.map Qae)),(.own 1 1 (0) p4),(.own 2 4 (0) p5),(.own 3 1 (0) p6),(.dat 4 (p7.map Qad)),(I p8)]]
def Zj9 (p1:Qaa) (x7:Int):AV:=.agg [(I p1.Mass),(I (w64 (p1.Heat-x7))),(I p1.Silica),(I p1.Gas)]
def Q5g (p1:Qaa) (x7:Int):AV:=.dat 4 (([(⟨p1.Mass,w64 (p1.Heat-x7),p1.Silica,p1.Gas⟩:Qaa)]:List Qaa).map Qad)
theorem Qp5 (N:Nat) (p0:Int) (p1:Qaa) (p2:List GRow) (p3:List Qaf) (p4 p5 p6:Nat) (p7:List Qaa) (p8:Int) (p9:List (List Qaa)) (p10:List Qa1) (p11:List Int) (r:((List Qaa)×(List Qa1))) (h:Qir N p0 p1 p2 p3 p4 p5 p6 p7 p8 p9 p10 p11=some r):Spec prog 118 [(.ref 0 7 (0) 0),(I p0),(.agg [(I p1.Mass),(I p1.Heat),(I p1.Silica),(I p1.Gas)])] [(Q7w p2 p3 p4 p5 p6 p7 p8),(.own 1 (p9.map Qag)),(.own 4 (p10.map Qat)),(.own 1 (p11.map Qac))] (.dat 4 (r.1.map Qad)) [(Q7w p2 p3 p4 p5 p6 p7 p8),(.own 1 (p9.map Qag)),(.own 4 (r.2.map Qat)),(.own 1 (p11.map Qac))]:=by
  refine sF func118 4 fun _ _ _ hq hd0=>?_
  unfold Qir at h
  refine wxz ?_
  obtain⟨x3,hg4,h⟩:=bno h
  obtain⟨hi5,hj6⟩:=gsm hg4
  obtain⟨x7,hl8,h⟩:=bno h
  refine wxd tbk [(1,rb [(.tmp 8,.ref 0 7 0 0)] [(0,(Q7w p2 p3 p4 p5 p6 p7 p8))] (.ref 0 7 0 0)),(6,rp _ _),(11,rp [(.tmp 16,I x3.Amount),(.tmp 18,I p1.Heat)] (I ((if p1.Heat<x3.Amount then p1.Heat else x3.Amount)))),(12,rp [(.tmp 19,(I ((if p1.Heat<x3.Amount then p1.Heat else x3.Amount))))] (I x7))] ⟨Qbk rfl,aiq underlying40 Qkd Qae hi5 hj6,Qpj rfl,Qhg hl8 (aas rfl),tv⟩ ?_
  obtain⟨hi9,h⟩:=cko h
  obtain⟨hi9a,hi9b⟩:=Qcv hi9
  obtain⟨x10,hg11,h⟩:=bno h
  refine wx tbk [(1,rb [(.tmp 20,.ref 0 7 0 0)] [(0,(Q7w p2 p3 p4 p5 p6 p7 p8))] (.ref 0 7 0 0)),(7,rb [(.tmp 24,(.own 2 4 (0) p5)),(.tmp 25,I p0)] [(2,(.own 4 (p10.map Qat)))] (.ref 2 4 p0.toNat 0)),(9,⟨[(.tmp 28,(.ref 2 4 p0.toNat 0)),(.tmp 26,I x7)],[(2,(.own 4 (p10.map Qat)))],.any,[(2,(.own 4 ((p10.set p0.toNat (⟨x7,x10.Silica,x10.Gas,x10.Scale⟩:Qa1):List Qa1).map Qat)))],false⟩)] ⟨Qbk rfl,aio rfl underlying32 ti82 (odt hi9a) (odt hi9b) (Nat.zero_add _),ast rfl ti3 (by rfl) (mgt Qat hg11) (nle rfl) (Qff Qat rfl),tv⟩<|wxz ?_
  refine wx tbk [(1,rp [(.tmp 34,(Zj9 p1 x7))] (Q5g p1 x7))] ⟨Qbm (vs:=[(Zj9 p1 x7)]) rfl underlying45 ti63 tz63 rfl (by decide) rfl (by decide) (by rfl) (by rfl) (by rfl) rfl,tv⟩ ?_
  refine wmr (mto (n:=36) (l':=[(6,(Q5g p1 x7))]) (own':=[(Q7w p2 p3 p4 p5 p6 p7 p8),(.own 1 (p9.map Qag)),(.own 4 (((p10.set p0.toNat (⟨x7,x10.Silica,x10.Gas,x10.Scale⟩:Qa1)):List Qa1).map Qat)),(.own 1 (p11.map Qac))]) [(6,(Q5g p1 x7))] [0,1,2,3] [(Q7w p2 p3 p4 p5 p6 p7 p8),(.own 1 (p9.map Qag)),(.own 4 ((p10.set p0.toNat (⟨x7,x10.Silica,x10.Gas,x10.Scale⟩:Qa1):List Qa1).map Qat)),(.own 1 (p11.map Qac))] hq (pc (rnd Qal) pn) (qb (lc (rnd Qan) (lc (rnd Qab) (lc (.rn (Qav rfl)) (lc (.rn (Qav rfl)) (lc (.rn (Qav rfl)) (lc (rnd Qal) (lc rwl ln))))))) (qc (spr Qak) (qc (spr Qa2) (qc (spr Qah) qn)))))<|Qai ?_
  obtain rfl:=osi h
  exact⟨_,Mor.rfl,fio [(Q5g p1 x7)] ⟨rot,tv⟩⟩
def Qi6 (N:Nat) (p0:List GRow) (p1:Int):Option Bool:=
  (Qc8 N p1 0 (w64 ((p0.length:Int)-1))).bind fun x2=>
  some x2
theorem Qqn (N:Nat) (p0:List GRow) (p1:Int) (r:Bool) (h:Qi6 N p0 p1=some r):Spec prog 143 [(.dat 5 (p0.map Qap)),(I p1)] [] (B r) []:=by
  refine sA func143 0 fun _ _ _ hq hd0=>?_
  unfold Qi6 at h
  refine wxz ?_
  obtain⟨x2,hf1,h⟩:=bno h
  exact wx tbk [(2,rp _ _),(4,rp _ _)] ⟨alq 5 Qap p0 underlying39,apw Qj9 (Qde N p1 0 (w64 ((p0.length:Int)-1)) _ hf1),tv⟩<|Qai<|frb h
def Qjq (_N:Nat) (p0:List GRow) (p1:Int):Option Qm2:=
  (getI p0 p1).bind fun x1=>
  some (⟨x1⟩:Qm2)
def Zlp (x1:GRow):AV:=.agg [(I x1.T),(I x1.P),(I x1.Liquid),(I x1.Vapour),(I x1.Silica)]
theorem Qrs (N:Nat) (p0:List GRow) (p1:Int) (r:Qm2) (h:Qjq N p0 p1=some r):Spec prog 144 [(.dat 5 (p0.map Qap)),(I p1)] [] (.agg (Qsg r)) []:=by
  refine sA func144 0 fun _ _ _ hq hd0=>?_
  unfold Qjq at h
  refine wxz ?_
  obtain⟨x1,hg2,h⟩:=bno h
  obtain⟨hi3,hj4⟩:=gsm hg2
  refine wx tbk [(2,rp _ _),(4,mv 8 (Zlp x1))] ⟨aiq underlying39 Que Qap hi3 hj4,Qaz (vs:=[(Zlp x1)]) rfl Zs2 Zqz rfl (by rfl) rfl,tv⟩<|Qai ?_
  obtain rfl:=osi h
  exact fie [(Zlp x1)] ⟨Qbv (n:=0) (m:=5) (j:=0) (i:=0) (xs:=[[I x1.T,I x1.P,I x1.Liquid,I x1.Vapour,I x1.Silica]]) (by kernel_rfl) (by kernel_rfl) Zq8 (by decide) rfl (nle rfl) rfl,tv⟩
def Qg1 (_N:Nat) (p0:Qm2) (p1:Qaa):Option Int:=
  (some (w64 (p1.Heat-(w64 (p1.Mass*p0.Row.Liquid))))).bind fun x1=>
  bif (decide (x1≤0)) then
   some 0
  else
   bif (decide (p1.Heat≥(w64 (p1.Mass*p0.Row.Vapour)))) then
    some p1.Mass
   else
    chk ((w64 (p0.Row.Vapour-p0.Row.Liquid)) != 0)<|
    (some (w64 (x1.tdiv (w64 (p0.Row.Vapour-p0.Row.Liquid))))).bind fun x6=>
    some x6
theorem Qo1 (N:Nat) (p0:Qm2) (p1:Qaa) (r:Int) (h:Qg1 N p0 p1=some r):Spec prog 149 [(.agg (Qsg p0)),(.agg (Qad p1))] [] (I r) []:=by
  refine sA func149 0 fun _ _ _ hq hd0=>?_
  unfold Qg1 at h
  refine wxz ?_
  obtain⟨x1,hl2,h⟩:=bno h
  refine wx tbk [(9,rp [(.tmp 14,(I (w64 (p1.Heat-(w64 (p1.Mass*p0.Row.Liquid))))))] (I x1))] ⟨Qhg hl2 (aas rfl),tv⟩<|wsq<|Qao<|wxz ?_
  refine bfe h (fun hc3 h=>?_) fun hc3 h=>?_
  ·refine wft hc3<|wxz<|Qai<|Qar<|Qaj ?_
   obtain rfl:=osi h
   exact fend ⟨[I 0],⟨rot,tv⟩,rfl⟩ nll
  ·refine wfn hc3<|wxz ?_
   refine bfe h (fun hc4 h=>?_) fun hc4 h=>?_
   ·refine wft hc4<|wxz<|Qai<|Qar<|Qaj ?_
    obtain rfl:=osi h
    exact fend ⟨[I p1.Mass],⟨rot,tv⟩,rfl⟩ nll
   ·refine wfn hc4<|Qam<|bln<|thn ?_
    obtain⟨hz5,h⟩:=cko h
    obtain⟨x6,hl7,h⟩:=bno h
    refine wx tbk [(8,rp [(.tmp 30,I x1),(.tmp 37,(I (w64 (p0.Row.Vapour-p0.Row.Liquid))))] (I (w64 (x1.tdiv (w64 (p0.Row.Vapour-p0.Row.Liquid)))))),(9,rp [(.tmp 38,(I (w64 (x1.tdiv (w64 (p0.Row.Vapour-p0.Row.Liquid))))))] (I x6))] ⟨Qkc rfl (Qko hz5),Qhg hl7 (aas rfl),tv⟩<|Qai ?_
    obtain rfl:=osi h
    exact fend ⟨[I x6],⟨rot,tv⟩,rfl⟩ nll
def Qhl (N:Nat) (p0:Qm2) (p1:Qaa):Option Qe3:=
  (Qg1 N (⟨(⟨p0.Row.T,p0.Row.P,p0.Row.Liquid,p0.Row.Vapour,p0.Row.Silica⟩:GRow)⟩:Qm2) p1).bind fun x2=>
  Qbc (fun ⟨y3,y4,y5,y6,y7,_,y9⟩=>
    (some (if (w64 (y6*p0.Row.Silica))<p1.Silica then w64 (y6*p0.Row.Silica) else p1.Silica)).bind fun x11=>
    bif (decide (y6>0)) then
     (some (if (w64 (y7-(w64 (y6*p0.Row.Liquid))))>0 then w64 (y7-(w64 (y6*p0.Row.Liquid))) else 0)).bind fun x14=>
     some (⟨(⟨y3,y4,0,y5⟩:Qaa),(⟨y6,y7,x11,y9⟩:Qaa),x14,w64 (p1.Silica-x11)⟩:Qe3)
    else
     some (⟨(⟨y3,y4,0,y5⟩:Qaa),(⟨y6,y7,x11,y9⟩:Qaa),0,w64 (p1.Silica-x11)⟩:Qe3)) fun k10:Int×Int×Int×Int×Int×Int×Int→Option Qe3=>
  bif (x2==0) then
   k10 (0,0,0,p1.Mass,p1.Heat,p1.Silica,p1.Gas)
  else
   bif (x2==p1.Mass) then
    k10 (x2,p1.Heat,p1.Gas,0,0,0,0)
   else
    k10 (x2,w64 (x2*p0.Row.Vapour),p1.Gas,w64 (p1.Mass-x2),w64 (p1.Heat-(w64 (x2*p0.Row.Vapour))),0,0)
def Zfr (p0:Qm2):Slot:=.own 5 [[(I p0.Row.T),(I p0.Row.P),(I p0.Row.Liquid),(I p0.Row.Vapour),(I p0.Row.Silica)]]
def Zfq (p1:Qaa):Slot:=.own 4 [[(I p1.Mass),(I p1.Heat),(I p1.Silica),(I p1.Gas)]]
theorem Qrr (N:Nat) (p0:Qm2) (p1:Qaa) (r:Qe3) (h:Qhl N p0 p1=some r):Spec prog 145 [(.agg (Qsg p0)),(.agg (Qad p1))] [] (.agg (Qsf r)) []:=by
  refine sA func145 0 fun _ _ _ hq hd0=>?_
  unfold Qhl at h
  refine wxz ?_
  obtain⟨x2,hf1,h⟩:=bno h
  refine wx tbk [(2,rp _ _)] ⟨apw Zh1 (Qo1 N (⟨(⟨p0.Row.T,p0.Row.P,p0.Row.Liquid,p0.Row.Vapour,p0.Row.Silica⟩:GRow)⟩:Qm2) p1 _ hf1),tv⟩ ?_
  obtain⟨k10,hk_k10,h⟩:=jko h
  refine wjn (τ:=Int×Int×Int×Int×Int×Int×Int) (fun t=>k10 t=some r) (fun ⟨y3,y4,y5,y6,y7,y8,y9⟩=>⟨mk 87 [(2,.ref 0 5 0 0),(3,.ref 1 4 0 0),(4,.ref 2 10 0 0)],[(Zfr p0),(Zfq p1),(.own 10 [[I y3,I y4,I 0,I y5,I y6,I y7,I y8,I y9,I 0,I 0]])]⟩) (fun t h=>?_) ?_
  ·subst hk_k10
   obtain⟨y3,y4,y5,y6,y7,y8,y9⟩:=t
   obtain⟨x11,hl12,h⟩:=bno h
   refine wx tbk [(9,rp [(.tmp 52,I p1.Silica),(.tmp 59,(I (w64 (y6*p0.Row.Silica))))] (I x11))] ⟨Qhg hl12 (Qpj rfl),tv⟩<|wxe<|wsq<|wxz ?_
   refine bfe h (fun hc13 h=>?_) fun hc13 h=>?_
   ·refine wft hc13 ?_
    obtain⟨x14,hl15,h⟩:=bno h
    refine wx1 tbk [(11,rp [ci 0,(.tmp 83,(I (w64 (y7-(w64 (y6*p0.Row.Liquid))))))] (I x14))] ⟨Qhg hl15 (Qml rfl),tv⟩<|thn<|wxz<|Qai ?_
    obtain rfl:=osi h
    exact fie [(.agg [I y3,I y4,I 0,I y5,I y6,I y7,I x11,I y9,I x14,(I (w64 (p1.Silica-x11)))])] ⟨Qbv (n:=2) (m:=10) (j:=0) (i:=0) (xs:=[[I y3,I y4,I 0,I y5,I y6,I y7,I x11,I y9,I x14,(I (w64 (p1.Silica-x11)))]]) (by kernel_rfl) (by kernel_rfl) Q3v (by decide) rfl (nle rfl) rfl,tv⟩
   ·refine wfn hc13<|Qam<|thn<|wxz<|Qai ?_
    obtain rfl:=osi h
    exact fie [(.agg [I y3,I y4,I 0,I y5,I y6,I y7,I x11,I y9,I 0,(I (w64 (p1.Silica-x11)))])] ⟨Qbv (n:=2) (m:=10) (j:=0) (i:=0) (xs:=[[I y3,I y4,I 0,I y5,I y6,I y7,I x11,I y9,I 0,(I (w64 (p1.Silica-x11)))]]) (by kernel_rfl) (by kernel_rfl) Q3v (by decide) rfl (nle rfl) rfl,tv⟩
  ·skip
   refine Qao<|wxz ?_
   refine bfe h (fun hc16 h=>?_) fun hc16 h=>?_
   ·exact wft hc16<|wxz1<|bln<|thn<|⟨(0,0,0,p1.Mass,p1.Heat,p1.Silica,p1.Gas),h,(mto (n:=87) [(2,.ref 0 5 0 0),(3,.ref 1 4 0 0),(4,.ref 2 10 0 0)] [0,1,2] [(Zfr p0),(Zfq p1),(.own 10 [[I 0,I 0,I 0,I 0,I p1.Mass,I p1.Heat,I p1.Silica,I p1.Gas,I 0,I 0]])] hq (prr (prr (prr pn))) (qb (lcc (lcc (lc rwl ln))) (qb (lcc (lcc ln)) (qb (lcc (lcc (lcc (lcc (lcc ln))))) qn))))⟩
   ·refine wfn hc16<|wxz ?_
    refine bfe h (fun hc17 h=>?_) fun hc17 h=>?_
    ·exact wft hc17<|wx1 tbk [(5,rp _ _)] ⟨Qaz (vs:=[I x2,I p1.Heat,I p1.Gas]) rfl ts63 tz63 rfl (by rfl) rfl,tv⟩<|bln<|thn<|⟨(x2,p1.Heat,p1.Gas,0,0,0,0),h,(mto (n:=87) [(2,.ref 0 5 0 0),(3,.ref 1 4 0 0),(4,.ref 2 10 0 0)] [0,1,2] [(Zfr p0),(Zfq p1),(.own 10 [[I x2,I p1.Heat,I 0,I p1.Gas,I 0,I 0,I 0,I 0,I 0,I 0]])] hq (prr (prr (prr pn))) (qb (lcc (lcc (lc rwl ln))) (qb (lcc (lcc ln)) (qb (lcc (lcc (lcc (lcc (lcc ln))))) qn))))⟩
    ·refine wfn hc17<|wx tbk [(8,rp _ _)] ⟨Qaz (vs:=[I x2,(I (w64 (x2*p0.Row.Vapour))),I p1.Gas]) rfl ts63 tz63 rfl (by rfl) rfl,tv⟩ ?_
     exact wx1 tbk [(12,rp _ _)] ⟨Qaz (vs:=[(I (w64 (p1.Mass-x2))),(I (w64 (p1.Heat-(w64 (x2*p0.Row.Vapour)))))]) rfl ts63 tz63 rfl (by rfl) rfl,tv⟩<|bln<|thn<|⟨(x2,w64 (x2*p0.Row.Vapour),p1.Gas,w64 (p1.Mass-x2),w64 (p1.Heat-(w64 (x2*p0.Row.Vapour))),0,0),h,(mto (n:=87) [(2,.ref 0 5 0 0),(3,.ref 1 4 0 0),(4,.ref 2 10 0 0)] [0,1,2] [(Zfr p0),(Zfq p1),(.own 10 [[I x2,(I (w64 (x2*p0.Row.Vapour))),I 0,I p1.Gas,(I (w64 (p1.Mass-x2))),(I (w64 (p1.Heat-(w64 (x2*p0.Row.Vapour))))),I 0,I 0,I 0,I 0]])] hq (prr (prr (prr pn))) (qb (lcc (lcc (lc rwl ln))) (qb (lcc (lcc ln)) (qb (lcc (lcc (lcc (lcc (lcc ln))))) qn))))⟩
def Qky (N:Nat) (p0:List GRow) (p1:Int) (p2:Qaa):Option (Qe3×Int):=
  (Qfs N p0).bind fun x2=>
  bif (!x2) then
   some ((⟨(⟨0,0,0,0⟩:Qaa),(⟨0,0,0,0⟩:Qaa),0,0⟩:Qe3),1)
  else
   (Qi6 N p0 p1).bind fun x5=>
   bif (!x5) then
    some ((⟨(⟨0,0,0,0⟩:Qaa),(⟨0,0,0,0⟩:Qaa),0,0⟩:Qe3),2)
   else
    (Qd9 N p2).bind fun x8=>
    bif (!x8) then
     some ((⟨(⟨0,0,0,0⟩:Qaa),(⟨0,0,0,0⟩:Qaa),0,0⟩:Qe3),1)
    else
     (Qjq N p0 p1).bind fun x11=>
     (Qhl N (⟨(⟨x11.Row.T,x11.Row.P,x11.Row.Liquid,x11.Row.Vapour,x11.Row.Silica⟩:GRow)⟩:Qm2) p2).bind fun x13=>
     some ((⟨(⟨x13.Steam.Mass,x13.Steam.Heat,x13.Steam.Silica,x13.Steam.Gas⟩:Qaa),(⟨x13.Water.Mass,x13.Water.Heat,x13.Water.Silica,x13.Water.Gas⟩:Qaa),x13.Rest,x13.Scale⟩:Qe3),0)
def Zlq:AV:=.agg [(I (0)),(I (0)),(I (0)),(I (0)),(I (0)),(I (0)),(I (0)),(I (0)),(I (0)),(I (0))]
def Zsh (x13:Qe3):AV:=.agg [(I x13.Steam.Mass),(I x13.Steam.Heat),(I x13.Steam.Silica),(I x13.Steam.Gas),(I x13.Water.Mass),(I x13.Water.Heat),(I x13.Water.Silica),(I x13.Water.Gas),(I x13.Rest),(I x13.Scale)]
theorem Qvk (N:Nat) (p0:List GRow) (p1:Int) (p2:Qaa) (r:(Qe3×Int)) (h:Qky N p0 p1 p2=some r):Spec prog 135 [(.dat 5 (p0.map Qap)),(I p1),(.agg (Qad p2))] [] (.tup [(.agg (Qsf r.1)),(I r.2)]) []:=by
  refine sA func135 0 fun _ _ _ hq hd0=>?_
  unfold Qky at h
  refine wxz<|wsq<|Qao ?_
  obtain⟨x2,hf1,h⟩:=bno h
  refine wx tbk [(1,rp _ _)] ⟨apw Q7b (Qkw N p0 _ hf1),tv⟩ ?_
  refine bfe h (fun hc3 h=>?_) fun hc3 h=>?_
  ·refine wft hc3<|wx tbk [(0,rp _ _)] ⟨Qaz (vs:=[]) rfl Zmj Zgk rfl (by rfl) rfl,tv⟩<|Qai<|Qar<|Qaj ?_
   obtain rfl:=osi h
   exact fie [Zlq,I 1] ⟨Qbv (n:=1) (m:=10) (j:=0) (i:=0) (xs:=[[I 0,I 0,I 0,I 0,I 0,I 0,I 0,I 0,I 0,I 0]]) (by kernel_rfl) (by kernel_rfl) Q3v (by decide) rfl (nle rfl) rfl,rot,tv⟩
  ·refine wfn hc3 ?_
   obtain⟨x5,hf4,h⟩:=bno h
   refine wx tbk [(2,rp _ _)] ⟨apw Zh7 (Qqn N p0 p1 _ hf4),tv⟩ ?_
   refine bfe h (fun hc6 h=>?_) fun hc6 h=>?_
   ·refine wft hc6<|wx tbk [(0,rp _ _)] ⟨Qaz (vs:=[]) rfl Zmj Zgk rfl (by rfl) rfl,tv⟩<|Qai<|Qar<|Qaj ?_
    obtain rfl:=osi h
    exact fie [Zlq,I 2] ⟨Qbv (n:=1) (m:=10) (j:=0) (i:=0) (xs:=[[I 0,I 0,I 0,I 0,I 0,I 0,I 0,I 0,I 0,I 0]]) (by kernel_rfl) (by kernel_rfl) Q3v (by decide) rfl (nle rfl) rfl,rot,tv⟩
   ·refine wfn hc6 ?_
    obtain⟨x8,hf7,h⟩:=bno h
    refine wx tbk [(1,rp _ _)] ⟨apw Q0b (Qia N p2 _ hf7),tv⟩ ?_
    refine bfe h (fun hc9 h=>?_) fun hc9 h=>?_
    ·refine wft hc9<|wx tbk [(0,rp _ _)] ⟨Qaz (vs:=[]) rfl Zmj Zgk rfl (by rfl) rfl,tv⟩<|Qai<|Qar<|Qaj ?_
     obtain rfl:=osi h
     exact fie [Zlq,I 1] ⟨Qbv (n:=1) (m:=10) (j:=0) (i:=0) (xs:=[[I 0,I 0,I 0,I 0,I 0,I 0,I 0,I 0,I 0,I 0]]) (by kernel_rfl) (by kernel_rfl) Q3v (by decide) rfl (nle rfl) rfl,rot,tv⟩
    ·refine wfn hc9<|Qam<|bln<|thn ?_
     obtain⟨x11,hf10,h⟩:=bno h
     obtain⟨x13,hf12,h⟩:=bno h
     refine wxd tbk [(2,rp _ _),(4,rp _ _)] ⟨apw Zh6 (Qrs N p0 p1 _ hf10),apw Zh5 (Qrr N (⟨(⟨x11.Row.T,x11.Row.P,x11.Row.Liquid,x11.Row.Vapour,x11.Row.Silica⟩:GRow)⟩:Qm2) p2 _ hf12),tv⟩<|Qai ?_
     obtain rfl:=osi h
     exact fie [(Zsh x13),I 0] ⟨Qbv (n:=1) (m:=10) (j:=0) (i:=0) (xs:=[[I x13.Steam.Mass,I x13.Steam.Heat,I x13.Steam.Silica,I x13.Steam.Gas,I x13.Water.Mass,I x13.Water.Heat,I x13.Water.Silica,I x13.Water.Gas,I x13.Rest,I x13.Scale]]) (by kernel_rfl) (by kernel_rfl) Q3v (by decide) rfl (nle rfl) rfl,rot,tv⟩
def Qft (N:Nat) (p0:Int) (p1:Qaa) (p2:List Int) (_p3:List GRow) (_p4:List Qaf) (_p5 p6 _p7:Nat) (_p8:List Qaa) (_p9:Int) (_p10:List (List Qaa)) (p11:List Qa1) (_p12:List Int):Option ((List Qaa)×(List Qa1)):=
  (Qkx N p1 p2).bind fun x4=>
  chk (decide (0≤p0)&&decide (p0.toNat<p6))<|
  (p11[p0.toNat]?).bind fun x6=>
  chk (decide (0≤p0)&&decide (p0.toNat<p6))<|
  ((p11.set p0.toNat (⟨x4.2.1.Heat,x6.Silica,x6.Gas,x6.Scale⟩:Qa1))[p0.toNat]?).bind fun x9=>
  chk (decide (0≤p0)&&decide (p0.toNat<p6))<|
  (((p11.set p0.toNat (⟨x4.2.1.Heat,x6.Silica,x6.Gas,x6.Scale⟩:Qa1)).set p0.toNat (⟨x9.Heat,x4.2.1.Silica,x9.Gas,x9.Scale⟩:Qa1))[p0.toNat]?).bind fun x12=>
  some (x4.1,((p11.set p0.toNat (⟨x4.2.1.Heat,x6.Silica,x6.Gas,x6.Scale⟩:Qa1)).set p0.toNat (⟨x9.Heat,x4.2.1.Silica,x9.Gas,x9.Scale⟩:Qa1)).set p0.toNat (⟨x12.Heat,x12.Silica,x4.2.1.Gas,x12.Scale⟩:Qa1))
abbrev Zsg (p1:Qaa):AV:=.agg [(I p1.Mass),(I p1.Heat),(I p1.Silica),(I p1.Gas)]
abbrev Q3h (p3:List GRow) (p4:List Qaf) (p5 p6 p7:Nat) (p8:List Qaa) (p9:Int):Slot:=.own 7 [[(.dat 5 (p3.map Qap)),(.dat 7 (p4.map Qae)),(.own 1 1 (0) p5),(.own 2 4 (0) p6),(.own 3 1 (0) p7),(.dat 4 (p8.map Qad)),(I p9)]]
def Zao (p11:List Qa1) (p0:Int) (x4:((List Qaa)×Qhv×Int)) (x6:Qa1):Slot:=.own 4 ((p11.set p0.toNat (⟨x4.2.1.Heat,x6.Silica,x6.Gas,x6.Scale⟩:Qa1):List Qa1).map Qat)
def Zan (p11:List Qa1) (p0:Int) (x4:((List Qaa)×Qhv×Int)) (x6 x9:Qa1):Slot:=.own 4 (((p11.set p0.toNat (⟨x4.2.1.Heat,x6.Silica,x6.Gas,x6.Scale⟩:Qa1)).set p0.toNat (⟨x9.Heat,x4.2.1.Silica,x9.Gas,x9.Scale⟩:Qa1):List Qa1).map Qat)
def Zj3 (p11:List Qa1) (p0:Int) (x4:((List Qaa)×Qhv×Int)) (x6 x9 x12:Qa1):Slot:=.own 4 ((((p11.set p0.toNat (⟨x4.2.1.Heat,x6.Silica,x6.Gas,x6.Scale⟩:Qa1)).set p0.toNat (⟨x9.Heat,x4.2.1.Silica,x9.Gas,x9.Scale⟩:Qa1)).set p0.toNat (⟨x12.Heat,x12.Silica,x4.2.1.Gas,x12.Scale⟩:Qa1):List Qa1).map Qat)
theorem Qlb (N:Nat) (p0:Int) (p1:Qaa) (p2:List Int) (p3:List GRow) (p4:List Qaf) (p5 p6 p7:Nat) (p8:List Qaa) (p9:Int) (p10:List (List Qaa)) (p11:List Qa1) (p12:List Int) (r:((List Qaa)×(List Qa1))) (h:Qft N p0 p1 p2 p3 p4 p5 p6 p7 p8 p9 p10 p11 p12=some r):Spec prog 136 [(.ref 0 7 (0) 0),(I p0),(Zsg p1),(.dat 1 (p2.map Qac))] [(Q3h p3 p4 p5 p6 p7 p8 p9),(.own 1 (p10.map Qag)),(.own 4 (p11.map Qat)),(.own 1 (p12.map Qac))] (.dat 4 (r.1.map Qad)) [(Q3h p3 p4 p5 p6 p7 p8 p9),(.own 1 (p10.map Qag)),(.own 4 (r.2.map Qat)),(.own 1 (p12.map Qac))]:=by
  refine sF func136 4 fun _ _ _ hq hd0=>?_
  unfold Qft at h
  refine wxz ?_
  obtain⟨x4,hf3,h⟩:=bno h
  refine wx tbk [(2,rp _ _)] ⟨apw Zh4 (Qvj N p1 p2 _ hf3),tv⟩ ?_
  obtain⟨hi5,h⟩:=cko h
  obtain⟨hi5a,hi5b⟩:=Qcv hi5
  obtain⟨x6,hg7,h⟩:=bno h
  obtain⟨hi8,h⟩:=cko h
  obtain⟨hi8a,hi8b⟩:=Qcv hi8
  obtain⟨x9,hg10,h⟩:=bno h
  obtain⟨hi11,h⟩:=cko h
  obtain⟨hi11a,hi11b⟩:=Qcv hi11
  obtain⟨x12,hg13,h⟩:=bno h
  refine wxd tbk [(1,rb [(.tmp 19,.ref 0 7 0 0)] [(0,(Q3h p3 p4 p5 p6 p7 p8 p9))] (.ref 0 7 0 0)),(7,rb [(.tmp 25,.ref 0 7 0 0)] [(0,(Q3h p3 p4 p5 p6 p7 p8 p9))] (.ref 0 7 0 0)),(13,rb [(.tmp 31,.ref 0 7 0 0)] [(0,(Q3h p3 p4 p5 p6 p7 p8 p9))] (.ref 0 7 0 0)),(24,rb [(.tmp 23,(.own 2 4 (0) p6)),(.tmp 24,I p0)] [(2,(.own 4 (p11.map Qat)))] (.ref 2 4 p0.toNat 0)),(26,⟨[(.tmp 44,(.ref 2 4 p0.toNat 0)),(.tmp 38,I x4.2.1.Heat)],[(2,(.own 4 (p11.map Qat)))],.any,[(2,(Zao p11 p0 x4 x6))],false⟩),(27,rb [(.tmp 29,(.own 2 4 (0) p6)),(.tmp 30,I p0)] [(2,(Zao p11 p0 x4 x6))] (.ref 2 4 p0.toNat 0)),(29,⟨[(.tmp 46,(.ref 2 4 p0.toNat 1)),(.tmp 40,I x4.2.1.Silica)],[(2,(Zao p11 p0 x4 x6))],.any,[(2,(Zan p11 p0 x4 x6 x9))],false⟩),(30,rb [(.tmp 35,(.own 2 4 (0) p6)),(.tmp 36,I p0)] [(2,(Zan p11 p0 x4 x6 x9))] (.ref 2 4 p0.toNat 0)),(32,⟨[(.tmp 48,(.ref 2 4 p0.toNat 2)),(.tmp 42,I x4.2.1.Gas)],[(2,(Zan p11 p0 x4 x6 x9))],.any,[(2,(Zj3 p11 p0 x4 x6 x9 x12))],false⟩)] ⟨Qbk rfl,Qbk rfl,Qbk rfl,aio rfl underlying32 ti82 (odt hi5a) (odt hi5b) (Nat.zero_add _),ast rfl ti3 (by rfl) (mgt Qat hg7) (nle rfl) (Qff Qat rfl),aio rfl underlying32 ti82 (odt hi8a) (odt hi8b) (Nat.zero_add _),ast rfl ti3 (by rfl) (mgt Qat hg10) (nle rfl) (Qff Qat rfl),aio rfl underlying32 ti82 (odt hi11a) (odt hi11b) (Nat.zero_add _),ast rfl ti3 (by rfl) (mgt Qat hg13) (nle rfl) (Qff Qat rfl),tv⟩<|wxz ?_
  refine wmr (mto (n:=50) (l':=[(8,(.dat 4 (x4.1.map Qad)))]) (own':=[(Q3h p3 p4 p5 p6 p7 p8 p9),(.own 1 (p10.map Qag)),(.own 4 (((((p11.set p0.toNat (⟨x4.2.1.Heat,x6.Silica,x6.Gas,x6.Scale⟩:Qa1)).set p0.toNat (⟨x9.Heat,x4.2.1.Silica,x9.Gas,x9.Scale⟩:Qa1)).set p0.toNat (⟨x12.Heat,x12.Silica,x4.2.1.Gas,x12.Scale⟩:Qa1)):List Qa1).map Qat)),(.own 1 (p12.map Qac))]) [(8,(.dat 4 (x4.1.map Qad)))] [0,1,2,3] [(Q3h p3 p4 p5 p6 p7 p8 p9),(.own 1 (p10.map Qag)),(Zj3 p11 p0 x4 x6 x9 x12),(.own 1 (p12.map Qac))] hq (pc (rnd Qal) pn) (qb (lc (rnd Qan) (lc (rnd Qab) (lc (.rn (Qav rfl)) (lc (.rn (Qav rfl)) (lc (.rn (Qav rfl)) (lc (rnd Qal) (lc rwl ln))))))) (qc (spr Qak) (qc (spr Qa2) (qc (spr Qah) qn)))))<|Qai ?_
  obtain rfl:=osi h
  exact⟨_,Mor.rfl,fio [(.dat 4 (x4.1.map Qad))] ⟨rot,tv⟩⟩
def Qfq (N:Nat) (p0:Int) (p1:Qaa) (p2:List GRow) (p3:List Qaf) (p4 p5 p6:Nat) (p7:List Qaa) (p8:Int) (p9:List (List Qaa)) (p10:List Qa1) (p11:List Int):Option ((List Qaa)×Int×(List Qa1)×(List Int)):=
  (getI p3 p0).bind fun x5=>
  (Qky N p2 x5.Level p1).bind fun x10=>
  chk (decide (0≤p0)&&decide (p0.toNat<p5))<|
  (p10[p0.toNat]?).bind fun x12=>
  chk (decide (0≤p0)&&decide (p0.toNat<p6))<|
  (p11[p0.toNat]?).bind fun x15=>
  chk (decide (0≤p0)&&decide (p0.toNat<p6))<|
  (p11[p0.toNat]?).bind fun _=>
  bif (x5.Amount==0) then
   some ([(⟨x10.1.Steam.Mass,x10.1.Steam.Heat,x10.1.Steam.Silica,x10.1.Steam.Gas⟩:Qaa),(⟨x10.1.Water.Mass,x10.1.Water.Heat,x10.1.Water.Silica,x10.1.Water.Gas⟩:Qaa)],w64 (p8+x10.1.Steam.Mass),p10.set p0.toNat (⟨x12.Heat,x12.Silica,x12.Gas,x10.1.Scale⟩:Qa1),p11.set p0.toNat (w64 (x15+x10.1.Scale)))
  else
   (Qft N p0 (⟨x10.1.Water.Mass,x10.1.Water.Heat,x10.1.Water.Silica,x10.1.Water.Gas⟩:Qaa) ([w64 (1000-x5.Amount),x5.Amount]) p2 p3 p4 p5 p6 p7 (w64 (p8+x10.1.Steam.Mass)) p9 (p10.set p0.toNat (⟨x12.Heat,x12.Silica,x12.Gas,x10.1.Scale⟩:Qa1)) (p11.set p0.toNat (w64 (x15+x10.1.Scale)))).bind fun x22=>
   (getI x22.1 1).bind fun x23=>
   (Qgp N ([(⟨x10.1.Steam.Mass,x10.1.Steam.Heat,x10.1.Steam.Silica,x10.1.Steam.Gas⟩:Qaa),x23])).bind fun x28=>
   (getI x22.1 0).bind fun x29=>
   some ([x28,x29],w64 (p8+x10.1.Steam.Mass),x22.2,p11.set p0.toNat (w64 (x15+x10.1.Scale)))
abbrev Zsi (p1:Qaa):AV:=.agg [(I p1.Mass),(I p1.Heat),(I p1.Silica),(I p1.Gas)]
abbrev Zar (p3:List Qaf):AV:=.dat 7 (p3.map Qae)
abbrev Zaq (p7:List Qaa):AV:=.dat 4 (p7.map Qad)
abbrev Q3i (p2:List GRow) (p3:List Qaf) (p4 p5 p6:Nat) (p7:List Qaa) (p8:Int):Slot:=.own 7 [[(.dat 5 (p2.map Qap)),(Zar p3),(.own 1 1 (0) p4),(.own 2 4 (0) p5),(.own 3 1 (0) p6),(Zaq p7),(I p8)]]
abbrev Qto (p9:List (List Qaa)):Slot:=.own 1 (p9.map Qag)
def Zap (p10:List Qa1) (p0:Int) (x12:Qa1) (x10:(Qe3×Int)):Slot:=.own 4 ((p10.set p0.toNat (⟨x12.Heat,x12.Silica,x12.Gas,x10.1.Scale⟩:Qa1):List Qa1).map Qat)
def Q0s (p11:List Int) (p0 x15:Int) (x10:(Qe3×Int)):Slot:=.own 1 ((p11.set p0.toNat (w64 (x15+x10.1.Scale)):List Int).map Qac)
def Q5e (x10:(Qe3×Int)):AV:=.agg [(I x10.1.Steam.Mass),(I x10.1.Steam.Heat),(I x10.1.Steam.Silica),(I x10.1.Steam.Gas)]
def Zj8 (x10:(Qe3×Int)):AV:=.agg [(I x10.1.Water.Mass),(I x10.1.Water.Heat),(I x10.1.Water.Silica),(I x10.1.Water.Gas)]
def Q5d (x10:(Qe3×Int)):AV:=.dat 4 (([(⟨x10.1.Steam.Mass,x10.1.Steam.Heat,x10.1.Steam.Silica,x10.1.Steam.Gas⟩:Qaa),(⟨x10.1.Water.Mass,x10.1.Water.Heat,x10.1.Water.Silica,x10.1.Water.Gas⟩:Qaa)]:List Qaa).map Qad)
def Q5f (p2:List GRow) (p3:List Qaf) (p4 p5 p6:Nat) (p7:List Qaa) (p8:Int) (x10:(Qe3×Int)):Slot:=.own 7 [[(.dat 5 (p2.map Qap)),(Zar p3),(.own 1 1 (0) p4),(.own 2 4 (0) p5),(.own 3 1 (0) p6),(Zaq p7),(I (w64 (p8+x10.1.Steam.Mass)))]]
def Zj7 (x5:Qaf):AV:=.dat 1 (([w64 (1000-x5.Amount),x5.Amount]:List Int).map Qac)
def Zj6 (x23:Qaa):AV:=.agg [(I x23.Mass),(I x23.Heat),(I x23.Silica),(I x23.Gas)]
def Zpp (x10:(Qe3×Int)) (x23:Qaa):AV:=.dat 4 (([(⟨x10.1.Steam.Mass,x10.1.Steam.Heat,x10.1.Steam.Silica,x10.1.Steam.Gas⟩:Qaa),x23]:List Qaa).map Qad)
def Zj5 (x28:Qaa):AV:=.agg [(I x28.Mass),(I x28.Heat),(I x28.Silica),(I x28.Gas)]
def Zj4 (x29:Qaa):AV:=.agg [(I x29.Mass),(I x29.Heat),(I x29.Silica),(I x29.Gas)]
def Q5c (x28 x29:Qaa):AV:=.dat 4 (([x28,x29]:List Qaa).map Qad)
theorem Qnh (N:Nat) (p0:Int) (p1:Qaa) (p2:List GRow) (p3:List Qaf) (p4 p5 p6:Nat) (p7:List Qaa) (p8:Int) (p9:List (List Qaa)) (p10:List Qa1) (p11:List Int) (r:((List Qaa)×Int×(List Qa1)×(List Int))) (h:Qfq N p0 p1 p2 p3 p4 p5 p6 p7 p8 p9 p10 p11=some r):Spec prog 119 [(.ref 0 7 (0) 0),(I p0),(Zsi p1)] [(Q3i p2 p3 p4 p5 p6 p7 p8),(Qto p9),(.own 4 (p10.map Qat)),(.own 1 (p11.map Qac))] (.dat 4 (r.1.map Qad)) [(.own 7 [[(.dat 5 (p2.map Qap)),(Zar p3),(.own 1 1 (0) p4),(.own 2 4 (0) p5),(.own 3 1 (0) p6),(Zaq p7),(I r.2.1)]]),(Qto p9),(.own 4 (r.2.2.1.map Qat)),(.own 1 (r.2.2.2.map Qac))]:=by
  refine sF func119 4 fun _ _ _ hq hd0=>?_
  unfold Qfq at h
  refine wxz ?_
  obtain⟨x5,hg6,h⟩:=bno h
  obtain⟨hi7,hj8⟩:=gsm hg6
  refine wx tbk [(1,rb [(.tmp 11,.ref 0 7 0 0)] [(0,(Q3i p2 p3 p4 p5 p6 p7 p8))] (.ref 0 7 0 0)),(6,rp _ _)] ⟨Qbk rfl,aiq underlying40 Qkd Qae hi7 hj8,tv⟩ ?_
  obtain⟨x10,hf9,h⟩:=bno h
  refine wxd tbk [(1,rb [(.tmp 20,.ref 0 7 0 0)] [(0,(Q3i p2 p3 p4 p5 p6 p7 p8))] (.ref 0 7 0 0)),(8,rp _ _)] ⟨Qbk rfl,apw Zic (Qvk N p2 x5.Level p1 _ hf9),tv⟩ ?_
  obtain⟨hi11,h⟩:=cko h
  obtain⟨hi11a,hi11b⟩:=Qcv hi11
  obtain⟨x12,hg13,h⟩:=bno h
  refine wxd tbk [(1,rb [(.tmp 31,.ref 0 7 0 0)] [(0,(Q3i p2 p3 p4 p5 p6 p7 p8))] (.ref 0 7 0 0)),(8,rb [(.tmp 35,(.own 2 4 (0) p5)),(.tmp 36,I p0)] [(2,(.own 4 (p10.map Qat)))] (.ref 2 4 p0.toNat 0)),(10,⟨[(.tmp 40,(.ref 2 4 p0.toNat 3)),(.tmp 38,I x10.1.Scale)],[(2,(.own 4 (p10.map Qat)))],.any,[(2,(Zap p10 p0 x12 x10))],false⟩)] ⟨Qbk rfl,aio rfl underlying32 ti82 (odt hi11a) (odt hi11b) (Nat.zero_add _),ast rfl ti3 (by rfl) (mgt Qat hg13) (nle rfl) (Qff Qat rfl),tv⟩ ?_
  obtain⟨hi14,h⟩:=cko h
  obtain⟨hi14a,hi14b⟩:=Qcv hi14
  obtain⟨x15,hg16,h⟩:=bno h
  obtain⟨hi17,h⟩:=cko h
  obtain⟨hi17a,hi17b⟩:=Qcv hi17
  obtain⟨x18,hg19,h⟩:=bno h
  refine wxd tbk [(1,rb [(.tmp 41,.ref 0 7 0 0)] [(0,(Q3i p2 p3 p4 p5 p6 p7 p8))] (.ref 0 7 0 0)),(6,rb [(.tmp 45,(.own 3 1 (0) p6)),(.tmp 46,I p0)] [(3,(.own 1 (p11.map Qac)))] (.ref 3 1 p0.toNat 0)),(7,rb [(.tmp 47,(.ref 3 1 p0.toNat 0))] [(3,(.own 1 (p11.map Qac)))] (I x15)),(11,rb [(.tmp 45,(.own 3 1 (0) p6)),(.tmp 46,I p0)] [(3,(.own 1 (p11.map Qac)))] (.ref 3 1 p0.toNat 0)),(12,⟨[(.tmp 52,(.ref 3 1 p0.toNat 0)),(.tmp 51,(I (w64 (x15+x10.1.Scale))))],[(3,(.own 1 (p11.map Qac)))],.any,[(3,(Q0s p11 p0 x15 x10))],false⟩)] ⟨Qbk rfl,aio rfl underlying27 ti3 (odt hi14a) (odt hi14b) (Nat.zero_add _),ald rfl ti3 (by decide) (mgt Qac hg16) (nle rfl) rfl,aio rfl underlying27 ti3 (odt hi17a) (odt hi17b) (Nat.zero_add _),ast rfl ti3 (by rfl) (mgt Qac hg19) (nle rfl) (Qff Qac rfl),tv⟩ ?_
  refine wxd tbk [(1,rb [(.tmp 53,.ref 0 7 0 0)] [(0,(Q3i p2 p3 p4 p5 p6 p7 p8))] (.ref 0 7 0 0)),(8,rb [(.tmp 53,.ref 0 7 0 0)] [(0,(Q3i p2 p3 p4 p5 p6 p7 p8))] (.ref 0 7 0 0))] ⟨Qbk rfl,Qbk rfl,tv⟩<|wsq<|wxz ?_
  refine bfe h (fun hc20 h=>?_) fun hc20 h=>?_
  ·refine wft hc20<|wx tbk [(4,rp [(.tmp 67,(Q5e x10)),(.tmp 69,(Zj8 x10))] (Q5d x10))] ⟨Qbm (vs:=[(Q5e x10),(Zj8 x10)]) rfl underlying45 ti63 tz63 rfl (by decide) rfl (by decide) (by rfl) (by rfl) (by rfl) rfl,tv⟩ ?_
   refine wmr (mto (n:=93) (l':=[(6,(Q5d x10))]) (own':=[(.own 7 [[(.dat 5 (p2.map Qap)),(Zar p3),(.own 1 1 (0) p4),(.own 2 4 (0) p5),(.own 3 1 (0) p6),(Zaq p7),(I ((w64 (p8+x10.1.Steam.Mass))))]]),(Qto p9),(.own 4 (((p10.set p0.toNat (⟨x12.Heat,x12.Silica,x12.Gas,x10.1.Scale⟩:Qa1)):List Qa1).map Qat)),(.own 1 (((p11.set p0.toNat (w64 (x15+x10.1.Scale))):List Int).map Qac))]) [(6,(Q5d x10))] [0,1,2,3] [(Q5f p2 p3 p4 p5 p6 p7 p8 x10),(Qto p9),(Zap p10 p0 x12 x10),(Q0s p11 p0 x15 x10)] hq (pc (rnd Qal) pn) (qb (lc (rnd Qan) (lc (rnd Qab) (lc (.rn (Qav rfl)) (lc (.rn (Qav rfl)) (lc (.rn (Qav rfl)) (lc (rnd Qal) (lc rwl ln))))))) (qc (spr Qak) (qc (spr Qa2) (qc (spr Qah) qn)))))<|Qai<|Qaj ?_
   obtain rfl:=osi h
   exact⟨_,Mor.rfl,fio [(Q5d x10)] ⟨rot,tv⟩⟩
  ·refine wfn hc20<|Qam<|thn ?_
   obtain⟨x22,hf21,h⟩:=bno h
   refine wx tbk [(9,rp [(.tmp 77,(I (w64 (1000-x5.Amount)))),(.tmp 79,I x5.Amount)] (Zj7 x5)),(10,⟨_,_,_,_,false⟩)] ⟨Qbm (vs:=[(I (w64 (1000-x5.Amount))),I x5.Amount]) rfl underlying27 ti3 tz3 rfl (by decide) rfl (by decide) (by rfl) (by rfl) (by rfl) rfl,acq [.ref 0 7 0 0,I p0,(.agg [(I ((⟨x10.1.Water.Mass,x10.1.Water.Heat,x10.1.Water.Silica,x10.1.Water.Gas⟩:Qaa).Mass)),(I ((⟨x10.1.Water.Mass,x10.1.Water.Heat,x10.1.Water.Silica,x10.1.Water.Gas⟩:Qaa).Heat)),(I ((⟨x10.1.Water.Mass,x10.1.Water.Heat,x10.1.Water.Silica,x10.1.Water.Gas⟩:Qaa).Silica)),(I ((⟨x10.1.Water.Mass,x10.1.Water.Heat,x10.1.Water.Silica,x10.1.Water.Gas⟩:Qaa).Gas))]),(Zj7 x5)] [(Q5f p2 p3 p4 p5 p6 p7 p8 x10),(Qto p9),(Zap p10 p0 x12 x10),(Q0s p11 p0 x15 x10)] [(Q5f p2 p3 p4 p5 p6 p7 p8 x10),(Qto p9),(.own 4 (x22.2.map Qat)),(Q0s p11 p0 x15 x10)] (.dat 4 (x22.1.map Qad)) [0,1,2,3] Q68 (Qlb N p0 (⟨x10.1.Water.Mass,x10.1.Water.Heat,x10.1.Water.Silica,x10.1.Water.Gas⟩:Qaa) ([w64 (1000-x5.Amount),x5.Amount]) p2 p3 p4 p5 p6 p7 (w64 (p8+x10.1.Steam.Mass)) p9 (p10.set p0.toNat (⟨x12.Heat,x12.Silica,x12.Gas,x10.1.Scale⟩:Qa1)) (p11.set p0.toNat (w64 (x15+x10.1.Scale))) _ hf21) (Qbr (rnc (Qa0 rfl) (rnc (.plain _ nll) (rnc (.plain _ (NLt.agg _ (nlcc (nlcc nl0)))) (rnc (pld Qah) rn0))))) (slc (Qaq (rnc (pld Qan) (rnc (pld Qab) (rnc (Qcs rfl) (rnc (Qcs rfl) (rnc (Qcs rfl) (rnc (pld Qal) (rnc (.plain _ nll) rn0)))))))) (slc (Qba Qak) (slc (Qba Qa2) (slc (Qba Qah) Qas)))) (slc (Qaq (rnc (pld Qan) (rnc (pld Qab) (rnc (Qcz rfl) (rnc (Qcz rfl) (rnc (Qcz rfl) (rnc (pld Qal) (rnc (.plain _ nll) rn0)))))))) (slc (Qba Qak) (slc (Qba Qa2) (slc (Qba Qah) Qas)))) (pld Qal),tv⟩ ?_
   obtain⟨x23,hg24,h⟩:=bno h
   obtain⟨hi25,hj26⟩:=gsm hg24
   obtain⟨x28,hf27,h⟩:=bno h
   obtain⟨x29,hg30,h⟩:=bno h
   obtain⟨hi31,hj32⟩:=gsm hg30
   refine wxd tbk [(3,rp _ _),(5,rp [(.tmp 83,(Q5e x10)),(.tmp 86,(Zj6 x23))] (Zpp x10 x23)),(6,rp _ _),(8,rp _ _),(10,rp [(.tmp 88,(Zj5 x28)),(.tmp 91,(Zj4 x29))] (Q5c x28 x29))] ⟨aiq underlying45 ti63 Qad hi25 hj26,Qbm (vs:=[(Q5e x10),(Zj6 x23)]) rfl underlying45 ti63 tz63 rfl (by decide) rfl (by decide) (by rfl) (by rfl) (by rfl) rfl,apw Q4j (Qm8 N ([(⟨x10.1.Steam.Mass,x10.1.Steam.Heat,x10.1.Steam.Silica,x10.1.Steam.Gas⟩:Qaa),x23]) _ hf27),aiq underlying45 ti63 Qad hi31 hj32,Qbm (vs:=[(Zj5 x28),(Zj4 x29)]) rfl underlying45 ti63 tz63 rfl (by decide) rfl (by decide) (by rfl) (by rfl) (by rfl) rfl,tv⟩ ?_
   refine wmr (mto (n:=93) (l':=[(6,(Q5c x28 x29))]) (own':=[(.own 7 [[(.dat 5 (p2.map Qap)),(Zar p3),(.own 1 1 (0) p4),(.own 2 4 (0) p5),(.own 3 1 (0) p6),(Zaq p7),(I ((w64 (p8+x10.1.Steam.Mass))))]]),(Qto p9),(.own 4 (x22.2.map Qat)),(.own 1 (((p11.set p0.toNat (w64 (x15+x10.1.Scale))):List Int).map Qac))]) [(6,(Q5c x28 x29))] [0,1,2,3] [(Q5f p2 p3 p4 p5 p6 p7 p8 x10),(Qto p9),(.own 4 (x22.2.map Qat)),(Q0s p11 p0 x15 x10)] hq (pc (rnd Qal) pn) (qb (lc (rnd Qan) (lc (rnd Qab) (lc (.rn (Qav rfl)) (lc (.rn (Qav rfl)) (lc (.rn (Qav rfl)) (lc (rnd Qal) (lc rwl ln))))))) (qc (spr Qak) (qc (spr Qa2) (qc (spr Qah) qn)))))<|Qai ?_
   obtain rfl:=osi h
   exact⟨_,Mor.rfl,fio [(Q5c x28 x29)] ⟨rot,tv⟩⟩
def Qic (N:Nat) (p0:Int) (p1:Qaa) (p2:List GRow) (p3:List Qaf) (p4 p5 p6:Nat) (p7:List Qaa) (p8:Int) (p9:List (List Qaa)) (p10:List Qa1) (p11:List Int):Option ((List Qaa)×(List Qa1)):=
  (getI p3 p0).bind fun x3=>
  (Qft N p0 p1 x3.Weights p2 p3 p4 p5 p6 p7 p8 p9 p10 p11).bind fun x8=>
  some (x8.1,x8.2)
abbrev Zpo (p1:Qaa):AV:=.agg [(I p1.Mass),(I p1.Heat),(I p1.Silica),(I p1.Gas)]
abbrev Q3g (p2:List GRow) (p3:List Qaf) (p4 p5 p6:Nat) (p7:List Qaa) (p8:Int):Slot:=.own 7 [[(.dat 5 (p2.map Qap)),(.dat 7 (p3.map Qae)),(.own 1 1 (0) p4),(.own 2 4 (0) p5),(.own 3 1 (0) p6),(.dat 4 (p7.map Qad)),(I p8)]]
abbrev Q7v (p9:List (List Qaa)):Slot:=.own 1 (p9.map Qag)
def Q5b (x8:((List Qaa)×(List Qa1))):AV:=.dat 4 (x8.1.map Qad)
theorem Qpa (N:Nat) (p0:Int) (p1:Qaa) (p2:List GRow) (p3:List Qaf) (p4 p5 p6:Nat) (p7:List Qaa) (p8:Int) (p9:List (List Qaa)) (p10:List Qa1) (p11:List Int) (r:((List Qaa)×(List Qa1))) (h:Qic N p0 p1 p2 p3 p4 p5 p6 p7 p8 p9 p10 p11=some r):Spec prog 120 [(.ref 0 7 (0) 0),(I p0),(Zpo p1)] [(Q3g p2 p3 p4 p5 p6 p7 p8),(Q7v p9),(.own 4 (p10.map Qat)),(.own 1 (p11.map Qac))] (.dat 4 (r.1.map Qad)) [(Q3g p2 p3 p4 p5 p6 p7 p8),(Q7v p9),(.own 4 (r.2.map Qat)),(.own 1 (p11.map Qac))]:=by
  refine sF func120 4 fun _ _ _ hq hd0=>?_
  unfold Qic at h
  refine wxz ?_
  obtain⟨x3,hg4,h⟩:=bno h
  obtain⟨hi5,hj6⟩:=gsm hg4
  obtain⟨x8,hf7,h⟩:=bno h
  refine wxd tbk [(4,rb [(.tmp 10,.ref 0 7 0 0)] [(0,(Q3g p2 p3 p4 p5 p6 p7 p8))] (.ref 0 7 0 0)),(9,rp _ _),(12,⟨_,_,_,_,false⟩)] ⟨Qbk rfl,aiq underlying40 Qkd Qae hi5 hj6,acq [.ref 0 7 0 0,I p0,(Zpo p1),(.dat 1 (x3.Weights.map Qac))] [(Q3g p2 p3 p4 p5 p6 p7 p8),(Q7v p9),(.own 4 (p10.map Qat)),(.own 1 (p11.map Qac))] [(Q3g p2 p3 p4 p5 p6 p7 p8),(Q7v p9),(.own 4 (x8.2.map Qat)),(.own 1 (p11.map Qac))] (Q5b x8) [0,1,2,3] Q68 (Qlb N p0 p1 x3.Weights p2 p3 p4 p5 p6 p7 p8 p9 p10 p11 _ hf7) (Qbr (rnc (Qa0 rfl) (rnc (.plain _ nll) (rnc (.plain _ (NLt.agg _ (nlcc (nlcc nl0)))) (rnc (pld Qah) rn0))))) (slc (Qaq (rnc (pld Qan) (rnc (pld Qab) (rnc (Qcs rfl) (rnc (Qcs rfl) (rnc (Qcs rfl) (rnc (pld Qal) (rnc (.plain _ nll) rn0)))))))) (slc (Qba Qak) (slc (Qba Qa2) (slc (Qba Qah) Qas)))) (slc (Qaq (rnc (pld Qan) (rnc (pld Qab) (rnc (Qcz rfl) (rnc (Qcz rfl) (rnc (Qcz rfl) (rnc (pld Qal) (rnc (.plain _ nll) rn0)))))))) (slc (Qba Qak) (slc (Qba Qa2) (slc (Qba Qah) Qas)))) (pld Qal),tv⟩ ?_
  refine wmr (mto (n:=20) (l':=[(6,(Q5b x8))]) (own':=[(Q3g p2 p3 p4 p5 p6 p7 p8),(Q7v p9),(.own 4 (x8.2.map Qat)),(.own 1 (p11.map Qac))]) [(6,(Q5b x8))] [0,1,2,3] [(Q3g p2 p3 p4 p5 p6 p7 p8),(Q7v p9),(.own 4 (x8.2.map Qat)),(.own 1 (p11.map Qac))] hq (pc (rnd Qal) pn) (qb (lc (rnd Qan) (lc (rnd Qab) (lc (.rn (Qav rfl)) (lc (.rn (Qav rfl)) (lc (.rn (Qav rfl)) (lc (rnd Qal) (lc rwl ln))))))) (qc (spr Qak) (qc (spr Qa2) (qc (spr Qah) qn)))))<|Qai ?_
  obtain rfl:=osi h
  exact⟨_,Mor.rfl,fio [(Q5b x8)] ⟨rot,tv⟩⟩
def Qcx (N:Nat) (p0 p1:Int) (p2:List GRow) (p3:List Qaf) (p4 p5 p6:Nat) (p7:List Qaa) (p8:Int) (p9:List (List Qaa)) (p10:List Qa1) (p11:List Int):Option ((Int×(List (List Qaa))×(List Qa1)×(List Int))⊕Int):=
  (Qhp N p0 p2 p3 p4 p5 p6 p7 p8 p9 p10 p11).bind fun _=>
  chk (decide (p4≤p9.length))<|
  chk (decide (p5≤p10.length))<|
  chk (decide (p6≤p11.length))<|
  (Qb0 N p2 p3 (p9.take p4) (p10.take p5) (p11.take p6) p7 p8 p0).bind fun x12=>
  (Qgp N x12).bind fun x14=>
  Qbc (fun _=>
    (getI p3 p0).bind fun x16=>
    bif (x16.Kind==0) then
     none
    else
     bif (x16.Kind==1) then
      (Qgg N p0 x14 p2 p3 p4 p5 p6 p7 p8 p9 p10 p11).bind fun x23=>
      chk (decide (0≤p0)&&decide (p0.toNat<p4))<|
      (p9[p0.toNat]?).bind fun _=>
      some (.inl (p8,p9.set p0.toNat x23,p10,p11))
     else
      bif (x16.Kind==2) then
       (Qgg N p0 x14 p2 p3 p4 p5 p6 p7 p8 p9 p10 p11).bind fun x29=>
       chk (decide (0≤p0)&&decide (p0.toNat<p4))<|
       (p9[p0.toNat]?).bind fun _=>
       some (.inl (p8,p9.set p0.toNat x29,p10,p11))
      else
       bif (x16.Kind==3) then
        (Qir N p0 x14 p2 p3 p4 p5 p6 p7 p8 p9 p10 p11).bind fun x35=>
        chk (decide (0≤p0)&&decide (p0.toNat<p4))<|
        (p9[p0.toNat]?).bind fun _=>
        some (.inl (p8,p9.set p0.toNat x35.1,x35.2,p11))
       else
        bif (x16.Kind==4) then
         (Qfq N p0 x14 p2 p3 p4 p5 p6 p7 p8 p9 p10 p11).bind fun x41=>
         chk (decide (0≤p0)&&decide (p0.toNat<p4))<|
         (p9[p0.toNat]?).bind fun _=>
         some (.inl (x41.2.1,p9.set p0.toNat x41.1,x41.2.2.1,x41.2.2.2))
        else
         bif (x16.Kind==5) then
          (Qic N p0 x14 p2 p3 p4 p5 p6 p7 p8 p9 p10 p11).bind fun x47=>
          chk (decide (0≤p0)&&decide (p0.toNat<p4))<|
          (p9[p0.toNat]?).bind fun _=>
          some (.inl (p8,p9.set p0.toNat x47.1,x47.2,p11))
         else
          bif (x16.Kind==6) then
           (Qgg N p0 x14 p2 p3 p4 p5 p6 p7 p8 p9 p10 p11).bind fun x53=>
           chk (decide (0≤p0)&&decide (p0.toNat<p4))<|
           (p9[p0.toNat]?).bind fun _=>
           some (.inl (p8,p9.set p0.toNat x53,p10,p11))
          else
           none) fun k15:Unit→Option ((Int×(List (List Qaa))×(List Qa1)×(List Int))⊕Int)=>
  bif (decide (x14.Mass>p1)) then
   some (.inr p0)
  else
   k15 ()
abbrev Ql4 (p3:List Qaf):AV:=.dat 7 (p3.map Qae)
abbrev Qu0 (p7:List Qaa):AV:=.dat 4 (p7.map Qad)
abbrev Qhw (p2:List GRow) (p3:List Qaf) (p4 p5 p6:Nat) (p7:List Qaa) (p8:Int):Slot:=.own 7 [[(.dat 5 (p2.map Qap)),(Ql4 p3),(.own 1 1 (0) p4),(.own 2 4 (0) p5),(.own 3 1 (0) p6),(Qu0 p7),(I p8)]]
abbrev Qg0 (p9:List (List Qaa)):Slot:=.own 1 (p9.map Qag)
abbrev Qix (p10:List Qa1):Slot:=.own 4 (p10.map Qat)
def Zpr:AV:=.fn (.func 133) [] [(.ref 4 1 (0) 0),(.ref 5 1 (0) 0)]
def Zps:Slot:=.own 1 [[(.ref 0 7 (0) 0)]]
def Qjn (x14:Qaa):AV:=.agg [(I x14.Mass),(I x14.Heat),(I x14.Silica),(I x14.Gas)]
def Qtq (x14:Qaa):Slot:=.own 4 [[(I x14.Mass),(I x14.Heat),(I x14.Silica),(I x14.Gas)]]
def Qog:Slot:=.own 7 [[(.lit .nilFunc),(.fn (.func 117) [] []),(.fn (.func 117) [] []),(.fn (.func 118) [] []),(.fn (.func 119) [] []),(.fn (.func 120) [] []),(.fn (.func 117) [] [])]]
def Q5i (p2:List GRow) (p3:List Qaf) (p4 p5 p6:Nat) (p7:List Qaa) (x41:((List Qaa)×Int×(List Qa1)×(List Int))):Slot:=.own 7 [[(.dat 5 (p2.map Qap)),(Ql4 p3),(.own 1 1 (0) p4),(.own 2 4 (0) p5),(.own 3 1 (0) p6),(Qu0 p7),(I x41.2.1)]]
theorem Qj1 (N:Nat) (p0 p1:Int) (p2:List GRow) (p3:List Qaf) (p4 p5 p6:Nat) (p7:List Qaa) (p8:Int) (p9:List (List Qaa)) (p10:List Qa1) (p11:List Int) (r:((Int×(List (List Qaa))×(List Qa1)×(List Int))⊕Int)) (h:Qcx N p0 p1 p2 p3 p4 p5 p6 p7 p8 p9 p10 p11=some r):Zr6 prog 97 [(.ref 0 7 (0) 0),(I p0),(I p1)] [(Qhw p2 p3 p4 p5 p6 p7 p8),(Qg0 p9),(Qix p10),(.own 1 (p11.map Qac))]  ((Sum.elim (fun r=>.ret (.tup []) [(.own 7 [[(.dat 5 (p2.map Qap)),(.dat 7 (p3.map Qae)),(.own 1 1 (0) p4),(.own 2 4 (0) p5),(.own 3 1 (0) p6),(.dat 4 (p7.map Qad)),(I r.1)]]),(.own 1 (r.2.1.map Qag)),(.own 4 (r.2.2.1.map Qat)),(.own 1 (r.2.2.2.map Qac))]) (fun r=>.pan (.iface 182 (.agg #[(.int .i64 r)]))):((Int×(List (List Qaa))×(List Qa1)×(List Int))⊕Int)→Out) r):=by
  refine Q1f func97 rfl 4 (nle rfl) (fun _ _ _ hq hd0=>?_)
  unfold Qcx at h
  obtain⟨x7,hf6,h⟩:=bno h
  obtain⟨hz8,h⟩:=cko h
  obtain⟨hz9,h⟩:=cko h
  obtain⟨hz10,h⟩:=cko h
  obtain⟨x12,hf11,h⟩:=bno h
  obtain⟨x14,hf13,h⟩:=bno h
  refine wx tbk [(2,⟨_,_,_,_,false⟩),(3,⟨[fu 115,(.tmp 10,Zpr)],[(4,Zps),(0,(Qhw p2 p3 p4 p5 p6 p7 p8)),(1,(Qg0 p9)),(2,(Qix p10)),(3,(.own 1 (p11.map Qac))),(5,.own 1 [[I p0]]),(6,.unused)],(.acc 6 63 4 (x12.map Qad)),[(6,.tok)],false⟩),(4,rp [fu 76,(.tmp 11,(.acc 6 63 4 (x12.map Qad)))] (Qjn x14))] ⟨acq [.ref 0 7 0 0,I p0] [(Qhw p2 p3 p4 p5 p6 p7 p8),(Qg0 p9),(Qix p10),(.own 1 (p11.map Qac))] [(Qhw p2 p3 p4 p5 p6 p7 p8),(Qg0 p9),(Qix p10),(.own 1 (p11.map Qac)),Zps,(.own 1 [[I p0]])] Zpr [0,1,2,3,4,5] Zip (Qp4 N p0 p2 p3 p4 p5 p6 p7 p8 p9 p10 p11 _ hf6) (Qbr (rnc (Qa0 rfl) (rnc (.plain _ nll) rn0))) (slc (Qaq (rnc (pld Qan) (rnc (pld Qab) (rnc (Qcs rfl) (rnc (Qcs rfl) (rnc (Qcs rfl) (rnc (pld Qal) (rnc (.plain _ nll) rn0)))))))) (slc (Qba Qak) (slc (Qba Qa2) (slc (Qba Qah) Qas)))) (slc (Qaq (rnc (pld Qan) (rnc (pld Qab) (rnc (Qcz rfl) (rnc (Qcz rfl) (rnc (Qcz rfl) (rnc (pld Qal) (rnc (.plain _ nll) rn0)))))))) (slc (Qba Qak) (slc (Qba Qa2) (slc (Qba Qah) (slc (Qaq (rnc (Qbb rfl) rn0)) (slc (Qaq (rnc (.plain _ nll) rn0)) Qas)))))) (Qbj rn0 (rnc (Qbb rfl) (rnc (Qbb rfl) rn0))),Qh2 (rd':=[fu 115,(.tmp 10,(.fn (.func 133) [] [(.dptr [(.dptr [(.dat 5 (p2.map Qap)),(Ql4 p3),(.dat 1 ((p9.take p4:List (List Qaa)).map Qag)),(.dat 4 ((p10.take p5:List Qa1).map Qat)),(.dat 1 ((p11.take p6:List Int).map Qac)),(Qu0 p7),I p8] 0)] 0),(.dptr [I p0] 0)]))]) [(4,1,[[.ref 0 7 0 0]]),(0,7,[[(.dat 5 (p2.map Qap)),(Ql4 p3),(.own 1 1 (0) p4),(.own 2 4 (0) p5),(.own 3 1 (0) p6),(Qu0 p7),I p8]]),(1,1,p9.map Qag),(2,4,p10.map Qat),(3,1,p11.map Qac),(5,1,[[I p0]])] ⟨rfl,.same _,rfl,(Zi5 tv ⟨(Qsb 0 rfl (lc (Qsb 1 rfl (lc (.same _) (lc (.same _) (lc (Qth 2 rfl hz8) (lc (Qth 3 rfl hz9) (lc (Qth 4 rfl hz10) (lc (.same _) (lc (.same _) ln)))))))) ln)),(Qsb 5 rfl (lc (.same _) ln)),tv⟩),tv⟩ (by rfl) (.acc _ _ _ _ (nin rfl) (by simp) (Quq Qwa _)) (Qpq .tok Qqq) (acq [(.fn (.func 133) [] [(.dptr [(.dptr [(.dat 5 (p2.map Qap)),(Ql4 p3),(.dat 1 ((p9.take p4:List (List Qaa)).map Qag)),(.dat 4 ((p10.take p5:List Qa1).map Qat)),(.dat 1 ((p11.take p6:List Int).map Qac)),(Qu0 p7),I p8] 0)] 0),(.dptr [I p0] 0)])] [] [.tok] (.acc 6 63 4 (x12.map Qad)) [6] Ziq (Qjw N p2 p3 (p9.take p4) (p10.take p5) (p11.take p6) p7 p8 p0 _ hf11) (Qbr (rnc (.plain _ (NLt.fn _ _ _ nl0 (nlc (NLt.dptr _ _ (nlc (NLt.dptr _ _ (nlc (nld Qan _) (nlc (nld Qab _) (nlc (nld Qak _) (nlc (nld Qa2 _) (nlc (nld Qah _) (nlc (nld Qal _) (nlc nll nl0)))))))) nl0)) (nlc (NLt.dptr _ _ (nlc nll nl0)) nl0)))) rn0)) Qas (slc .tok Qas) (Zcp rfl (Qay Qal _))),awk (rd':=(.func 76,(.fn (.func 76) [] []))::[(.tmp 11,(.dat 4 (x12.map Qad)))]) ⟨rfl,lrf,rfl,Less.acc,tv⟩ (apv Q4j (Qm8 N x12 _ hf13) (nlc (nld Qal _) nl0) (NLt.agg _ (nlcc (nlcc nl0)))),tv⟩ ?_
  obtain⟨k15,hk_k15,h⟩:=jko h
  refine wjn (τ:=Unit) (fun t=>k15 t=some r) (fun _=>⟨mk 43 [(0,.ref 0 7 0 0),(1,I p0),(6,.ref 4 4 0 0)],[(Qhw p2 p3 p4 p5 p6 p7 p8),(Qg0 p9),(Qix p10),(.own 1 (p11.map Qac)),(Qtq x14)]⟩) (fun t h=>?_) ?_
  ·subst hk_k15
   refine wx tbk [(0,rp [fu 117,fu 117,fu 118,fu 119,fu 120,fu 117] (.agg [(.lit .nilFunc),(.fn (.func 117) [] []),(.fn (.func 117) [] []),(.fn (.func 118) [] []),(.fn (.func 119) [] []),(.fn (.func 120) [] []),(.fn (.func 117) [] [])]))] ⟨Qt6 (vs:=[(.fn (.func 117) [] []),(.fn (.func 117) [] []),(.fn (.func 118) [] []),(.fn (.func 119) [] []),(.fn (.func 120) [] []),(.fn (.func 117) [] [])]) rfl underlying209 Qrn Zq0 rfl (by rfl) rfl,tv⟩ ?_
   obtain⟨x16,hg17,h⟩:=bno h
   obtain⟨hi18,hj19⟩:=gsm hg17
   refine bfe h (fun hb20 h=>?_) fun hb20 h=>?_
   ·cases h
   ·refine bfe h (fun hb21 h=>?_) fun hb21 h=>?_
    ·obtain⟨x23,hf22,h⟩:=bno h
     obtain⟨hi24,h⟩:=cko h
     obtain⟨hi24a,hi24b⟩:=Qcv hi24
     obtain⟨x25,hg26,h⟩:=bno h
     refine Qnt 0 (.own 7 [[(.dat 5 (p2.map Qap)),(Ql4 p3),(.own 1 1 (0) p4),(.own 2 4 (0) p5),(.own 3 1 (0) p6),(Qu0 p7),I p8]]) [mv 0 (.ref 0 7 0 0),rp [(.tmp 21,.ref 0 7 0 0)] (.ref 0 7 0 0),rp [(.tmp 22,.ref 0 7 0 0)] (.ref 0 7 0 2),rp [(.tmp 23,.ref 0 7 0 2)] (.ref 0 7 0 2),rp [(.tmp 24,.ref 0 7 0 2)] (.own 1 1 (0) p4),mv 1 (I p0),mv 0 (.ref 0 7 0 0),rp [(.tmp 27,.ref 0 7 0 0)] (.ref 0 7 0 0),rp [(.tmp 28,.ref 0 7 0 0)] (.ref 0 7 0 0),rp [(.tmp 29,.ref 0 7 0 0)] (.ref 0 7 0 1),rp [(.tmp 30,.ref 0 7 0 1)] (Ql4 p3),mv 1 (I p0),rp [(.tmp 31,(Ql4 p3)),(.tmp 32,I p0)] (.dptr (Qae x16) 0),mv 33 (.dptr (Qae x16) 0),rp [(.tmp 34,(.dptr (Qae x16) 0))] (K .u8 x16.Kind),rb [(.tmp 7,.ref 5 7 0 0),(.tmp 35,(K .u8 x16.Kind))] [(5,Qog)] (.ref 5 7 0 1),rb [(.tmp 36,.ref 5 7 0 1)] [(5,Qog)] (.fn (.func 117) [] []),mv 0 (.ref 0 7 0 0),mv 1 (I p0),rb [(.tmp 6,.ref 4 4 0 0)] [(4,(Qtq x14))] (Qjn x14),⟨[(.tmp 37,(.fn (.func 117) [] [])),(.tmp 38,.ref 0 7 0 0),(.tmp 39,I p0),(.tmp 40,(Qjn x14))],[(0,(Qhw p2 p3 p4 p5 p6 p7 p8)),(1,(Qg0 p9)),(2,(Qix p10)),(3,(.own 1 (p11.map Qac)))],(.dat 4 (x23.map Qad)),[(0,(Qhw p2 p3 p4 p5 p6 p7 p8)),(1,(Qg0 p9)),(2,(Qix p10)),(3,(.own 1 (p11.map Qac)))],false⟩,rb [(.tmp 25,(.own 1 1 (0) p4)),(.tmp 26,I p0)] [(1,(Qg0 p9))] (.ref 1 1 p0.toNat 0),⟨[(.tmp 42,(.ref 1 1 p0.toNat 0)),(.tmp 41,(.dat 4 (x23.map Qad)))],[(1,(Qg0 p9))],.any,[(1,(.own 1 ((p9.set p0.toNat x23:List (List Qaa)).map Qag)))],false⟩] (SImp.box ⟨lrf,lrf,lrf,lrf,lrf,lrf,lrf,tv⟩) ⟨tv,tv,tv,tv,tv,tv,tv,tv,tv,tv,tv,tv,tv,tv,tv,tv,tv,tv,tv,tv,⟨(SImp.box ⟨lrf,lrf,lrf,lrf,lrf,lrf,lrf,tv⟩),tv,tv,tv,tv⟩,tv,⟨tv,tv⟩,tv⟩ ?_ ?_
     ·exact⟨hr_ (amv rfl),sf_ (Qbk rfl),sf_ (afa rfl underlying140 rfl rfl ti34 (by decide) rfl),sf_ (afa rfl underlying34 rfl rfl ti31 (by decide) rfl),sf_ (ald rfl ti31 (by decide) rfl (nle rfl) rfl),hr_ (amv rfl),hr_ (amv rfl),sf_ (Qbk rfl),sf_ (afa rfl underlying140 rfl rfl ti42 (by decide) rfl),sf_ (afa rfl underlying42 rfl rfl ti40 (by decide) rfl),sf_ (ald rfl ti40 (by decide) rfl (nle rfl) rfl),hr_ (amv rfl),hr_ (aiq underlying40 Qkd Qae hi18 hj19),hr_ (afd rfl underlying133 rfl rfl ti5 (by decide) rfl),hr_ (ald_ rfl ti5 (by decide) (nle rfl) rfl),hr_ (Ql2 hb21 (Ql3 rfl underlying209 Qrn (by decide) (by decide) rfl)),hr_ (ald rfl Qrn (by decide) rfl (nle rfl) rfl),hr_ (amv rfl),hr_ (amv rfl),hr_ (ald rfl ti63 (by decide) rfl (nle rfl) rfl),hr_ (acq [.ref 0 7 0 0,I p0,(Qjn x14)] [(Qhw p2 p3 p4 p5 p6 p7 p8),(Qg0 p9),(Qix p10),(.own 1 (p11.map Qac))] [(Qhw p2 p3 p4 p5 p6 p7 p8),(Qg0 p9),(Qix p10),(.own 1 (p11.map Qac))] (.dat 4 (x23.map Qad)) [0,1,2,3] Q0c (Qiv N p0 x14 p2 p3 p4 p5 p6 p7 p8 p9 p10 p11 _ hf22) (Qbr (rnc (Qa0 rfl) (rnc (.plain _ nll) (rnc (.plain _ (NLt.agg _ (nlcc (nlcc nl0)))) rn0)))) (slc (Qaq (rnc (pld Qan) (rnc (pld Qab) (rnc (Qcs rfl) (rnc (Qcs rfl) (rnc (Qcs rfl) (rnc (pld Qal) (rnc (.plain _ nll) rn0)))))))) (slc (Qba Qak) (slc (Qba Qa2) (slc (Qba Qah) Qas)))) (slc (Qaq (rnc (pld Qan) (rnc (pld Qab) (rnc (Qcz rfl) (rnc (Qcz rfl) (rnc (Qcz rfl) (rnc (pld Qal) (rnc (.plain _ nll) rn0)))))))) (slc (Qba Qak) (slc (Qba Qa2) (slc (Qba Qah) Qas)))) (pld Qal)),hr_ (aio rfl underlying31 ti45 (odt hi24a) (odt hi24b) (Nat.zero_add _)),hr_ (ast rfl ti45 (by rfl) (mgt Qag hg26) (nle rfl) (Qff Qag rfl)),tv⟩
     obtain rfl:=osi h
     exact⟨_,(mto (n:=43) (l':=[]) (own':=[(Qhw p2 p3 p4 p5 p6 p7 p8),(.own 1 (((p9.set p0.toNat x23):List (List Qaa)).map Qag)),(Qix p10),(.own 1 (p11.map Qac))]) [] [0,1,2,3] [(Qhw p2 p3 p4 p5 p6 p7 p8),(.own 1 ((p9.set p0.toNat x23:List (List Qaa)).map Qag)),(Qix p10),(.own 1 (p11.map Qac))] hq pn (qb (lc (rnd Qan) (lc (rnd Qab) (lc (.rn (Qav rfl)) (lc (.rn (Qav rfl)) (lc (.rn (Qav rfl)) (lc (rnd Qal) (lc rwl ln))))))) (qc (spr Qak) (qc (spr Qa2) (qc (spr Qah) qn))))),Qm0 (vs:=[]) tv rfl (NLt.tup _ nl0) (by kernel_rfl) (Qcf (Qiu (nlc (NLt.of0 (nld Qan _)) (nlc (NLt.of0 (nld Qab _)) (nlc (NLt.own _ _ _ _ (by decide)) (nlc (NLt.own _ _ _ _ (by decide)) (nlc (NLt.own _ _ _ _ (by decide)) (nlc (NLt.of0 (nld Qal _)) (nlc (NLt.of0 nll) nl0)))))))) (Qcf (Qgz Qak _) (Qcf (Qgz Qa2 _) (Qcf (Qgz Qah _) Ql9))))⟩
    ·refine bfe h (fun hb27 h=>?_) fun hb27 h=>?_
     ·obtain⟨x29,hf28,h⟩:=bno h
      obtain⟨hi30,h⟩:=cko h
      obtain⟨hi30a,hi30b⟩:=Qcv hi30
      obtain⟨x31,hg32,h⟩:=bno h
      refine Qnt 0 (.own 7 [[(.dat 5 (p2.map Qap)),(Ql4 p3),(.own 1 1 (0) p4),(.own 2 4 (0) p5),(.own 3 1 (0) p6),(Qu0 p7),I p8]]) [mv 0 (.ref 0 7 0 0),rp [(.tmp 21,.ref 0 7 0 0)] (.ref 0 7 0 0),rp [(.tmp 22,.ref 0 7 0 0)] (.ref 0 7 0 2),rp [(.tmp 23,.ref 0 7 0 2)] (.ref 0 7 0 2),rp [(.tmp 24,.ref 0 7 0 2)] (.own 1 1 (0) p4),mv 1 (I p0),mv 0 (.ref 0 7 0 0),rp [(.tmp 27,.ref 0 7 0 0)] (.ref 0 7 0 0),rp [(.tmp 28,.ref 0 7 0 0)] (.ref 0 7 0 0),rp [(.tmp 29,.ref 0 7 0 0)] (.ref 0 7 0 1),rp [(.tmp 30,.ref 0 7 0 1)] (Ql4 p3),mv 1 (I p0),rp [(.tmp 31,(Ql4 p3)),(.tmp 32,I p0)] (.dptr (Qae x16) 0),mv 33 (.dptr (Qae x16) 0),rp [(.tmp 34,(.dptr (Qae x16) 0))] (K .u8 x16.Kind),rb [(.tmp 7,.ref 5 7 0 0),(.tmp 35,(K .u8 x16.Kind))] [(5,Qog)] (.ref 5 7 0 2),rb [(.tmp 36,.ref 5 7 0 2)] [(5,Qog)] (.fn (.func 117) [] []),mv 0 (.ref 0 7 0 0),mv 1 (I p0),rb [(.tmp 6,.ref 4 4 0 0)] [(4,(Qtq x14))] (Qjn x14),⟨[(.tmp 37,(.fn (.func 117) [] [])),(.tmp 38,.ref 0 7 0 0),(.tmp 39,I p0),(.tmp 40,(Qjn x14))],[(0,(Qhw p2 p3 p4 p5 p6 p7 p8)),(1,(Qg0 p9)),(2,(Qix p10)),(3,(.own 1 (p11.map Qac)))],(.dat 4 (x29.map Qad)),[(0,(Qhw p2 p3 p4 p5 p6 p7 p8)),(1,(Qg0 p9)),(2,(Qix p10)),(3,(.own 1 (p11.map Qac)))],false⟩,rb [(.tmp 25,(.own 1 1 (0) p4)),(.tmp 26,I p0)] [(1,(Qg0 p9))] (.ref 1 1 p0.toNat 0),⟨[(.tmp 42,(.ref 1 1 p0.toNat 0)),(.tmp 41,(.dat 4 (x29.map Qad)))],[(1,(Qg0 p9))],.any,[(1,(.own 1 ((p9.set p0.toNat x29:List (List Qaa)).map Qag)))],false⟩] (SImp.box ⟨lrf,lrf,lrf,lrf,lrf,lrf,lrf,tv⟩) ⟨tv,tv,tv,tv,tv,tv,tv,tv,tv,tv,tv,tv,tv,tv,tv,tv,tv,tv,tv,tv,⟨(SImp.box ⟨lrf,lrf,lrf,lrf,lrf,lrf,lrf,tv⟩),tv,tv,tv,tv⟩,tv,⟨tv,tv⟩,tv⟩ ?_ ?_
      ·exact⟨hr_ (amv rfl),sf_ (Qbk rfl),sf_ (afa rfl underlying140 rfl rfl ti34 (by decide) rfl),sf_ (afa rfl underlying34 rfl rfl ti31 (by decide) rfl),sf_ (ald rfl ti31 (by decide) rfl (nle rfl) rfl),hr_ (amv rfl),hr_ (amv rfl),sf_ (Qbk rfl),sf_ (afa rfl underlying140 rfl rfl ti42 (by decide) rfl),sf_ (afa rfl underlying42 rfl rfl ti40 (by decide) rfl),sf_ (ald rfl ti40 (by decide) rfl (nle rfl) rfl),hr_ (amv rfl),hr_ (aiq underlying40 Qkd Qae hi18 hj19),hr_ (afd rfl underlying133 rfl rfl ti5 (by decide) rfl),hr_ (ald_ rfl ti5 (by decide) (nle rfl) rfl),hr_ (Ql2 hb27 (Ql3 rfl underlying209 Qrn (by decide) (by decide) rfl)),hr_ (ald rfl Qrn (by decide) rfl (nle rfl) rfl),hr_ (amv rfl),hr_ (amv rfl),hr_ (ald rfl ti63 (by decide) rfl (nle rfl) rfl),hr_ (acq [.ref 0 7 0 0,I p0,(Qjn x14)] [(Qhw p2 p3 p4 p5 p6 p7 p8),(Qg0 p9),(Qix p10),(.own 1 (p11.map Qac))] [(Qhw p2 p3 p4 p5 p6 p7 p8),(Qg0 p9),(Qix p10),(.own 1 (p11.map Qac))] (.dat 4 (x29.map Qad)) [0,1,2,3] Q0c (Qiv N p0 x14 p2 p3 p4 p5 p6 p7 p8 p9 p10 p11 _ hf28) (Qbr (rnc (Qa0 rfl) (rnc (.plain _ nll) (rnc (.plain _ (NLt.agg _ (nlcc (nlcc nl0)))) rn0)))) (slc (Qaq (rnc (pld Qan) (rnc (pld Qab) (rnc (Qcs rfl) (rnc (Qcs rfl) (rnc (Qcs rfl) (rnc (pld Qal) (rnc (.plain _ nll) rn0)))))))) (slc (Qba Qak) (slc (Qba Qa2) (slc (Qba Qah) Qas)))) (slc (Qaq (rnc (pld Qan) (rnc (pld Qab) (rnc (Qcz rfl) (rnc (Qcz rfl) (rnc (Qcz rfl) (rnc (pld Qal) (rnc (.plain _ nll) rn0)))))))) (slc (Qba Qak) (slc (Qba Qa2) (slc (Qba Qah) Qas)))) (pld Qal)),hr_ (aio rfl underlying31 ti45 (odt hi30a) (odt hi30b) (Nat.zero_add _)),hr_ (ast rfl ti45 (by rfl) (mgt Qag hg32) (nle rfl) (Qff Qag rfl)),tv⟩
      obtain rfl:=osi h
      exact⟨_,(mto (n:=43) (l':=[]) (own':=[(Qhw p2 p3 p4 p5 p6 p7 p8),(.own 1 (((p9.set p0.toNat x29):List (List Qaa)).map Qag)),(Qix p10),(.own 1 (p11.map Qac))]) [] [0,1,2,3] [(Qhw p2 p3 p4 p5 p6 p7 p8),(.own 1 ((p9.set p0.toNat x29:List (List Qaa)).map Qag)),(Qix p10),(.own 1 (p11.map Qac))] hq pn (qb (lc (rnd Qan) (lc (rnd Qab) (lc (.rn (Qav rfl)) (lc (.rn (Qav rfl)) (lc (.rn (Qav rfl)) (lc (rnd Qal) (lc rwl ln))))))) (qc (spr Qak) (qc (spr Qa2) (qc (spr Qah) qn))))),Qm0 (vs:=[]) tv rfl (NLt.tup _ nl0) (by kernel_rfl) (Qcf (Qiu (nlc (NLt.of0 (nld Qan _)) (nlc (NLt.of0 (nld Qab _)) (nlc (NLt.own _ _ _ _ (by decide)) (nlc (NLt.own _ _ _ _ (by decide)) (nlc (NLt.own _ _ _ _ (by decide)) (nlc (NLt.of0 (nld Qal _)) (nlc (NLt.of0 nll) nl0)))))))) (Qcf (Qgz Qak _) (Qcf (Qgz Qa2 _) (Qcf (Qgz Qah _) Ql9))))⟩
     ·refine bfe h (fun hb33 h=>?_) fun hb33 h=>?_
      ·obtain⟨x35,hf34,h⟩:=bno h
       obtain⟨hi36,h⟩:=cko h
       obtain⟨hi36a,hi36b⟩:=Qcv hi36
       obtain⟨x37,hg38,h⟩:=bno h
       refine Qnt 0 (.own 7 [[(.dat 5 (p2.map Qap)),(Ql4 p3),(.own 1 1 (0) p4),(.own 2 4 (0) p5),(.own 3 1 (0) p6),(Qu0 p7),I p8]]) [mv 0 (.ref 0 7 0 0),rp [(.tmp 21,.ref 0 7 0 0)] (.ref 0 7 0 0),rp [(.tmp 22,.ref 0 7 0 0)] (.ref 0 7 0 2),rp [(.tmp 23,.ref 0 7 0 2)] (.ref 0 7 0 2),rp [(.tmp 24,.ref 0 7 0 2)] (.own 1 1 (0) p4),mv 1 (I p0),mv 0 (.ref 0 7 0 0),rp [(.tmp 27,.ref 0 7 0 0)] (.ref 0 7 0 0),rp [(.tmp 28,.ref 0 7 0 0)] (.ref 0 7 0 0),rp [(.tmp 29,.ref 0 7 0 0)] (.ref 0 7 0 1),rp [(.tmp 30,.ref 0 7 0 1)] (Ql4 p3),mv 1 (I p0),rp [(.tmp 31,(Ql4 p3)),(.tmp 32,I p0)] (.dptr (Qae x16) 0),mv 33 (.dptr (Qae x16) 0),rp [(.tmp 34,(.dptr (Qae x16) 0))] (K .u8 x16.Kind),rb [(.tmp 7,.ref 5 7 0 0),(.tmp 35,(K .u8 x16.Kind))] [(5,Qog)] (.ref 5 7 0 3),rb [(.tmp 36,.ref 5 7 0 3)] [(5,Qog)] (.fn (.func 118) [] []),mv 0 (.ref 0 7 0 0),mv 1 (I p0),rb [(.tmp 6,.ref 4 4 0 0)] [(4,(Qtq x14))] (Qjn x14),⟨[(.tmp 37,(.fn (.func 118) [] [])),(.tmp 38,.ref 0 7 0 0),(.tmp 39,I p0),(.tmp 40,(Qjn x14))],[(0,(Qhw p2 p3 p4 p5 p6 p7 p8)),(1,(Qg0 p9)),(2,(Qix p10)),(3,(.own 1 (p11.map Qac)))],(.dat 4 (x35.1.map Qad)),[(0,(Qhw p2 p3 p4 p5 p6 p7 p8)),(1,(Qg0 p9)),(2,(.own 4 (x35.2.map Qat))),(3,(.own 1 (p11.map Qac)))],false⟩,rb [(.tmp 25,(.own 1 1 (0) p4)),(.tmp 26,I p0)] [(1,(Qg0 p9))] (.ref 1 1 p0.toNat 0),⟨[(.tmp 42,(.ref 1 1 p0.toNat 0)),(.tmp 41,(.dat 4 (x35.1.map Qad)))],[(1,(Qg0 p9))],.any,[(1,(.own 1 ((p9.set p0.toNat x35.1:List (List Qaa)).map Qag)))],false⟩] (SImp.box ⟨lrf,lrf,lrf,lrf,lrf,lrf,lrf,tv⟩) ⟨tv,tv,tv,tv,tv,tv,tv,tv,tv,tv,tv,tv,tv,tv,tv,tv,tv,tv,tv,tv,⟨(SImp.box ⟨lrf,lrf,lrf,lrf,lrf,lrf,lrf,tv⟩),tv,tv,tv,tv⟩,tv,⟨tv,tv⟩,tv⟩ ?_ ?_
       ·exact⟨hr_ (amv rfl),sf_ (Qbk rfl),sf_ (afa rfl underlying140 rfl rfl ti34 (by decide) rfl),sf_ (afa rfl underlying34 rfl rfl ti31 (by decide) rfl),sf_ (ald rfl ti31 (by decide) rfl (nle rfl) rfl),hr_ (amv rfl),hr_ (amv rfl),sf_ (Qbk rfl),sf_ (afa rfl underlying140 rfl rfl ti42 (by decide) rfl),sf_ (afa rfl underlying42 rfl rfl ti40 (by decide) rfl),sf_ (ald rfl ti40 (by decide) rfl (nle rfl) rfl),hr_ (amv rfl),hr_ (aiq underlying40 Qkd Qae hi18 hj19),hr_ (afd rfl underlying133 rfl rfl ti5 (by decide) rfl),hr_ (ald_ rfl ti5 (by decide) (nle rfl) rfl),hr_ (Ql2 hb33 (Ql3 rfl underlying209 Qrn (by decide) (by decide) rfl)),hr_ (ald rfl Qrn (by decide) rfl (nle rfl) rfl),hr_ (amv rfl),hr_ (amv rfl),hr_ (ald rfl ti63 (by decide) rfl (nle rfl) rfl),hr_ (acq [.ref 0 7 0 0,I p0,(Qjn x14)] [(Qhw p2 p3 p4 p5 p6 p7 p8),(Qg0 p9),(Qix p10),(.own 1 (p11.map Qac))] [(Qhw p2 p3 p4 p5 p6 p7 p8),(Qg0 p9),(.own 4 (x35.2.map Qat)),(.own 1 (p11.map Qac))] (.dat 4 (x35.1.map Qad)) [0,1,2,3] Zio (Qp5 N p0 x14 p2 p3 p4 p5 p6 p7 p8 p9 p10 p11 _ hf34) (Qbr (rnc (Qa0 rfl) (rnc (.plain _ nll) (rnc (.plain _ (NLt.agg _ (nlcc (nlcc nl0)))) rn0)))) (slc (Qaq (rnc (pld Qan) (rnc (pld Qab) (rnc (Qcs rfl) (rnc (Qcs rfl) (rnc (Qcs rfl) (rnc (pld Qal) (rnc (.plain _ nll) rn0)))))))) (slc (Qba Qak) (slc (Qba Qa2) (slc (Qba Qah) Qas)))) (slc (Qaq (rnc (pld Qan) (rnc (pld Qab) (rnc (Qcz rfl) (rnc (Qcz rfl) (rnc (Qcz rfl) (rnc (pld Qal) (rnc (.plain _ nll) rn0)))))))) (slc (Qba Qak) (slc (Qba Qa2) (slc (Qba Qah) Qas)))) (pld Qal)),hr_ (aio rfl underlying31 ti45 (odt hi36a) (odt hi36b) (Nat.zero_add _)),hr_ (ast rfl ti45 (by rfl) (mgt Qag hg38) (nle rfl) (Qff Qag rfl)),tv⟩
       obtain rfl:=osi h
       exact⟨_,(mto (n:=43) (l':=[]) (own':=[(Qhw p2 p3 p4 p5 p6 p7 p8),(.own 1 (((p9.set p0.toNat x35.1):List (List Qaa)).map Qag)),(.own 4 (x35.2.map Qat)),(.own 1 (p11.map Qac))]) [] [0,1,2,3] [(Qhw p2 p3 p4 p5 p6 p7 p8),(.own 1 ((p9.set p0.toNat x35.1:List (List Qaa)).map Qag)),(.own 4 (x35.2.map Qat)),(.own 1 (p11.map Qac))] hq pn (qb (lc (rnd Qan) (lc (rnd Qab) (lc (.rn (Qav rfl)) (lc (.rn (Qav rfl)) (lc (.rn (Qav rfl)) (lc (rnd Qal) (lc rwl ln))))))) (qc (spr Qak) (qc (spr Qa2) (qc (spr Qah) qn))))),Qm0 (vs:=[]) tv rfl (NLt.tup _ nl0) (by kernel_rfl) (Qcf (Qiu (nlc (NLt.of0 (nld Qan _)) (nlc (NLt.of0 (nld Qab _)) (nlc (NLt.own _ _ _ _ (by decide)) (nlc (NLt.own _ _ _ _ (by decide)) (nlc (NLt.own _ _ _ _ (by decide)) (nlc (NLt.of0 (nld Qal _)) (nlc (NLt.of0 nll) nl0)))))))) (Qcf (Qgz Qak _) (Qcf (Qgz Qa2 _) (Qcf (Qgz Qah _) Ql9))))⟩
      ·refine bfe h (fun hb39 h=>?_) fun hb39 h=>?_
       ·obtain⟨x41,hf40,h⟩:=bno h
        obtain⟨hi42,h⟩:=cko h
        obtain⟨hi42a,hi42b⟩:=Qcv hi42
        obtain⟨x43,hg44,h⟩:=bno h
        refine Qnt 0 (.own 7 [[(.dat 5 (p2.map Qap)),(Ql4 p3),(.own 1 1 (0) p4),(.own 2 4 (0) p5),(.own 3 1 (0) p6),(Qu0 p7),.any]]) [mv 0 (.ref 0 7 0 0),rp [(.tmp 21,.ref 0 7 0 0)] (.ref 0 7 0 0),rp [(.tmp 22,.ref 0 7 0 0)] (.ref 0 7 0 2),rp [(.tmp 23,.ref 0 7 0 2)] (.ref 0 7 0 2),rp [(.tmp 24,.ref 0 7 0 2)] (.own 1 1 (0) p4),mv 1 (I p0),mv 0 (.ref 0 7 0 0),rp [(.tmp 27,.ref 0 7 0 0)] (.ref 0 7 0 0),rp [(.tmp 28,.ref 0 7 0 0)] (.ref 0 7 0 0),rp [(.tmp 29,.ref 0 7 0 0)] (.ref 0 7 0 1),rp [(.tmp 30,.ref 0 7 0 1)] (Ql4 p3),mv 1 (I p0),rp [(.tmp 31,(Ql4 p3)),(.tmp 32,I p0)] (.dptr (Qae x16) 0),mv 33 (.dptr (Qae x16) 0),rp [(.tmp 34,(.dptr (Qae x16) 0))] (K .u8 x16.Kind),rb [(.tmp 7,.ref 5 7 0 0),(.tmp 35,(K .u8 x16.Kind))] [(5,Qog)] (.ref 5 7 0 4),rb [(.tmp 36,.ref 5 7 0 4)] [(5,Qog)] (.fn (.func 119) [] []),mv 0 (.ref 0 7 0 0),mv 1 (I p0),rb [(.tmp 6,.ref 4 4 0 0)] [(4,(Qtq x14))] (Qjn x14),⟨[(.tmp 37,(.fn (.func 119) [] [])),(.tmp 38,.ref 0 7 0 0),(.tmp 39,I p0),(.tmp 40,(Qjn x14))],[(0,(Qhw p2 p3 p4 p5 p6 p7 p8)),(1,(Qg0 p9)),(2,(Qix p10)),(3,(.own 1 (p11.map Qac)))],(.dat 4 (x41.1.map Qad)),[(0,(Q5i p2 p3 p4 p5 p6 p7 x41)),(1,(Qg0 p9)),(2,(.own 4 (x41.2.2.1.map Qat))),(3,(.own 1 (x41.2.2.2.map Qac)))],false⟩,rb [(.tmp 25,(.own 1 1 (0) p4)),(.tmp 26,I p0)] [(1,(Qg0 p9))] (.ref 1 1 p0.toNat 0),⟨[(.tmp 42,(.ref 1 1 p0.toNat 0)),(.tmp 41,(.dat 4 (x41.1.map Qad)))],[(1,(Qg0 p9))],.any,[(1,(.own 1 ((p9.set p0.toNat x41.1:List (List Qaa)).map Qag)))],false⟩] (SImp.box ⟨lrf,lrf,lrf,lrf,lrf,lrf,Less.any,tv⟩) ⟨tv,tv,tv,tv,tv,tv,tv,tv,tv,tv,tv,tv,tv,tv,tv,tv,tv,tv,tv,tv,⟨(SImp.box ⟨lrf,lrf,lrf,lrf,lrf,lrf,Less.any,tv⟩),tv,tv,tv,tv⟩,tv,⟨tv,tv⟩,tv⟩ ?_ ?_
        ·exact⟨hr_ (amv rfl),sf_ (Qbk rfl),sf_ (afa rfl underlying140 rfl rfl ti34 (by decide) rfl),sf_ (afa rfl underlying34 rfl rfl ti31 (by decide) rfl),sf_ (ald rfl ti31 (by decide) rfl (nle rfl) rfl),hr_ (amv rfl),hr_ (amv rfl),sf_ (Qbk rfl),sf_ (afa rfl underlying140 rfl rfl ti42 (by decide) rfl),sf_ (afa rfl underlying42 rfl rfl ti40 (by decide) rfl),sf_ (ald rfl ti40 (by decide) rfl (nle rfl) rfl),hr_ (amv rfl),hr_ (aiq underlying40 Qkd Qae hi18 hj19),hr_ (afd rfl underlying133 rfl rfl ti5 (by decide) rfl),hr_ (ald_ rfl ti5 (by decide) (nle rfl) rfl),hr_ (Ql2 hb39 (Ql3 rfl underlying209 Qrn (by decide) (by decide) rfl)),hr_ (ald rfl Qrn (by decide) rfl (nle rfl) rfl),hr_ (amv rfl),hr_ (amv rfl),hr_ (ald rfl ti63 (by decide) rfl (nle rfl) rfl),hr_ (acq [.ref 0 7 0 0,I p0,(Qjn x14)] [(Qhw p2 p3 p4 p5 p6 p7 p8),(Qg0 p9),(Qix p10),(.own 1 (p11.map Qac))] [(Q5i p2 p3 p4 p5 p6 p7 x41),(Qg0 p9),(.own 4 (x41.2.2.1.map Qat)),(.own 1 (x41.2.2.2.map Qac))] (.dat 4 (x41.1.map Qad)) [0,1,2,3] Zin (Qnh N p0 x14 p2 p3 p4 p5 p6 p7 p8 p9 p10 p11 _ hf40) (Qbr (rnc (Qa0 rfl) (rnc (.plain _ nll) (rnc (.plain _ (NLt.agg _ (nlcc (nlcc nl0)))) rn0)))) (slc (Qaq (rnc (pld Qan) (rnc (pld Qab) (rnc (Qcs rfl) (rnc (Qcs rfl) (rnc (Qcs rfl) (rnc (pld Qal) (rnc (.plain _ nll) rn0)))))))) (slc (Qba Qak) (slc (Qba Qa2) (slc (Qba Qah) Qas)))) (slc (Qaq (rnc (pld Qan) (rnc (pld Qab) (rnc (Qcz rfl) (rnc (Qcz rfl) (rnc (Qcz rfl) (rnc (pld Qal) (rnc (.plain _ nll) rn0)))))))) (slc (Qba Qak) (slc (Qba Qa2) (slc (Qba Qah) Qas)))) (pld Qal)),hr_ (aio rfl underlying31 ti45 (odt hi42a) (odt hi42b) (Nat.zero_add _)),hr_ (ast rfl ti45 (by rfl) (mgt Qag hg44) (nle rfl) (Qff Qag rfl)),tv⟩
        obtain rfl:=osi h
        exact⟨_,(mto (n:=43) (l':=[]) (own':=[(Q5i p2 p3 p4 p5 p6 p7 x41),(.own 1 (((p9.set p0.toNat x41.1):List (List Qaa)).map Qag)),(.own 4 (x41.2.2.1.map Qat)),(.own 1 (x41.2.2.2.map Qac))]) [] [0,1,2,3] [(Q5i p2 p3 p4 p5 p6 p7 x41),(.own 1 ((p9.set p0.toNat x41.1:List (List Qaa)).map Qag)),(.own 4 (x41.2.2.1.map Qat)),(.own 1 (x41.2.2.2.map Qac))] hq pn (qb (lc (rnd Qan) (lc (rnd Qab) (lc (.rn (Qav rfl)) (lc (.rn (Qav rfl)) (lc (.rn (Qav rfl)) (lc (rnd Qal) (lc rwl ln))))))) (qc (spr Qak) (qc (spr Qa2) (qc (spr Qah) qn))))),Qm0 (vs:=[]) tv rfl (NLt.tup _ nl0) (by kernel_rfl) (Qcf (Qiu (nlc (NLt.of0 (nld Qan _)) (nlc (NLt.of0 (nld Qab _)) (nlc (NLt.own _ _ _ _ (by decide)) (nlc (NLt.own _ _ _ _ (by decide)) (nlc (NLt.own _ _ _ _ (by decide)) (nlc (NLt.of0 (nld Qal _)) (nlc (NLt.of0 nll) nl0)))))))) (Qcf (Qgz Qak _) (Qcf (Qgz Qa2 _) (Qcf (Qgz Qah _) Ql9))))⟩
       ·refine bfe h (fun hb45 h=>?_) fun hb45 h=>?_
        ·obtain⟨x47,hf46,h⟩:=bno h
         obtain⟨hi48,h⟩:=cko h
         obtain⟨hi48a,hi48b⟩:=Qcv hi48
         obtain⟨x49,hg50,h⟩:=bno h
         refine Qnt 0 (.own 7 [[(.dat 5 (p2.map Qap)),(Ql4 p3),(.own 1 1 (0) p4),(.own 2 4 (0) p5),(.own 3 1 (0) p6),(Qu0 p7),I p8]]) [mv 0 (.ref 0 7 0 0),rp [(.tmp 21,.ref 0 7 0 0)] (.ref 0 7 0 0),rp [(.tmp 22,.ref 0 7 0 0)] (.ref 0 7 0 2),rp [(.tmp 23,.ref 0 7 0 2)] (.ref 0 7 0 2),rp [(.tmp 24,.ref 0 7 0 2)] (.own 1 1 (0) p4),mv 1 (I p0),mv 0 (.ref 0 7 0 0),rp [(.tmp 27,.ref 0 7 0 0)] (.ref 0 7 0 0),rp [(.tmp 28,.ref 0 7 0 0)] (.ref 0 7 0 0),rp [(.tmp 29,.ref 0 7 0 0)] (.ref 0 7 0 1),rp [(.tmp 30,.ref 0 7 0 1)] (Ql4 p3),mv 1 (I p0),rp [(.tmp 31,(Ql4 p3)),(.tmp 32,I p0)] (.dptr (Qae x16) 0),mv 33 (.dptr (Qae x16) 0),rp [(.tmp 34,(.dptr (Qae x16) 0))] (K .u8 x16.Kind),rb [(.tmp 7,.ref 5 7 0 0),(.tmp 35,(K .u8 x16.Kind))] [(5,Qog)] (.ref 5 7 0 5),rb [(.tmp 36,.ref 5 7 0 5)] [(5,Qog)] (.fn (.func 120) [] []),mv 0 (.ref 0 7 0 0),mv 1 (I p0),rb [(.tmp 6,.ref 4 4 0 0)] [(4,(Qtq x14))] (Qjn x14),⟨[(.tmp 37,(.fn (.func 120) [] [])),(.tmp 38,.ref 0 7 0 0),(.tmp 39,I p0),(.tmp 40,(Qjn x14))],[(0,(Qhw p2 p3 p4 p5 p6 p7 p8)),(1,(Qg0 p9)),(2,(Qix p10)),(3,(.own 1 (p11.map Qac)))],(.dat 4 (x47.1.map Qad)),[(0,(Qhw p2 p3 p4 p5 p6 p7 p8)),(1,(Qg0 p9)),(2,(.own 4 (x47.2.map Qat))),(3,(.own 1 (p11.map Qac)))],false⟩,rb [(.tmp 25,(.own 1 1 (0) p4)),(.tmp 26,I p0)] [(1,(Qg0 p9))] (.ref 1 1 p0.toNat 0),⟨[(.tmp 42,(.ref 1 1 p0.toNat 0)),(.tmp 41,(.dat 4 (x47.1.map Qad)))],[(1,(Qg0 p9))],.any,[(1,(.own 1 ((p9.set p0.toNat x47.1:List (List Qaa)).map Qag)))],false⟩] (SImp.box ⟨lrf,lrf,lrf,lrf,lrf,lrf,lrf,tv⟩) ⟨tv,tv,tv,tv,tv,tv,tv,tv,tv,tv,tv,tv,tv,tv,tv,tv,tv,tv,tv,tv,⟨(SImp.box ⟨lrf,lrf,lrf,lrf,lrf,lrf,lrf,tv⟩),tv,tv,tv,tv⟩,tv,⟨tv,tv⟩,tv⟩ ?_ ?_
         ·exact⟨hr_ (amv rfl),sf_ (Qbk rfl),sf_ (afa rfl underlying140 rfl rfl ti34 (by decide) rfl),sf_ (afa rfl underlying34 rfl rfl ti31 (by decide) rfl),sf_ (ald rfl ti31 (by decide) rfl (nle rfl) rfl),hr_ (amv rfl),hr_ (amv rfl),sf_ (Qbk rfl),sf_ (afa rfl underlying140 rfl rfl ti42 (by decide) rfl),sf_ (afa rfl underlying42 rfl rfl ti40 (by decide) rfl),sf_ (ald rfl ti40 (by decide) rfl (nle rfl) rfl),hr_ (amv rfl),hr_ (aiq underlying40 Qkd Qae hi18 hj19),hr_ (afd rfl underlying133 rfl rfl ti5 (by decide) rfl),hr_ (ald_ rfl ti5 (by decide) (nle rfl) rfl),hr_ (Ql2 hb45 (Ql3 rfl underlying209 Qrn (by decide) (by decide) rfl)),hr_ (ald rfl Qrn (by decide) rfl (nle rfl) rfl),hr_ (amv rfl),hr_ (amv rfl),hr_ (ald rfl ti63 (by decide) rfl (nle rfl) rfl),hr_ (acq [.ref 0 7 0 0,I p0,(Qjn x14)] [(Qhw p2 p3 p4 p5 p6 p7 p8),(Qg0 p9),(Qix p10),(.own 1 (p11.map Qac))] [(Qhw p2 p3 p4 p5 p6 p7 p8),(Qg0 p9),(.own 4 (x47.2.map Qat)),(.own 1 (p11.map Qac))] (.dat 4 (x47.1.map Qad)) [0,1,2,3] Zim (Qpa N p0 x14 p2 p3 p4 p5 p6 p7 p8 p9 p10 p11 _ hf46) (Qbr (rnc (Qa0 rfl) (rnc (.plain _ nll) (rnc (.plain _ (NLt.agg _ (nlcc (nlcc nl0)))) rn0)))) (slc (Qaq (rnc (pld Qan) (rnc (pld Qab) (rnc (Qcs rfl) (rnc (Qcs rfl) (rnc (Qcs rfl) (rnc (pld Qal) (rnc (.plain _ nll) rn0)))))))) (slc (Qba Qak) (slc (Qba Qa2) (slc (Qba Qah) Qas)))) (slc (Qaq (rnc (pld Qan) (rnc (pld Qab) (rnc (Qcz rfl) (rnc (Qcz rfl) (rnc (Qcz rfl) (rnc (pld Qal) (rnc (.plain _ nll) rn0)))))))) (slc (Qba Qak) (slc (Qba Qa2) (slc (Qba Qah) Qas)))) (pld Qal)),hr_ (aio rfl underlying31 ti45 (odt hi48a) (odt hi48b) (Nat.zero_add _)),hr_ (ast rfl ti45 (by rfl) (mgt Qag hg50) (nle rfl) (Qff Qag rfl)),tv⟩
         obtain rfl:=osi h
         exact⟨_,(mto (n:=43) (l':=[]) (own':=[(Qhw p2 p3 p4 p5 p6 p7 p8),(.own 1 (((p9.set p0.toNat x47.1):List (List Qaa)).map Qag)),(.own 4 (x47.2.map Qat)),(.own 1 (p11.map Qac))]) [] [0,1,2,3] [(Qhw p2 p3 p4 p5 p6 p7 p8),(.own 1 ((p9.set p0.toNat x47.1:List (List Qaa)).map Qag)),(.own 4 (x47.2.map Qat)),(.own 1 (p11.map Qac))] hq pn (qb (lc (rnd Qan) (lc (rnd Qab) (lc (.rn (Qav rfl)) (lc (.rn (Qav rfl)) (lc (.rn (Qav rfl)) (lc (rnd Qal) (lc rwl ln))))))) (qc (spr Qak) (qc (spr Qa2) (qc (spr Qah) qn))))),Qm0 (vs:=[]) tv rfl (NLt.tup _ nl0) (by kernel_rfl) (Qcf (Qiu (nlc (NLt.of0 (nld Qan _)) (nlc (NLt.of0 (nld Qab _)) (nlc (NLt.own _ _ _ _ (by decide)) (nlc (NLt.own _ _ _ _ (by decide)) (nlc (NLt.own _ _ _ _ (by decide)) (nlc (NLt.of0 (nld Qal _)) (nlc (NLt.of0 nll) nl0)))))))) (Qcf (Qgz Qak _) (Qcf (Qgz Qa2 _) (Qcf (Qgz Qah _) Ql9))))⟩
        ·refine bfe h (fun hb51 h=>?_) fun hb51 h=>?_
         ·obtain⟨x53,hf52,h⟩:=bno h
          obtain⟨hi54,h⟩:=cko h
          obtain⟨hi54a,hi54b⟩:=Qcv hi54
          obtain⟨x55,hg56,h⟩:=bno h
          refine Qnt 0 (.own 7 [[(.dat 5 (p2.map Qap)),(Ql4 p3),(.own 1 1 (0) p4),(.own 2 4 (0) p5),(.own 3 1 (0) p6),(Qu0 p7),I p8]]) [mv 0 (.ref 0 7 0 0),rp [(.tmp 21,.ref 0 7 0 0)] (.ref 0 7 0 0),rp [(.tmp 22,.ref 0 7 0 0)] (.ref 0 7 0 2),rp [(.tmp 23,.ref 0 7 0 2)] (.ref 0 7 0 2),rp [(.tmp 24,.ref 0 7 0 2)] (.own 1 1 (0) p4),mv 1 (I p0),mv 0 (.ref 0 7 0 0),rp [(.tmp 27,.ref 0 7 0 0)] (.ref 0 7 0 0),rp [(.tmp 28,.ref 0 7 0 0)] (.ref 0 7 0 0),rp [(.tmp 29,.ref 0 7 0 0)] (.ref 0 7 0 1),rp [(.tmp 30,.ref 0 7 0 1)] (Ql4 p3),mv 1 (I p0),rp [(.tmp 31,(Ql4 p3)),(.tmp 32,I p0)] (.dptr (Qae x16) 0),mv 33 (.dptr (Qae x16) 0),rp [(.tmp 34,(.dptr (Qae x16) 0))] (K .u8 x16.Kind),rb [(.tmp 7,.ref 5 7 0 0),(.tmp 35,(K .u8 x16.Kind))] [(5,Qog)] (.ref 5 7 0 6),rb [(.tmp 36,.ref 5 7 0 6)] [(5,Qog)] (.fn (.func 117) [] []),mv 0 (.ref 0 7 0 0),mv 1 (I p0),rb [(.tmp 6,.ref 4 4 0 0)] [(4,(Qtq x14))] (Qjn x14),⟨[(.tmp 37,(.fn (.func 117) [] [])),(.tmp 38,.ref 0 7 0 0),(.tmp 39,I p0),(.tmp 40,(Qjn x14))],[(0,(Qhw p2 p3 p4 p5 p6 p7 p8)),(1,(Qg0 p9)),(2,(Qix p10)),(3,(.own 1 (p11.map Qac)))],(.dat 4 (x53.map Qad)),[(0,(Qhw p2 p3 p4 p5 p6 p7 p8)),(1,(Qg0 p9)),(2,(Qix p10)),(3,(.own 1 (p11.map Qac)))],false⟩,rb [(.tmp 25,(.own 1 1 (0) p4)),(.tmp 26,I p0)] [(1,(Qg0 p9))] (.ref 1 1 p0.toNat 0),⟨[(.tmp 42,(.ref 1 1 p0.toNat 0)),(.tmp 41,(.dat 4 (x53.map Qad)))],[(1,(Qg0 p9))],.any,[(1,(.own 1 ((p9.set p0.toNat x53:List (List Qaa)).map Qag)))],false⟩] (SImp.box ⟨lrf,lrf,lrf,lrf,lrf,lrf,lrf,tv⟩) ⟨tv,tv,tv,tv,tv,tv,tv,tv,tv,tv,tv,tv,tv,tv,tv,tv,tv,tv,tv,tv,⟨(SImp.box ⟨lrf,lrf,lrf,lrf,lrf,lrf,lrf,tv⟩),tv,tv,tv,tv⟩,tv,⟨tv,tv⟩,tv⟩ ?_ ?_
          ·exact⟨hr_ (amv rfl),sf_ (Qbk rfl),sf_ (afa rfl underlying140 rfl rfl ti34 (by decide) rfl),sf_ (afa rfl underlying34 rfl rfl ti31 (by decide) rfl),sf_ (ald rfl ti31 (by decide) rfl (nle rfl) rfl),hr_ (amv rfl),hr_ (amv rfl),sf_ (Qbk rfl),sf_ (afa rfl underlying140 rfl rfl ti42 (by decide) rfl),sf_ (afa rfl underlying42 rfl rfl ti40 (by decide) rfl),sf_ (ald rfl ti40 (by decide) rfl (nle rfl) rfl),hr_ (amv rfl),hr_ (aiq underlying40 Qkd Qae hi18 hj19),hr_ (afd rfl underlying133 rfl rfl ti5 (by decide) rfl),hr_ (ald_ rfl ti5 (by decide) (nle rfl) rfl),hr_ (Ql2 hb51 (Ql3 rfl underlying209 Qrn (by decide) (by decide) rfl)),hr_ (ald rfl Qrn (by decide) rfl (nle rfl) rfl),hr_ (amv rfl),hr_ (amv rfl),hr_ (ald rfl ti63 (by decide) rfl (nle rfl) rfl),hr_ (acq [.ref 0 7 0 0,I p0,(Qjn x14)] [(Qhw p2 p3 p4 p5 p6 p7 p8),(Qg0 p9),(Qix p10),(.own 1 (p11.map Qac))] [(Qhw p2 p3 p4 p5 p6 p7 p8),(Qg0 p9),(Qix p10),(.own 1 (p11.map Qac))] (.dat 4 (x53.map Qad)) [0,1,2,3] Q0c (Qiv N p0 x14 p2 p3 p4 p5 p6 p7 p8 p9 p10 p11 _ hf52) (Qbr (rnc (Qa0 rfl) (rnc (.plain _ nll) (rnc (.plain _ (NLt.agg _ (nlcc (nlcc nl0)))) rn0)))) (slc (Qaq (rnc (pld Qan) (rnc (pld Qab) (rnc (Qcs rfl) (rnc (Qcs rfl) (rnc (Qcs rfl) (rnc (pld Qal) (rnc (.plain _ nll) rn0)))))))) (slc (Qba Qak) (slc (Qba Qa2) (slc (Qba Qah) Qas)))) (slc (Qaq (rnc (pld Qan) (rnc (pld Qab) (rnc (Qcz rfl) (rnc (Qcz rfl) (rnc (Qcz rfl) (rnc (pld Qal) (rnc (.plain _ nll) rn0)))))))) (slc (Qba Qak) (slc (Qba Qa2) (slc (Qba Qah) Qas)))) (pld Qal)),hr_ (aio rfl underlying31 ti45 (odt hi54a) (odt hi54b) (Nat.zero_add _)),hr_ (ast rfl ti45 (by rfl) (mgt Qag hg56) (nle rfl) (Qff Qag rfl)),tv⟩
          obtain rfl:=osi h
          exact⟨_,(mto (n:=43) (l':=[]) (own':=[(Qhw p2 p3 p4 p5 p6 p7 p8),(.own 1 (((p9.set p0.toNat x53):List (List Qaa)).map Qag)),(Qix p10),(.own 1 (p11.map Qac))]) [] [0,1,2,3] [(Qhw p2 p3 p4 p5 p6 p7 p8),(.own 1 ((p9.set p0.toNat x53:List (List Qaa)).map Qag)),(Qix p10),(.own 1 (p11.map Qac))] hq pn (qb (lc (rnd Qan) (lc (rnd Qab) (lc (.rn (Qav rfl)) (lc (.rn (Qav rfl)) (lc (.rn (Qav rfl)) (lc (rnd Qal) (lc rwl ln))))))) (qc (spr Qak) (qc (spr Qa2) (qc (spr Qah) qn))))),Qm0 (vs:=[]) tv rfl (NLt.tup _ nl0) (by kernel_rfl) (Qcf (Qiu (nlc (NLt.of0 (nld Qan _)) (nlc (NLt.of0 (nld Qab _)) (nlc (NLt.own _ _ _ _ (by decide)) (nlc (NLt.own _ _ _ _ (by decide)) (nlc (NLt.own _ _ _ _ (by decide)) (nlc (NLt.of0 (nld Qal _)) (nlc (NLt.of0 nll) nl0)))))))) (Qcf (Qgz Qak _) (Qcf (Qgz Qa2 _) (Qcf (Qgz Qah _) Ql9))))⟩
         ·cases h
  ·skip
   refine wxz ?_
   refine bfe h (fun hc57 h=>?_) fun hc57 h=>?_
   ·refine wft hc57<|Zjd 3 [mv 1 (I p0),rp [(.tmp 17,I p0)] (.agg [I p0]),rp [(.tmp 18,(.agg [I p0]))] (.lit (.iface 182 (.agg #[(.int .i64 p0)]))),⟨[(.tmp 19,(.lit (.iface 182 (.agg #[(.int .i64 p0)]))))],[],.any,[],false⟩] (by exact⟨by kernel_rfl,by kernel_rfl⟩) rfl (by kernel_rfl) rfl (Q36 rfl) (⟨fun _ _=>amv rfl,fun _ _=>Qaz (vs:=[I p0]) rfl Zs3 Zq1 rfl (by rfl) rfl,fun _ _=>awk (rd':=[(.tmp 18,.lit (.agg #[(.int .i64 p0)]))]) ⟨rfl,(Less.lits [(.int .i64 p0)]),tv⟩ (Q4z rfl underlying182),fun _ h=>absurd rfl h,tv⟩) ?_
    obtain rfl:=osi h
    exact rfl
   ·exact wfn hc57<|Qam<|thn<|⟨(),h,(mto (n:=43) [(0,.ref 0 7 0 0),(1,I p0),(6,.ref 7 4 0 0)] [0,1,2,3,7] [(Qhw p2 p3 p4 p5 p6 p7 p8),(Qg0 p9),(Qix p10),(.own 1 (p11.map Qac)),(Qtq x14)] hq (prr (pw (prr pn))) (qb (lc (rnd Qan) (lc (rnd Qab) (lc (.rn (Qav rfl)) (lc (.rn (Qav rfl)) (lc (.rn (Qav rfl)) (lc (rnd Qal) (lc rwl ln))))))) (qc (spr Qak) (qc (spr Qa2) (qc (spr Qah) (qb (lcc (lcc ln)) qn))))))⟩
theorem Qnj (N:Nat) (p0 p1:Int) (p2:List GRow) (p3:List Qaf) (p4 p5 p6:Nat) (p7:List Qaa) (p8:Int) (p9:List (List Qaa)) (p10:List Qa1) (p11:List Int) (r:(Int×(List (List Qaa))×(List Qa1)×(List Int))) (h:Qcx N p0 p1 p2 p3 p4 p5 p6 p7 p8 p9 p10 p11=some (.inl r)):Spec prog 97 [.ref 0 7 0 0,I p0,I p1] [(Qhw p2 p3 p4 p5 p6 p7 p8),(Qg0 p9),(Qix p10),(.own 1 (p11.map Qac))] (.tup []) [(.own 7 [[(.dat 5 (p2.map Qap)),(.dat 7 (p3.map Qae)),(.own 1 1 (0) p4),(.own 2 4 (0) p5),(.own 3 1 (0) p6),(.dat 4 (p7.map Qad)),I r.1]]),(.own 1 (r.2.1.map Qag)),(.own 4 (r.2.2.1.map Qat)),(.own 1 (r.2.2.2.map Qac))]:=Qj1 N p0 p1 p2 p3 p4 p5 p6 p7 p8 p9 p10 p11 _ h
theorem Qni (N:Nat) (p0 p1:Int) (p2:List GRow) (p3:List Qaf) (p4 p5 p6:Nat) (p7:List Qaa) (p8:Int) (p9:List (List Qaa)) (p10:List Qa1) (p11:List Int) (r:Int) (h:Qcx N p0 p1 p2 p3 p4 p5 p6 p7 p8 p9 p10 p11=some (.inr r)):Zjp prog 97 [.ref 0 7 0 0,I p0,I p1] [(Qhw p2 p3 p4 p5 p6 p7 p8),(Qg0 p9),(Qix p10),(.own 1 (p11.map Qac))] (.iface 182 (.agg #[(.int .i64 r)])):=Qj1 N p0 p1 p2 p3 p4 p5 p6 p7 p8 p9 p10 p11 _ h
def Zpn:Slot:=.own 1 [[(.lit (.pointer none))]]
theorem Qr0 (v0:Int):DPan prog 96 [1,1] (.iface 182 (.agg #[(.int .i64 v0)])) [[(.lit (.pointer none))],[(I v0)]]:=by
  refine Qt3 (t:=5) (args:=[.ref 0 1 0 0,.ref 1 1 0 0]) func96 rfl (fun _ _=>rfl) (by kernel_rfl) Zm1 2 (nle rfl) (fun X φ0 w0 hq=>?_)
  refine Q0j<|Qao ?_
  refine wx tbk [(0,rp [(.tmp 5,(.lit (.iface 182 (.agg #[(.int .i64 v0)])))),(.const .nilIface,(.lit .nilIface))] (B false))] ⟨Q4y rfl underlying20,tv⟩<|wfa ?_
  exact wx tbk [(0,rp [(.tmp 5,(.lit (.iface 182 (.agg #[(.int .i64 v0)]))))] (.tup [(.agg [I v0]),B true]))] ⟨Q4u (r:=.lit (.tuple #[(.agg #[(.int .i64 v0)]),(.bool true)])) (Less.trans Zdq (Less.tup ⟨Zdr (l:=[(.int .i64 v0)]),lrf,tv⟩)) (Q0l rfl underlying182),tv⟩<|wtr<|wxz<|wxe1<|bln<|⟨_,(mto (n:=13) (l':=[]) (own':=[Zpn,(.own 1 [[I v0]])]) [] [0,1] [Zpn,(.own 1 [[I v0]])] hq pn (qb (lc rwl ln) (qb (lc rwl ln) qn))),Zd3 (vs:=[]) tv rfl (NLt.tup _ nl0) (by kernel_rfl) (Qcf (Qiu (nlt0 (nlc nll nl0))) (Qcf (Qiu (nlt0 (nlc nll nl0))) Ql9))⟩
end
section
def Qdv (N:Nat) (p0:GNet) (p1:List Int) (p2:List Qaa) (k16:(List (List Qaa))×(List Qa1)×(List Int)×Int→Option (Int⊕(Int×Int×(List (List Qaa))×(List Qa1)×(List Int)))):Nat→Int→(List (List Qaa))→(List Qa1)→(List Int)→Int→Option (Int⊕(Int×Int×(List (List Qaa))×(List Qa1)×(List Int)))
  |0,_,_,_,_,_=>none
  |n27+1,y17,y18,y19,y20,y21=>
    bif (decide (y17<(p0.Elements.length:Int))) then
     (getI p0.Elements y17).bind fun x29=>
     (getI p1 y17).bind fun x33=>
     (Qgr N x29 x33).bind fun x38=>
     (Qcx N y17 x38 p0.Table p0.Elements ((p0.Elements.length:Int).toNat) ((p0.Elements.length:Int).toNat) p1.length p2 y21 y18 y19 y20).bind (
      Sum.elim (fun x41=>
        Qdv N p0 p1 p2 k16 n27 (w64 (y17+1)) x41.2.1 x41.2.2.1 x41.2.2.2 x41.1)
      (fun x42=>
        some (.inl x42)))
    else
     k16 (y18,y19,y20,y21)
def Qgd (N:Nat) (p0:GNet) (p1:List Int) (p2:List Qaa):Option (Int⊕(Int×Int×(List (List Qaa))×(List Qa1)×(List Int))):=
  chk (decide (0≤(p0.Elements.length:Int))&&decide (24*(p0.Elements.length:Int)≤281474976710656)&&decide ((p0.Elements.length:Int)≤9223372036854775807))<|
  chk (decide (0≤(p0.Elements.length:Int))&&decide (32*(p0.Elements.length:Int)≤281474976710656)&&decide ((p0.Elements.length:Int)≤9223372036854775807))<|
  (Qgb N p1).bind fun _=>
  Qbc (fun ⟨y12,y13,y14,y15⟩=>
    some (.inr ((-1),y15,y12,y13,y14))) fun k16:(List (List Qaa))×(List Qa1)×(List Int)×Int→Option (Int⊕(Int×Int×(List (List Qaa))×(List Qa1)×(List Int)))=>
  Qdv N p0 p1 p2 k16 N 0 (List.replicate (p0.Elements.length:Int).toNat ([])) (List.replicate (p0.Elements.length:Int).toNat (⟨0,0,0,0⟩:Qa1)) p1 0
abbrev Q7u (p0:GNet):AV:=.dat 5 (p0.Table.map Qap)
abbrev Qw9 (p0:GNet):AV:=.dat 7 (p0.Elements.map Qae)
abbrev Zfo (p0:GNet):AV:=.agg [(Q7u p0),(Qw9 p0)]
abbrev Q0q (p2:List Qaa):AV:=.dat 4 (p2.map Qad)
def Zpk (p0:GNet):Slot:=.own 1 ((List.replicate (p0.Elements.length:Int).toNat ([]):List (List Qaa)).map Qag)
def Zpj (p0:GNet):Slot:=.own 4 ((List.replicate (p0.Elements.length:Int).toNat (⟨0,0,0,0⟩:Qa1):List Qa1).map Qat)
def Zse (p0:GNet) (p1:List Int):AV:=.agg [(.own 3 1 (0) ((p0.Elements.length:Int).toNat)),(.own 4 4 (0) ((p0.Elements.length:Int).toNat)),(.own 5 1 (0) p1.length)]
def Q7t (p0:GNet):Slot:=.own 2 [[(Q7u p0),(Qw9 p0)]]
def Qtn:Slot:=.own 1 [[(.ref 6 7 (0) 0)]]
def Zaj (p0:GNet) (p1:List Int) (p2:List Qaa) (y15:Int):Slot:=.own 7 [[(Q7u p0),(Qw9 p0),(.own 3 1 (0) ((p0.Elements.length:Int).toNat)),(.own 4 4 (0) ((p0.Elements.length:Int).toNat)),(.own 5 1 (0) p1.length),(Q0q p2),(I y15)]]
def Zjz (p0:GNet) (p1:List Int) (p2:List Qaa):Slot:=.own 7 [[(Q7u p0),(Qw9 p0),(.own 3 1 (0) ((p0.Elements.length:Int).toNat)),(.own 4 4 (0) ((p0.Elements.length:Int).toNat)),(.own 5 1 (0) p1.length),(Q0q p2),(I (0))]]
def Quy (y18:List (List Qaa)):Slot:=.own 1 (y18.map Qag)
def Qux (y19:List Qa1):Slot:=.own 4 (y19.map Qat)
def Quz (p0:GNet) (p1:List Int) (p2:List Qaa) (y21:Int):Slot:=.own 7 [[(Q7u p0),(Qw9 p0),(.own 3 1 (0) ((p0.Elements.length:Int).toNat)),(.own 4 4 (0) ((p0.Elements.length:Int).toNat)),(.own 5 1 (0) p1.length),(Q0q p2),(I y21)]]
def Qys (x29:Qaf):AV:=.agg [(K .u8 x29.Kind),(.dat 2 (x29.From.map Qaw)),(I x29.Level),(I x29.Amount),(I x29.Wide),(I x29.Narrow),(.dat 1 (x29.Weights.map Qac))]
def Zak (p0:GNet) (p1:List Int) (p2:List Qaa) (x41:(Int×(List (List Qaa))×(List Qa1)×(List Int))):Slot:=.own 7 [[(Q7u p0),(Qw9 p0),(.own 3 1 (0) (((p0.Elements.length:Int).toNat))),(.own 4 4 (0) (((p0.Elements.length:Int).toNat))),(.own 5 1 (0) p1.length),(Q0q p2),(I x41.1)]]
def Zpl:Slot:=.own 1 [[(.lit (.pointer none))]]
theorem Qnk (N:Nat) (p0:GNet) (p1:List Int) (p2:List Qaa) (r:(Int⊕(Int×Int×(List (List Qaa))×(List Qa1)×(List Int)))) (h:Qgd N p0 p1 p2=some r):Spec prog 58 [(Zfo p0),(.dat 1 (p1.map Qac)),(Q0q p2)] [] (((Sum.elim (fun r=>(.tup [(.lit (.pointer none)),(I r)])) (fun r=>(.tup [(.ref 2 7 (0) 0),(I r.1)]))):(Int⊕(Int×Int×(List (List Qaa))×(List Qa1)×(List Int)))→AV) r) (((Sum.elim (fun r=>[(.own 1 [[(.lit (.pointer none))]]),(.own 1 [[(I r)]])]) (fun r=>[(.own 1 [[(.ref 2 7 (0) 0)]]),(.own 1 [[(I r.1)]]),(.own 7 [[(.dat 5 (p0.Table.map Qap)),(.dat 7 (p0.Elements.map Qae)),(.own 3 1 (0) ((p0.Elements.length:Int).toNat)),(.own 4 4 (0) ((p0.Elements.length:Int).toNat)),(.own 5 1 (0) p1.length),(.dat 4 (p2.map Qad)),(I r.2.1)]]),(.own 1 (r.2.2.1.map Qag)),(.own 4 (r.2.2.2.1.map Qat)),(.own 1 (r.2.2.2.2.map Qac))])):(Int⊕(Int×Int×(List (List Qaa))×(List Qa1)×(List Int)))→List Slot) r):=by
  refine Q1g func58 rfl (fun _ _ _ hq hd0=>?_)
  unfold Qgd at h
  refine Q7n (k:=6) hd0 (fun n hn=>hq n (Nat.le_trans (nle rfl) hn))<|wxz1<|thn ?_
  refine Q7n (k:=6) hd0 (fun n hn=>hq n (Nat.le_trans (nle rfl) hn)) ?_
  obtain⟨hm8,h⟩:=cko h
  obtain⟨hm9,h⟩:=cko h
  obtain⟨x11,hf10,h⟩:=bno h
  refine wy1 tbk [(3,rp _ _),(4,⟨[(.tmp 13,(I ((p0.Elements.length:Int)))),(.tmp 13,(I ((p0.Elements.length:Int))))],[(3,.unused)],(.own 3 1 (0) ((p0.Elements.length:Int).toNat)),[(3,(Zpk p0))],false⟩),(7,rp _ _),(8,⟨[(.tmp 17,(I ((p0.Elements.length:Int)))),(.tmp 17,(I ((p0.Elements.length:Int))))],[(4,.unused)],(.own 4 4 (0) ((p0.Elements.length:Int).toNat)),[(4,(Zpj p0))],false⟩),(10,⟨_,_,_,_,false⟩),(11,rp _ _),(13,rp _ _)] ⟨alq 7 Qae p0.Elements underlying40,Ze9 (c:=Qag) (v:=([])) (z:=[nilS]) (k:=(p0.Elements.length:Int).toNat) ⟨Less.nil,tv⟩ (Qkq rfl underlying31 te45 tz45 rfl (Qw6 hm8) rfl (Qw5 hm8) (Qw4 hm8) rfl),alq 7 Qae p0.Elements underlying40,Qkq rfl underlying32 te82 tz82 rfl (Qw6 hm9) rfl (Qw5 hm9) (Qw4 hm9) (Qsx Qat rfl),acq [(.dat 1 (p1.map Qac))] [] [(.own 1 (p1.map Qac))] (.own 5 1 (0) p1.length) [5] Zeb (Qmr N p1 _ hf10) (Qbr (rnc (pld Qah) rn0)) Qas (slc (Qba Qah) Qas) (Qcz rfl),Qaz (vs:=[(.own 3 1 (0) ((p0.Elements.length:Int).toNat)),(.own 4 4 (0) ((p0.Elements.length:Int).toNat)),(.own 5 1 (0) p1.length)]) rfl ts34 tz34 rfl (by rfl) rfl,Qaz (vs:=[(Zfo p0),(Zse p0 p1),(Q0q p2)]) rfl Zs4 Zq2 rfl (by rfl) rfl,tv⟩<|thn ?_
  refine Q9a (k:=6) [(1,1),(2,1)] hd0 (fun n hn=>hq n (Nat.le_trans (nle rfl) hn)) Znn rfl rfl (by kernel_rfl) (by kernel_rfl) (by kernel_rfl) Qs4 (fun φ1 w1 hφ1 hd1=>?_)
  obtain⟨k16,hk_k16,h⟩:=jko h
  refine wjn (τ:=(List (List Qaa))×(List Qa1)×(List Int)×Int) (fun t=>k16 t=some r) (fun ⟨y12,y13,y14,y15⟩=>⟨mk 45 [(6,.ref 1 1 0 0),(7,.ref 2 1 0 0)],[(Q7t p0),Qtn,(.own 1 [[I 0]]),(.own 1 (y12.map Qag)),(.own 4 (y13.map Qat)),(.own 1 (y14.map Qac)),(Zaj p0 p1 p2 y15)]⟩) (fun t h=>?_) ?_
  ·subst hk_k16
   obtain⟨y12,y13,y14,y15⟩:=t
   refine wxz<|Qai ?_
   obtain rfl:=osi h
   exact⟨_,(mto (n:=45) (l':=[(6,.ref 0 1 0 0),(7,.ref 1 1 0 0)]) (own':=[(.own 1 [[.ref 2 7 0 0]]),(.own 1 [[(I ((-1)))]]),(Zaj p0 p1 p2 y15),(.own 1 (y12.map Qag)),(.own 4 (y13.map Qat)),(.own 1 (y14.map Qac))]) [(6,.ref 1 1 0 0),(7,.ref 2 1 0 0)] [1,2,6,3,4,5] [Qtn,(.own 1 [[(I ((-1)))]]),(Zaj p0 p1 p2 y15),(.own 1 (y12.map Qag)),(.own 4 (y13.map Qat)),(.own 1 (y14.map Qac))] hq (prr (prr pn)) (qb (lc (.rn (rqr rfl)) ln) (qb (lc rwl ln) (qb (lc (rnd Qan) (lc (rnd Qab) (lc (.rn (Qav rfl)) (lc (.rn (Qav rfl)) (lc (.rn (Qav rfl)) (lc (rnd Qal) (lc rwl ln))))))) (qc (spr Qak) (qc (spr Qa2) (qc (spr Qah) qn))))))),Qm0 (vs:=[.ref 2 7 0 0,I (-1)]) ⟨Qbv (n:=0) (m:=1) (j:=0) (i:=0) (xs:=[[.ref 2 7 0 0]]) (by kernel_rfl) (by kernel_rfl) Qpz (by decide) rfl (nle rfl) rfl,Qbv (n:=1) (m:=1) (j:=0) (i:=0) (xs:=[[I (-1)]]) (by kernel_rfl) (by kernel_rfl) ti3 (by decide) rfl (nle rfl) rfl,tv⟩ rfl (NLt.tup _ (nlc (NLt.ref _ _ _ _ (by decide)) (nlc (NLt.of0 nll) nl0))) (by kernel_rfl) (Qcf (Qiu (nlc (NLt.ref _ _ _ _ (by decide)) nl0)) (Qcf (Qiu (nlc (NLt.of0 nll) nl0)) (Qcf (Qiu (nlc (NLt.of0 (nld Qan _)) (nlc (NLt.of0 (nld Qab _)) (nlc (NLt.own _ _ _ _ (by decide)) (nlc (NLt.own _ _ _ _ (by decide)) (nlc (NLt.own _ _ _ _ (by decide)) (nlc (NLt.of0 (nld Qal _)) (nlc (NLt.of0 nll) nl0)))))))) (Qcf (Qgz Qak _) (Qcf (Qgz Qa2 _) (Qcf (Qgz Qah _) Ql9))))))⟩
  ·skip
   refine wx tbk [(2,rp _ _)] ⟨alq 7 Qae p0.Elements underlying40,tv⟩<|Qao ?_
   refine wmr (mto (n:=45) (l':=[(1,(.dat 1 (p1.map Qac))),(6,.ref 1 1 0 0),(7,.ref 2 1 0 0),(27,(Qw9 p0)),(28,(I ((p0.Elements.length:Int)))),(29,I 0)]) (own':=[(Q7t p0),Qtn,(.own 1 [[I 0]]),(.own 1 (((List.replicate (p0.Elements.length:Int).toNat ([])):List (List Qaa)).map Qag)),(.own 4 (((List.replicate (p0.Elements.length:Int).toNat (⟨0,0,0,0⟩:Qa1)):List Qa1).map Qat)),(.own 1 (p1.map Qac)),(Zjz p0 p1 p2)]) [(1,(.dat 1 (p1.map Qac))),(6,.ref 1 1 0 0),(7,.ref 2 1 0 0),(27,(Qw9 p0)),(28,(I ((p0.Elements.length:Int)))),(29,I 0)] [0,1,2,3,4,5,6] [(Q7t p0),Qtn,(.own 1 [[I 0]]),(Zpk p0),(Zpj p0),(.own 1 (p1.map Qac)),(Zjz p0 p1 p2)] hφ1 (pc (rnd Qah) (prr (prr (pc (rnd Qab) (pw (pw pn)))))) (qb (lc (rnd Qan) (lc (rnd Qab) ln)) (qb (lc (.rn (rqr rfl)) ln) (qb (lc rwl ln) (qc (spr Qak) (qc (spr Qa2) (qc (spr Qah) (qb (lc (rnd Qan) (lc (rnd Qab) (lc (.rn (Qav rfl)) (lc (.rn (Qav rfl)) (lc (.rn (Qav rfl)) (lc (rnd Qal) (lc rwl ln))))))) qn)))))))) ?_
   refine Qbl (τ:=Int×(List (List Qaa))×(List Qa1)×(List Int)×Int) (fun n t=>Qdv N p0 p1 p2 k16 n t.1 t.2.1 t.2.2.1 t.2.2.2.1 t.2.2.2.2=some r) (fun ⟨y17,y18,y19,y20,y21⟩=>⟨mk 45 [(1,(.dat 1 (p1.map Qac))),(6,.ref 1 1 0 0),(7,.ref 2 1 0 0),(27,(Qw9 p0)),(28,(I ((p0.Elements.length:Int)))),(29,I y17)],[(Q7t p0),Qtn,(.own 1 [[I 0]]),(Quy y18),(Qux y19),(.own 1 (y20.map Qac)),(Quz p0 p1 p2 y21)]⟩) (fun t h=>by rw[Qdv] at h;cases h) (fun n27 ih t h=>?_) N (0,List.replicate (p0.Elements.length:Int).toNat ([]),List.replicate (p0.Elements.length:Int).toNat (⟨0,0,0,0⟩:Qa1),p1,0) h
   obtain⟨y17,y18,y19,y20,y21⟩:=t
   rw[Qdv] at h
   skip
   refine wxz<|wsq ?_
   refine bfe h (fun hc28 h=>?_) fun hc28 h=>?_
   ·refine wft hc28<|Qam<|thn<|wsq<|Qao ?_
    obtain⟨x29,hg30,h⟩:=bno h
    obtain⟨hi31,hj32⟩:=gsm hg30
    refine wx tbk [(1,rp _ _)] ⟨aiq underlying40 Qkd Qae hi31 hj32,tv⟩ ?_
    obtain⟨x33,hg34,h⟩:=bno h
    obtain⟨hi35,hj36⟩:=gsm hg34
    obtain⟨x38,hf37,h⟩:=bno h
    obtain⟨x40,hf39,h⟩:=bno h
    rcases x40 with x41 |x42
    ·replace h:=Zmq h
     refine wy1 tbk [(5,rp _ _),(7,rp _ _),(8,⟨_,_,_,_,false⟩)] ⟨aiq underlying27 ti3 Qac hi35 hj36,apw Zee (Qkf N x29 x33 _ hf37),acq [.ref 6 7 0 0,I y17,I x38] [(Quz p0 p1 p2 y21),(Quy y18),(Qux y19),(.own 1 (y20.map Qac))] [(Zak p0 p1 p2 x41),(.own 1 (x41.2.1.map Qag)),(.own 4 (x41.2.2.1.map Qat)),(.own 1 (x41.2.2.2.map Qac))] (.tup []) [6,3,4,5] Zea (Qnj N y17 x38 p0.Table p0.Elements ((p0.Elements.length:Int).toNat) ((p0.Elements.length:Int).toNat) p1.length p2 y21 y18 y19 y20 _ hf39) (Qbr (rnc (Qa0 rfl) (rncc rn0))) (slc (Qaq (rnc (pld Qan) (rnc (pld Qab) (rnc (Qcs rfl) (rnc (Qcs rfl) (rnc (Qcs rfl) (rnc (pld Qal) (rnc (.plain _ nll) rn0)))))))) (slc (Qba Qak) (slc (Qba Qa2) (slc (Qba Qah) Qas)))) (slc (Qaq (rnc (pld Qan) (rnc (pld Qab) (rnc (Qcz rfl) (rnc (Qcz rfl) (rnc (Qcz rfl) (rnc (pld Qal) (rnc (.plain _ nll) rn0)))))))) (slc (Qba Qak) (slc (Qba Qa2) (slc (Qba Qah) Qas)))) (.plain _ (NLt.tup _ nl0)),tv⟩<|bln<|thn<|wxz1<|thn ?_
     exact arm (mto (n:=45) [(1,(.dat 1 (p1.map Qac))),(6,.ref 1 1 0 0),(7,.ref 2 1 0 0),(27,(Qw9 p0)),(28,(I ((p0.Elements.length:Int)))),(29,(I (w64 (y17+1))))] [0,1,2,3,4,5,6] [(Q7t p0),Qtn,(.own 1 [[I 0]]),(.own 1 (x41.2.1.map Qag)),(.own 4 (x41.2.2.1.map Qat)),(.own 1 (x41.2.2.2.map Qac)),(Zak p0 p1 p2 x41)] hφ1 (pc (rnd Qah) (prr (prr (pc (rnd Qab) (pw (pw pn)))))) (qb (lc (rnd Qan) (lc (rnd Qab) ln)) (qb (lc (.rn (rqr rfl)) ln) (qb (lc rwl ln) (qc (spr Qak) (qc (spr Qa2) (qc (spr Qah) (qb (lc (rnd Qan) (lc (rnd Qab) (lc (.rn (Qav rfl)) (lc (.rn (Qav rfl)) (lc (.rn (Qav rfl)) (lc (rnd Qal) (lc rwl ln))))))) qn)))))))) (ih (w64 (y17+1),x41.2.1,x41.2.2.1,x41.2.2.2,x41.1) h)
    ·replace h:=Zmp h
     refine Ze3 8 [rb [(.tmp 6,.ref 1 1 0 0)] [(1,Qtn)] (.ref 6 7 0 0),mv 8 (I y17),rb [(.tmp 9,.ref 7 7 0 0)] [(7,(.own 7 [[(K .u8 x29.Kind),(.dat 2 (x29.From.map Qaw)),I x29.Level,I x29.Amount,I x29.Wide,I x29.Narrow,(.dat 1 (x29.Weights.map Qac))]]))] (Qys x29),mv 1 (.dat 1 (p1.map Qac)),mv 8 (I y17),rp [(.tmp 37,(.dat 1 (p1.map Qac))),(.tmp 38,I y17)] (.dptr (Qac x33) 0),rp [(.tmp 39,(.dptr (Qac x33) 0))] (I x33),rp [fu 74,(.tmp 36,(Qys x29)),(.tmp 40,I x33)] (I x38),⟨[fu 97,(.tmp 34,.ref 6 7 0 0),(.tmp 35,I y17),(.tmp 41,I x38),(.tmp 36,(Qys x29)),(.tmp 37,(.dat 1 (p1.map Qac))),(.tmp 38,I y17),(.tmp 39,(.dptr (Qac x33) 0)),(.tmp 40,I x33)],[(6,(Quz p0 p1 p2 y21)),(3,(Quy y18)),(4,(Qux y19)),(5,(.own 1 (y20.map Qac)))],.any,[(6,.dead),(3,.dead),(4,.dead),(5,.dead)],false⟩] (by exact⟨by kernel_rfl,by kernel_rfl⟩) rfl (by kernel_rfl) rfl (PStep.to (by rfl) (PStep.more (rd':=[(.tmp 36,(Qys x29)),(.tmp 37,(.dat 1 (p1.map Qac))),(.tmp 38,I y17),(.tmp 39,(.dptr (Qac x33) 0)),(.tmp 40,I x33)]) (Q37 (first:=[]) (cap:=[]) (vs:=[.ref 6 7 0 0,I y17,I x38]) (σr:=[(Quz p0 p1 p2 y21),(Quy y18),(Qux y19),(.own 1 (y20.map Qac))]) [6,3,4,5] rfl Zea (Qni N y17 x38 p0.Table p0.Elements ((p0.Elements.length:Int).toNat) ((p0.Elements.length:Int).toNat) p1.length p2 y21 y18 y19 y20 _ hf39) rfl (Qbr (rnc (Qa0 rfl) (rncc rn0))) (slc (Qaq (rnc (pld Qan) (rnc (pld Qab) (rnc (Qcs rfl) (rnc (Qcs rfl) (rnc (Qcs rfl) (rnc (pld Qal) (rnc (.plain _ nll) rn0)))))))) (slc (Qba Qak) (slc (Qba Qa2) (slc (Qba Qah) Qas)))) rfl rfl rfl))) (⟨fun _ _=>ald rfl Qpz (by decide) rfl (nle rfl) rfl,fun _ _=>amv rfl,fun _ _=>ald rfl Qkd (by decide) rfl (nle rfl) rfl,fun _ _=>amv rfl,fun _ _=>amv rfl,fun _ _=>aiq underlying27 ti3 Qac hi35 hj36,fun _ _=>ald_ rfl ti3 (by decide) (nle rfl) rfl,fun _ _=>apw Zee (Qkf N x29 x33 _ hf37),fun _ h=>absurd rfl h,tv⟩) ?_ (by kernel_rfl) (by kernel_rfl) (by kernel_rfl)
     obtain rfl:=osi h
     exact⟨_,[[(.lit (.pointer none))],[I x42]],rfl,(Qr0 x42),(Q6k (nlc nll nl0) (Q6k (nlc nll nl0) Zm2)),by kernel_rfl,_,(mto (n:=45) (l':=[(6,.ref 0 1 0 0),(7,.ref 1 1 0 0)]) (own':=[Zpl,(.own 1 [[I x42]])]) [(6,.ref 1 1 0 0),(7,.ref 2 1 0 0)] [1,2] [Zpl,(.own 1 [[I x42]])] hq (prr (prr pn)) (qb (lc rwl ln) (qb (lc rwl ln) qn))),Qm0 (vs:=[(.lit (.pointer none)),I x42]) ⟨Qbv (n:=0) (m:=1) (j:=0) (i:=0) (xs:=[[(.lit (.pointer none))]]) (by kernel_rfl) (by kernel_rfl) Qpz (by decide) rfl (nle rfl) rfl,Qbv (n:=1) (m:=1) (j:=0) (i:=0) (xs:=[[I x42]]) (by kernel_rfl) (by kernel_rfl) ti3 (by decide) rfl (nle rfl) rfl,tv⟩ rfl (NLt.tup _ (nlc (NLt.of0 nll) (nlc (NLt.of0 nll) nl0))) (by kernel_rfl) (Qcf (Qiu (nlc (NLt.of0 nll) nl0)) (Qcf (Qiu (nlc (NLt.of0 nll) nl0)) Ql9))⟩
   ·exact wfn hc28<|Qa7<|Qau<|Qau<|Qa6 rfl<|thn<|⟨(y18,y19,y20,y21),h,(mto (n:=45) [(6,.ref 1 1 0 0),(7,.ref 2 1 0 0)] [0,1,2,3,4,5,6] [(Q7t p0),Qtn,(.own 1 [[I 0]]),(Quy y18),(Qux y19),(.own 1 (y20.map Qac)),(Quz p0 p1 p2 y21)] hφ1 (prr (prr pn)) (qb (lc (rnd Qan) (lc (rnd Qab) ln)) (qb (lc (.rn (rqr rfl)) ln) (qb (lc rwl ln) (qc (spr Qak) (qc (spr Qa2) (qc (spr Qah) (qb (lc (rnd Qan) (lc (rnd Qab) (lc (.rn (Qav rfl)) (lc (.rn (Qav rfl)) (lc (.rn (Qav rfl)) (lc (rnd Qal) (lc rwl ln))))))) qn))))))))⟩
theorem Qmz (N:Nat) (p0:GNet) (p1:List Int) (p2:List Qaa) (r:Int) (h:Qgd N p0 p1 p2=some (.inl r)):Spec prog 58 [(Zfo p0),(.dat 1 (p1.map Qac)),(Q0q p2)] [] (.tup [(.lit (.pointer none)),I r]) [(.own 1 [[(.lit (.pointer none))]]),(.own 1 [[I r]])]:=Qnk N p0 p1 p2 _ h
theorem Qmy (N:Nat) (p0:GNet) (p1:List Int) (p2:List Qaa) (r:(Int×Int×(List (List Qaa))×(List Qa1)×(List Int))) (h:Qgd N p0 p1 p2=some (.inr r)):Spec prog 58 [(Zfo p0),(.dat 1 (p1.map Qac)),(Q0q p2)] [] (.tup [.ref 2 7 0 0,I r.1]) [(.own 1 [[.ref 2 7 0 0]]),(.own 1 [[I r.1]]),(.own 7 [[(.dat 5 (p0.Table.map Qap)),(.dat 7 (p0.Elements.map Qae)),(.own 3 1 (0) ((p0.Elements.length:Int).toNat)),(.own 4 4 (0) ((p0.Elements.length:Int).toNat)),(.own 5 1 (0) p1.length),(.dat 4 (p2.map Qad)),I r.2.1]]),(.own 1 (r.2.2.1.map Qag)),(.own 4 (r.2.2.2.1.map Qat)),(.own 1 (r.2.2.2.2.map Qac))]:=Qnk N p0 p1 p2 _ h
def Qzm (N:Nat) (p0:GNet) (p1:List Int) (p2:List Qaa):Option (Qe5×Int×Int):=
  (Qqu N p0 p1 p2).bind fun x11=>
  bif (x11 != 0) then
   some ((⟨[],[],[]⟩:Qe5),0,x11)
  else
   (Qgd N p0 p1 p2).bind (
    Sum.elim (fun x15=>
      bif (decide (x15≥0)) then
       some ((⟨[],[],[]⟩:Qe5),x15,11)
      else
       none)
    (fun x17=>
      bif (decide (x17.1≥0)) then
       some ((⟨[],[],[]⟩:Qe5),x17.1,11)
      else
       chk (decide ((p0.Elements.length:Int).toNat≤x17.2.2.1.length))<|
       chk (decide ((p0.Elements.length:Int).toNat≤x17.2.2.2.1.length))<|
       chk (decide (p1.length≤x17.2.2.2.2.length))<|
       some ((⟨x17.2.2.1.take ((p0.Elements.length:Int).toNat),x17.2.2.2.1.take ((p0.Elements.length:Int).toNat),x17.2.2.2.2.take p1.length⟩:Qe5),0,0)))
def Zlo (p0:GNet):AV:=.dat 5 (p0.Table.map Qap)
def Zln (p0:GNet):AV:=.dat 7 (p0.Elements.map Qae)
def Zpm (p0:GNet):AV:=.agg [(Zlo p0),(Zln p0)]
def Zlk (p2:List Qaa):AV:=.dat 4 (p2.map Qad)
def Zam:Slot:=.own 3 [[(.dat 1 ((((⟨[],[],[]⟩:Qe5).Out):List (List Qaa)).map Qag)),(.dat 4 ((((⟨[],[],[]⟩:Qe5).Lost):List Qa1).map Qat)),(.dat 1 ((((⟨[],[],[]⟩:Qe5).State):List Int).map Qac))]]
def Zll:Slot:=.own 3 [[nilS,nilS,nilS]]
def Q5a:AV:=.dat 1 (((⟨[],[],[]⟩:Qe5).Out:List (List Qaa)).map Qag)
def Q49:AV:=.dat 4 (((⟨[],[],[]⟩:Qe5).Lost:List Qa1).map Qat)
def Q48:AV:=.dat 1 (((⟨[],[],[]⟩:Qe5).State:List Int).map Qac)
def Zal:AV:=.agg [Q5a,Q49,Q48]
def Zsf:Slot:=.own 1 [[(.lit (.pointer none))]]
def Zfp:Slot:=.own 1 [[(.ref 4 7 (0) 0)]]
def Q0r (p0:GNet) (p1:List Int) (p2:List Qaa) (x17:(Int×Int×(List (List Qaa))×(List Qa1)×(List Int))):Slot:=.own 7 [[(Zlo p0),(Zln p0),(.own 5 1 (0) ((p0.Elements.length:Int).toNat)),(.own 6 4 (0) ((p0.Elements.length:Int).toNat)),(.own 7 1 (0) p1.length),(Zlk p2),(I x17.2.1)]]
def Qq9 (x17:(Int×Int×(List (List Qaa))×(List Qa1)×(List Int))) (p0:GNet):AV:=.dat 1 ((x17.2.2.1.take ((p0.Elements.length:Int).toNat):List (List Qaa)).map Qag)
def Zlm (p0:GNet):Slot:=.own 2 [[(Zlo p0),(Zln p0)]]
def Qxk (x17:(Int×Int×(List (List Qaa))×(List Qa1)×(List Int))) (p0:GNet):AV:=.dat 4 ((x17.2.2.2.1.take ((p0.Elements.length:Int).toNat):List Qa1).map Qat)
def Zj2 (x17:(Int×Int×(List (List Qaa))×(List Qa1)×(List Int))) (p0:GNet) (p1:List Int):AV:=.dat 1 (((⟨x17.2.2.1.take ((p0.Elements.length:Int).toNat),x17.2.2.2.1.take ((p0.Elements.length:Int).toNat),x17.2.2.2.2.take p1.length⟩:Qe5).Out:List (List Qaa)).map Qag)
def Zj1 (x17:(Int×Int×(List (List Qaa))×(List Qa1)×(List Int))) (p0:GNet) (p1:List Int):AV:=.dat 4 (((⟨x17.2.2.1.take ((p0.Elements.length:Int).toNat),x17.2.2.2.1.take ((p0.Elements.length:Int).toNat),x17.2.2.2.2.take p1.length⟩:Qe5).Lost:List Qa1).map Qat)
def Zj0 (x17:(Int×Int×(List (List Qaa))×(List Qa1)×(List Int))) (p0:GNet) (p1:List Int):AV:=.dat 1 (((⟨x17.2.2.1.take ((p0.Elements.length:Int).toNat),x17.2.2.2.1.take ((p0.Elements.length:Int).toNat),x17.2.2.2.2.take p1.length⟩:Qe5).State:List Int).map Qac)
theorem Q38 (N:Nat) (p0:GNet) (p1:List Int) (p2:List Qaa) (r:(Qe5×Int×Int)) (h:Qzm N p0 p1 p2=some r):Spec prog 16 [(.agg (Qgw p0)),(.dat 1 (p1.map Qac)),(.dat 4 (p2.map Qad))] [] (.tup [(.agg [(.dat 1 (r.1.Out.map Qag)),(.dat 4 (r.1.Lost.map Qat)),(.dat 1 (r.1.State.map Qac))]),(I r.2.1),(I r.2.2)]) []:=by
  refine sF func16 0 fun _ _ _ hq hd0=>?_
  unfold Qzm at h
  refine wxz<|wsq ?_
  obtain⟨x11,hf10,h⟩:=bno h
  refine wx tbk [(3,rp _ _)] ⟨apw Zn7 (Qxe N p0 p1 p2 _ hf10),tv⟩<|wxz ?_
  refine bfe h (fun hc12 h=>?_) fun hc12 h=>?_
  ·refine wft hc12<|wx tbk [(0,rp _ _)] ⟨Qaz (vs:=[]) rfl ts34 tz34 rfl (by rfl) rfl,tv⟩ ?_
   refine wmr (mto (n:=35) (l':=[(6,.ref 0 3 0 0),(7,I 0),(8,I x11)]) (own':=[Zam]) [(6,.ref 1 3 0 0),(7,I 0),(8,I x11)] [1] [Zll] hq (prr (pw (pw pn))) (qb (lc (.nil _) (lc (.nil _) (lc (.nil _) ln))) qn))<|Qai<|Qaj ?_
   obtain rfl:=osi h
   exact⟨_,Mor.rfl,fie [Zal,I 0,I x11] ⟨Qbv (n:=0) (m:=3) (j:=0) (i:=0) (xs:=[[Q5a,Q49,Q48]]) (by kernel_rfl) (by kernel_rfl) ti34 (by decide) rfl (nle rfl) rfl,rot,rot,tv⟩⟩
  ·refine wfn hc12<|Qam<|thn ?_
   obtain⟨x14,hf13,h⟩:=bno h
   rcases x14 with x15 |x17
   ·replace h:=Zmq h
    refine wx tbk [(3,⟨_,_,_,_,false⟩)] ⟨acq [(Zpm p0),(.dat 1 (p1.map Qac)),(Zlk p2)] [] [Zsf,(.own 1 [[I x15]])] (.tup [(.lit (.pointer none)),I x15]) [2,3] Qz8 (Qmz N p0 p1 p2 _ hf13) (Qbr (rnc (.plain _ (NLt.agg _ (nlc (nld Qan _) (nlc (nld Qab _) nl0)))) (rnc (pld Qah) (rnc (pld Qal) rn0)))) Qas (slc (Qaq (rnc (.plain _ nll) rn0)) (slc (Qaq (rnc (.plain _ nll) rn0)) Qas)) (.plain _ (NLt.tup _ (nlcc nl0))),tv⟩<|wsq<|wxz ?_
    refine bfe h (fun hc16 h=>?_) fun hc16 h=>?_
    ·refine wft hc16<|wx tbk [(0,rp _ _)] ⟨Qaz (vs:=[]) rfl ts34 tz34 rfl (by rfl) rfl,tv⟩ ?_
     refine wmr (mto (n:=35) (l':=[(6,.ref 0 3 0 0),(7,I x15),(8,I 11)]) (own':=[Zam]) [(6,.ref 1 3 0 0),(7,I x15),(8,I 11)] [1] [Zll] hq (prr (pw (pw pn))) (qb (lc (.nil _) (lc (.nil _) (lc (.nil _) ln))) qn))<|Qai<|Qaj ?_
     obtain rfl:=osi h
     exact⟨_,Mor.rfl,fie [Zal,I x15,I 11] ⟨Qbv (n:=0) (m:=3) (j:=0) (i:=0) (xs:=[[Q5a,Q49,Q48]]) (by kernel_rfl) (by kernel_rfl) ti34 (by decide) rfl (nle rfl) rfl,rot,rot,tv⟩⟩
    ·refine wfn hc16<|Qam<|thn ?_
     cases h
   ·replace h:=Zmp h
    refine wx tbk [(3,⟨_,_,_,_,false⟩)] ⟨acq [(Zpm p0),(.dat 1 (p1.map Qac)),(Zlk p2)] [] [Zfp,(.own 1 [[I x17.1]]),(Q0r p0 p1 p2 x17),(.own 1 (x17.2.2.1.map Qag)),(.own 4 (x17.2.2.2.1.map Qat)),(.own 1 (x17.2.2.2.2.map Qac))] (.tup [.ref 4 7 0 0,I x17.1]) [2,3,4,5,6,7] Qz8 (Qmy N p0 p1 p2 _ hf13) (Qbr (rnc (.plain _ (NLt.agg _ (nlc (nld Qan _) (nlc (nld Qab _) nl0)))) (rnc (pld Qah) (rnc (pld Qal) rn0)))) Qas (slc (Qaq (rnc (Qbb rfl) rn0)) (slc (Qaq (rnc (.plain _ nll) rn0)) (slc (Qaq (rnc (pld Qan) (rnc (pld Qab) (rnc (Qcz rfl) (rnc (Qcz rfl) (rnc (Qcz rfl) (rnc (pld Qal) (rnc (.plain _ nll) rn0)))))))) (slc (Qba Qak) (slc (Qba Qa2) (slc (Qba Qah) Qas)))))) (Zk3 (rnc (Qbb rfl) (rnc (.plain _ nll) rn0))),tv⟩<|wsq<|wxz ?_
    refine bfe h (fun hc18 h=>?_) fun hc18 h=>?_
    ·refine wft hc18<|wx tbk [(0,rp _ _)] ⟨Qaz (vs:=[]) rfl ts34 tz34 rfl (by rfl) rfl,tv⟩ ?_
     refine wmr (mto (n:=35) (l':=[(6,.ref 0 3 0 0),(7,I x17.1),(8,I 11)]) (own':=[Zam]) [(6,.ref 1 3 0 0),(7,I x17.1),(8,I 11)] [1] [Zll] hq (prr (pw (pw pn))) (qb (lc (.nil _) (lc (.nil _) (lc (.nil _) ln))) qn))<|Qai<|Qaj ?_
     obtain rfl:=osi h
     exact⟨_,Mor.rfl,fie [Zal,I x17.1,I 11] ⟨Qbv (n:=0) (m:=3) (j:=0) (i:=0) (xs:=[[Q5a,Q49,Q48]]) (by kernel_rfl) (by kernel_rfl) ti34 (by decide) rfl (nle rfl) rfl,rot,rot,tv⟩⟩
    ·refine wfn hc18<|Qam<|thn ?_
     refine wx tbk [(1,rb [(.tmp 31,.ref 4 7 0 0)] [(4,(Q0r p0 p1 p2 x17))] (.ref 4 7 0 0))] ⟨Qbk rfl,tv⟩ ?_
     obtain⟨hz19,h⟩:=cko h
     refine wmr (Qv7 (n:=35) (mp:=3) (m:=1) (xs:=x17.2.2.1.map Qag) (c:=[(.own 5 1 (0) ((p0.Elements.length:Int).toNat)),(.own 6 4 (0) ((p0.Elements.length:Int).toNat)),(.own 7 1 (0) p1.length)]) (l':=[(6,.ref 1 3 0 0),(7,I 0),(8,I 0)]) (c':=[(Qq9 x17 p0),(.own 6 4 (0) ((p0.Elements.length:Int).toNat)),(.own 7 1 (0) p1.length)]) (own':=[(Zlm p0),(.own 3 [[(Qq9 x17 p0),(.own 6 4 (0) ((p0.Elements.length:Int).toNat)),(.own 7 1 (0) p1.length)]]),Zfp,(.own 1 [[I x17.1]]),(Q0r p0 p1 p2 x17),.dead,(.own 4 (x17.2.2.2.1.map Qat)),(.own 1 (x17.2.2.2.2.map Qac))]) 5 1 [(6,.ref 1 3 0 0),(7,I 0),(8,I 0)] (by kernel_rfl) (by kernel_rfl) (by kernel_rfl) (by kernel_rfl) ⟨(Qlr hz19),(.same _),(.same _),tv⟩ ⟨rfl,(.same _),rfl,(.same _),rfl,(.same _),tv⟩ (by kernel_rfl)) ?_
     obtain⟨hz20,h⟩:=cko h
     refine wmr (Qv7 (n:=35) (mp:=3) (m:=4) (xs:=x17.2.2.2.1.map Qat) (c:=[(Qq9 x17 p0),(.own 6 4 (0) ((p0.Elements.length:Int).toNat)),(.own 7 1 (0) p1.length)]) (l':=[(6,.ref 1 3 0 0),(7,I 0),(8,I 0)]) (c':=[(Qq9 x17 p0),(Qxk x17 p0),(.own 7 1 (0) p1.length)]) (own':=[(Zlm p0),(.own 3 [[(Qq9 x17 p0),(Qxk x17 p0),(.own 7 1 (0) p1.length)]]),Zfp,(.own 1 [[I x17.1]]),(Q0r p0 p1 p2 x17),.dead,.dead,(.own 1 (x17.2.2.2.2.map Qac))]) 6 1 [(6,.ref 1 3 0 0),(7,I 0),(8,I 0)] (by kernel_rfl) (by kernel_rfl) (by kernel_rfl) (by kernel_rfl) ⟨(.same _),(Qlr hz20),(.same _),tv⟩ ⟨rfl,(.same _),rfl,(.same _),rfl,(.same _),tv⟩ (by kernel_rfl)) ?_
     obtain⟨hz21,h⟩:=cko h
     refine wmr (Qv7 (n:=35) (mp:=3) (m:=1) (xs:=x17.2.2.2.2.map Qac) (c:=[(Qq9 x17 p0),(Qxk x17 p0),(.own 7 1 (0) p1.length)]) (l':=[(6,.ref 1 3 0 0),(7,I 0),(8,I 0)]) (c':=[(Qq9 x17 p0),(Qxk x17 p0),(.dat 1 ((x17.2.2.2.2.take p1.length:List Int).map Qac))]) (own':=[(Zlm p0),(.own 3 [[(Qq9 x17 p0),(Qxk x17 p0),(.dat 1 ((x17.2.2.2.2.take p1.length:List Int).map Qac))]]),Zfp,(.own 1 [[I x17.1]]),(Q0r p0 p1 p2 x17),.dead,.dead,.dead]) 7 1 [(6,.ref 1 3 0 0),(7,I 0),(8,I 0)] (by kernel_rfl) (by kernel_rfl) (by kernel_rfl) (by kernel_rfl) ⟨(.same _),(.same _),(Qlr hz21),tv⟩ ⟨rfl,(.same _),rfl,(.same _),rfl,(.same _),tv⟩ (by kernel_rfl)) ?_
     refine wmr (mto (n:=35) (l':=[(6,.ref 0 3 0 0),(7,I 0),(8,I 0)]) (own':=[(.own 3 [[(.dat 1 ((((⟨x17.2.2.1.take ((p0.Elements.length:Int).toNat),x17.2.2.2.1.take ((p0.Elements.length:Int).toNat),x17.2.2.2.2.take p1.length⟩:Qe5).Out):List (List Qaa)).map Qag)),(.dat 4 ((((⟨x17.2.2.1.take ((p0.Elements.length:Int).toNat),x17.2.2.2.1.take ((p0.Elements.length:Int).toNat),x17.2.2.2.2.take p1.length⟩:Qe5).Lost):List Qa1).map Qat)),(.dat 1 ((((⟨x17.2.2.1.take ((p0.Elements.length:Int).toNat),x17.2.2.2.1.take ((p0.Elements.length:Int).toNat),x17.2.2.2.2.take p1.length⟩:Qe5).State):List Int).map Qac))]])]) [(6,.ref 1 3 0 0),(7,I 0),(8,I 0)] [1] [(.own 3 [[(Qq9 x17 p0),(Qxk x17 p0),(.dat 1 ((x17.2.2.2.2.take p1.length:List Int).map Qac))]])] hq (prr (pw (pw pn))) (qb (lc (rnd Qak) (lc (rnd Qa2) (lc (rnd Qah) ln))) qn))<|Qai ?_
     obtain rfl:=osi h
     exact⟨_,Mor.rfl,fie [(.agg [(Zj2 x17 p0 p1),(Zj1 x17 p0 p1),(Zj0 x17 p0 p1)]),I 0,I 0] ⟨Qbv (n:=0) (m:=3) (j:=0) (i:=0) (xs:=[[(Zj2 x17 p0 p1),(Zj1 x17 p0 p1),(Zj0 x17 p0 p1)]]) (by kernel_rfl) (by kernel_rfl) ti34 (by decide) rfl (nle rfl) rfl,rot,rot,tv⟩⟩
def Qqx (_N:Nat):Option (GNet×(List Qaa)):=
  some ((⟨[(⟨100,101,419,2676,150⟩:GRow),(⟨150,476,632,2746,300⟩:GRow),(⟨200,1555,852,2793,600⟩:GRow)],[(⟨1,[],2,0,1000,1000000,[]⟩:Qaf),(⟨3,[(⟨0,0⟩:Qbn)],2,2000,1000,1000000,[]⟩:Qaf),(⟨4,[(⟨1,0⟩:Qbn)],0,100,1000,1000000,[]⟩:Qaf)]⟩:GNet),[(⟨1000,852000,250000,50⟩:Qaa)])
def Zpi:AV:=.agg [(I (100)),(I (101)),(I (419)),(I (2676)),(I (150))]
def Zph:AV:=.agg [(I (150)),(I (476)),(I (632)),(I (2746)),(I (300))]
def Zpf:AV:=.agg [(I (200)),(I (1555)),(I (852)),(I (2793)),(I (600))]
def Zfm:AV:=.dat 5 (([(⟨100,101,419,2676,150⟩:GRow),(⟨150,476,632,2746,300⟩:GRow),(⟨200,1555,852,2793,600⟩:GRow)]:List GRow).map Qap)
def Zsc:AV:=.agg [(K .u8 (1)),nilS,(I (2)),(I (0)),(I (1000)),(I (1000000)),nilS]
def Zpe:AV:=.agg [(I (0)),(I (0))]
def Zfl:AV:=.dat 2 (([(⟨0,0⟩:Qbn)]:List Qbn).map Qaw)
def Zsb:AV:=.agg [(K .u8 (3)),Zfl,(I (2)),(I (2000)),(I (1000)),(I (1000000)),nilS]
def Zpd:AV:=.agg [(I (1)),(I (0))]
def Zfk:AV:=.dat 2 (([(⟨1,0⟩:Qbn)]:List Qbn).map Qaw)
def Zpg:AV:=.agg [(K .u8 (4)),Zfk,(I (0)),(I (100)),(I (1000)),(I (1000000)),nilS]
def Q47:AV:=.dat 7 (([(⟨1,[],2,0,1000,1000000,[]⟩:Qaf),(⟨3,[(⟨0,0⟩:Qbn)],2,2000,1000,1000000,[]⟩:Qaf),(⟨4,[(⟨1,0⟩:Qbn)],0,100,1000,1000000,[]⟩:Qaf)]:List Qaf).map Qae)
def Q99:AV:=.dat 1 (([]:List Int).map Qac)
def Zjw:AV:=.agg [(K .u8 (1)),(.dat 2 (([]:List Qbn).map Qaw)),(I (2)),(I (0)),(I (1000)),(I (1000000)),Q99]
def Zjv:AV:=.agg [(K .u8 (3)),Zfl,(I (2)),(I (2000)),(I (1000)),(I (1000000)),Q99]
def Zju:AV:=.agg [(K .u8 (4)),Zfk,(I (0)),(I (100)),(I (1000)),(I (1000000)),Q99]
def Zjt:AV:=.agg [(I (1000)),(I (852000)),(I (250000)),(I (50))]
def Zjs:AV:=.dat 4 (([(⟨1000,852000,250000,50⟩:Qaa)]:List Qaa).map Qad)
theorem Qxg (N:Nat) (r:(GNet×(List Qaa))) (h:Qqx N=some r):Spec prog 55 [] [] (.tup [(.agg (Qgw r.1)),(.dat 4 (r.2.map Qad))]) []:=by
  refine sA func55 0 fun _ _ _ hq hd0=>?_
  unfold Qqx at h
  refine wxz<|wx tbk [(0,rp _ _),(1,rp _ _),(2,rp _ _),(3,rp [(.tmp 4,Zpi),(.tmp 5,Zph),(.tmp 6,Zpf)] Zfm)] ⟨Qaz (vs:=[I 100,I 101,I 419,I 2676,I 150]) rfl Zgl Qy9 rfl (by rfl) rfl,Qaz (vs:=[I 150,I 476,I 632,I 2746,I 300]) rfl Zgl Qy9 rfl (by rfl) rfl,Qaz (vs:=[I 200,I 1555,I 852,I 2793,I 600]) rfl Zgl Qy9 rfl (by rfl) rfl,Qbm (vs:=[Zpi,Zph,Zpf]) rfl underlying39 Que Qy9 rfl (by decide) rfl (by decide) (by rfl) (by rfl) (by rfl) rfl,tv⟩ ?_
  refine wx tbk [(0,rp _ _),(1,rp _ _),(2,rp [(.tmp 9,Zpe)] Zfl),(3,rp _ _),(4,rp _ _),(5,rp [(.tmp 12,Zpd)] Zfk),(6,rp _ _),(7,rp [(.tmp 8,Zsc),(.tmp 11,Zsb),(.tmp 14,Zpg)] Q47)] ⟨Qaz (vs:=[(K .u8 (1)),I 2,I 1000,I 1000000]) rfl Zgm Q1d rfl (by rfl) rfl,Qaz (vs:=[]) rfl Zb7 Qud rfl (by rfl) rfl,Qbm (vs:=[Zpe]) rfl underlying116 Qql Qud rfl (by decide) rfl (by decide) (by rfl) (by rfl) (by rfl) rfl,Qaz (vs:=[(K .u8 (3)),Zfl,I 2,I 2000,I 1000,I 1000000]) rfl Zgm Q1d rfl (by rfl) rfl,Qaz (vs:=[I 1]) rfl Zb7 Qud rfl (by rfl) rfl,Qbm (vs:=[Zpd]) rfl underlying116 Qql Qud rfl (by decide) rfl (by decide) (by rfl) (by rfl) (by rfl) rfl,Qaz (vs:=[(K .u8 (4)),Zfk,I 100,I 1000,I 1000000]) rfl Zgm Q1d rfl (by rfl) rfl,awk (rd':=[(.tmp 8,Zjw),(.tmp 11,Zjv),(.tmp 14,Zju)]) ⟨rfl,(Less.agg ⟨lrf,Less.nil,lrf,lrf,lrf,lrf,Less.nil,tv⟩),rfl,(Less.agg ⟨lrf,lrf,lrf,lrf,lrf,lrf,Less.nil,tv⟩),rfl,(Less.agg ⟨lrf,lrf,lrf,lrf,lrf,lrf,Less.nil,tv⟩),tv⟩ (Qbm (vs:=[Zjw,Zjv,Zju]) rfl underlying40 Qkd Q1d rfl (by decide) rfl (by decide) (by rfl) (by rfl) (by rfl) rfl),tv⟩ ?_
  refine wx tbk [(2,rp _ _),(3,rp _ _),(4,rp [(.tmp 19,Zjt)] Zjs)] ⟨Qaz (vs:=[Zfm,Q47]) rfl ts42 tz42 rfl (by rfl) rfl,Qaz (vs:=[I 1000,I 852000,I 250000,I 50]) rfl ts63 tz63 rfl (by rfl) rfl,Qbm (vs:=[Zjt]) rfl underlying45 ti63 tz63 rfl (by decide) rfl (by decide) (by rfl) (by rfl) (by rfl) rfl,tv⟩<|Qai ?_
  obtain rfl:=osi h
  exact fie [(.agg [Zfm,Q47]),Zjs] ⟨Qbv (n:=0) (m:=2) (j:=0) (i:=0) (xs:=[[Zfm,Q47]]) (by kernel_rfl) (by kernel_rfl) ti42 (by decide) rfl (nle rfl) rfl,rot,tv⟩
def Qhc (N:Nat):Option Bool:=
  (Qqx 2000 ).bind fun x2=>
  (Qs5 N (⟨x2.1.Table,x2.1.Elements⟩:GNet)).bind fun x4=>
  (Qzm N (⟨x2.1.Table,x2.1.Elements⟩:GNet) ([0,0,0]) x2.2).bind fun x6=>
  bif (x4.2==0) then
   bif (x6.2.2==0) then
    bif ((x4.1.length:Int)==2) then
     (getI x4.1 1).bind fun x10=>
     bif (([x10.Element,x10.Outlet]:List Int)==[2,1]) then
      bif ((x6.1.Out.length:Int)==3) then
       (getI x6.1.Out 2).bind fun x16=>
       bif ((x16.length:Int)==2) then
        bif ((x6.1.Lost.length:Int)==3) then
         (getI x16 0).bind fun x22=>
         bif (([x22.Mass,x22.Heat,x22.Silica,x22.Gas]:List Int)==[271,542596,12150,50]) then
          (getI x16 1).bind fun x27=>
          bif (([x27.Mass,x27.Heat,x27.Silica,x27.Gas]:List Int)==[729,307404,109350,0]) then
           (getI x6.1.Lost 1).bind fun x32=>
           bif (x32.Heat==2000) then
            (getI x6.1.Lost 2).bind fun x37=>
            some (x37.Scale==128500)
           else
            some false
          else
           some false
         else
          some false
        else
         some false
       else
        some false
      else
       some false
     else
      some false
    else
     some false
   else
    some false
  else
   some false
def Zsd:AV:=.dat 1 (([0,0,0]:List Int).map Qac)
def Zfn (x6:(Qe5×Int×Int)):AV:=.dat 1 (x6.1.Out.map Qag)
def Zlj (x6:(Qe5×Int×Int)):AV:=.dat 4 (x6.1.Lost.map Qat)
def Zai (x4:((List Qbn)×Int)):List (Nat×Rec):=[(2,rp [((.tmp 26),(B ((x4.2==0))))] (B true))]
def Zah x4 (x6:(Qe5×Int×Int)):=hcat (Zai x4) [(6,rp [((.tmp 30),(B ((x6.2.2==0))))] (B true)),(8,rp [((.tmp 31),(B true)),((.tmp 32),(.dat 2 (x4.1.map Qaw)))] (I ((x4.1.length:Int))))]
def Zag x4 x6 (x10:Qbn):=hcat (Zah x4 x6) [(11,rp [((.tmp 35),(B (((x4.1.length:Int)==2))))] (B true)),(13,rp [((.tmp 36),(B true)),((.tmp 37),(.dat 2 (x4.1.map Qaw))),ci 1] (.dptr (Qaw x10) 0)),(15,rp [((.tmp 36),(B true)),ci 2,ci 1] (.agg [(I (2)),(I (1))])),(16,rp [((.tmp 36),(B true)),((.tmp 39),(.agg [(I x10.Element),(I x10.Outlet)])),((.tmp 40),(.agg [(I (2)),(I (1))]))] (B ((([x10.Element,x10.Outlet]:List Int)==[2,1]))))]
def Zaf x4 x6 x10:=hcat (Zag x4 x6 x10) [(18,rp [((.tmp 42),(B ((([x10.Element,x10.Outlet]:List Int)==[2,1]))))] (B true)),(21,rp [((.tmp 43),(B true)),((.tmp 45),(Zfn x6))] (I ((x6.1.Out.length:Int))))]
def Zae x4 x6 x10 (x16:List Qaa):=hcat (Zaf x4 x6 x10) [(24,rp [((.tmp 48),(B (((x6.1.Out.length:Int)==3))))] (B true)),(27,rp [((.tmp 49),(B true)),((.tmp 51),(Zfn x6)),ci 2] (.dptr (Qag x16) 0)),(29,rp [((.tmp 49),(B true)),((.tmp 53),(.dat 4 (x16.map Qad)))] (I ((x16.length:Int))))]
def Zad x4 x6 x10 x16:=hcat (Zae x4 x6 x10 x16) [(32,rp [((.tmp 56),(B (((x16.length:Int)==2))))] (B true)),(35,rp [((.tmp 57),(B true)),((.tmp 59),(Zlj x6))] (I ((x6.1.Lost.length:Int))))]
def Zjy:AV:=.agg [(I (271)),(I (542596)),(I (12150)),(I (50))]
def Zac x4 x6 x10 x16 (x22:Qaa):=hcat (Zad x4 x6 x10 x16) [(38,rp [((.tmp 62),(B (((x6.1.Lost.length:Int)==3))))] (B true)),(41,rp [((.tmp 63),(B true)),((.tmp 65),(Zfn x6)),ci 2] (.dptr (Qag x16) 0)),(43,rp [((.tmp 63),(B true)),((.tmp 67),(.dat 4 (x16.map Qad))),ci 0] (.dptr (Qad x22) 0)),(45,rp [((.tmp 63),(B true)),ci 271,ci 542596,ci 12150,ci 50] Zjy),(46,rp [((.tmp 63),(B true)),((.tmp 69),(.agg [(I x22.Mass),(I x22.Heat),(I x22.Silica),(I x22.Gas)])),((.tmp 70),Zjy)] (B ((([x22.Mass,x22.Heat,x22.Silica,x22.Gas]:List Int)==[271,542596,12150,50]))))]
def Zjx:AV:=.agg [(I (729)),(I (307404)),(I (109350)),(I (0))]
def Zab x4 x6 x10 x16 x22 (x27:Qaa):=hcat (Zac x4 x6 x10 x16 x22) [(48,rp [((.tmp 72),(B ((([x22.Mass,x22.Heat,x22.Silica,x22.Gas]:List Int)==[271,542596,12150,50]))))] (B true)),(51,rp [((.tmp 73),(B true)),((.tmp 75),(Zfn x6)),ci 2] (.dptr (Qag x16) 0)),(53,rp [((.tmp 73),(B true)),((.tmp 77),(.dat 4 (x16.map Qad))),ci 1] (.dptr (Qad x27) 0)),(55,rp [((.tmp 73),(B true)),ci 729,ci 307404,ci 109350] Zjx),(56,rp [((.tmp 73),(B true)),((.tmp 79),(.agg [(I x27.Mass),(I x27.Heat),(I x27.Silica),(I x27.Gas)])),((.tmp 80),Zjx)] (B ((([x27.Mass,x27.Heat,x27.Silica,x27.Gas]:List Int)==[729,307404,109350,0]))))]
def Zaa x4 x6 x10 x16 x22 x27 (x32:Qa1):=hcat (Zab x4 x6 x10 x16 x22 x27) [(58,rp [((.tmp 82),(B ((([x27.Mass,x27.Heat,x27.Silica,x27.Gas]:List Int)==[729,307404,109350,0]))))] (B true)),(61,rp [((.tmp 83),(B true)),((.tmp 85),(Zlj x6)),ci 1] (.dptr (Qat x32) 0))]
theorem Qht (N:Nat) (r:Bool) (h:Qhc N=some r):Spec prog 15 [] [] (B r) []:=by
  refine sA func15 0 fun _ _ _ hq hd0=>?_
  unfold Qhc at h
  refine wxz ?_
  obtain⟨x2,hf1,h⟩:=bno h
  refine wx tbk [(0,rp _ _)] ⟨apw Zn8 (Qxg 2000  _ hf1),tv⟩ ?_
  obtain⟨x4,hf3,h⟩:=bno h
  refine wx tbk [(1,rp _ _)] ⟨apw Zod (Qzl N (⟨x2.1.Table,x2.1.Elements⟩:GNet) _ hf3),tv⟩ ?_
  obtain⟨x6,hf5,h⟩:=bno h
  refine wx tbk [(1,rp [ci 0,ci 0,ci 0] Zsd),(3,rp _ _)] ⟨Qbm (vs:=[I 0,I 0,I 0]) rfl underlying27 ti3 tz3 rfl (by decide) rfl (by decide) (by rfl) (by rfl) (by rfl) rfl,apw Zon (Q38 N (⟨x2.1.Table,x2.1.Elements⟩:GNet) ([0,0,0]) x2.2 _ hf5),tv⟩ ?_
  refine bfe h (fun hb7 h=>?_) fun hb7 h=>?_
  ·refine hpre (A:=(Zai x4)) ⟨asb hb7 (amv rfl),tv⟩ fun q1_=>?_
   refine bfe h (fun hb8 h=>?_) fun hb8 h=>?_
   ·refine hpre (A:=(Zah x4 x6)) (hap q1_ ⟨asb hb8 (amv rfl),ag_ (alq 2 Qaw x4.1 underlying116),tv⟩) fun q2_=>?_
    refine bfe h (fun hb9 h=>?_) fun hb9 h=>?_
    ·obtain⟨x10,hg11,h⟩:=bno h
     obtain⟨hi12,hj13⟩:=gsm hg11
     refine hpre (A:=(Zag x4 x6 x10)) (hap q2_ ⟨asb hb9 (amv rfl),ag_ (aiq underlying116 Qql Qaw hi12 hj13),ag_ (Qaz (vs:=[I 2,I 1]) rfl Zb7 Qud rfl (by rfl) rfl),ag_ (Qsl (ls:=[x10.Element,x10.Outlet]) (ks:=[2,1]) rfl rfl Qwj (by kernel_rfl) rfl rfl),tv⟩) fun q3_=>?_
     refine bfe h (fun hb14 h=>?_) fun hb14 h=>?_
     ·refine hpre (A:=(Zaf x4 x6 x10)) (hap q3_ ⟨asb hb14 (amv rfl),ag_ (alq 1 Qag x6.1.Out underlying31),tv⟩) fun q4_=>?_
      refine bfe h (fun hb15 h=>?_) fun hb15 h=>?_
      ·obtain⟨x16,hg17,h⟩:=bno h
       obtain⟨hi18,hj19⟩:=gsm hg17
       refine hpre (A:=(Zae x4 x6 x10 x16)) (hap q4_ ⟨asb hb15 (amv rfl),ag_ (aiq underlying31 ti45 Qag hi18 hj19),ag_ (alq 4 Qad x16 underlying45),tv⟩) fun q5_=>?_
       refine bfe h (fun hb20 h=>?_) fun hb20 h=>?_
       ·refine hpre (A:=(Zad x4 x6 x10 x16)) (hap q5_ ⟨asb hb20 (amv rfl),ag_ (alq 4 Qat x6.1.Lost underlying32),tv⟩) fun q6_=>?_
        refine bfe h (fun hb21 h=>?_) fun hb21 h=>?_
        ·obtain⟨x22,hg23,h⟩:=bno h
         obtain⟨hi24,hj25⟩:=gsm hg23
         refine hpre (A:=(Zac x4 x6 x10 x16 x22)) (hap q6_ ⟨asb hb21 (amv rfl),ag_ (aiq underlying31 ti45 Qag hi18 hj19),ag_ (aiq underlying45 ti63 Qad hi24 hj25),ag_ (Qaz (vs:=[I 271,I 542596,I 12150,I 50]) rfl ts63 tz63 rfl (by rfl) rfl),ag_ (Qsl (ls:=[x22.Mass,x22.Heat,x22.Silica,x22.Gas]) (ks:=[271,542596,12150,50]) rfl rfl Zry (by kernel_rfl) rfl rfl),tv⟩) fun q7_=>?_
         refine bfe h (fun hb26 h=>?_) fun hb26 h=>?_
         ·obtain⟨x27,hg28,h⟩:=bno h
          obtain⟨hi29,hj30⟩:=gsm hg28
          refine hpre (A:=(Zab x4 x6 x10 x16 x22 x27)) (hap q7_ ⟨asb hb26 (amv rfl),ag_ (aiq underlying31 ti45 Qag hi18 hj19),ag_ (aiq underlying45 ti63 Qad hi29 hj30),ag_ (Qaz (vs:=[I 729,I 307404,I 109350]) rfl ts63 tz63 rfl (by rfl) rfl),ag_ (Qsl (ls:=[x27.Mass,x27.Heat,x27.Silica,x27.Gas]) (ks:=[729,307404,109350,0]) rfl rfl Zry (by kernel_rfl) rfl rfl),tv⟩) fun q8_=>?_
          refine bfe h (fun hb31 h=>?_) fun hb31 h=>?_
          ·obtain⟨x32,hg33,h⟩:=bno h
           obtain⟨hi34,hj35⟩:=gsm hg33
           refine hpre (A:=(Zaa x4 x6 x10 x16 x22 x27 x32)) (hap q8_ ⟨asb hb31 (amv rfl),ag_ (aiq underlying32 ti82 Qat hi34 hj35),tv⟩) fun q9_=>?_
           refine bfe h (fun hb36 h=>?_) fun hb36 h=>?_
           ·obtain⟨x37,hg38,h⟩:=bno h
            obtain⟨hi39,hj40⟩:=gsm hg38
            refine wx tbk (hcat (Zaa x4 x6 x10 x16 x22 x27 x32) [(66,rp [(.tmp 90,(B ((x32.Heat==2000))))] (B true)),(69,rp [(.tmp 91,B true),(.tmp 93,(Zlj x6)),ci 2] (.dptr (Qat x37) 0))]) (hap q9_ ⟨asb hb36 (amv rfl),ag_ (aiq underlying32 ti82 Qat hi39 hj40),tv⟩)<|Qai ?_
            obtain rfl:=osi h
            exact fend ⟨[(B ((x37.Scale==128500)))],⟨rot,tv⟩,rfl⟩ nll
           ·exact wx tbk (hcat (Zaa x4 x6 x10 x16 x22 x27 x32) [(66,rp [(.tmp 90,(B ((x32.Heat==2000))))] (B false))]) (hap q9_ ⟨asb hb36 (amv rfl),tv⟩)<|Qai<|frb h
          ·exact wx tbk (hcat (Zab x4 x6 x10 x16 x22 x27) [(58,rp [(.tmp 82,(B ((([x27.Mass,x27.Heat,x27.Silica,x27.Gas]:List Int)==[729,307404,109350,0]))))] (B false))]) (hap q8_ ⟨asb hb31 (amv rfl),tv⟩)<|Qai<|frb h
         ·exact wx tbk (hcat (Zac x4 x6 x10 x16 x22) [(48,rp [(.tmp 72,(B ((([x22.Mass,x22.Heat,x22.Silica,x22.Gas]:List Int)==[271,542596,12150,50]))))] (B false))]) (hap q7_ ⟨asb hb26 (amv rfl),tv⟩)<|Qai<|frb h
        ·exact wx tbk (hcat (Zad x4 x6 x10 x16) [(38,rp [(.tmp 62,(B (((x6.1.Lost.length:Int)==3))))] (B false))]) (hap q6_ ⟨asb hb21 (amv rfl),tv⟩)<|Qai<|frb h
       ·exact wx tbk (hcat (Zae x4 x6 x10 x16) [(32,rp [(.tmp 56,(B (((x16.length:Int)==2))))] (B false))]) (hap q5_ ⟨asb hb20 (amv rfl),tv⟩)<|Qai<|frb h
      ·exact wx tbk (hcat (Zaf x4 x6 x10) [(24,rp [(.tmp 48,(B (((x6.1.Out.length:Int)==3))))] (B false))]) (hap q4_ ⟨asb hb15 (amv rfl),tv⟩)<|Qai<|frb h
     ·exact wx tbk (hcat (Zag x4 x6 x10) [(18,rp [(.tmp 42,(B ((([x10.Element,x10.Outlet]:List Int)==[2,1]))))] (B false))]) (hap q3_ ⟨asb hb14 (amv rfl),tv⟩)<|Qai<|frb h
    ·exact wx tbk (hcat (Zah x4 x6) [(11,rp [(.tmp 35,(B (((x4.1.length:Int)==2))))] (B false))]) (hap q2_ ⟨asb hb9 (amv rfl),tv⟩)<|Qai<|frb h
   ·exact wx tbk (hcat (Zai x4) [(6,rp [(.tmp 30,(B ((x6.2.2==0))))] (B false))]) (hap q1_ ⟨asb hb8 (amv rfl),tv⟩)<|Qai<|frb h
  ·exact wx tbk [(2,rp [(.tmp 26,(B ((x4.2==0))))] (B false))] ⟨asb hb7 (amv rfl),tv⟩<|Qai<|frb h
end
section
def Qd2 (_N:Nat) (p0 p1 p2:Int):Option Bool:=
  bif (decide (p0≥p1)) then
   some (decide (p0≤p2))
  else
   some false
theorem Qc5 (N:Nat) (p0 p1 p2:Int) (r:Bool) (h:Qd2 N p0 p1 p2=some r):Spec prog 25 [(I p0),(I p1),(I p2)] [] (B r) []:=by
  refine sA func25 0 fun _ _ _ hq hd0=>?_
  unfold Qd2 at h
  refine wxz ?_
  refine bfe h (fun hb1 h=>?_) fun hb1 h=>?_
  ·refine wx tbk [(3,rp [(.tmp 9,(B ((decide (p0≥p1)))))] (B true))] ⟨asb hb1 (amv rfl),tv⟩<|Qai ?_
   obtain rfl:=osi h
   exact fend ⟨[(B ((decide (p0≤p2))))],⟨rot,tv⟩,rfl⟩ nll
  ·exact wx tbk [(3,rp [(.tmp 9,(B ((decide (p0≥p1)))))] (B false))] ⟨asb hb1 (amv rfl),tv⟩<|Qai<|frb h
def Qdz (N:Nat) (p0:List GRow) (k1:Unit→Option Bool):Nat→Int→Option Bool
  |0,_=>none
  |n5+1,y3=>
    bif (decide (y3<(p0.length:Int))) then
     (getI p0 y3).bind fun x7=>
     Qbc (fun _=>
       bif (decide (y3>0)) then
        (getI p0 (w64 (y3-1))).bind fun x13=>
        bif (decide (x7.T≤x13.T)) then
         some false
        else
         bif (decide (x7.P≤x13.P)) then
          some false
         else
          bif (decide (x7.Liquid≤x13.Liquid)) then
           some false
          else
           bif (decide (x7.Silica<x13.Silica)) then
            some false
           else
            Qdz N p0 k1 n5 (w64 (y3+1))
       else
        Qdz N p0 k1 n5 (w64 (y3+1))) fun k11:Unit→Option Bool=>
     (Qd2 N x7.T 0 400).bind fun x22=>
     bif (!x22) then
      some false
     else
      (Qd2 N x7.P 1 10000).bind fun x25=>
      bif (!x25) then
       some false
      else
       (Qd2 N x7.Liquid 0 4000).bind fun x28=>
       bif (!x28) then
        some false
       else
        (Qd2 N x7.Silica 0 2000).bind fun x31=>
        bif (!x31) then
         some false
        else
         bif (decide (x7.Vapour≤x7.Liquid)) then
          some false
         else
          bif (decide (x7.Vapour>4000)) then
           some false
          else
           k11 ()
    else
     k1 ()
def Qla (N:Nat) (p0:List GRow):Option Bool:=
  Qbc (fun _=>
    bif (decide ((p0.length:Int)≥2)) then
     some (decide ((p0.length:Int)≤20))
    else
     some false) fun k1:Unit→Option Bool=>
  Qdz N p0 k1 N 0
def Zjr (x7:GRow):Slot:=.own 5 [[(I x7.T),(I x7.P),(I x7.Liquid),(I x7.Vapour),(I x7.Silica)]]
def Q98 (y3:Int) (p0:List GRow) (x13:GRow):List (Nat×Rec):=[(2,rp [((.tmp 50),(B ((decide (y3>0)))))] (B true)),(8,rp [((.tmp 51),(B true)),((.tmp 54),(.dat 5 (p0.map Qap))),((.tmp 56),(I (w64 (y3-1))))] (.dptr (Qap x13) 0))]
def Q97 y3 p0 x13 (x7:GRow):=hcat (Q98 y3 p0 x13) [(12,rp [((.tmp 51),(B true)),((.tmp 60),(B ((decide (x7.T≤x13.T)))))] (B false)),(18,rp [((.tmp 61),(B false)),((.tmp 64),(.dat 5 (p0.map Qap))),((.tmp 66),(I (w64 (y3-1))))] (.dptr (Qap x13) 0))]
def Q96 y3 p0 x13 x7:=hcat (Q97 y3 p0 x13 x7) [(23,rp [((.tmp 51),(B true)),((.tmp 71),(B ((decide (x7.P≤x13.P)))))] (B false)),(29,rp [((.tmp 72),(B false)),((.tmp 75),(.dat 5 (p0.map Qap))),((.tmp 77),(I (w64 (y3-1))))] (.dptr (Qap x13) 0))]
def Q95 (x7:GRow) (x22:Bool):List (Nat×Rec):=[(2,rp [fu 25,((.tmp 16),(I x7.T)),ci 0,ci 400] (B x22))]
def Q94 x7 x22 (x25:Bool):=hcat (Q95 x7 x22) [(4,rp [((.tmp 18),(B ((!x22))))] (B false)),(7,rp [((.tmp 19),(B false)),fu 25,((.tmp 21),(I x7.P)),ci 1,ci 10000] (B x25))]
def Q93 x7 x22 x25 (x28:Bool):=hcat (Q94 x7 x22 x25) [(10,rp [((.tmp 24),(B ((!x25))))] (B false)),(13,rp [((.tmp 25),(B false)),fu 25,((.tmp 27),(I x7.Liquid)),ci 0,ci 4000] (B x28))]
def Q46 x7 x22 x25 x28 (x31:Bool):=hcat (Q93 x7 x22 x25 x28) [(16,rp [((.tmp 30),(B ((!x28))))] (B false)),(19,rp [((.tmp 31),(B false)),fu 25,((.tmp 33),(I x7.Silica)),ci 0,ci 2000] (B x31))]
theorem Qvs (N:Nat) (p0:List GRow) (r:Bool) (h:Qla N p0=some r):Spec prog 69 [(.dat 5 (p0.map Qap))] [] (B r) []:=by
  refine sA func69 0 fun _ _ _ hq hd0=>?_
  unfold Qla at h
  refine wxz ?_
  obtain⟨k1,hk_k1,h⟩:=jko h
  refine wjn (τ:=Unit) (fun t=>k1 t=some r) (fun _=>⟨mk 103 [(0,(.dat 5 (p0.map Qap)))],[]⟩) (fun t h=>?_) ?_
  ·subst hk_k1
   refine bfe h (fun hb2 h=>?_) fun hb2 h=>?_
   ·refine wx tbk [(1,rp _ _),(3,rp [(.tmp 97,(B ((decide ((p0.length:Int)≥2)))))] (B true)),(5,rp [(.tmp 98,B true),(.tmp 99,(.dat 5 (p0.map Qap)))] (I ((p0.length:Int))))] ⟨alq 5 Qap p0 underlying23,asb hb2 (amv rfl),ag_ (alq 5 Qap p0 underlying23),tv⟩<|Qai ?_
    obtain rfl:=osi h
    exact fend ⟨[(B ((decide ((p0.length:Int)≤20))))],⟨rot,tv⟩,rfl⟩ nll
   ·exact wx tbk [(1,rp _ _),(3,rp [(.tmp 97,(B ((decide ((p0.length:Int)≥2)))))] (B false))] ⟨alq 5 Qap p0 underlying23,asb hb2 (amv rfl),tv⟩<|Qai<|frb h
  ·skip
   refine wxz<|Qao ?_
   refine wmr (mto (n:=103) (l':=[(0,(.dat 5 (p0.map Qap))),(3,I 0)]) (own':=[]) [(0,(.dat 5 (p0.map Qap))),(3,I 0)] [] [] hq (pc (rnd Qan) (pw pn)) qn) ?_
   refine Qbl (τ:=Int) (fun n t=>Qdz N p0 k1 n t=some r) (fun y3=>⟨mk 103 [(0,(.dat 5 (p0.map Qap))),(3,I y3)],[]⟩) (fun t h=>by rw[Qdz] at h;cases h) (fun n5 ih y3 h=>?_) N (0) h
   rw[Qdz] at h
   skip
   refine wsq<|wx tbk [(2,rp _ _)] ⟨alq 5 Qap p0 underlying23,tv⟩ ?_
   refine bfe h (fun hc6 h=>?_) fun hc6 h=>?_
   ·refine wft hc6<|Qam<|thn<|wsq<|Qao ?_
    obtain⟨x7,hg8,h⟩:=bno h
    obtain⟨hi9,hj10⟩:=gsm hg8
    refine wx tbk [(2,rp _ _)] ⟨aiq underlying23 Quf Qap hi9 hj10,tv⟩ ?_
    obtain⟨k11,hk_k11,h⟩:=jko h
    refine wjn (τ:=Unit) (fun t=>k11 t=some r) (fun _=>⟨mk 103 [(0,(.dat 5 (p0.map Qap))),(3,I y3),(4,.ref 0 5 0 0)],[(Zjr x7)]⟩) (fun t h=>?_) ?_
    ·subst hk_k11
     refine bfe h (fun hb12 h=>?_) fun hb12 h=>?_
     ·obtain⟨x13,hg14,h⟩:=bno h
      obtain⟨hi15,hj16⟩:=gsm hg14
      refine hpre (A:=(Q98 y3 p0 x13)) ⟨asb hb12 (amv rfl),ag_ (aiq underlying23 Quf Qap hi15 hj16),tv⟩ fun q1_=>?_
      refine bfe h (fun hb17 h=>?_) fun hb17 h=>?_
      ·exact wxd tbk (hcat (Q98 y3 p0 x13) [(12,rp [(.tmp 51,B true),(.tmp 60,(B ((decide (x7.T≤x13.T)))))] (B true))]) (hap q1_ ⟨asb hb17 (ag_ (amv rfl)),tv⟩)<|wtr<|wxz<|Qai<|Qar<|Qaj<|Qaj<|Qar<|Qaj<|frb h
      ·refine hpre (A:=(Q97 y3 p0 x13 x7)) (hap q1_ ⟨asb hb17 (ag_ (amv rfl)),ag_ (aiq underlying23 Quf Qap hi15 hj16),tv⟩) fun q2_=>?_
       refine bfe h (fun hb18 h=>?_) fun hb18 h=>?_
       ·exact wxd tbk (hcat (Q97 y3 p0 x13 x7) [(23,rp [(.tmp 51,B true),(.tmp 71,(B ((decide (x7.P≤x13.P)))))] (B true))]) (hap q2_ ⟨asb hb18 (ag_ (amv rfl)),tv⟩)<|wtr<|wxz<|Qai<|Qar<|Qaj<|Qaj<|Qar<|Qaj<|frb h
       ·refine hpre (A:=(Q96 y3 p0 x13 x7)) (hap q2_ ⟨asb hb18 (ag_ (amv rfl)),ag_ (aiq underlying23 Quf Qap hi15 hj16),tv⟩) fun q3_=>?_
        refine bfe h (fun hb19 h=>?_) fun hb19 h=>?_
        ·exact wxd tbk (hcat (Q96 y3 p0 x13 x7) [(34,rp [(.tmp 51,B true),(.tmp 82,(B ((decide (x7.Liquid≤x13.Liquid)))))] (B true))]) (hap q3_ ⟨asb hb19 (ag_ (amv rfl)),tv⟩)<|wtr<|wxz<|Qai<|Qar<|Qaj<|Qaj<|Qar<|Qaj<|frb h
        ·refine wxd tbk (hcat (Q96 y3 p0 x13 x7) [(34,rp [(.tmp 51,B true),(.tmp 82,(B ((decide (x7.Liquid≤x13.Liquid)))))] (B false)),(40,rp [(.tmp 83,B false),(.tmp 86,(.dat 5 (p0.map Qap))),(.tmp 88,(I (w64 (y3-1))))] (.dptr (Qap x13) 0))]) (hap q3_ ⟨asb hb19 (ag_ (amv rfl)),ag_ (aiq underlying23 Quf Qap hi15 hj16),tv⟩) ?_
         refine bfe h (fun hc20 h=>?_) fun hc20 h=>?_
         ·exact wft hc20<|wxz<|Qai<|Qar<|Qaj<|Qaj<|Qar<|Qaj<|frb h
         ·exact wfn hc20<|Qam<|bln<|thn<|wxz1<|thn<|arm (mto (n:=103) [(0,(.dat 5 (p0.map Qap))),(3,(I (w64 (y3+1))))] [] [] hq (pc (rnd Qan) (pw pn)) qn) (ih (w64 (y3+1)) h)
     ·exact wxd tbk [(2,rp [(.tmp 50,(B ((decide (y3>0)))))] (B false))] ⟨asb hb12 (amv rfl),tv⟩<|wfa<|Qam<|bln<|thn<|wxz1<|thn<|arm (mto (n:=103) [(0,(.dat 5 (p0.map Qap))),(3,(I (w64 (y3+1))))] [] [] hq (pc (rnd Qan) (pw pn)) qn) (ih (w64 (y3+1)) h)
    ·skip
     obtain⟨x22,hf21,h⟩:=bno h
     refine hpre (A:=(Q95 x7 x22)) ⟨apv Qij (Qc5 N x7.T 0 400 _ hf21) (nlcc (nlc nll nl0)) nll,tv⟩ fun q4_=>?_
     refine bfe h (fun hb23 h=>?_) fun hb23 h=>?_
     ·refine wx tbk (hcat (Q95 x7 x22) [(4,rp [(.tmp 18,(B ((!x22))))] (B true))]) (hap q4_ ⟨asb hb23 (amv rfl),tv⟩)<|wtr<|wxz<|Qai<|Qaj<|Qar<|Qaj<|Qaj<|Qar<|Qaj ?_
      exact frb h
     ·obtain⟨x25,hf24,h⟩:=bno h
      refine hpre (A:=(Q94 x7 x22 x25)) (hap q4_ ⟨asb hb23 (amv rfl),ag_ (apv Qij (Qc5 N x7.P 1 10000 _ hf24) (nlcc (nlc nll nl0)) nll),tv⟩) fun q5_=>?_
      refine bfe h (fun hb26 h=>?_) fun hb26 h=>?_
      ·refine wx tbk (hcat (Q94 x7 x22 x25) [(10,rp [(.tmp 24,(B ((!x25))))] (B true))]) (hap q5_ ⟨asb hb26 (amv rfl),tv⟩)<|wtr<|wxz<|Qai<|Qaj<|Qar<|Qaj<|Qaj<|Qar<|Qaj ?_
       exact frb h
      ·obtain⟨x28,hf27,h⟩:=bno h
       refine hpre (A:=(Q93 x7 x22 x25 x28)) (hap q5_ ⟨asb hb26 (amv rfl),ag_ (apv Qij (Qc5 N x7.Liquid 0 4000 _ hf27) (nlcc (nlc nll nl0)) nll),tv⟩) fun q6_=>?_
       refine bfe h (fun hb29 h=>?_) fun hb29 h=>?_
       ·refine wx tbk (hcat (Q93 x7 x22 x25 x28) [(16,rp [(.tmp 30,(B ((!x28))))] (B true))]) (hap q6_ ⟨asb hb29 (amv rfl),tv⟩)<|wtr<|wxz<|Qai<|Qaj<|Qar<|Qaj<|Qaj<|Qar<|Qaj ?_
        exact frb h
       ·obtain⟨x31,hf30,h⟩:=bno h
        refine hpre (A:=(Q46 x7 x22 x25 x28 x31)) (hap q6_ ⟨asb hb29 (amv rfl),ag_ (apv Qij (Qc5 N x7.Silica 0 2000 _ hf30) (nlcc (nlc nll nl0)) nll),tv⟩) fun q7_=>?_
        refine bfe h (fun hb32 h=>?_) fun hb32 h=>?_
        ·refine wx tbk (hcat (Q46 x7 x22 x25 x28 x31) [(22,rp [(.tmp 36,(B ((!x31))))] (B true))]) (hap q7_ ⟨asb hb32 (amv rfl),tv⟩)<|wtr<|wxz<|Qai<|Qaj<|Qar<|Qaj<|Qaj<|Qar<|Qaj ?_
         exact frb h
        ·refine bfe h (fun hb33 h=>?_) fun hb33 h=>?_
         ·refine wx tbk (hcat (Q46 x7 x22 x25 x28 x31) [(22,rp [(.tmp 36,(B ((!x31))))] (B false)),(29,rp [(.tmp 43,(B ((decide (x7.Vapour≤x7.Liquid)))))] (B true))]) (hap q7_ ⟨asb hb32 (amv rfl),asb hb33 (amv rfl),tv⟩)<|wtr<|wxz<|Qai<|Qaj<|Qar<|Qaj<|Qaj<|Qar<|Qaj ?_
          exact frb h
         ·refine wx tbk (hcat (Q46 x7 x22 x25 x28 x31) [(22,rp [(.tmp 36,(B ((!x31))))] (B false)),(29,rp [(.tmp 43,(B ((decide (x7.Vapour≤x7.Liquid)))))] (B false))]) (hap q7_ ⟨asb hb32 (amv rfl),asb hb33 (amv rfl),tv⟩) ?_
          refine bfe h (fun hc34 h=>?_) fun hc34 h=>?_
          ·exact wft hc34<|wxz<|Qai<|Qaj<|Qar<|Qaj<|Qaj<|Qar<|Qaj<|frb h
          ·exact wfn hc34<|Qam<|thn<|⟨(),h,(mto (n:=103) [(0,(.dat 5 (p0.map Qap))),(3,I y3),(4,.ref 0 5 0 0)] [0] [(Zjr x7)] hq (pc (rnd Qan) (pw (prr pn))) (qb (lcc (lcc (lc rwl ln))) qn))⟩
   ·exact wfn hc6<|Qa7<|Qau<|Qau<|Qa6 rfl<|thn<|⟨(),h,(mto (n:=103) [(0,(.dat 5 (p0.map Qap)))] [] [] hq (pc (rnd Qan) pn) qn)⟩
def Qe2 (N:Nat) (p0:List GRow) (k2:(List GRow)→Option (List GRow)):Nat→(List GRow)→Int→Option (List GRow)
  |0,_,_=>none
  |n7+1,y3,y4=>
    bif (decide (y4<(p0.length:Int))) then
     (getI p0 y4).bind fun x9=>
     chk (decide ((y3.length+([x9]).length)*40≤140737488355328))<|
     Qe2 N p0 k2 n7 (y3++([x9])) (w64 (y4+1))
    else
     k2 (y3)
def Qle (N:Nat) (p0:List GRow):Option (List GRow):=
  Qbc (fun y1=>
    some y1) fun k2:(List GRow)→Option (List GRow)=>
  Qe2 N p0 k2 N ([]) 0
def Zjq (x9:GRow):AV:=.agg [(I x9.T),(I x9.P),(I x9.Liquid),(I x9.Vapour),(I x9.Silica)]
theorem Qwc (N:Nat) (p0 r:List GRow) (h:Qle N p0=some r):Spec prog 59 [(.dat 5 (p0.map Qap))] [] (.dat 5 (r.map Qap)) []:=by
  refine sA func59 0 fun _ _ _ hq hd0=>?_
  unfold Qle at h
  refine wxz<|wxz ?_
  obtain⟨k2,hk_k2,h⟩:=jko h
  refine wjn (τ:=(List GRow)) (fun t=>k2 t=some r) (fun y1=>⟨mk 41 [(3,(.acc 0 160 5 (y1.map Qap)))],[.tok]⟩) (fun y1 h=>?_) ?_
  ·subst hk_k2
   refine wxz<|Qai ?_
   obtain rfl:=osi h
   exact fie [(.dat 5 (y1.map Qap))] ⟨Qbz (v:=(.acc 0 160 5 (y1.map Qap))) rot Less.acc,tv⟩
  ·skip
   refine wxz<|Qao ?_
   refine wmr (Mor.trans (Qpe 0 160 5 3 (by kernel_rfl) (by kernel_rfl)) (mto (n:=41) (l':=[(0,(.dat 5 (p0.map Qap))),(3,(.acc 0 160 5 ((([]):List GRow).map Qap))),(4,I 0)]) (own':=[.tok]) [(0,(.dat 5 (p0.map Qap))),(3,(.acc 0 160 5 (([]:List GRow).map Qap))),(4,I 0)] [0] [.tok] hq (pc (rnd Qan) (pc (.rn (Qa3 rfl (Qay Qan _))) (pw pn))) (qc .tok qn))) ?_
   refine Qbl (τ:=(List GRow)×Int) (fun n t=>Qe2 N p0 k2 n t.1 t.2=some r) (fun ⟨y3,y4⟩=>⟨mk 41 [(0,(.dat 5 (p0.map Qap))),(3,(.acc 0 160 5 (y3.map Qap))),(4,I y4)],[.tok]⟩) (fun t h=>by rw[Qe2] at h;cases h) (fun n7 ih t h=>?_) N ([],0) h
   obtain⟨y3,y4⟩:=t
   rw[Qe2] at h
   skip
   refine wsq<|wx tbk [(2,rp _ _)] ⟨alq 5 Qap p0 underlying23,tv⟩ ?_
   refine bfe h (fun hc8 h=>?_) fun hc8 h=>?_
   ·refine wft hc8<|Qam<|thn<|wsq<|Qao ?_
    obtain⟨x9,hg10,h⟩:=bno h
    obtain⟨hi11,hj12⟩:=gsm hg10
    obtain⟨ha13,h⟩:=cko h
    refine wy1 tbk [(3,rp _ _),(8,rp _ _),(13,rp _ _),(18,rp _ _),(23,rp _ _),(26,rp _ _),(27,rp [(.tmp 37,(Zjq x9))] (.dat 5 (([x9]:List GRow).map Qap))),(28,⟨[(.tmp 11,(.acc 0 160 5 (y3.map Qap))),(.tmp 38,(.dat 5 (([x9]:List GRow).map Qap)))],[(0,.tok),(1,.unused)],(.acc 1 160 5 ((y3++([x9]):List GRow).map Qap)),[(0,.dead),(1,.tok)],false⟩)] ⟨aiq underlying23 Quf Qap hi11 hj12,aiq underlying23 Quf Qap hi11 hj12,aiq underlying23 Quf Qap hi11 hj12,aiq underlying23 Quf Qap hi11 hj12,aiq underlying23 Quf Qap hi11 hj12,Qaz (vs:=[I x9.T,I x9.P,I x9.Liquid,I x9.Vapour,I x9.Silica]) rfl Zgl Qy9 rfl (by rfl) rfl,Qbm (vs:=[(Zjq x9)]) rfl underlying39 Que Qy9 rfl (by decide) rfl (by decide) (by rfl) (by rfl) (by rfl) rfl,Qc7 rfl underlying39 Zmo (Base.acc _ _) rfl rfl (by rfl) (Qf7 Qap ha13) (Qf6 Qap ha13 (by decide)) (Qf5 Qap) rfl rfl,tv⟩<|bln<|thn<|wxz1<|thn ?_
    exact arm (mto (n:=41) [(0,(.dat 5 (p0.map Qap))),(3,(.acc 1 160 5 ((y3++([x9]):List GRow).map Qap))),(4,(I (w64 (y4+1))))] [1] [.tok] hq (pc (rnd Qan) (pc (.rn (Qa3 rfl (Qay Qan _))) (pw pn))) (qc .tok qn)) (ih (y3++([x9]),w64 (y4+1)) h)
   ·exact wfn hc8<|Qa7<|Qau<|Qau<|Qa6 rfl<|thn<|⟨(y3),h,(mto (n:=41) [(3,(.acc 0 160 5 (y3.map Qap)))] [0] [.tok] hq (pc (.rn (Qa3 rfl (Qay Qan _))) pn) (qc .tok qn))⟩
def Qf1 (N:Nat) (x13:Qaf) (k21:(List Qaf)×(List Qbn)×(List Int)→Option GNet):Nat→Int→(List Qaf)→(List Qbn)→(List Int)→Option GNet
  |0,_,_,_,_=>none
  |n31+1,y23,y24,y25,y26=>
    bif (decide (y23<(x13.From.length:Int))) then
     (getI x13.From y23).bind fun x33=>
     chk (decide ((y25.length+([x33]).length)*16≤140737488355328))<|
     Qf1 N x13 k21 n31 (w64 (y23+1)) y24 (y25++([x33])) y26
    else
     k21 (y24,y25,y26)
def Qf2 (N:Nat) (p0:GNet) (k4:(List Qaf)→Option GNet):Nat→Int→(List Qaf)→Option GNet
  |0,_,_=>none
  |n9+1,y5,y6=>
    bif (decide (y5<(p0.Elements.length:Int))) then
     Qbc (fun y11=>
       Qf2 N p0 k4 n9 (w64 (y5+1)) y11) fun k12:(List Qaf)→Option GNet=>
     (getI p0.Elements y5).bind fun x13=>
     chk (decide ((([]:List Int).length+x13.Weights.length)*8≤140737488355328))<|
     Qbc (fun ⟨y18,y19,y20⟩=>
       chk (decide ((y18.length+([(⟨x13.Kind,y19,x13.Level,x13.Amount,x13.Wide,x13.Narrow,y20⟩:Qaf)]).length)*88≤140737488355328))<|
       k12 (y18++([(⟨x13.Kind,y19,x13.Level,x13.Amount,x13.Wide,x13.Narrow,y20⟩:Qaf)]))) fun k21:(List Qaf)×(List Qbn)×(List Int)→Option GNet=>
     Qf1 N x13 k21 N 0 y6 ([]) (([]:List Int)++x13.Weights)
    else
     k4 (y6)
def Ql0 (N:Nat) (p0:GNet):Option GNet:=
  (Qle N p0.Table).bind fun x2=>
  Qbc (fun y3=>
    some (⟨x2,y3⟩:GNet)) fun k4:(List Qaf)→Option GNet=>
  Qf2 N p0 k4 N 0 ([])
def Zsa (p0:GNet):AV:=.dat 5 (p0.Table.map Qap)
def Zr9 (p0:GNet):AV:=.dat 7 (p0.Elements.map Qae)
def Qt8 (p0:GNet):Slot:=.own 2 [[(Zsa p0),(Zr9 p0)]]
def Q92:AV:=.acc 5 3 1 ((([]:List Int):List Int).map Qac)
def Qyq (x13:Qaf):AV:=.acc 6 3 1 ((([]:List Int)++x13.Weights:List Int).map Qac)
def Q91 (y20:List Int):AV:=.acc 6 3 1 (y20.map Qac)
def Q9z (x13:Qaf) (y19:List Qbn) (y20:List Int):AV:=.dat 7 (([(⟨x13.Kind,y19,x13.Level,x13.Amount,x13.Wide,x13.Narrow,y20⟩:Qaf)]:List Qaf).map Qae)
def Q90 (x13:Qaf) (y19:List Qbn) (y20:List Int):AV:=.agg [(K .u8 x13.Kind),(.dat 2 (y19.map Qaw)),(I x13.Level),(I x13.Amount),(I x13.Wide),(I x13.Narrow),(.dat 1 (y20.map Qac))]
def Zlg (x13:Qaf):AV:=.dat 2 (x13.From.map Qaw)
def Qyr (x13:Qaf):Slot:=.own 7 [[(K .u8 x13.Kind),(Zlg x13),(I x13.Level),(I x13.Amount),(I x13.Wide),(I x13.Narrow),(.dat 1 (x13.Weights.map Qac))]]
def Zlh:AV:=.acc 6 120 2 ((([]):List Qbn).map Qaw)
def Zli:AV:=.acc 8 120 2 (([]:List Qbn).map Qaw)
def Q9y (x13:Qaf) (y25:List Qbn) (y26:List Int):Slot:=.own 7 [[(K .u8 x13.Kind),(.acc 6 120 2 (y25.map Qaw)),(I x13.Level),(I x13.Amount),(I x13.Wide),(I x13.Narrow),(.acc 7 3 1 (y26.map Qac))]]
def Q9x (x33:Qbn):AV:=.agg [(I x33.Element),(I x33.Outlet)]
theorem Qzz (N:Nat) (p0 r:GNet) (h:Ql0 N p0=some r):Spec prog 17 [(.agg (Qgw p0))] [] (.agg (Qgw r)) []:=by
  refine sA func17 0 fun _ _ _ hq hd0=>?_
  unfold Ql0 at h
  refine wxz ?_
  obtain⟨x2,hf1,h⟩:=bno h
  refine wx tbk [(2,rp _ _),(3,rp _ _)] ⟨apw Zn6 (Qwc N p0.Table _ hf1),Qaz (vs:=[(.dat 5 (x2.map Qap))]) rfl ts42 tz42 rfl (by rfl) rfl,tv⟩ ?_
  obtain⟨k4,hk_k4,h⟩:=jko h
  refine wjn (τ:=(List Qaf)) (fun t=>k4 t=some r) (fun y3=>⟨mk 71 [(2,.ref 0 2 0 0),(3,.ref 1 2 0 0)],[(.own 2 [[nilS,nilS]]),(.own 2 [[(.dat 5 (x2.map Qap)),(.acc 2 133 7 (y3.map Qae))]]),.tok]⟩) (fun y3 h=>?_) ?_
  ·subst hk_k4
   refine wxz<|Qai ?_
   obtain rfl:=osi h
   exact fie [(.agg [(.dat 5 (x2.map Qap)),(.dat 7 (y3.map Qae))])] ⟨Qbz (v:=(.agg [(.dat 5 (x2.map Qap)),(.acc 2 133 7 (y3.map Qae))])) (Qbv (n:=0) (m:=2) (j:=0) (i:=0) (xs:=[[(.dat 5 (x2.map Qap)),(.acc 2 133 7 (y3.map Qae))]]) (by kernel_rfl) (by kernel_rfl) ti42 (by decide) rfl (nle rfl) rfl) (Less.agg ⟨lrf,Less.acc,tv⟩),tv⟩
  ·skip
   refine wxz<|Qao ?_
   refine wmr (Mor.trans (Qn4 (n:=3) (ty:=133) (m:=7) (q:=2) (mq:=2) (c:=[(.dat 5 (x2.map Qap)),nilS]) 1 (by kernel_rfl) (by kernel_rfl) (by kernel_rfl) (by decide)) (mto (n:=71) (l':=[(1,.ref 0 2 0 0),(2,.ref 1 2 0 0),(3,.ref 2 2 0 0),(4,I 0)]) (own':=[(Qt8 p0),(.own 2 [[nilS,nilS]]),(.own 2 [[(.dat 5 (x2.map Qap)),(.acc 3 133 7 ((([]):List Qaf).map Qae))]]),.tok]) [(1,.ref 0 2 0 0),(2,.ref 1 2 0 0),(3,.ref 2 2 0 0),(4,I 0)] [0,1,2,3] [(Qt8 p0),(.own 2 [[nilS,nilS]]),(.own 2 [[(.dat 5 (x2.map Qap)),(.acc 3 133 7 (([]:List Qaf).map Qae))]]),.tok] hq (prr (prr (prr (pw pn)))) (qb (lc (rnd Qan) (lc (rnd Qab) ln)) (qb (lcc ln) (qb (lc (rnd Qan) (lc (.rn (Qa3 rfl (Qay Qab _))) ln)) (qc .tok qn)))))) ?_
   refine Qbl (τ:=Int×(List Qaf)) (fun n t=>Qf2 N p0 k4 n t.1 t.2=some r) (fun ⟨y5,y6⟩=>⟨mk 71 [(1,.ref 0 2 0 0),(2,.ref 1 2 0 0),(3,.ref 2 2 0 0),(4,I y5)],[(Qt8 p0),(.own 2 [[nilS,nilS]]),(.own 2 [[(.dat 5 (x2.map Qap)),(.acc 3 133 7 (y6.map Qae))]]),.tok]⟩) (fun t h=>by rw[Qf2] at h;cases h) (fun n9 ih t h=>?_) N (0,[]) h
   obtain⟨y5,y6⟩:=t
   rw[Qf2] at h
   skip
   refine wsq<|wx tbk [(3,rp _ _)] ⟨alq 7 Qae p0.Elements underlying24,tv⟩ ?_
   refine bfe h (fun hc10 h=>?_) fun hc10 h=>?_
   ·refine wft hc10<|Qam<|thn ?_
    obtain⟨k12,hk_k12,h⟩:=jko h
    refine wjn (τ:=(List Qaf)) (fun t=>k12 t=some r) (fun y11=>⟨mk 71 [(1,.ref 0 2 0 0),(2,.ref 1 2 0 0),(3,.ref 2 2 0 0),(4,I y5)],[(Qt8 p0),(.own 2 [[nilS,nilS]]),(.own 2 [[(.dat 5 (x2.map Qap)),(.acc 3 133 7 (y11.map Qae))]]),.tok]⟩) (fun y11 h=>?_) ?_
    ·subst hk_k12
     exact wxz1<|thn<|arm (mto (n:=71) [(1,.ref 0 2 0 0),(2,.ref 1 2 0 0),(3,.ref 2 2 0 0),(4,(I (w64 (y5+1))))] [0,1,2,3] [(Qt8 p0),(.own 2 [[nilS,nilS]]),(.own 2 [[(.dat 5 (x2.map Qap)),(.acc 3 133 7 (y11.map Qae))]]),.tok] hq (prr (prr (prr (pw pn)))) (qb (lc (rnd Qan) (lc (rnd Qab) ln)) (qb (lcc ln) (qb (lc (rnd Qan) (lc (.rn (Qa3 rfl (Qay Qab _))) ln)) (qc .tok qn))))) (ih (w64 (y5+1),y11) h)
    ·skip
     refine Qao ?_
     obtain⟨x13,hg14,h⟩:=bno h
     obtain⟨hi15,hj16⟩:=gsm hg14
     refine wx tbk [(3,rp _ _)] ⟨aiq underlying24 ti59 Qae hi15 hj16,tv⟩ ?_
     obtain⟨ha17,h⟩:=cko h
     refine wxd tbk [(10,⟨[],[(5,.unused)],Q92,[(5,.tok)],false⟩),(13,⟨[(.tmp 34,Q92),(.tmp 36,(.dat 1 (x13.Weights.map Qac)))],[(5,.tok),(6,.unused)],(Qyq x13),[(5,.dead),(6,.tok)],false⟩),(14,rp _ _)] ⟨Qd5 rfl underlying27 ti3 tz3,Qc7 rfl underlying27 te3 (Base.acc _ _) rfl rfl (Qh1 Qac Qf0 _) (Qf7 Qac ha17) (Qf6 Qac ha17 (by decide)) (Qf5 Qac) rfl rfl,Qaz (vs:=[(K .u8 x13.Kind),I x13.Level,I x13.Amount,I x13.Wide,I x13.Narrow,(Qyq x13)]) rfl Zgm Q1d rfl (by rfl) rfl,tv⟩ ?_
     obtain⟨k21,hk_k21,h⟩:=jko h
     refine wjn (τ:=(List Qaf)×(List Qbn)×(List Int)) (fun t=>k21 t=some r) (fun ⟨y18,y19,y20⟩=>⟨mk 71 [(1,.ref 0 2 0 0),(2,.ref 1 2 0 0),(3,.ref 2 2 0 0),(4,I y5),(6,.ref 3 7 0 0)],[(Qt8 p0),(.own 2 [[nilS,nilS]]),(.own 2 [[(.dat 5 (x2.map Qap)),(.acc 4 133 7 (y18.map Qae))]]),(.own 7 [[(K .u8 x13.Kind),(.acc 5 120 2 (y19.map Qaw)),I x13.Level,I x13.Amount,I x13.Wide,I x13.Narrow,(Q91 y20)]]),.tok,.tok,.tok]⟩) (fun t h=>?_) ?_
     ·subst hk_k21
      obtain⟨y18,y19,y20⟩:=t
      obtain⟨ha22,h⟩:=cko h
      refine wx1 tbk [(3,rp [(.tmp 66,(.agg [(K .u8 x13.Kind),(.acc 5 120 2 (y19.map Qaw)),I x13.Level,I x13.Amount,I x13.Wide,I x13.Narrow,(Q91 y20)]))] (Q9z x13 y19 y20)),(4,⟨[(.tmp 65,(.acc 4 133 7 (y18.map Qae))),(.tmp 67,(Q9z x13 y19 y20))],[(4,.tok),(7,.unused)],(.acc 7 133 7 ((y18++([(⟨x13.Kind,y19,x13.Level,x13.Amount,x13.Wide,x13.Narrow,y20⟩:Qaf)]):List Qaf).map Qae)),[(4,.dead),(7,.tok)],false⟩)] ⟨awk (rd':=[(.tmp 66,(Q90 x13 y19 y20))]) ⟨rfl,(Less.agg ⟨lrf,Less.acc,lrf,lrf,lrf,lrf,Less.acc,tv⟩),tv⟩ (Qbm (vs:=[(Q90 x13 y19 y20)]) rfl underlying40 Qkd Q1d rfl (by decide) rfl (by decide) (by rfl) (by rfl) (by rfl) rfl),Qc7 rfl underlying40 Zra (Base.acc _ _) rfl rfl (by rfl) (Qf7 Qae ha22) (Qf6 Qae ha22 (by decide)) (Qf5 Qae) rfl rfl,tv⟩<|bln<|thn ?_
      exact⟨(y18++([(⟨x13.Kind,y19,x13.Level,x13.Amount,x13.Wide,x13.Narrow,y20⟩:Qaf)])),h,(mto (n:=71) [(1,.ref 0 2 0 0),(2,.ref 1 2 0 0),(3,.ref 2 2 0 0),(4,I y5)] [0,1,2,7] [(Qt8 p0),(.own 2 [[nilS,nilS]]),(.own 2 [[(.dat 5 (x2.map Qap)),(.acc 7 133 7 ((y18++([(⟨x13.Kind,y19,x13.Level,x13.Amount,x13.Wide,x13.Narrow,y20⟩:Qaf)]):List Qaf).map Qae))]]),.tok] hq (prr (prr (prr (pw pn)))) (qb (lc (rnd Qan) (lc (rnd Qab) ln)) (qb (lcc ln) (qb (lc (rnd Qan) (lc (.rn (Qa3 rfl (Qay Qab _))) ln)) (qc .tok qn)))))⟩
     ·skip
      refine wxz<|Qao ?_
      refine wmr (Mor.trans (Qn4 (n:=8) (ty:=120) (m:=2) (q:=7) (mq:=7) (c:=[(K .u8 x13.Kind),nilS,I x13.Level,I x13.Amount,I x13.Wide,I x13.Narrow,(Qyq x13)]) 1 (by kernel_rfl) (by kernel_rfl) (by kernel_rfl) (by decide)) (mto (n:=71) (l':=[(1,.ref 0 2 0 0),(2,.ref 1 2 0 0),(3,.ref 2 2 0 0),(4,I y5),(5,.ref 3 7 0 0),(6,.ref 4 7 0 0),(7,I 0)]) (own':=[(Qt8 p0),(.own 2 [[nilS,nilS]]),(.own 2 [[(.dat 5 (x2.map Qap)),(.acc 5 133 7 (y6.map Qae))]]),(Qyr x13),(.own 7 [[(K .u8 x13.Kind),Zlh,I x13.Level,I x13.Amount,I x13.Wide,I x13.Narrow,(.acc 7 3 1 (((([]:List Int)++x13.Weights):List Int).map Qac))]]),.tok,.tok,.tok]) [(1,.ref 0 2 0 0),(2,.ref 1 2 0 0),(3,.ref 2 2 0 0),(4,I y5),(5,.ref 4 7 0 0),(6,.ref 7 7 0 0),(7,I 0)] [0,1,2,4,7,3,8,6] [(Qt8 p0),(.own 2 [[nilS,nilS]]),(.own 2 [[(.dat 5 (x2.map Qap)),(.acc 3 133 7 (y6.map Qae))]]),(Qyr x13),(.own 7 [[(K .u8 x13.Kind),Zli,I x13.Level,I x13.Amount,I x13.Wide,I x13.Narrow,(Qyq x13)]]),.tok,.tok,.tok] hq (prr (prr (prr (pw (prr (prr (pw pn))))))) (qb (lc (rnd Qan) (lc (rnd Qab) ln)) (qb (lcc ln) (qb (lc (rnd Qan) (lc (.rn (Qa3 rfl (Qay Qab _))) ln)) (qb (lc rwl (lc (rnd Qbf) (lcc (lcc (lc (rnd Qah) ln))))) (qb (lc rwl (lc (.rn (Qa3 rfl (Qay Qbf _))) (lcc (lcc (lc (.rn (Qa3 rfl (Qay Qah _))) ln))))) (qc .tok (qc .tok (qc .tok qn)))))))))) ?_
      refine Qbl (τ:=Int×(List Qaf)×(List Qbn)×(List Int)) (fun n t=>Qf1 N x13 k21 n t.1 t.2.1 t.2.2.1 t.2.2.2=some r) (fun ⟨y23,y24,y25,y26⟩=>⟨mk 71 [(1,.ref 0 2 0 0),(2,.ref 1 2 0 0),(3,.ref 2 2 0 0),(4,I y5),(5,.ref 3 7 0 0),(6,.ref 4 7 0 0),(7,I y23)],[(Qt8 p0),(.own 2 [[nilS,nilS]]),(.own 2 [[(.dat 5 (x2.map Qap)),(.acc 5 133 7 (y24.map Qae))]]),(Qyr x13),(Q9y x13 y25 y26),.tok,.tok,.tok]⟩) (fun t h=>by rw[Qf1] at h;cases h) (fun n31 ih t h=>?_) N (0,y6,[],([]:List Int)++x13.Weights) h
      obtain⟨y23,y24,y25,y26⟩:=t
      rw[Qf1] at h
      skip
      refine wsq<|wx tbk [(3,rp _ _)] ⟨alq 2 Qaw x13.From underlying57,tv⟩ ?_
      refine bfe h (fun hc32 h=>?_) fun hc32 h=>?_
      ·refine wft hc32<|Qam<|thn<|wsq<|Qao ?_
       obtain⟨x33,hg34,h⟩:=bno h
       obtain⟨hi35,hj36⟩:=gsm hg34
       obtain⟨ha37,h⟩:=cko h
       refine wy1 tbk [(5,rp _ _),(11,rp _ _),(14,rp _ _),(15,rp [(.tmp 60,(Q9x x33))] (.dat 2 (([x33]:List Qbn).map Qaw))),(16,⟨[(.tmp 47,(.acc 6 120 2 (y25.map Qaw))),(.tmp 61,(.dat 2 (([x33]:List Qbn).map Qaw)))],[(6,.tok),(8,.unused)],(.acc 8 120 2 ((y25++([x33]):List Qbn).map Qaw)),[(6,.dead),(8,.tok)],false⟩)] ⟨aiq underlying57 ti61 Qaw hi35 hj36,aiq underlying57 ti61 Qaw hi35 hj36,Qaz (vs:=[I x33.Element,I x33.Outlet]) rfl Zb7 Qud rfl (by rfl) rfl,Qbm (vs:=[(Q9x x33)]) rfl underlying116 Qql Qud rfl (by decide) rfl (by decide) (by rfl) (by rfl) (by rfl) rfl,Qc7 rfl underlying116 Zgp (Base.acc _ _) rfl rfl (by rfl) (Qf7 Qaw ha37) (Qf6 Qaw ha37 (by decide)) (Qf5 Qaw) rfl rfl,tv⟩<|bln<|thn<|wxz1<|thn ?_
       exact arm (mto (n:=71) [(1,.ref 0 2 0 0),(2,.ref 1 2 0 0),(3,.ref 2 2 0 0),(4,I y5),(5,.ref 3 7 0 0),(6,.ref 4 7 0 0),(7,(I (w64 (y23+1))))] [0,1,2,3,4,5,8,7] [(Qt8 p0),(.own 2 [[nilS,nilS]]),(.own 2 [[(.dat 5 (x2.map Qap)),(.acc 5 133 7 (y24.map Qae))]]),(Qyr x13),(.own 7 [[(K .u8 x13.Kind),(.acc 8 120 2 ((y25++([x33]):List Qbn).map Qaw)),I x13.Level,I x13.Amount,I x13.Wide,I x13.Narrow,(.acc 7 3 1 (y26.map Qac))]]),.tok,.tok,.tok] hq (prr (prr (prr (pw (prr (prr (pw pn))))))) (qb (lc (rnd Qan) (lc (rnd Qab) ln)) (qb (lcc ln) (qb (lc (rnd Qan) (lc (.rn (Qa3 rfl (Qay Qab _))) ln)) (qb (lc rwl (lc (rnd Qbf) (lcc (lcc (lc (rnd Qah) ln))))) (qb (lc rwl (lc (.rn (Qa3 rfl (Qay Qbf _))) (lcc (lcc (lc (.rn (Qa3 rfl (Qay Qah _))) ln))))) (qc .tok (qc .tok (qc .tok qn))))))))) (ih (w64 (y23+1),y24,y25++([x33]),y26) h)
      ·exact wfn hc32<|Qa7<|Qau<|Qau<|Qa6 rfl<|thn<|⟨(y24,y25,y26),h,(mto (n:=71) [(1,.ref 0 2 0 0),(2,.ref 1 2 0 0),(3,.ref 2 2 0 0),(4,I y5),(6,.ref 4 7 0 0)] [0,1,2,4,5,6,7] [(Qt8 p0),(.own 2 [[nilS,nilS]]),(.own 2 [[(.dat 5 (x2.map Qap)),(.acc 5 133 7 (y24.map Qae))]]),(Q9y x13 y25 y26),.tok,.tok,.tok] hq (prr (prr (prr (pw (prr pn))))) (qb (lc (rnd Qan) (lc (rnd Qab) ln)) (qb (lcc ln) (qb (lc (rnd Qan) (lc (.rn (Qa3 rfl (Qay Qab _))) ln)) (qb (lc rwl (lc (.rn (Qa3 rfl (Qay Qbf _))) (lcc (lcc (lc (.rn (Qa3 rfl (Qay Qah _))) ln))))) (qc .tok (qc .tok (qc .tok qn))))))))⟩
   ·exact wfn hc10<|Qa7<|Qau<|Qau<|Qa6 rfl<|thn<|⟨(y6),h,(mto (n:=71) [(2,.ref 1 2 0 0),(3,.ref 2 2 0 0)] [1,2,3] [(.own 2 [[nilS,nilS]]),(.own 2 [[(.dat 5 (x2.map Qap)),(.acc 3 133 7 (y6.map Qae))]]),.tok] hq (prr (prr pn)) (qb (lcc ln) (qb (lc (rnd Qan) (lc (.rn (Qa3 rfl (Qay Qab _))) ln)) (qc .tok qn))))⟩
def Qmg (_N:Nat) (p0:List Int):Option (List Int):=
  chk (decide ((([]:List Int).length+p0.length)*8≤140737488355328))<|
  some (([]:List Int)++p0)
def Zpc:AV:=.acc 0 3 1 ((([]:List Int):List Int).map Qac)
def Zpb (p0:List Int):AV:=.acc 1 3 1 ((([]:List Int)++p0:List Int).map Qac)
theorem Qxi (N:Nat) (p0 r:List Int) (h:Qmg N p0=some r):Spec prog 18 [(.dat 1 (p0.map Qac))] [] (.dat 1 (r.map Qac)) []:=by
  refine sA func18 0 fun _ _ _ hq hd0=>?_
  unfold Qmg at h
  refine wxz ?_
  obtain⟨ha1,h⟩:=cko h
  refine wx tbk [(0,⟨[],[(0,.unused)],Zpc,[(0,.tok)],false⟩),(2,⟨[(.tmp 3,Zpc),(.tmp 4,(.dat 1 (p0.map Qac)))],[(0,.tok),(1,.unused)],(Zpb p0),[(0,.dead),(1,.tok)],false⟩)] ⟨Qd5 rfl underlying27 ti3 tz3,Qc7 rfl underlying27 te3 (Base.acc _ _) rfl rfl (Qh1 Qac Qf0 _) (Qf7 Qac ha1) (Qf6 Qac ha1 (by decide)) (Qf5 Qac) rfl rfl,tv⟩<|Qai ?_
  obtain rfl:=osi h
  exact fie [(.dat 1 ((([]:List Int)++p0:List Int).map Qac))] ⟨Qbz (v:=(Zpb p0)) rot Less.acc,tv⟩
def Qf3 (N:Nat) (p0:GNet) (k1:Unit→Option Bool):Nat→Int→Option Bool
  |0,_=>none
  |n6+1,y4=>
    bif (decide (y4<(p0.Elements.length:Int))) then
     (getI p0.Elements y4).bind fun x8=>
     bif (decide ((x8.From.length:Int)>25)) then
      some false
     else
      bif (decide ((x8.Weights.length:Int)>25)) then
       some false
      else
       Qf3 N p0 k1 n6 (w64 (y4+1))
    else
     k1 ()
def Ql1 (N:Nat) (p0:GNet) (p1:List Qaa):Option Bool:=
  Qbc (fun _=>
    bif (decide ((p0.Elements.length:Int)≤18)) then
     bif (decide ((p0.Table.length:Int)≤25)) then
      some (decide ((p1.length:Int)≤25))
     else
      some false
    else
     some false) fun k1:Unit→Option Bool=>
  Qf3 N p0 k1 N 0
def Q3f (p1:List Qaa):AV:=.dat 4 (p1.map Qad)
def Zpa (p0:GNet):AV:=.dat 5 (p0.Table.map Qap)
def Zfj (p0:GNet):AV:=.dat 7 (p0.Elements.map Qae)
def Q7s (p0:GNet):Slot:=.own 2 [[(Zpa p0),(Zfj p0)]]
def Q9w (p0:GNet):List (Nat×Rec):=[(2,rp [((.tmp 32),(Zfj p0))] (I ((p0.Elements.length:Int))))]
def Q9v p0:=hcat (Q9w p0) [(4,rp [((.tmp 34),(B ((decide ((p0.Elements.length:Int)≤18)))))] (B true)),(7,rp [((.tmp 35),(B true)),((.tmp 37),(Zpa p0))] (I ((p0.Table.length:Int))))]
def Q9u (p0:GNet) (y4:Int) (x8:Qaf):List (Nat×Rec):=[(3,rp [((.tmp 14),(Zfj p0)),((.tmp 15),(I y4))] (.dptr (Qae x8) 0)),(6,rp [((.tmp 18),(.dat 2 (x8.From.map Qaw)))] (I ((x8.From.length:Int))))]
theorem Qz0 (N:Nat) (p0:GNet) (p1:List Qaa) (r:Bool) (h:Ql1 N p0 p1=some r):Spec prog 14 [(.agg (Qgw p0)),(.dat 4 (p1.map Qad))] [] (B r) []:=by
  refine sA func14 0 fun _ _ _ hq hd0=>?_
  unfold Ql1 at h
  refine wxz ?_
  obtain⟨k1,hk_k1,h⟩:=jko h
  refine wjn (τ:=Unit) (fun t=>k1 t=some r) (fun _=>⟨mk 46 [(1,(Q3f p1)),(2,.ref 0 2 0 0)],[(Q7s p0)]⟩) (fun t h=>?_) ?_
  ·subst hk_k1
   refine hpre (A:=(Q9w p0)) ⟨alq 7 Qae p0.Elements underlying24,tv⟩ fun q1_=>?_
   refine bfe h (fun hb2 h=>?_) fun hb2 h=>?_
   ·refine hpre (A:=(Q9v p0)) (hap q1_ ⟨asb hb2 (amv rfl),ag_ (alq 5 Qap p0.Table underlying23),tv⟩) fun q2_=>?_
    refine bfe h (fun hb3 h=>?_) fun hb3 h=>?_
    ·refine wx tbk (hcat (Q9v p0) [(10,rp [(.tmp 40,(B ((decide ((p0.Table.length:Int)≤25)))))] (B true)),(12,rp [(.tmp 41,B true),(.tmp 42,(Q3f p1))] (I ((p1.length:Int))))]) (hap q2_ ⟨asb hb3 (amv rfl),ag_ (alq 4 Qad p1 underlying28),tv⟩)<|Qai ?_
     obtain rfl:=osi h
     exact fend ⟨[(B ((decide ((p1.length:Int)≤25))))],⟨rot,tv⟩,rfl⟩ nll
    ·exact wx tbk (hcat (Q9v p0) [(10,rp [(.tmp 40,(B ((decide ((p0.Table.length:Int)≤25)))))] (B false))]) (hap q2_ ⟨asb hb3 (amv rfl),tv⟩)<|Qai<|frb h
   ·exact wx tbk (hcat (Q9w p0) [(4,rp [(.tmp 34,(B ((decide ((p0.Elements.length:Int)≤18)))))] (B false))]) (hap q1_ ⟨asb hb2 (amv rfl),tv⟩)<|Qai<|frb h
  ·skip
   refine wxz<|Qao ?_
   refine wmr (mto (n:=46) (l':=[(1,(Q3f p1)),(2,.ref 0 2 0 0),(5,I 0)]) (own':=[(Q7s p0)]) [(1,(Q3f p1)),(2,.ref 0 2 0 0),(5,I 0)] [0] [(Q7s p0)] hq (pc (rnd Qal) (prr (pw pn))) (qb (lc (rnd Qan) (lc (rnd Qab) ln)) qn)) ?_
   refine Qbl (τ:=Int) (fun n t=>Qf3 N p0 k1 n t=some r) (fun y4=>⟨mk 46 [(1,(Q3f p1)),(2,.ref 0 2 0 0),(5,I y4)],[(Q7s p0)]⟩) (fun t h=>by rw[Qf3] at h;cases h) (fun n6 ih y4 h=>?_) N (0) h
   rw[Qf3] at h
   skip
   refine wsq<|wx tbk [(3,rp _ _)] ⟨alq 7 Qae p0.Elements underlying24,tv⟩ ?_
   refine bfe h (fun hc7 h=>?_) fun hc7 h=>?_
   ·refine wft hc7<|Qam<|thn<|wsq<|Qao ?_
    obtain⟨x8,hg9,h⟩:=bno h
    obtain⟨hi10,hj11⟩:=gsm hg9
    refine hpre (A:=(Q9u p0 y4 x8)) ⟨aiq underlying24 ti59 Qae hi10 hj11,alq 2 Qaw x8.From underlying57,tv⟩ fun q3_=>?_
    refine bfe h (fun hb12 h=>?_) fun hb12 h=>?_
    ·exact wx tbk (hcat (Q9u p0 y4 x8) [(8,rp [(.tmp 20,(B ((decide ((x8.From.length:Int)>25)))))] (B true))]) (hap q3_ ⟨asb hb12 (amv rfl),tv⟩)<|wtr<|wxz<|Qai<|Qar<|Qaj<|Qaj<|Qar<|Qaj<|frb h
    ·refine wx tbk (hcat (Q9u p0 y4 x8) [(8,rp [(.tmp 20,(B ((decide ((x8.From.length:Int)>25)))))] (B false)),(12,rp [(.tmp 21,B false),(.tmp 23,(Zfj p0)),(.tmp 24,I y4)] (.dptr (Qae x8) 0)),(15,rp [(.tmp 21,B false),(.tmp 27,(.dat 1 (x8.Weights.map Qac)))] (I ((x8.Weights.length:Int))))]) (hap q3_ ⟨asb hb12 (amv rfl),ag_ (aiq underlying24 ti59 Qae hi10 hj11),ag_ (alq 1 Qac x8.Weights underlying27),tv⟩) ?_
     refine bfe h (fun hc13 h=>?_) fun hc13 h=>?_
     ·exact wft hc13<|wxz<|Qai<|Qar<|Qaj<|Qaj<|Qar<|Qaj<|frb h
     ·exact wfn hc13<|Qam<|bln<|thn<|wxz1<|thn<|arm (mto (n:=46) [(1,(Q3f p1)),(2,.ref 0 2 0 0),(5,(I (w64 (y4+1))))] [0] [(Q7s p0)] hq (pc (rnd Qal) (prr (pw pn))) (qb (lc (rnd Qan) (lc (rnd Qab) ln)) qn)) (ih (w64 (y4+1)) h)
   ·exact wfn hc7<|Qa7<|Qau<|Qau<|Qa6 rfl<|thn<|⟨(),h,(mto (n:=46) [(1,(Q3f p1)),(2,.ref 0 2 0 0)] [0] [(Q7s p0)] hq (pc (rnd Qal) (prr pn)) (qb (lc (rnd Qan) (lc (rnd Qab) ln)) qn))⟩
def Qcu (N:Nat) (p0:List Int) (k2:Int→Option Bool):Nat→Int→Int→Option Bool
  |0,_,_=>none
  |n8+1,y4,y5=>
    bif (decide (y5<(p0.length:Int))) then
     (getI p0 y5).bind fun x10=>
     (Qd2 N x10 0 1000).bind fun x15=>
     bif (!x15) then
      some false
     else
      Qcu N p0 k2 n8 (w64 (y4+x10)) (w64 (y5+1))
    else
     k2 (y4)
def Qgo (N:Nat) (p0:List Int):Option Bool:=
  Qbc (fun y1=>
    bif (decide ((p0.length:Int)≤20)) then
     some (decide (y1>0))
    else
     some false) fun k2:Int→Option Bool=>
  Qcu N p0 k2 N 0 0
theorem Qor (N:Nat) (p0:List Int) (r:Bool) (h:Qgo N p0=some r):Spec prog 107 [(.dat 1 (p0.map Qac))] [] (B r) []:=by
  refine sA func107 0 fun _ _ _ hq hd0=>?_
  unfold Qgo at h
  refine wxz<|wxz ?_
  obtain⟨k2,hk_k2,h⟩:=jko h
  refine wjn (τ:=Int) (fun t=>k2 t=some r) (fun y1=>⟨mk 30 [(0,(.dat 1 (p0.map Qac))),(3,I y1)],[]⟩) (fun y1 h=>?_) ?_
  ·subst hk_k2
   refine bfe h (fun hb3 h=>?_) fun hb3 h=>?_
   ·refine wx tbk [(1,rp _ _),(3,rp [(.tmp 25,(B ((decide ((p0.length:Int)≤20)))))] (B true))] ⟨alq 1 Qac p0 underlying27,asb hb3 (amv rfl),tv⟩<|Qai ?_
    obtain rfl:=osi h
    exact fend ⟨[(B ((decide (y1>0))))],⟨rot,tv⟩,rfl⟩ nll
   ·exact wx tbk [(1,rp _ _),(3,rp [(.tmp 25,(B ((decide ((p0.length:Int)≤20)))))] (B false))] ⟨alq 1 Qac p0 underlying27,asb hb3 (amv rfl),tv⟩<|Qai<|frb h
  ·skip
   refine wxz<|Qao ?_
   refine wmr (mto (n:=30) (l':=[(0,(.dat 1 (p0.map Qac))),(3,I 0),(4,I 0)]) (own':=[]) [(0,(.dat 1 (p0.map Qac))),(3,I 0),(4,I 0)] [] [] hq (pc (rnd Qah) (pw (pw pn))) qn) ?_
   refine Qbl (τ:=Int×Int) (fun n t=>Qcu N p0 k2 n t.1 t.2=some r) (fun ⟨y4,y5⟩=>⟨mk 30 [(0,(.dat 1 (p0.map Qac))),(3,I y4),(4,I y5)],[]⟩) (fun t h=>by rw[Qcu] at h;cases h) (fun n8 ih t h=>?_) N (0,0) h
   obtain⟨y4,y5⟩:=t
   rw[Qcu] at h
   skip
   refine wsq<|wx tbk [(2,rp _ _)] ⟨alq 1 Qac p0 underlying27,tv⟩ ?_
   refine bfe h (fun hc9 h=>?_) fun hc9 h=>?_
   ·refine wft hc9<|Qam<|thn<|wsq<|Qao<|wsq ?_
    obtain⟨x10,hg11,h⟩:=bno h
    obtain⟨hi12,hj13⟩:=gsm hg11
    obtain⟨x15,hf14,h⟩:=bno h
    refine wx tbk [(2,rp _ _),(4,rp _ _)] ⟨aiq underlying27 ti3 Qac hi12 hj13,apw Qij (Qc5 N x10 0 1000 _ hf14),tv⟩ ?_
    refine bfe h (fun hc16 h=>?_) fun hc16 h=>?_
    ·exact wft hc16<|wxz<|Qai<|Qaj<|Qar<|Qaj<|Qaj<|Qar<|Qaj<|frb h
    ·refine wfn hc16<|Qam<|thn ?_
     exact wx1 tbk [(3,rp _ _)] ⟨aiq underlying27 ti3 Qac hi12 hj13,tv⟩<|bln<|thn<|wxz1<|thn<|arm (mto (n:=30) [(0,(.dat 1 (p0.map Qac))),(3,(I (w64 (y4+x10)))),(4,(I (w64 (y5+1))))] [] [] hq (pc (rnd Qah) (pw (pw pn))) qn) (ih (w64 (y4+x10),w64 (y5+1)) h)
   ·exact wfn hc9<|Qa7<|Qau<|Qau<|Qa6 rfl<|thn<|⟨(y4),h,(mto (n:=30) [(0,(.dat 1 (p0.map Qac))),(3,I y4)] [] [] hq (pc (rnd Qah) (pw pn)) qn)⟩
def Qk7 (N:Nat) (p0:Qaf):Option Bool:=
  Qbc (fun _=>
    Qbc (fun ⟨y2,y3⟩=>
      Qbc (fun y5=>
        Qbc (fun y7=>
          Qbc (fun y9=>
            Qbc (fun _=>
              bif (p0.Kind==5) then
               (Qgo N p0.Weights).bind fun x14=>
               some x14
              else
               some ((p0.Weights.length:Int)==0)) fun k11:Unit→Option Bool=>
            (Qd2 N (p0.From.length:Int) y2 y5).bind fun x16=>
            bif (!x16) then
             some false
            else
             (Qd2 N p0.Amount 0 y9).bind fun x19=>
             bif (!x19) then
              some false
             else
              k11 ()) fun k10:Int→Option Bool=>
          bif (p0.Kind==4) then
           k10 (1000)
          else
           k10 y7) fun k8:Int→Option Bool=>
        bif (p0.Kind==3) then
         k8 (1000000000)
        else
         k8 (0)) fun k6:Int→Option Bool=>
      bif (p0.Kind==2) then
       k6 (6)
      else
       k6 y3) fun k4:Int×Int→Option Bool=>
    bif (p0.Kind==1) then
     k4 (0,0)
    else
     k4 (1,1)) fun k1:Unit→Option Bool=>
  bif (decide (p0.Kind<1)) then
   some false
  else
   bif (decide (p0.Kind>6)) then
    some false
   else
    (Qd2 N p0.Wide 0 1000000).bind fun x28=>
    bif (!x28) then
     some false
    else
     (Qd2 N p0.Narrow 1 1000000000).bind fun x31=>
     bif (!x31) then
      some false
     else
      k1 ()
def Zqx (p0:Qaf):AV:=.dat 1 (p0.Weights.map Qac)
def Qlt (p0:Qaf):Slot:=.own 7 [[(K .u8 p0.Kind),(.dat 2 (p0.From.map Qaw)),(I p0.Level),(I p0.Amount),(I p0.Wide),(I p0.Narrow),(Zqx p0)]]
def Zby (p0:Qaf) (y2 y5:Int) (x16:Bool):List (Nat×Rec):=[(2,rp [((.tmp 39),(.dat 2 (p0.From.map Qaw)))] (I ((p0.From.length:Int)))),(5,rp [fu 25,((.tmp 40),(I ((p0.From.length:Int)))),((.tmp 41),(I y2)),((.tmp 42),(I y5))] (B x16))]
def Zbx (p0:Qaf):List (Nat×Rec):=[(3,rp [((.tmp 8),(B ((decide (p0.Kind<1)))))] (B false))]
def Zbw p0 (x28:Bool):=hcat (Zbx p0) [(8,rp [((.tmp 13),(B ((decide (p0.Kind>6)))))] (B false)),(11,rp [((.tmp 14),(B false)),fu 25,((.tmp 16),(I p0.Wide)),ci 0,ci 1000000] (B x28))]
theorem Qvp (N:Nat) (p0:Qaf) (r:Bool) (h:Qk7 N p0=some r):Spec prog 70 [(.agg (Qae p0))] [] (B r) []:=by
  refine sA func70 0 fun _ _ _ hq hd0=>?_
  unfold Qk7 at h
  refine wxz ?_
  obtain⟨k1,hk_k1,h⟩:=jko h
  refine wjn (τ:=Unit) (fun t=>k1 t=some r) (fun _=>⟨mk 62 [(1,.ref 0 7 0 0)],[(Qlt p0)]⟩) (fun t h=>?_) ?_
  ·subst hk_k1
   refine wxz ?_
   obtain⟨k4,hk_k4,h⟩:=jko h
   refine wjn (τ:=Int×Int) (fun t=>k4 t=some r) (fun ⟨y2,y3⟩=>⟨mk 62 [(1,.ref 0 7 0 0),(3,I y2),(4,I y3),(5,I 0)],[(Qlt p0)]⟩) (fun t h=>?_) ?_
   ·subst hk_k4
    obtain⟨y2,y3⟩:=t
    obtain⟨k6,hk_k6,h⟩:=jko h
    refine wjn (τ:=Int) (fun t=>k6 t=some r) (fun y5=>⟨mk 62 [(1,.ref 0 7 0 0),(3,I y2),(4,I y5),(5,I 0)],[(Qlt p0)]⟩) (fun y5 h=>?_) ?_
    ·subst hk_k6
     obtain⟨k8,hk_k8,h⟩:=jko h
     refine wjn (τ:=Int) (fun t=>k8 t=some r) (fun y7=>⟨mk 62 [(1,.ref 0 7 0 0),(3,I y2),(4,I y5),(5,I y7)],[(Qlt p0)]⟩) (fun y7 h=>?_) ?_
     ·subst hk_k8
      obtain⟨k10,hk_k10,h⟩:=jko h
      refine wjn (τ:=Int) (fun t=>k10 t=some r) (fun y9=>⟨mk 62 [(1,.ref 0 7 0 0),(3,I y2),(4,I y5),(5,I y9)],[(Qlt p0)]⟩) (fun y9 h=>?_) ?_
      ·subst hk_k10
       obtain⟨k11,hk_k11,h⟩:=jko h
       refine wjn (τ:=Unit) (fun t=>k11 t=some r) (fun _=>⟨mk 62 [(1,.ref 0 7 0 0)],[(Qlt p0)]⟩) (fun t h=>?_) ?_
       ·subst hk_k11
        refine wsq<|wxz ?_
        refine bfe h (fun hc12 h=>?_) fun hc12 h=>?_
        ·refine wft hc12 ?_
         obtain⟨x14,hf13,h⟩:=bno h
         exact wx tbk [(2,rp _ _)] ⟨apw Zix (Qor N p0.Weights _ hf13),tv⟩<|Qai<|Qaj<|frb h
        ·refine wfn hc12<|Qam<|thn ?_
         refine wx tbk [(2,rp _ _)] ⟨alq 1 Qac p0.Weights underlying27,tv⟩<|Qai ?_
         obtain rfl:=osi h
         exact fend ⟨[(B (((p0.Weights.length:Int)==0)))],⟨rot,tv⟩,rfl⟩ nll
       ·skip
        obtain⟨x16,hf15,h⟩:=bno h
        refine hpre (A:=(Zby p0 y2 y5 x16)) ⟨alq 2 Qaw p0.From underlying57,apv Qij (Qc5 N (p0.From.length:Int) y2 y5 _ hf15) (nlcc (nlc nll nl0)) nll,tv⟩ fun q1_=>?_
        refine bfe h (fun hb17 h=>?_) fun hb17 h=>?_
        ·exact wx tbk (hcat (Zby p0 y2 y5 x16) [(7,rp [(.tmp 44,(B ((!x16))))] (B true))]) (hap q1_ ⟨asb hb17 (amv rfl),tv⟩)<|wtr<|wxz<|Qai<|Qaj<|frb h
        ·obtain⟨x19,hf18,h⟩:=bno h
         refine wx tbk (hcat (Zby p0 y2 y5 x16) [(7,rp [(.tmp 44,(B ((!x16))))] (B false)),(11,rp [(.tmp 45,B false),fu 25,(.tmp 47,I p0.Amount),ci 0,(.tmp 48,I y9)] (B x19))]) (hap q1_ ⟨asb hb17 (amv rfl),ag_ (apv Qij (Qc5 N p0.Amount 0 y9 _ hf18) (nlcc (nlc nll nl0)) nll),tv⟩) ?_
         refine bfe h (fun hc20 h=>?_) fun hc20 h=>?_
         ·exact wft hc20<|wxz<|Qai<|Qaj<|frb h
         ·exact wfn hc20<|Qam<|thn<|⟨(),h,(mto (n:=62) [(1,.ref 0 7 0 0)] [0] [(Qlt p0)] hq (prr pn) (qb (lc rwl (lc (rnd Qbf) (lcc (lcc (lc (rnd Qah) ln))))) qn))⟩
      ·skip
       refine wxz ?_
       refine bfe h (fun hc21 h=>?_) fun hc21 h=>?_
       ·exact wft hc21<|wxz1<|thn<|⟨(1000),h,(mto (n:=62) [(1,.ref 0 7 0 0),(3,I y2),(4,I y5),(5,I 1000)] [0] [(Qlt p0)] hq (prr (pw (pw (pw pn)))) (qb (lc rwl (lc (rnd Qbf) (lcc (lcc (lc (rnd Qah) ln))))) qn))⟩
       ·exact wfn hc21<|Qam<|thn<|⟨(y7),h,(mto (n:=62) [(1,.ref 0 7 0 0),(3,I y2),(4,I y5),(5,I y7)] [0] [(Qlt p0)] hq (prr (pw (pw (pw pn)))) (qb (lc rwl (lc (rnd Qbf) (lcc (lcc (lc (rnd Qah) ln))))) qn))⟩
     ·skip
      refine wxz ?_
      refine bfe h (fun hc22 h=>?_) fun hc22 h=>?_
      ·exact wft hc22<|wxz1<|thn<|⟨(1000000000),h,(mto (n:=62) [(1,.ref 0 7 0 0),(3,I y2),(4,I y5),(5,I 1000000000)] [0] [(Qlt p0)] hq (prr (pw (pw (pw pn)))) (qb (lc rwl (lc (rnd Qbf) (lcc (lcc (lc (rnd Qah) ln))))) qn))⟩
      ·exact wfn hc22<|Qam<|thn<|⟨(0),h,(mto (n:=62) [(1,.ref 0 7 0 0),(3,I y2),(4,I y5),(5,I 0)] [0] [(Qlt p0)] hq (prr (pw (pw (pw pn)))) (qb (lc rwl (lc (rnd Qbf) (lcc (lcc (lc (rnd Qah) ln))))) qn))⟩
    ·skip
     refine wxz ?_
     refine bfe h (fun hc23 h=>?_) fun hc23 h=>?_
     ·exact wft hc23<|wxz1<|thn<|⟨(6),h,(mto (n:=62) [(1,.ref 0 7 0 0),(3,I y2),(4,I 6),(5,I 0)] [0] [(Qlt p0)] hq (prr (pw (pw (pw pn)))) (qb (lc rwl (lc (rnd Qbf) (lcc (lcc (lc (rnd Qah) ln))))) qn))⟩
     ·exact wfn hc23<|Qam<|thn<|⟨(y3),h,(mto (n:=62) [(1,.ref 0 7 0 0),(3,I y2),(4,I y3),(5,I 0)] [0] [(Qlt p0)] hq (prr (pw (pw (pw pn)))) (qb (lc rwl (lc (rnd Qbf) (lcc (lcc (lc (rnd Qah) ln))))) qn))⟩
   ·skip
    refine wxz ?_
    refine bfe h (fun hc24 h=>?_) fun hc24 h=>?_
    ·exact wft hc24<|wxz1<|thn<|⟨(0,0),h,(mto (n:=62) [(1,.ref 0 7 0 0),(3,I 0),(4,I 0),(5,I 0)] [0] [(Qlt p0)] hq (prr (pw (pw (pw pn)))) (qb (lc rwl (lc (rnd Qbf) (lcc (lcc (lc (rnd Qah) ln))))) qn))⟩
    ·exact wfn hc24<|Qam<|thn<|⟨(1,1),h,(mto (n:=62) [(1,.ref 0 7 0 0),(3,I 1),(4,I 1),(5,I 0)] [0] [(Qlt p0)] hq (prr (pw (pw (pw pn)))) (qb (lc rwl (lc (rnd Qbf) (lcc (lcc (lc (rnd Qah) ln))))) qn))⟩
  ·skip
   refine bfe h (fun hb25 h=>?_) fun hb25 h=>?_
   ·exact wx tbk [(3,rp [(.tmp 8,(B ((decide (p0.Kind<1)))))] (B true))] ⟨asb hb25 (amv rfl),tv⟩<|wtr<|wxz<|Qai<|Qaj<|frb h
   ·refine hpre (A:=(Zbx p0)) ⟨asb hb25 (amv rfl),tv⟩ fun q2_=>?_
    refine bfe h (fun hb26 h=>?_) fun hb26 h=>?_
    ·exact wx tbk (hcat (Zbx p0) [(8,rp [(.tmp 13,(B ((decide (p0.Kind>6)))))] (B true))]) (hap q2_ ⟨asb hb26 (amv rfl),tv⟩)<|wtr<|wxz<|Qai<|Qaj<|frb h
    ·obtain⟨x28,hf27,h⟩:=bno h
     refine hpre (A:=(Zbw p0 x28)) (hap q2_ ⟨asb hb26 (amv rfl),ag_ (apv Qij (Qc5 N p0.Wide 0 1000000 _ hf27) (nlcc (nlc nll nl0)) nll),tv⟩) fun q3_=>?_
     refine bfe h (fun hb29 h=>?_) fun hb29 h=>?_
     ·exact wx tbk (hcat (Zbw p0 x28) [(14,rp [(.tmp 19,(B ((!x28))))] (B true))]) (hap q3_ ⟨asb hb29 (amv rfl),tv⟩)<|wtr<|wxz<|Qai<|Qaj<|frb h
     ·obtain⟨x31,hf30,h⟩:=bno h
      refine wx tbk (hcat (Zbw p0 x28) [(14,rp [(.tmp 19,(B ((!x28))))] (B false)),(17,rp [(.tmp 20,B false),fu 25,(.tmp 22,I p0.Narrow),ci 1,ci 1000000000] (B x31))]) (hap q3_ ⟨asb hb29 (amv rfl),ag_ (apv Qij (Qc5 N p0.Narrow 1 1000000000 _ hf30) (nlcc (nlc nll nl0)) nll),tv⟩) ?_
      refine bfe h (fun hc32 h=>?_) fun hc32 h=>?_
      ·exact wft hc32<|wxz<|Qai<|Qaj<|frb h
      ·exact wfn hc32<|Qam<|thn<|⟨(),h,(mto (n:=62) [(1,.ref 0 7 0 0)] [0] [(Qlt p0)] hq (prr pn) (qb (lc rwl (lc (rnd Qbf) (lcc (lcc (lc (rnd Qah) ln))))) qn))⟩
def Qi1 (_N:Nat) (p0:Qaf):Option Int:=
  bif (p0.Kind==4) then
   some 2
  else
   bif (p0.Kind==5) then
    (some (p0.Weights.length:Int)).bind fun x3=>
    some x3
   else
    some 1
theorem Qsz (N:Nat) (p0:Qaf) (r:Int) (h:Qi1 N p0=some r):Spec prog 71 [(.agg (Qae p0))] [] (I r) []:=by
  refine sA func71 0 fun _ _ _ hq hd0=>?_
  unfold Qi1 at h
  refine wxz<|wsq<|wxz ?_
  refine bfe h (fun hc1 h=>?_) fun hc1 h=>?_
  ·refine wft hc1<|wxz<|Qai<|Qaj ?_
   obtain rfl:=osi h
   exact fend ⟨[I 2],⟨rot,tv⟩,rfl⟩ nll
  ·refine wfn hc1<|Qam<|thn<|wsq<|wxz ?_
   refine bfe h (fun hc2 h=>?_) fun hc2 h=>?_
   ·refine wft hc2 ?_
    obtain⟨x3,hl4,h⟩:=bno h
    refine wx tbk [(2,rp _ _),(3,rp [(.tmp 11,(I ((p0.Weights.length:Int))))] (I x3))] ⟨alq 1 Qac p0.Weights underlying27,Qhg hl4 (aas rfl),tv⟩<|Qai<|Qaj ?_
    obtain rfl:=osi h
    exact fend ⟨[I x3],⟨rot,tv⟩,rfl⟩ nll
   ·refine wfn hc2<|Qam<|thn<|wxz<|Qai ?_
    obtain rfl:=osi h
    exact fend ⟨[I 1],⟨rot,tv⟩,rfl⟩ nll
def Qet (N:Nat) (p0:List Qbn) (k1:Unit→Option Bool) (p1:Qbn):Nat→Int→Option Bool
  |0,_=>none
  |n4+1,y2=>
    bif (decide (y2<(p0.length:Int))) then
     (getI p0 y2).bind fun x6=>
     bif (([x6.Element,x6.Outlet]:List Int)==[p1.Element,p1.Outlet]) then
      some true
     else
      Qet N p0 k1 p1 n4 (w64 (y2+1))
    else
     k1 ()
def Qk6 (N:Nat) (p0:List Qbn) (p1:Qbn):Option Bool:=
  Qbc (fun _=>
    some false) fun k1:Unit→Option Bool=>
  Qet N p0 k1 p1 N 0
def Q58 (p0:List Qbn):AV:=.dat 2 (p0.map Qaw)
def Q59 (p1:Qbn):Slot:=.own 2 [[(I p1.Element),(I p1.Outlet)]]
theorem Qvo (N:Nat) (p0:List Qbn) (p1:Qbn) (r:Bool) (h:Qk6 N p0 p1=some r):Spec prog 72 [(.dat 2 (p0.map Qaw)),(.agg (Qaw p1))] [] (B r) []:=by
  refine sA func72 0 fun _ _ _ hq hd0=>?_
  unfold Qk6 at h
  refine wxz ?_
  obtain⟨k1,hk_k1,h⟩:=jko h
  refine wjn (τ:=Unit) (fun t=>k1 t=some r) (fun _=>⟨mk 18 [],[]⟩) (fun t h=>?_) ?_
  ·subst hk_k1
   exact wxz<|Qai<|frb h
  ·skip
   refine wxz<|Qao ?_
   refine wmr (mto (n:=18) (l':=[(0,(Q58 p0)),(3,.ref 0 2 0 0),(5,I 0)]) (own':=[(Q59 p1)]) [(0,(Q58 p0)),(3,.ref 0 2 0 0),(5,I 0)] [0] [(Q59 p1)] hq (pc (rnd Qbf) (prr (pw pn))) (qb (lcc ln) qn)) ?_
   refine Qbl (τ:=Int) (fun n t=>Qet N p0 k1 p1 n t=some r) (fun y2=>⟨mk 18 [(0,(Q58 p0)),(3,.ref 0 2 0 0),(5,I y2)],[(Q59 p1)]⟩) (fun t h=>by rw[Qet] at h;cases h) (fun n4 ih y2 h=>?_) N (0) h
   rw[Qet] at h
   skip
   refine wsq<|wx tbk [(2,rp _ _)] ⟨alq 2 Qaw p0 underlying57,tv⟩ ?_
   refine bfe h (fun hc5 h=>?_) fun hc5 h=>?_
   ·refine wft hc5<|Qam<|thn<|wsq<|Qao ?_
    obtain⟨x6,hg7,h⟩:=bno h
    obtain⟨hi8,hj9⟩:=gsm hg7
    refine wxd tbk [(2,rp _ _),(5,rp [(.tmp 15,(.agg [I x6.Element,I x6.Outlet])),(.tmp 16,(.agg [I p1.Element,I p1.Outlet]))] (B ((([x6.Element,x6.Outlet]:List Int)==[p1.Element,p1.Outlet]))))] ⟨aiq underlying57 ti61 Qaw hi8 hj9,Qsl (ls:=[x6.Element,x6.Outlet]) (ks:=[p1.Element,p1.Outlet]) rfl rfl Ztx (by kernel_rfl) rfl rfl,tv⟩ ?_
    refine bfe h (fun hc10 h=>?_) fun hc10 h=>?_
    ·exact wft hc10<|wxz<|Qai<|Qar<|Qaj<|Qaj<|Qar<|Qaj<|frb h
    ·exact wfn hc10<|Qam<|bln<|thn<|wxz1<|thn<|arm (mto (n:=18) [(0,(Q58 p0)),(3,.ref 0 2 0 0),(5,(I (w64 (y2+1))))] [0] [(Q59 p1)] hq (pc (rnd Qbf) (prr (pw pn))) (qb (lcc ln) qn)) (ih (w64 (y2+1)) h)
   ·exact wfn hc5<|Qa7<|Qau<|Qau<|Qa6 rfl<|thn<|⟨(),h,(mto (n:=18) [] [] [] hq pn qn)⟩
def Qeu (N:Nat) (p0:GNet) (y4:Int) (k10:(List Qbn)→Option Bool) (x11:Qaf):Nat→(List Qbn)→Int→Option Bool
  |0,_,_=>none
  |n21+1,y17,y18=>
    bif (decide (y18<(x11.From.length:Int))) then
     (getI x11.From y18).bind fun x23=>
     (Qd2 N x23.Element 0 (w64 (y4-1))).bind fun x28=>
     bif (!x28) then
      some false
     else
      (getI p0.Elements x23.Element).bind fun x30=>
      (Qi1 N x30).bind fun x35=>
      (Qd2 N x23.Outlet 0 (w64 (x35-1))).bind fun x37=>
      bif (!x37) then
       some false
      else
       bif (decide (x11.Level>x30.Level)) then
        some false
       else
        (Qk6 N y17 x23).bind fun x41=>
        bif x41 then
         some false
        else
         chk (decide ((y17.length+([x23]).length)*16≤140737488355328))<|
         Qeu N p0 y4 k10 x11 n21 (y17++([x23])) (w64 (y18+1))
    else
     k10 (y17)
def Qdy (N:Nat) (p0:GNet) (k2:Unit→Option Bool):Nat→(List Qbn)→Int→Option Bool
  |0,_,_=>none
  |n7+1,y3,y4=>
    bif (decide (y4<(p0.Elements.length:Int))) then
     Qbc (fun y9=>
       Qdy N p0 k2 n7 y9 (w64 (y4+1))) fun k10:(List Qbn)→Option Bool=>
     (getI p0.Elements y4).bind fun x11=>
     Qbc (fun y15=>
       Qeu N p0 y4 k10 x11 N y15 0) fun k16:(List Qbn)→Option Bool=>
     (Qk7 N x11).bind fun x45=>
     bif (!x45) then
      some false
     else
      (Qd2 N x11.Level 0 (w64 ((p0.Table.length:Int)-1))).bind fun x48=>
      bif (!x48) then
       some false
      else
       k16 (y3)
    else
     k2 ()
def Qjh (N:Nat) (p0:GNet):Option Bool:=
  Qbc (fun _=>
    Qbc (fun _=>
      some true) fun k2:Unit→Option Bool=>
    Qdy N p0 k2 N ([]) 0) fun k1:Unit→Option Bool=>
  (Qla N p0.Table).bind fun x51=>
  bif (!x51) then
   some false
  else
   bif (decide ((p0.Elements.length:Int)<1)) then
    some false
   else
    bif (decide ((p0.Elements.length:Int)>16)) then
     some false
    else
     k1 ()
def Zlf (p0:GNet):AV:=.dat 5 (p0.Table.map Qap)
def Q9t (p0:GNet):AV:=.dat 7 (p0.Elements.map Qae)
def Qq8 (p0:GNet):Slot:=.own 2 [[(Zlf p0),(Q9t p0)]]
def Q9s (x11:Qaf):AV:=.dat 2 (x11.From.map Qaw)
def Qso (x11:Qaf):Slot:=.own 7 [[(K .u8 x11.Kind),(Q9s x11),(I x11.Level),(I x11.Amount),(I x11.Wide),(I x11.Narrow),(.dat 1 (x11.Weights.map Qac))]]
def Qyp (y17:List Qbn):AV:=.acc 1 61 2 (y17.map Qaw)
def Q3e (x23:Qbn) (y4:Int) (x28:Bool):List (Nat×Rec):=[(4,rp [fu 25,((.tmp 62),(I x23.Element)),ci 0,((.tmp 64),(I (w64 (y4-1))))] (B x28))]
def Zld (x30:Qaf):AV:=.agg [(K .u8 x30.Kind),(.dat 2 (x30.From.map Qaw)),(I x30.Level),(I x30.Amount),(I x30.Wide),(I x30.Narrow),(.dat 1 (x30.Weights.map Qac))]
def Q3d x23 y4 x28 (p0:GNet) (x30:Qaf) (x35:Int) (x37:Bool):=hcat (Q3e x23 y4 x28) [(6,rp [((.tmp 66),(B ((!x28))))] (B false)),(13,rp [((.tmp 67),(B false)),((.tmp 71),(Q9t p0)),((.tmp 73),(I x23.Element))] (.dptr (Qae x30) 0)),(15,rp [((.tmp 67),(B false)),fu 71,((.tmp 75),(Zld x30))] (I x35)),(17,rp [((.tmp 67),(B false)),fu 25,((.tmp 69),(I x23.Outlet)),ci 0,((.tmp 77),(I (w64 (x35-1))))] (B x37))]
def Q3c x23 y4 x28 p0 x30 x35 x37:=hcat (Q3d x23 y4 x28 p0 x30 x35 x37) [(20,rp [((.tmp 80),(B ((!x37))))] (B false)),(27,rp [((.tmp 81),(B false)),((.tmp 85),(Q9t p0)),((.tmp 87),(I x23.Element))] (.dptr (Qae x30) 0))]
def Qyo (x23:Qbn):AV:=.agg [(I x23.Element),(I x23.Outlet)]
def Zle (x11:Qaf):AV:=.agg [(K .u8 x11.Kind),(Q9s x11),(I x11.Level),(I x11.Amount),(I x11.Wide),(I x11.Narrow),(.dat 1 (x11.Weights.map Qac))]
def Q3b (x11:Qaf) (x45:Bool):List (Nat×Rec):=[(1,rp [fu 70,((.tmp 36),(Zle x11))] (B x45))]
def Q3a (p0:GNet) (x51:Bool):List (Nat×Rec):=[(2,rp [fu 69,((.tmp 9),(Zlf p0))] (B x51))]
def Q29 p0 x51:=hcat (Q3a p0 x51) [(4,rp [((.tmp 11),(B ((!x51))))] (B false)),(7,rp [((.tmp 12),(B false)),((.tmp 14),(Q9t p0))] (I ((p0.Elements.length:Int))))]
theorem Qo7 (N:Nat) (p0:GNet) (r:Bool) (h:Qjh N p0=some r):Spec prog 28 [(.agg (Qgw p0))] [] (B r) []:=by
  refine sA func28 0 fun _ _ _ hq hd0=>?_
  unfold Qjh at h
  refine wxz ?_
  obtain⟨k1,hk_k1,h⟩:=jko h
  refine wjn (τ:=Unit) (fun t=>k1 t=some r) (fun _=>⟨mk 102 [(1,.ref 0 2 0 0)],[(Qq8 p0)]⟩) (fun t h=>?_) ?_
  ·subst hk_k1
   refine wxz ?_
   obtain⟨k2,hk_k2,h⟩:=jko h
   refine wjn (τ:=Unit) (fun t=>k2 t=some r) (fun _=>⟨mk 102 [],[]⟩) (fun t h=>?_) ?_
   ·subst hk_k2
    exact wxz<|Qai<|frb h
   ·skip
    refine wxz<|Qao ?_
    refine wmr (Mor.trans (Qpe 1 61 2 3 (by kernel_rfl) (by kernel_rfl)) (mto (n:=102) (l':=[(1,.ref 0 2 0 0),(3,(.acc 1 61 2 ((([]):List Qbn).map Qaw))),(4,I 0)]) (own':=[(Qq8 p0),.tok]) [(1,.ref 0 2 0 0),(3,(.acc 1 61 2 (([]:List Qbn).map Qaw))),(4,I 0)] [0,1] [(Qq8 p0),.tok] hq (prr (pc (.rn (Qa3 rfl (Qay Qbf _))) (pw pn))) (qb (lc (rnd Qan) (lc (rnd Qab) ln)) (qc .tok qn)))) ?_
    refine Qbl (τ:=(List Qbn)×Int) (fun n t=>Qdy N p0 k2 n t.1 t.2=some r) (fun ⟨y3,y4⟩=>⟨mk 102 [(1,.ref 0 2 0 0),(3,(.acc 1 61 2 (y3.map Qaw))),(4,I y4)],[(Qq8 p0),.tok]⟩) (fun t h=>by rw[Qdy] at h;cases h) (fun n7 ih t h=>?_) N ([],0) h
    obtain⟨y3,y4⟩:=t
    rw[Qdy] at h
    skip
    refine wsq<|wx tbk [(3,rp _ _)] ⟨alq 7 Qae p0.Elements underlying24,tv⟩ ?_
    refine bfe h (fun hc8 h=>?_) fun hc8 h=>?_
    ·refine wft hc8<|Qam<|thn ?_
     obtain⟨k10,hk_k10,h⟩:=jko h
     refine wjn (τ:=(List Qbn)) (fun t=>k10 t=some r) (fun y9=>⟨mk 102 [(1,.ref 0 2 0 0),(3,(.acc 1 61 2 (y9.map Qaw))),(4,I y4)],[(Qq8 p0),.tok]⟩) (fun y9 h=>?_) ?_
     ·subst hk_k10
      exact wxz1<|thn<|arm (mto (n:=102) [(1,.ref 0 2 0 0),(3,(.acc 1 61 2 (y9.map Qaw))),(4,(I (w64 (y4+1))))] [0,1] [(Qq8 p0),.tok] hq (prr (pc (.rn (Qa3 rfl (Qay Qbf _))) (pw pn))) (qb (lc (rnd Qan) (lc (rnd Qab) ln)) (qc .tok qn))) (ih (y9,w64 (y4+1)) h)
     ·skip
      refine Qao ?_
      obtain⟨x11,hg12,h⟩:=bno h
      obtain⟨hi13,hj14⟩:=gsm hg12
      refine wx tbk [(3,rp _ _)] ⟨aiq underlying24 ti59 Qae hi13 hj14,tv⟩ ?_
      obtain⟨k16,hk_k16,h⟩:=jko h
      refine wjn (τ:=(List Qbn)) (fun t=>k16 t=some r) (fun y15=>⟨mk 102 [(1,.ref 0 2 0 0),(3,(.acc 1 61 2 (y15.map Qaw))),(4,I y4),(5,.ref 2 7 0 0)],[(Qq8 p0),.tok,(Qso x11)]⟩) (fun y15 h=>?_) ?_
      ·subst hk_k16
       refine wxz<|Qao ?_
       refine wmr (mto (n:=102) (l':=[(1,.ref 0 2 0 0),(3,(.acc 1 61 2 (y15.map Qaw))),(4,I y4),(5,.ref 2 7 0 0),(6,I 0)]) (own':=[(Qq8 p0),.tok,(Qso x11)]) [(1,.ref 0 2 0 0),(3,(.acc 1 61 2 (y15.map Qaw))),(4,I y4),(5,.ref 2 7 0 0),(6,I 0)] [0,1,2] [(Qq8 p0),.tok,(Qso x11)] hq (prr (pc (.rn (Qa3 rfl (Qay Qbf _))) (pw (prr (pw pn))))) (qb (lc (rnd Qan) (lc (rnd Qab) ln)) (qc .tok (qb (lc rwl (lc (rnd Qbf) (lcc (lcc (lc (rnd Qah) ln))))) qn)))) ?_
       refine Qbl (τ:=(List Qbn)×Int) (fun n t=>Qeu N p0 y4 k10 x11 n t.1 t.2=some r) (fun ⟨y17,y18⟩=>⟨mk 102 [(1,.ref 0 2 0 0),(3,(Qyp y17)),(4,I y4),(5,.ref 2 7 0 0),(6,I y18)],[(Qq8 p0),.tok,(Qso x11)]⟩) (fun t h=>by rw[Qeu] at h;cases h) (fun n21 ih t h=>?_) N (y15,0) h
       obtain⟨y17,y18⟩:=t
       rw[Qeu] at h
       skip
       refine wsq<|wx tbk [(3,rp _ _)] ⟨alq 2 Qaw x11.From underlying57,tv⟩ ?_
       refine bfe h (fun hc22 h=>?_) fun hc22 h=>?_
       ·refine wft hc22<|Qam<|thn<|wsq<|Qao ?_
        obtain⟨x23,hg24,h⟩:=bno h
        obtain⟨hi25,hj26⟩:=gsm hg24
        refine wx tbk [(3,rp _ _)] ⟨aiq underlying57 ti61 Qaw hi25 hj26,tv⟩<|wsq ?_
        obtain⟨x28,hf27,h⟩:=bno h
        refine hpre (A:=(Q3e x23 y4 x28)) ⟨apv Qij (Qc5 N x23.Element 0 (w64 (y4-1)) _ hf27) (nlcc (nlc nll nl0)) nll,tv⟩ fun q1_=>?_
        refine bfe h (fun hb29 h=>?_) fun hb29 h=>?_
        ·refine wxd tbk (hcat (Q3e x23 y4 x28) [(6,rp [(.tmp 66,(B ((!x28))))] (B true))]) (hap q1_ ⟨asb hb29 (amv rfl),tv⟩)<|wtr<|wxz<|Qai<|Qaj<|Qar<|Qaj<|Qaj<|Qar<|Qar ?_
         exact Qaj<|Qaj<|Qar<|Qaj<|frb h
        ·obtain⟨x30,hg31,h⟩:=bno h
         obtain⟨hi32,hj33⟩:=gsm hg31
         obtain⟨x35,hf34,h⟩:=bno h
         obtain⟨x37,hf36,h⟩:=bno h
         refine hpre (A:=(Q3d x23 y4 x28 p0 x30 x35 x37)) (hap q1_ ⟨asb hb29 (amv rfl),ag_ (aiq underlying24 ti59 Qae hi32 hj33),ag_ (apv Zny (Qsz N x30 _ hf34) (nlc (NLt.agg _ (nlc nll (nlc (nld Qbf _) (nlcc (nlcc (nlc (nld Qah _) nl0)))))) nl0) nll),ag_ (apv Qij (Qc5 N x23.Outlet 0 (w64 (x35-1)) _ hf36) (nlcc (nlc nll nl0)) nll),tv⟩) fun q2_=>?_
         refine bfe h (fun hb38 h=>?_) fun hb38 h=>?_
         ·refine wxd tbk (hcat (Q3d x23 y4 x28 p0 x30 x35 x37) [(20,rp [(.tmp 80,(B ((!x37))))] (B true))]) (hap q2_ ⟨asb hb38 (amv rfl),tv⟩)<|wtr<|wxz<|Qai<|Qaj<|Qar<|Qaj<|Qaj<|Qar<|Qar ?_
          exact Qaj<|Qaj<|Qar<|Qaj<|frb h
         ·refine hpre (A:=(Q3c x23 y4 x28 p0 x30 x35 x37)) (hap q2_ ⟨asb hb38 (amv rfl),ag_ (aiq underlying24 ti59 Qae hi32 hj33),tv⟩) fun q3_=>?_
          refine bfe h (fun hb39 h=>?_) fun hb39 h=>?_
          ·refine wxd tbk (hcat (Q3c x23 y4 x28 p0 x30 x35 x37) [(32,rp [(.tmp 92,(B ((decide (x11.Level>x30.Level)))))] (B true))]) (hap q3_ ⟨asb hb39 (amv rfl),tv⟩)<|wtr<|wxz<|Qai<|Qaj<|Qar<|Qaj<|Qaj<|Qar<|Qar ?_
           exact Qaj<|Qaj<|Qar<|Qaj<|frb h
          ·obtain⟨x41,hf40,h⟩:=bno h
           refine wxd tbk (hcat (Q3c x23 y4 x28 p0 x30 x35 x37) [(32,rp [(.tmp 92,(B ((decide (x11.Level>x30.Level)))))] (B false)),(35,rp [(.tmp 93,B false),fu 72,(.tmp 94,(Qyp y17)),(.tmp 95,(Qyo x23))] (B x41))]) (hap q3_ ⟨asb hb39 (amv rfl),ag_ (awk (rd':=(.func 72,(.fn (.func 72) [] []))::[(.tmp 94,(.dat 2 (y17.map Qaw))),(.tmp 95,(Qyo x23))]) ⟨rfl,lrf,rfl,Less.acc,rfl,lrf,tv⟩ (apv Znx (Qvo N y17 x23 _ hf40) (nlc (nld Qbf _) (nlc (NLt.agg _ (nlcc nl0)) nl0)) nll)),tv⟩) ?_
           refine bfe h (fun hc42 h=>?_) fun hc42 h=>?_
           ·refine wft hc42<|wxz<|Qai<|Qaj<|Qar<|Qaj<|Qaj<|Qar<|Qar<|Qaj ?_
            exact Qaj<|Qar<|Qaj<|frb h
           ·refine wfn hc42<|Qam<|thn ?_
            obtain⟨ha43,h⟩:=cko h
            refine wx1 tbk [(2,rp [(.tmp 99,(Qyo x23))] (.dat 2 (([x23]:List Qbn).map Qaw))),(3,⟨[(.tmp 98,(Qyp y17)),(.tmp 100,(.dat 2 (([x23]:List Qbn).map Qaw)))],[(1,.tok),(4,.unused)],(.acc 4 61 2 ((y17++([x23]):List Qbn).map Qaw)),[(1,.dead),(4,.tok)],false⟩)] ⟨Qbm (vs:=[(Qyo x23)]) rfl underlying57 ti61 tz61 rfl (by decide) rfl (by decide) (by rfl) (by rfl) (by rfl) rfl,Qc7 rfl underlying57 te61 (Base.acc _ _) rfl rfl (by rfl) (Qf7 Qaw ha43) (Qf6 Qaw ha43 (by decide)) (Qf5 Qaw) rfl rfl,tv⟩<|bln<|thn<|wxz1<|thn ?_
            exact arm (mto (n:=102) [(1,.ref 0 2 0 0),(3,(.acc 4 61 2 ((y17++([x23]):List Qbn).map Qaw))),(4,I y4),(5,.ref 2 7 0 0),(6,(I (w64 (y18+1))))] [0,4,2] [(Qq8 p0),.tok,(Qso x11)] hq (prr (pc (.rn (Qa3 rfl (Qay Qbf _))) (pw (prr (pw pn))))) (qb (lc (rnd Qan) (lc (rnd Qab) ln)) (qc .tok (qb (lc rwl (lc (rnd Qbf) (lcc (lcc (lc (rnd Qah) ln))))) qn)))) (ih (y17++([x23]),w64 (y18+1)) h)
       ·exact wfn hc22<|Qa7<|Qau<|Qau<|Qa6 rfl<|bln<|thn<|⟨(y17),h,(mto (n:=102) [(1,.ref 0 2 0 0),(3,(Qyp y17)),(4,I y4)] [0,1] [(Qq8 p0),.tok] hq (prr (pc (.rn (Qa3 rfl (Qay Qbf _))) (pw pn))) (qb (lc (rnd Qan) (lc (rnd Qab) ln)) (qc .tok qn)))⟩
      ·skip
       obtain⟨x45,hf44,h⟩:=bno h
       refine hpre (A:=(Q3b x11 x45)) ⟨apv Znz (Qvp N x11 _ hf44) (nlc (NLt.agg _ (nlc nll (nlc (nld Qbf _) (nlcc (nlcc (nlc (nld Qah _) nl0)))))) nl0) nll,tv⟩ fun q4_=>?_
       refine bfe h (fun hb46 h=>?_) fun hb46 h=>?_
       ·refine wx tbk (hcat (Q3b x11 x45) [(3,rp [(.tmp 38,(B ((!x45))))] (B true))]) (hap q4_ ⟨asb hb46 (amv rfl),tv⟩)<|wtr<|wxz<|Qai<|Qaj<|Qar<|Qaj<|Qaj<|Qar<|Qaj ?_
        exact frb h
       ·obtain⟨x48,hf47,h⟩:=bno h
        refine wx tbk (hcat (Q3b x11 x45) [(3,rp [(.tmp 38,(B ((!x45))))] (B false)),(8,rp [(.tmp 39,B false),(.tmp 43,(Zlf p0))] (I ((p0.Table.length:Int)))),(10,rp [(.tmp 39,B false),fu 25,(.tmp 41,I x11.Level),ci 0,(.tmp 45,(I (w64 ((p0.Table.length:Int)-1))))] (B x48))]) (hap q4_ ⟨asb hb46 (amv rfl),ag_ (alq 5 Qap p0.Table underlying23),ag_ (apv Qij (Qc5 N x11.Level 0 (w64 ((p0.Table.length:Int)-1)) _ hf47) (nlcc (nlc nll nl0)) nll),tv⟩) ?_
        refine bfe h (fun hc49 h=>?_) fun hc49 h=>?_
        ·exact wft hc49<|wxz<|Qai<|Qaj<|Qar<|Qaj<|Qaj<|Qar<|Qaj<|frb h
        ·exact wfn hc49<|Qam<|thn<|⟨(y3),h,(mto (n:=102) [(1,.ref 0 2 0 0),(3,(.acc 1 61 2 (y3.map Qaw))),(4,I y4),(5,.ref 2 7 0 0)] [0,1,2] [(Qq8 p0),.tok,(Qso x11)] hq (prr (pc (.rn (Qa3 rfl (Qay Qbf _))) (pw (prr pn)))) (qb (lc (rnd Qan) (lc (rnd Qab) ln)) (qc .tok (qb (lc rwl (lc (rnd Qbf) (lcc (lcc (lc (rnd Qah) ln))))) qn))))⟩
    ·exact wfn hc8<|Qa7<|Qau<|Qau<|Qa6 rfl<|thn<|⟨(),h,(mto (n:=102) [] [] [] hq pn qn)⟩
  ·skip
   obtain⟨x51,hf50,h⟩:=bno h
   refine hpre (A:=(Q3a p0 x51)) ⟨apv Zn0 (Qvs N p0.Table _ hf50) (nlc (nld Qan _) nl0) nll,tv⟩ fun q5_=>?_
   refine bfe h (fun hb52 h=>?_) fun hb52 h=>?_
   ·exact wx tbk (hcat (Q3a p0 x51) [(4,rp [(.tmp 11,(B ((!x51))))] (B true))]) (hap q5_ ⟨asb hb52 (amv rfl),tv⟩)<|wtr<|wxz<|Qai<|Qaj<|frb h
   ·refine hpre (A:=(Q29 p0 x51)) (hap q5_ ⟨asb hb52 (amv rfl),ag_ (alq 7 Qae p0.Elements underlying24),tv⟩) fun q6_=>?_
    refine bfe h (fun hb53 h=>?_) fun hb53 h=>?_
    ·exact wx tbk (hcat (Q29 p0 x51) [(10,rp [(.tmp 17,(B ((decide ((p0.Elements.length:Int)<1)))))] (B true))]) (hap q6_ ⟨asb hb53 (amv rfl),tv⟩)<|wtr<|wxz<|Qai<|Qaj<|frb h
    ·refine wx tbk (hcat (Q29 p0 x51) [(10,rp [(.tmp 17,(B ((decide ((p0.Elements.length:Int)<1)))))] (B false)),(13,rp [(.tmp 18,B false),(.tmp 20,(Q9t p0))] (I ((p0.Elements.length:Int))))]) (hap q6_ ⟨asb hb53 (amv rfl),ag_ (alq 7 Qae p0.Elements underlying24),tv⟩) ?_
     refine bfe h (fun hc54 h=>?_) fun hc54 h=>?_
     ·exact wft hc54<|wxz<|Qai<|Qaj<|frb h
     ·exact wfn hc54<|Qam<|thn<|⟨(),h,(mto (n:=102) [(1,.ref 0 2 0 0)] [0] [(Qq8 p0)] hq (prr pn) (qb (lc (rnd Qan) (lc (rnd Qab) ln)) qn))⟩
def Qda (N:Nat) (k1:Unit→Option Bool) (p1:List Int):Nat→Int→Option Bool
  |0,_=>none
  |n4+1,y2=>
    bif (decide (y2<(p1.length:Int))) then
     (getI p1 y2).bind fun x6=>
     (Qd2 N x6 0 1000000000000).bind fun x11=>
     bif (!x11) then
      some false
     else
      Qda N k1 p1 n4 (w64 (y2+1))
    else
     k1 ()
def Qhn (N:Nat) (p0:GNet) (p1:List Int):Option Bool:=
  Qbc (fun _=>
    some ((p1.length:Int)==(p0.Elements.length:Int))) fun k1:Unit→Option Bool=>
  Qda N k1 p1 N 0
def Zqw (p0:GNet):AV:=.dat 7 (p0.Elements.map Qae)
def Qxr (p0:GNet):Slot:=.own 2 [[(.dat 5 (p0.Table.map Qap)),(Zqw p0)]]
theorem Qp1 (N:Nat) (p0:GNet) (p1:List Int) (r:Bool) (h:Qhn N p0 p1=some r):Spec prog 33 [(.agg (Qgw p0)),(.dat 1 (p1.map Qac))] [] (B r) []:=by
  refine sA func33 0 fun _ _ _ hq hd0=>?_
  unfold Qhn at h
  refine wxz ?_
  obtain⟨k1,hk_k1,h⟩:=jko h
  refine wjn (τ:=Unit) (fun t=>k1 t=some r) (fun _=>⟨mk 24 [(1,(.dat 1 (p1.map Qac))),(2,.ref 0 2 0 0)],[(Qxr p0)]⟩) (fun t h=>?_) ?_
  ·subst hk_k1
   refine wx tbk [(1,rp _ _),(4,rp _ _)] ⟨alq 1 Qac p1 underlying27,alq 7 Qae p0.Elements underlying24,tv⟩<|Qai ?_
   obtain rfl:=osi h
   exact fend ⟨[(B (((p1.length:Int)==(p0.Elements.length:Int))))],⟨rot,tv⟩,rfl⟩ nll
  ·skip
   refine wxz<|Qao ?_
   refine wmr (mto (n:=24) (l':=[(1,(.dat 1 (p1.map Qac))),(2,.ref 0 2 0 0),(5,I 0)]) (own':=[(Qxr p0)]) [(1,(.dat 1 (p1.map Qac))),(2,.ref 0 2 0 0),(5,I 0)] [0] [(Qxr p0)] hq (pc (rnd Qah) (prr (pw pn))) (qb (lc (rnd Qan) (lc (rnd Qab) ln)) qn)) ?_
   refine Qbl (τ:=Int) (fun n t=>Qda N k1 p1 n t=some r) (fun y2=>⟨mk 24 [(1,(.dat 1 (p1.map Qac))),(2,.ref 0 2 0 0),(5,I y2)],[(Qxr p0)]⟩) (fun t h=>by rw[Qda] at h;cases h) (fun n4 ih y2 h=>?_) N (0) h
   rw[Qda] at h
   skip
   refine wsq<|wx tbk [(2,rp _ _)] ⟨alq 1 Qac p1 underlying27,tv⟩ ?_
   refine bfe h (fun hc5 h=>?_) fun hc5 h=>?_
   ·refine wft hc5<|Qam<|thn<|wsq<|Qao ?_
    obtain⟨x6,hg7,h⟩:=bno h
    obtain⟨hi8,hj9⟩:=gsm hg7
    obtain⟨x11,hf10,h⟩:=bno h
    refine wx tbk [(2,rp _ _),(4,rp _ _)] ⟨aiq underlying27 ti3 Qac hi8 hj9,apw Qij (Qc5 N x6 0 1000000000000 _ hf10),tv⟩ ?_
    refine bfe h (fun hc12 h=>?_) fun hc12 h=>?_
    ·exact wft hc12<|wxz<|Qai<|Qar<|Qaj<|Qaj<|Qar<|Qaj<|frb h
    ·exact wfn hc12<|Qam<|bln<|thn<|wxz1<|thn<|arm (mto (n:=24) [(1,(.dat 1 (p1.map Qac))),(2,.ref 0 2 0 0),(5,(I (w64 (y2+1))))] [0] [(Qxr p0)] hq (pc (rnd Qah) (prr (pw pn))) (qb (lc (rnd Qan) (lc (rnd Qab) ln)) qn)) (ih (w64 (y2+1)) h)
   ·exact wfn hc5<|Qa7<|Qau<|Qau<|Qa6 rfl<|thn<|⟨(),h,(mto (n:=24) [(1,(.dat 1 (p1.map Qac))),(2,.ref 0 2 0 0)] [0] [(Qxr p0)] hq (pc (rnd Qah) (prr pn)) (qb (lc (rnd Qan) (lc (rnd Qab) ln)) qn))⟩
def Qg7 (N:Nat) (p0:Qaa):Option Bool:=
  (Qd2 N p0.Mass 0 1000000).bind fun x2=>
  bif x2 then
   (Qd2 N p0.Heat 0 (w64 (4000*p0.Mass))).bind fun x5=>
   bif x5 then
    (Qd2 N p0.Silica 0 (w64 (10000*p0.Mass))).bind fun x8=>
    bif x8 then
     (Qd2 N p0.Gas 0 1000000000).bind fun x11=>
     some x11
    else
     some false
   else
    some false
  else
   some false
def Zbv (p0:Qaa) (x2:Bool):List (Nat×Rec):=[(2,rp [fu 25,((.tmp 4),(I p0.Mass)),ci 0,ci 1000000] (B x2))]
def Zbu p0 x2 (x5:Bool):=hcat (Zbv p0 x2) [(3,rp [((.tmp 5),(B x2))] (B true)),(9,rp [((.tmp 6),(B true)),fu 25,((.tmp 8),(I p0.Heat)),ci 0,((.tmp 11),(I (w64 (4000*p0.Mass))))] (B x5))]
def Zbt p0 x2 x5 (x8:Bool):=hcat (Zbu p0 x2 x5) [(11,rp [((.tmp 13),(B x5))] (B true)),(17,rp [((.tmp 14),(B true)),fu 25,((.tmp 16),(I p0.Silica)),ci 0,((.tmp 19),(I (w64 (10000*p0.Mass))))] (B x8))]
theorem Qo9 (N:Nat) (p0:Qaa) (r:Bool) (h:Qg7 N p0=some r):Spec prog 121 [(.agg (Qad p0))] [] (B r) []:=by
  refine sA func121 0 fun _ _ _ hq hd0=>?_
  unfold Qg7 at h
  refine wxz ?_
  obtain⟨x2,hf1,h⟩:=bno h
  refine hpre (A:=(Zbv p0 x2)) ⟨apv Qij (Qc5 N p0.Mass 0 1000000 _ hf1) (nlcc (nlc nll nl0)) nll,tv⟩ fun q1_=>?_
  refine bfe h (fun hb3 h=>?_) fun hb3 h=>?_
  ·obtain⟨x5,hf4,h⟩:=bno h
   refine hpre (A:=(Zbu p0 x2 x5)) (hap q1_ ⟨asb hb3 (amv rfl),ag_ (apv Qij (Qc5 N p0.Heat 0 (w64 (4000*p0.Mass)) _ hf4) (nlcc (nlc nll nl0)) nll),tv⟩) fun q2_=>?_
   refine bfe h (fun hb6 h=>?_) fun hb6 h=>?_
   ·obtain⟨x8,hf7,h⟩:=bno h
    refine hpre (A:=(Zbt p0 x2 x5 x8)) (hap q2_ ⟨asb hb6 (amv rfl),ag_ (apv Qij (Qc5 N p0.Silica 0 (w64 (10000*p0.Mass)) _ hf7) (nlcc (nlc nll nl0)) nll),tv⟩) fun q3_=>?_
    refine bfe h (fun hb9 h=>?_) fun hb9 h=>?_
    ·obtain⟨x11,hf10,h⟩:=bno h
     exact wx tbk (hcat (Zbt p0 x2 x5 x8) [(19,rp [(.tmp 21,B x8)] (B true)),(22,rp [(.tmp 22,B true),fu 25,(.tmp 24,I p0.Gas),ci 0,ci 1000000000] (B x11))]) (hap q3_ ⟨asb hb9 (amv rfl),ag_ (apv Qij (Qc5 N p0.Gas 0 1000000000 _ hf10) (nlcc (nlc nll nl0)) nll),tv⟩)<|Qai<|frb h
    ·exact wx tbk (hcat (Zbt p0 x2 x5 x8) [(19,rp [(.tmp 21,B x8)] (B false))]) (hap q3_ ⟨asb hb9 (amv rfl),tv⟩)<|Qai<|frb h
   ·exact wx tbk (hcat (Zbu p0 x2 x5) [(11,rp [(.tmp 13,B x5)] (B false))]) (hap q2_ ⟨asb hb6 (amv rfl),tv⟩)<|Qai<|frb h
  ·exact wx tbk (hcat (Zbv p0 x2) [(3,rp [(.tmp 5,B x2)] (B false))]) (hap q1_ ⟨asb hb3 (amv rfl),tv⟩)<|Qai<|frb h
def Qlx (_N:Nat) (p0:Qaa):Option Qaa:=
  some p0
def Zqv (p0:Qaa):AV:=.agg [(I p0.Mass),(I p0.Heat),(I p0.Silica),(I p0.Gas)]
theorem Quj (N:Nat) (p0 r:Qaa) (h:Qlx N p0=some r):Spec prog 60 [(.agg (Qad p0))] [] (.agg (Qad r)) []:=by
  refine sA func60 0 fun _ _ _ hq hd0=>?_
  unfold Qlx at h
  refine wxz<|wx tbk [(8,rp _ _)] ⟨Qaz (vs:=[I p0.Mass,I p0.Heat,I p0.Silica,I p0.Gas]) rfl ts63 tz63 rfl (by rfl) rfl,tv⟩<|Qai ?_
  obtain rfl:=osi h
  exact fie [(Zqv p0)] ⟨Qbv (n:=1) (m:=4) (j:=0) (i:=0) (xs:=[[I p0.Mass,I p0.Heat,I p0.Silica,I p0.Gas]]) (by kernel_rfl) (by kernel_rfl) ti63 (by decide) rfl (nle rfl) rfl,tv⟩
def Qdw (N:Nat) (p0:List Qaa) (k2:(List Qaa)→Option (List Qaa)):Nat→(List Qaa)→Int→Option (List Qaa)
  |0,_,_=>none
  |n7+1,y3,y4=>
    bif (decide (y4<(p0.length:Int))) then
     (getI p0 y4).bind fun x9=>
     (Qlx N x9).bind fun x14=>
     chk (decide ((y3.length+([x14]).length)*32≤140737488355328))<|
     Qdw N p0 k2 n7 (y3++([x14])) (w64 (y4+1))
    else
     k2 (y3)
def Qi5 (N:Nat) (p0:List Qaa):Option (List Qaa):=
  Qbc (fun y1=>
    some y1) fun k2:(List Qaa)→Option (List Qaa)=>
  Qdw N p0 k2 N ([]) 0
def Q57 (p0:List Qaa):AV:=.dat 4 (p0.map Qad)
def Zbs (x14:Qaa):AV:=.agg [(I x14.Mass),(I x14.Heat),(I x14.Silica),(I x14.Gas)]
theorem Qte (N:Nat) (p0 r:List Qaa) (h:Qi5 N p0=some r):Spec prog 19 [(.dat 4 (p0.map Qad))] [] (.dat 4 (r.map Qad)) []:=by
  refine sA func19 0 fun _ _ _ hq hd0=>?_
  unfold Qi5 at h
  refine wxz<|wxz ?_
  obtain⟨k2,hk_k2,h⟩:=jko h
  refine wjn (τ:=(List Qaa)) (fun t=>k2 t=some r) (fun y1=>⟨mk 20 [(3,(.acc 0 63 4 (y1.map Qad)))],[.tok]⟩) (fun y1 h=>?_) ?_
  ·subst hk_k2
   refine wxz<|Qai ?_
   obtain rfl:=osi h
   exact fie [(.dat 4 (y1.map Qad))] ⟨Qbz (v:=(.acc 0 63 4 (y1.map Qad))) rot Less.acc,tv⟩
  ·skip
   refine wxz<|Qao ?_
   refine wmr (Mor.trans (Qpe 0 63 4 3 (by kernel_rfl) (by kernel_rfl)) (mto (n:=20) (l':=[(0,(Q57 p0)),(3,(.acc 0 63 4 ((([]):List Qaa).map Qad))),(4,I 0)]) (own':=[.tok]) [(0,(Q57 p0)),(3,(.acc 0 63 4 (([]:List Qaa).map Qad))),(4,I 0)] [0] [.tok] hq (pc (rnd Qal) (pc (.rn (Qa3 rfl (Qay Qal _))) (pw pn))) (qc .tok qn))) ?_
   refine Qbl (τ:=(List Qaa)×Int) (fun n t=>Qdw N p0 k2 n t.1 t.2=some r) (fun ⟨y3,y4⟩=>⟨mk 20 [(0,(Q57 p0)),(3,(.acc 0 63 4 (y3.map Qad))),(4,I y4)],[.tok]⟩) (fun t h=>by rw[Qdw] at h;cases h) (fun n7 ih t h=>?_) N ([],0) h
   obtain⟨y3,y4⟩:=t
   rw[Qdw] at h
   skip
   refine wsq<|wx tbk [(2,rp _ _)] ⟨alq 4 Qad p0 underlying28,tv⟩ ?_
   refine bfe h (fun hc8 h=>?_) fun hc8 h=>?_
   ·refine wft hc8<|Qam<|thn<|wsq<|Qao ?_
    obtain⟨x9,hg10,h⟩:=bno h
    obtain⟨hi11,hj12⟩:=gsm hg10
    obtain⟨x14,hf13,h⟩:=bno h
    obtain⟨ha15,h⟩:=cko h
    refine wx1 tbk [(3,rp _ _),(5,rp _ _),(6,rp [(.tmp 16,(Zbs x14))] (.dat 4 (([x14]:List Qaa).map Qad))),(7,⟨[(.tmp 11,(.acc 0 63 4 (y3.map Qad))),(.tmp 17,(.dat 4 (([x14]:List Qaa).map Qad)))],[(0,.tok),(1,.unused)],(.acc 1 63 4 ((y3++([x14]):List Qaa).map Qad)),[(0,.dead),(1,.tok)],false⟩)] ⟨aiq underlying28 ti89 Qad hi11 hj12,apw Zn5 (Quj N x9 _ hf13),Qbm (vs:=[(Zbs x14)]) rfl underlying45 ti63 tz63 rfl (by decide) rfl (by decide) (by rfl) (by rfl) (by rfl) rfl,Qc7 rfl underlying45 te63 (Base.acc _ _) rfl rfl (by rfl) (Qf7 Qad ha15) (Qf6 Qad ha15 (by decide)) (Qf5 Qad) rfl rfl,tv⟩<|bln<|thn<|wxz1<|thn ?_
    exact arm (mto (n:=20) [(0,(Q57 p0)),(3,(.acc 1 63 4 ((y3++([x14]):List Qaa).map Qad))),(4,(I (w64 (y4+1))))] [1] [.tok] hq (pc (rnd Qal) (pc (.rn (Qa3 rfl (Qay Qal _))) (pw pn))) (qc .tok qn)) (ih (y3++([x14]),w64 (y4+1)) h)
   ·exact wfn hc8<|Qa7<|Qau<|Qau<|Qa6 rfl<|thn<|⟨(y3),h,(mto (n:=20) [(3,(.acc 0 63 4 (y3.map Qad)))] [0] [.tok] hq (pc (.rn (Qa3 rfl (Qay Qal _))) pn) (qc .tok qn))⟩
def Qk8 (_N:Nat) (p0:Qaf) (p1:Int):Option Int:=
  chk (p0.Narrow != 0)<|
  (some (if (w64 (p0.Wide-(w64 (p1.tdiv p0.Narrow))))>0 then w64 (p0.Wide-(w64 (p1.tdiv p0.Narrow))) else 0)).bind fun x2=>
  some x2
theorem Qvq (N:Nat) (p0:Qaf) (p1 r:Int) (h:Qk8 N p0 p1=some r):Spec prog 62 [(.agg (Qae p0)),(I p1)] [] (I r) []:=by
  refine sA func62 0 fun _ _ _ hq hd0=>?_
  unfold Qk8 at h
  refine wxz ?_
  obtain⟨hz1,h⟩:=cko h
  obtain⟨x2,hl3,h⟩:=bno h
  refine wxd tbk [(5,rp [(.tmp 7,I p1),(.tmp 9,I p0.Narrow)] (I (w64 (p1.tdiv p0.Narrow)))),(7,rp [ci 0,(.tmp 11,(I (w64 (p0.Wide-(w64 (p1.tdiv p0.Narrow))))))] (I x2))] ⟨Qkc rfl (Qko hz1),Qhg hl3 (Qml rfl),tv⟩<|Qai ?_
  obtain rfl:=osi h
  exact fend ⟨[I x2],⟨rot,tv⟩,rfl⟩ nll
end
section
theorem Qbh {x:Int}(h:-9223372036854775808≤x) (h':x≤9223372036854775807):w64 x=x:=by
 unfold w64
 rw[IntKind.wrap_i64]
 omega
theorem w64S {i:Nat}(h:(i:Int)+1≤9223372036854775807):w64 ((i:Int)+1)=((i+1:Nat):Int):=Qbh (by omega) h
theorem dlt {α:Type}{l q:List α}{x:α}{i m:Nat}(hd:l.drop i=x::q) (hd':l.drop (i+1)=q) (h:(l.drop i).length<m+1):(l.drop (i+1)).length<m:=by
 rw[hd']
 rw[hd] at h
 simp at h
 omega
theorem dlI {α:Type}{l:List α}{i:Nat}(h:i<l.length):decide ((i:Int)<(l.length:Int))=true:=by simpa using h
theorem Qbu {α:Type}{l:List α}{i:Nat}{x:α}(h:l[i]? = some x):getI l (i:Int)=some x:=by
 simp[getI,h]
def btw (a lo hi:Int):Bool:=decide (lo≤a)&&decide (a≤hi)
theorem Qf4 {a lo hi:Int}:btw a lo hi=true↔lo≤a∧a≤hi:=by simp[btw]
theorem Qoz (a b:Int):w64 (w64 a+b)=w64 (a+b):=by
 unfold w64
 rw[IntKind.wrap_i64,IntKind.wrap_i64,IntKind.wrap_i64]
 omega
theorem Q16:maxLen=9223372036854775807:=rfl
theorem Qej {κ β:Type}(k:κ) (f:κ→Option β):Qbc k f=f k:=by rw[Qbc]
def rowB (r:GRow):Bool:=btw r.T 0 400&&btw r.P 1 10000&&btw r.Liquid 0 4000&&btw r.Silica 0 2000&&decide (r.Liquid<r.Vapour)&&decide (r.Vapour≤4000)
def Zce (o r:GRow):Bool:=decide (o.T<r.T)&&decide (o.P<r.P)&&decide (o.Liquid<r.Liquid)&&decide (o.Silica≤r.Silica)
def Qrq:List GRow→Bool
 |a::b::l=>Zce a b&&Qrq (b::l)
 |_=>true
def tabB (t:List GRow):Bool:=btw t.length 2 20&&t.all rowB&&Qrq t
theorem Q4d (N:Nat) (a lo hi:Int):Qd2 N a lo hi=some (btw a lo hi):=by
 unfold Qd2 btw
 by_cases h:lo≤a<;>simp[h]
theorem Qnd (N:Nat) (a lo hi:Int):Qc8 N a lo hi=some (btw a lo hi):=by
 unfold Qc8 btw
 by_cases h:lo≤a<;>simp[h]
theorem Zjo (N:Nat) (r:GRow):Qh4 N r=some (rowB r):=by
 unfold Qh4 rowB
 simp only[Qnd,Option.bind_some]
 cases btw r.T 0 400<;>cases btw r.P 1 10000<;>cases btw r.Liquid 0 4000<;>cases btw r.Silica 0 2000<;>by_cases h:r.Liquid<r.Vapour<;>simp[h]
theorem Qbg {α:Type}{t:List α}{i:Nat}{a:α}{l:List α}(h:t.drop i=a::l):t[i]? = some a∧t.drop (i+1)=l∧i<t.length:=by
 have hlt:i<t.length:=by
  rcases Nat.lt_or_ge i t.length with h' |h'
  ·exact h'
  ·rw[List.drop_eq_nil_of_le h'] at h;cases h
 rw[List.drop_eq_getElem_cons hlt] at h
 injection h with h1 h2
 exact⟨by rw[List.getElem?_eq_getElem hlt,h1],h2,hlt⟩
theorem Qbs {α:Type}{t:List α}{i:Nat}(h:t.drop i=[]):t.length≤i:=List.drop_eq_nil_iff.1 h
theorem Q4q (N:Nat) (t:List GRow) (k:Unit→Option Int) (hl:t.length≤1000):∀(n i:Nat),(t.drop i).length<n→i≤t.length →
  Qbe N t k n i=bif (t.drop i).all rowB then k () else some ((i:Int)+((t.drop i).findIdx fun r=>!rowB r:Nat)):=by
 intro n
 induction n with
 |zero=>intro i h;omega
 |succ n ih=>
  intro i h hi
  unfold Qbe
  cases hd:t.drop i with
  |nil=>
   have:=Qbs hd
   rw[show(decide ((i:Int)<(t.length:Int)))=false by simp;omega]
   rfl
  |cons a l=>
   obtain⟨h1,h2,h3⟩:=Qbg hd
   rw[show(decide ((i:Int)<(t.length:Int)))=true by simp;omega]
   simp only[cond_true,Qbu h1,Option.bind_some,Qfr,Zjo]
   cases hr:rowB a with
   |false=>simp[hr,List.findIdx_cons]
   |true=>
    have e:w64 ((i:Int)+1)=((i+1:Nat):Int):=by rw[Qbh]<;>omega
    rw[e]
    have:=ih (i+1) (by rw[h2];rw[hd] at h;simpa using h) (by omega)
    simp only[Bool.not_true,cond_false,this,h2,List.all_cons,hr,Bool.true_and,List.findIdx_cons]
    congr 2
    push_cast
    omega
theorem Zfh {N:Nat}{t:List GRow}(hl:t.length≤1000) (hN:1001≤N):Qfa N t=some (t.all rowB):=by
 have:=Q4q N t (fun _=>some (-1)) hl N 0 (by simp;omega) (Nat.zero_le _)
 rw[show((0:Nat):Int)=0 from rfl,List.drop_zero] at this
 unfold Qfa Qcg Qcn Qbc
 dsimp only
 rw[this]
 cases h:t.all rowB with
 |true=>simp
 |false=>simp
theorem Q8h (N:Nat) (t:List GRow) (k:Unit→Option Bool) (hl:t.length≤1000):∀(n i:Nat),(t.drop i).length<n→i<t.length →
  Qcy N t k n i=bif Qrq (t.drop i) then k () else some false:=by
 intro n
 induction n with
 |zero=>intro i h;omega
 |succ n ih=>
  intro i h hi
  unfold Qcy
  have hdr:∀x,(t.drop (1:Int).toNat)[i]? = some x↔t[i+1]? = some x:=fun x=>by
   rw[show(1:Int).toNat=1 from rfl,List.getElem?_drop,Nat.add_comm]
  have hlen:(t.drop (1:Int).toNat).length=t.length-1:=by simp
  cases hd:t.drop i with
  |nil=>have:=Qbs hd;omega
  |cons a l=>
   obtain⟨h1,h2,h3⟩:=Qbg hd
   cases l with
   |nil=>
    have:=Qbs h2
    rw[show(decide ((i:Int)<((t.drop (1:Int).toNat).length:Int)))=false by rw[hlen];simp;omega]
    rfl
   |cons b l=>
    obtain⟨h4,h5,h6⟩:=Qbg h2
    rw[show(decide ((i:Int)<((t.drop (1:Int).toNat).length:Int)))=true by rw[hlen];simp;omega]
    have e:w64 ((i:Int)+1)=((i+1:Nat):Int):=by rw[Qbh]<;>omega
    simp only[cond_true,Qbu ((hdr b).2 h4),Qbu h1,Option.bind_some,e]
    have:=ih (i+1) (by rw[h2];rw[hd] at h;simpa using h) (by omega)
    simp only[this,h2,Qrq,Zce]
    by_cases c1:b.T≤a.T
    ·simp[c1,Int.not_lt.2 c1]
    ·by_cases c2:b.P≤a.P
     ·simp[c1,c2,Int.not_lt.2 c2]
     ·by_cases c3:b.Liquid≤a.Liquid
      ·simp[c1,c2,c3,Int.not_lt.2 c3]
      ·by_cases c4:b.Silica<a.Silica
       ·simp[c1,c2,c3,c4,Int.not_le.2 c4]
       ·simp[c1,c2,c3,c4,Int.not_le.1 c1,Int.not_le.1 c2,Int.not_le.1 c3,Int.not_lt.1 c4]
theorem Q1b {N:Nat}{t:List GRow}(hl:t.length≤1000) (hN:1001≤N):Qfs N t=some (tabB t):=by
 unfold Qfs tabB
 rw[Qnd,Zfh hl hN]
 cases hb:btw t.length 2 20 with
 |false=>rfl
 |true=>
  have h2:2≤t.length:=by simp[btw] at hb;omega
  cases ha:t.all rowB with
  |false=>rfl
  |true=>
   have:=Q8h N t (fun _=>some true) hl N 0 (by simp;omega) (by omega)
   rw[show((0:Nat):Int)=0 from rfl,List.drop_zero] at this
   simp only[Option.bind_some,Bool.not_true,cond_false,Qbc,Bool.true_and]
   rw[this]
   rw[show(decide ((1:Int)≤(t.length:Int)))=true by rw[decide_eq_true_eq];omega]
   cases Qrq t<;>simp[chk]
def Q4c:Option GRow→List GRow→Bool
 |_,[]=>true
 |o,a::l=>rowB a&&(match o with |none=>true |some p=>Zce p a)&&Q4c (some a) l
theorem Qx2:∀(a:GRow) (l:List GRow),Q4c (some a) l=(l.all rowB&&Qrq (a::l))
 |_,[]=>rfl
 |a,b::l=>by
  rw[Q4c,Qx2 b l,List.all_cons,Qrq]
  cases rowB b<;>cases l.all rowB<;>cases Zce a b<;>simp
theorem Q8x:∀(t:List GRow),Q4c none t=(t.all rowB&&Qrq t)
 |[]=>rfl
 |a::l=>by
  rw[Q4c,Qx2 a l,List.all_cons]
  cases rowB a<;>simp
theorem Q32 (N:Nat) (t:List GRow) (k:Unit→Option Bool) (hl:t.length≤9223372036854775807):∀(n i:Nat),(t.drop i).length<n→i≤t.length →
  Qdz N t k n i=bif Q4c (if i=0 then none else t[i-1]?) (t.drop i) then k () else some false:=by
 intro n
 induction n with
 |zero=>intro i h;omega
 |succ n ih=>
  intro i h hi
  unfold Qdz
  cases hd:t.drop i with
  |nil=>
   have:=Qbs hd
   rw[show(decide ((i:Int)<(t.length:Int)))=false by simp;omega]
   rfl
  |cons a l=>
   obtain⟨h1,h2,h3⟩:=Qbg hd
   rw[show(decide ((i:Int)<(t.length:Int)))=true by simp;omega]
   have e:w64 ((i:Int)+1)=((i+1:Nat):Int):=by rw[Qbh]<;>omega
   have:=ih (i+1) (by rw[h2];rw[hd] at h;simpa using h) (by omega)
   simp only[Nat.add_sub_cancel,Nat.succ_ne_zero,if_false,h1,h2] at this
   simp only[cond_true,Qbu h1,Option.bind_some,e,Q4d,this,Q4c,rowB,Qbc]
   cases btw a.T 0 400
   ·rfl
   cases btw a.P 1 10000
   ·rfl
   cases btw a.Liquid 0 4000
   ·rfl
   cases btw a.Silica 0 2000
   ·rfl
   by_cases c1:a.Vapour≤a.Liquid
   ·simp[c1,Int.not_lt.2 c1]
   by_cases c2:a.Vapour>4000
   ·simp[c1,c2,Int.not_le.2 c2]
   cases i with
   |zero=>simp[c1,c2,Int.not_le.1 c1,Int.not_lt.1 c2]
   |succ i=>
    have hp:t[i]? = some t[i]:=List.getElem?_eq_getElem (by omega)
    have e2:w64 (((i+1:Nat):Int)-1)=(i:Int):=by rw[Qbh]<;>omega
    have e3:(decide (((i+1:Nat):Int)>0))=true:=by rw[decide_eq_true_eq];omega
    generalize t[i]=b at hp
    simp only[Bool.not_true,cond_false,e3,cond_true,e2,Qbu hp,Option.bind_some,Nat.add_sub_cancel,hp,Zce,show ¬(i+1=0) by omega,if_false,decide_eq_false c1,decide_eq_false c2,decide_eq_true (Int.not_le.1 c1),decide_eq_true (Int.not_lt.1 c2),Bool.true_and]
    by_cases d1:a.T≤b.T
    ·simp[d1,Int.not_lt.2 d1]
    ·by_cases d2:a.P≤b.P
     ·simp[d1,d2,Int.not_lt.2 d2]
     ·by_cases d3:a.Liquid≤b.Liquid
      ·simp[d1,d2,d3,Int.not_lt.2 d3]
      ·by_cases d4:a.Silica<b.Silica
       ·simp[d1,d2,d3,d4,Int.not_le.2 d4]
       ·simp[d1,d2,d3,d4,Int.not_le.1 d1,Int.not_le.1 d2,Int.not_le.1 d3,Int.not_lt.1 d4]
theorem Zcs {N:Nat}{t:List GRow}(hl:t.length≤9223372036854775807) (hN:t.length<N):Qla N t=some (tabB t):=by
 have:=fun k=>Q32 N t k hl N 0 (by simp;omega) (Nat.zero_le _)
 unfold Qla Qbc tabB
 rw[show((0:Nat):Int)=0 from rfl] at this
 dsimp only
 rw[this]
 simp only[List.drop_zero,if_true,Q8x,btw]
 by_cases h:(2:Int)≤t.length<;>cases t.all rowB<;>cases Qrq t<;>simp[h]
theorem Q83 (N:Nat) (t:List GRow) (k:List GRow→Option (List GRow)) (hl:t.length≤1000):∀(n i:Nat) (acc:List GRow),(t.drop i).length<n→i≤t.length→acc.length=i →
  Qe2 N t k n acc i=k (acc++t.drop i):=by
 intro n
 induction n with
 |zero=>intro i acc h;omega
 |succ n ih=>
  intro i acc h hi ha
  unfold Qe2
  cases hd:t.drop i with
  |nil=>
   have:=Qbs hd
   rw[show(decide ((i:Int)<(t.length:Int)))=false by simp;omega]
   simp
  |cons a l=>
   obtain⟨h1,h2,h3⟩:=Qbg hd
   rw[show(decide ((i:Int)<(t.length:Int)))=true by simp;omega]
   have e:w64 ((i:Int)+1)=((i+1:Nat):Int):=by rw[Qbh]<;>omega
   have hc:decide ((acc.length+[a].length)*40≤140737488355328)=true:=by simp;omega
   simp only[cond_true,Qbu h1,Option.bind_some,e,hc,chk]
   rw[ih (i+1) _ (by rw[h2];rw[hd] at h;simpa using h) (by omega) (by simp[ha]),h2]
   simp
theorem Zgq {N:Nat}{t:List GRow}(hl:t.length≤1000) (hN:1001≤N):Qle N t=some t:=by
 have:=Q83 N t (fun y=>some y) hl N 0 [] (by simp;omega) (Nat.zero_le _) rfl
 rw[show((0:Nat):Int)=0 from rfl] at this
 unfold Qle Qbc
 dsimp only
 rw[this]
 simp
def strB (s:Qaa):Bool:=btw s.Mass 0 1000000&&btw s.Heat 0 (4000*s.Mass)&&btw s.Silica 0 (10000*s.Mass)&&btw s.Gas 0 1000000000
theorem Qum {s:Qaa}(h:btw s.Mass 0 1000000=true):w64 (4000*s.Mass)=4000*s.Mass∧w64 (10000*s.Mass)=10000*s.Mass:=by
 simp only[btw,Bool.and_eq_true,decide_eq_true_eq] at h
 exact⟨Qbh (by omega) (by omega),Qbh (by omega) (by omega)⟩
theorem Zct (N:Nat) (s:Qaa):Qg7 N s=some (strB s):=by
 unfold Qg7 strB
 simp only[Q4d,Option.bind_some]
 cases h:btw s.Mass 0 1000000 with
 |false=>rfl
 |true=>
  rw[(Qum h).1,(Qum h).2]
  cases btw s.Heat 0 (4000*s.Mass)<;>cases btw s.Silica 0 (10000*s.Mass)<;>cases btw s.Gas 0 1000000000<;>rfl
theorem Qy7 (N:Nat) (s:Qaa):Qd9 N s=some (strB s):=by
 unfold Qd9 strB
 simp only[Qnd,Option.bind_some]
 cases h:btw s.Mass 0 1000000 with
 |false=>rfl
 |true=>
  rw[(Qum h).1,(Qum h).2]
  cases btw s.Heat 0 (4000*s.Mass)<;>cases btw s.Silica 0 (10000*s.Mass)<;>cases btw s.Gas 0 1000000000<;>rfl
structure RowV (r:GRow):Prop where
 l0:0≤r.Liquid
 l1:r.Liquid≤4000
 lv:r.Liquid<r.Vapour
 v1:r.Vapour≤4000
 s0:0≤r.Silica
 s1:r.Silica≤2000
theorem Zmx {r:GRow}(h:rowB r=true):RowV r:=by
 simp[rowB,btw] at h
 exact⟨by omega,by omega,by omega,by omega,by omega,by omega⟩
structure StrV (s:Qaa):Prop where
 m0:0≤s.Mass
 m1:s.Mass≤1000000
 h0:0≤s.Heat
 h1:s.Heat≤4000*s.Mass
 s0:0≤s.Silica
 s1:s.Silica≤10000*s.Mass
 g0:0≤s.Gas
 g1:s.Gas≤1000000000
theorem Qpo {s:Qaa}:strB s=true↔StrV s:=by
 simp only[strB,btw,Bool.and_eq_true,decide_eq_true_eq]
 exact⟨fun h=>⟨by omega,by omega,by omega,by omega,by omega,by omega,by omega,by omega⟩,fun h=>by obtain⟨_,_,_,_,_,_,_,_⟩:=h;omega⟩
theorem bdp {x y a b:Int}(hx:0≤x) (hx':x≤a) (hy:0≤y) (hy':y≤b) (ha:0≤a):0≤x*y∧x*y≤a*b:=
 ⟨Int.mul_nonneg hx hy,Int.mul_le_mul hx' hy' hy ha⟩
def stm (r:GRow) (s:Qaa):Int:=
 if s.Heat-s.Mass*r.Liquid≤0 then 0 else if s.Mass*r.Vapour≤s.Heat then s.Mass else(s.Heat-s.Mass*r.Liquid).tdiv (r.Vapour-r.Liquid)
def flG (r:GRow) (s:Qaa):Qe3:=
 if stm r s=0 then⟨⟨0,0,0,0⟩,⟨s.Mass,s.Heat,min (s.Mass*r.Silica) s.Silica,s.Gas⟩,if 0<s.Mass then max (s.Heat-s.Mass*r.Liquid) 0 else 0,s.Silica-min (s.Mass*r.Silica) s.Silica⟩
 else if stm r s=s.Mass then⟨⟨s.Mass,s.Heat,0,s.Gas⟩,⟨0,0,0,0⟩,0,s.Silica⟩
 else⟨⟨stm r s,stm r s*r.Vapour,0,s.Gas⟩,⟨s.Mass-stm r s,s.Heat-stm r s*r.Vapour,min ((s.Mass-stm r s)*r.Silica) s.Silica,0⟩,s.Heat-stm r s*r.Vapour-(s.Mass-stm r s)*r.Liquid,s.Silica-min ((s.Mass-stm r s)*r.Silica) s.Silica⟩
theorem Qrp {r:GRow}{s:Qaa}(hr:RowV r) (hs:StrV s) :
  (s.Heat-s.Mass*r.Liquid≤0∧stm r s=0) ∨
  (0<s.Heat-s.Mass*r.Liquid∧s.Mass*r.Vapour≤s.Heat∧stm r s=s.Mass∧0<s.Mass) ∨
  (0<s.Heat-s.Mass*r.Liquid∧s.Heat<s.Mass*r.Vapour∧stm r s=(s.Heat-s.Mass*r.Liquid).tdiv (r.Vapour-r.Liquid)∧0≤stm r s∧stm r s<s.Mass∧stm r s*(r.Vapour-r.Liquid)≤s.Heat-s.Mass*r.Liquid∧s.Heat-s.Mass*r.Liquid<stm r s*(r.Vapour-r.Liquid)+(r.Vapour-r.Liquid)):=by
 obtain⟨l0,l1,lv,v1,s0,s1⟩:=hr
 obtain⟨m0,m1,h0,h1,_,_,_,_⟩:=hs
 by_cases c1:s.Heat-s.Mass*r.Liquid≤0
 ·exact .inl ⟨c1,by unfold stm;rw[if_pos c1]⟩
 ·by_cases c2:s.Mass*r.Vapour≤s.Heat
  ·refine .inr (.inl ⟨by omega,c2,by unfold stm;rw[if_neg c1,if_pos c2],?_⟩)
   rcases Int.lt_or_eq_of_le m0 with h |h
   ·exact h
   ·rw[←h] at h1 c1
    simp at h1 c1
    omega
  ·have e:stm r s=(s.Heat-s.Mass*r.Liquid).tdiv (r.Vapour-r.Liquid):=by unfold stm;rw[if_neg c1,if_neg c2]
   have e2:stm r s=(s.Heat-s.Mass*r.Liquid)/(r.Vapour-r.Liquid):=by rw[e,Int.tdiv_eq_ediv_of_nonneg (by omega)]
   have d0:0<r.Vapour-r.Liquid:=by omega
   have q1:=Int.ediv_mul_le (s.Heat-s.Mass*r.Liquid) (b:=r.Vapour-r.Liquid) (by omega)
   have q2:=Int.lt_mul_ediv_self_add (x:=s.Heat-s.Mass*r.Liquid) (k:=r.Vapour-r.Liquid) d0
   have q3:0≤stm r s:=by rw[e2];exact Int.ediv_nonneg (by omega) (by omega)
   rw[←e2] at q1 q2
   rw[Int.mul_comm (r.Vapour-r.Liquid)] at q2
   refine .inr (.inr ⟨by omega,by omega,e,q3,?_,q1,q2⟩)
   rw[e2]
   refine Int.ediv_lt_of_lt_mul d0 ?_
   rw[Int.mul_sub]
   omega
structure Zt0 (r:GRow) (s:Qaa):Prop where
 a:w64 (s.Mass*r.Liquid)=s.Mass*r.Liquid
 b:w64 (s.Heat-s.Mass*r.Liquid)=s.Heat-s.Mass*r.Liquid
 c:w64 (s.Mass*r.Vapour)=s.Mass*r.Vapour
 d:w64 (r.Vapour-r.Liquid)=r.Vapour-r.Liquid
theorem Zgj {r:GRow}{s:Qaa}(hr:RowV r) (hs:StrV s):Zt0 r s:=by
 obtain⟨l0,l1,lv,v1,s0,s1⟩:=hr
 obtain⟨m0,m1,h0,h1,_,_,_,_⟩:=hs
 have p1:=bdp m0 m1 l0 l1 (by omega)
 have p2:=bdp (y:=r.Vapour) m0 m1 (by omega) v1 (by omega)
 exact⟨Qbh (by omega) (by omega),Qbh (by omega) (by omega),Qbh (by omega) (by omega),Qbh (by omega) (by omega)⟩
theorem Zgs (N:Nat) {r:GRow}{s:Qaa}(hr:RowV r) (hs:StrV s):Qg1 N ⟨r⟩ s=some (stm r s):=by
 obtain⟨wa,wb,wc,wd⟩:=Zgj hr hs
 have hlv:=hr.lv
 have hd:((r.Vapour-r.Liquid) != 0)=true:=by simp;omega
 have hs':=hs
 obtain⟨m0,m1,h0,h1,_,_,_,_⟩:=hs'
 unfold Qg1
 simp only[wa,wb,wc,wd,Option.bind_some,hd,chk,cond_true]
 rcases Qrp hr hs with ⟨a,b⟩ |⟨a,b,c,d⟩ |⟨a,b,c,d,e,_,_⟩
 ·rw[decide_eq_true a,b];rfl
 ·rw[decide_eq_false (show ¬s.Heat-s.Mass*r.Liquid≤0 by omega),decide_eq_true (show s.Heat≥s.Mass*r.Vapour from b),c];rfl
 ·rw[decide_eq_false (show ¬s.Heat-s.Mass*r.Liquid≤0 by omega),decide_eq_false (show ¬s.Heat≥s.Mass*r.Vapour by omega),←c,Qbh (by omega) (by omega)];rfl
theorem Ztw (N:Nat) {r:GRow}{s:Qaa}(hr:RowV r) (hs:StrV s):Qhl N ⟨r⟩ s=some (flG r s):=by
 have hw:=Zgj hr hs
 have hc:=Qrp hr hs
 have he:=Zgs N hr hs
 obtain⟨l0,l1,lv,v1,s0,s1⟩:=hr
 obtain⟨m0,m1,h0,h1,q0,q1,_,_⟩:=hs
 unfold Qhl
 have:(⟨⟨r.T,r.P,r.Liquid,r.Vapour,r.Silica⟩⟩:Qm2)=⟨r⟩:=rfl
 dsimp only at this ⊢
 rw[he]
 have p1:=bdp m0 m1 s0 s1 (by omega)
 simp only[Option.bind_some,Qbc]
 unfold flG
 generalize hm:stm r s=m at *
 by_cases z:m=0
 ·subst z
  rw[if_pos rfl,hw.a,Qbh (x:=s.Mass*r.Silica) (by omega) (by omega),hw.b]
  simp only[beq_self_eq_true,cond_true]
  have:w64 (s.Silica-(if s.Mass*r.Silica<s.Silica then s.Mass*r.Silica else s.Silica))=s.Silica-min (s.Mass*r.Silica) s.Silica:=by
   rw[Qbh]<;>(repeat split)<;>omega
  rw[this]
  by_cases c:0<s.Mass
  ·rw[decide_eq_true (show s.Mass>0 from c),if_pos c]
   simp only[cond_true]
   congr 2
   ·congr 1;split<;>omega
   ·split<;>omega
  ·rw[decide_eq_false (show ¬s.Mass>0 from c),if_neg c]
   simp only[cond_false]
   congr 2
   congr 1;split<;>omega
 ·have z1:(m==0)=false:=by simpa using z
  rw[if_neg z,z1]
  by_cases f:m=s.Mass
  ·have f1:(m==s.Mass)=true:=by simpa using f
   rw[f1,if_pos f]
   have:w64 (0*r.Silica)=0:=by rw[Int.zero_mul];rfl
   simp only[cond_false,cond_true,this]
   have:w64 (s.Silica-(if 0<s.Silica then 0 else s.Silica))=s.Silica:=by rw[Qbh]<;>split<;>omega
   rw[this]
   simp only[show decide ((0:Int)>0)=false from rfl,cond_false]
   congr 2
   ·rw[f]
   ·congr 1;split<;>omega
  ·have f1:(m==s.Mass)=false:=by simpa using f
   rw[f1,if_neg f]
   rcases hc with ⟨a,b⟩ |⟨a,b,c,d⟩ |⟨a,b,c,d,e,g1,g2⟩
   ·exact absurd b z
   ·exact absurd c f
   ·have k1:=bdp d (show m≤1000000 by omega) (show 0≤r.Vapour by omega) v1 (by omega)
    have k2:=bdp (show 0≤s.Mass-m by omega) (show s.Mass-m≤1000000 by omega) s0 s1 (by omega)
    have k3:=bdp (show 0≤s.Mass-m by omega) (show s.Mass-m≤1000000 by omega) l0 l1 (by omega)
    rw[Int.mul_sub] at g1
    have k4:0≤s.Heat-m*r.Vapour-(s.Mass-m)*r.Liquid:=by rw[Int.sub_mul];omega
    simp only[cond_false]
    rw[Qbh (x:=s.Mass-m) (by omega) (by omega),Qbh (x:=m*r.Vapour) (by omega) (by omega),Qbh (x:=s.Heat-m*r.Vapour) (by omega) (by omega),Qbh (x:=(s.Mass-m)*r.Silica) (by omega) (by omega),Qbh (x:=(s.Mass-m)*r.Liquid) (by omega) (by omega),Qbh (x:=s.Heat-m*r.Vapour-(s.Mass-m)*r.Liquid) (by omega) (by omega),decide_eq_true (show s.Mass-m>0 by omega)]
    have:w64 (s.Silica-(if (s.Mass-m)*r.Silica<s.Silica then(s.Mass-m)*r.Silica else s.Silica))=s.Silica-min ((s.Mass-m)*r.Silica) s.Silica:=by
     rw[Qbh]<;>(repeat split)<;>omega
    rw[this]
    simp only[cond_true]
    congr 2
    ·congr 1;split<;>omega
    ·split<;>omega
structure Zt2 (s:Qaa) (p:Qe3):Prop where
 st:StrV p.Steam
 wa:StrV p.Water
 km:p.Steam.Mass+p.Water.Mass=s.Mass
 kh:p.Steam.Heat+p.Water.Heat=s.Heat
 ks:p.Water.Silica+p.Scale=s.Silica
 kg:p.Steam.Gas+p.Water.Gas=s.Gas
 z:p.Steam.Silica=0
 sc:0≤p.Scale
theorem Qz5 {r:GRow}{s:Qaa}(hr:RowV r) (hs:StrV s):Zt2 s (flG r s):=by
 have hc:=Qrp hr hs
 obtain⟨l0,l1,lv,v1,s0,s1⟩:=hr
 obtain⟨m0,m1,h0,h1,q0,q1,y0,y1⟩:=hs
 have p1:=bdp m0 m1 s0 s1 (by omega)
 unfold flG
 by_cases z:stm r s=0
 ·rw[if_pos z]
  refine⟨⟨?_,?_,?_,?_,?_,?_,?_,?_⟩,⟨?_,?_,?_,?_,?_,?_,?_,?_⟩,?_,?_,?_,?_,?_,?_⟩<;>dsimp only<;>omega
 ·rw[if_neg z]
  by_cases f:stm r s=s.Mass
  ·rw[if_pos f]
   refine⟨⟨?_,?_,?_,?_,?_,?_,?_,?_⟩,⟨?_,?_,?_,?_,?_,?_,?_,?_⟩,?_,?_,?_,?_,?_,?_⟩<;>dsimp only<;>omega
  ·rw[if_neg f]
   rcases hc with ⟨a,b⟩ |⟨a,b,c,d⟩ |⟨a,b,c,d,e,g1,g2⟩
   ·exact absurd b z
   ·exact absurd c f
   ·generalize stm r s=m at *
    have k1:=bdp d (show m≤1000000 by omega) (show 0≤r.Vapour by omega) v1 (by omega)
    have k2:=bdp (show 0≤s.Mass-m by omega) (show s.Mass-m≤1000000 by omega) s0 s1 (by omega)
    have k5:m*r.Vapour≤m*4000:=Int.mul_le_mul_of_nonneg_left v1 d
    have k6:(s.Mass-m)*r.Silica≤(s.Mass-m)*2000:=Int.mul_le_mul_of_nonneg_left s1 (by omega)
    have k7:(s.Mass-m-1)*(r.Vapour-r.Liquid)≥0:=Int.mul_nonneg (by omega) (by omega)
    have k8:(s.Mass-m)*r.Vapour≤(s.Mass-m)*4000:=Int.mul_le_mul_of_nonneg_left v1 (by omega)
    have k9:0≤s.Mass*r.Liquid-m*r.Liquid:=by rw[←Int.sub_mul];exact Int.mul_nonneg (by omega) l0
    simp only[Int.mul_sub,Int.sub_mul,Int.one_mul] at g1 g2 k7 k8 k6 k2
    refine⟨⟨?_,?_,?_,?_,?_,?_,?_,?_⟩,⟨?_,?_,?_,?_,?_,?_,?_,?_⟩,?_,?_,?_,?_,?_,?_⟩<;>dsimp only<;>(try simp only[Int.sub_mul])<;>omega
theorem Q6f {t:List GRow}(ht:tabB t=true) {l:Int}(h:btw l 0 (t.length-1)=true):getI t l=some ((getI t l).getD ⟨0,0,0,0,0⟩)∧RowV ((getI t l).getD ⟨0,0,0,0,0⟩):=by
 simp only[btw,Bool.and_eq_true,decide_eq_true_eq] at h
 have hi:l.toNat<t.length:=by omega
 have e:getI t l=some t[l.toNat]:=by unfold getI;rw[if_pos h.1,List.getElem?_eq_getElem hi]
 rw[e]
 refine⟨rfl,?_⟩
 simp only[tabB,Bool.and_eq_true] at ht
 exact Zmx (List.all_eq_true.1 ht.1.2 _ (List.getElem_mem hi))
def Zm4:Qe3:=⟨⟨0,0,0,0⟩,⟨0,0,0,0⟩,0,0⟩
def Q62 (t:List GRow) (l:Int) (s:Qaa):Qe3×Int:=
 bif !tabB t then(Zm4,1) else bif !btw l 0 (t.length-1) then(Zm4,2) else bif !strB s then(Zm4,1) else(flG ((getI t l).getD ⟨0,0,0,0,0⟩) s,0)
theorem Zhj {N:Nat}(hN:1001≤N) {t:List GRow}(ht:t.length≤1000) (l:Int) (s:Qaa):Qky N t l s=some (Q62 t l s):=by
 have e0:w64 ((t.length:Int)-1)=(t.length:Int)-1:=by rw[Qbh]<;>omega
 unfold Qky Q62
 rw[Q1b ht hN]
 cases hT:tabB t with
 |false=>rfl
 |true=>
  simp only[Option.bind_some,Bool.not_true,cond_false,Qi6,Qnd,e0,Qy7]
  cases h1:btw l 0 ((t.length:Int)-1) with
  |false=>rfl
  |true=>
   cases h2:strB s with
   |false=>rfl
   |true=>
    obtain⟨g1,g2⟩:=Q6f hT h1
    simp only[Bool.not_true,cond_false,Qjq]
    rw[g1]
    simp only[Option.getD_some,Option.bind_some]
    generalize (getI t l).getD ⟨0,0,0,0,0⟩=r at g2
    have ho:Qhl N ⟨⟨r.T,r.P,r.Liquid,r.Vapour,r.Silica⟩⟩ s=some (flG r s):=Ztw N g2 (Qpo.1 h2)
    rw[ho]
    rfl
end
section
def Qlg (key:Int→Int) (ls:List Int) (i k:Int):Prop:=key (ls.getD k.toNat 0)<key (ls.getD i.toNat 0)∨(key (ls.getD k.toNat 0)=key (ls.getD i.toNat 0)∧i<k)
theorem Qq6 {key:Int→Int}{ls:List Int}{i k:Int}(h:Qlg key ls i k) (h':Qlg key ls k i):False:=by
 unfold Qlg at h h'
 omega
theorem Q43 {key:Int→Int}{ls:List Int}{i k m:Int}(h:Qlg key ls i k) (h':Qlg key ls k m):Qlg key ls i m:=by
 unfold Qlg at *
 omega
def ixs (n:Nat):List Int:=(List.range n).map fun j:Nat=>(j:Int)
theorem Qiw (n:Nat):(ixs n).length=n:=by simp[ixs]
theorem Qz1 {n i:Nat}(h:i<n):(ixs n)[i]? = some (i:Int):=by simp[ixs,h]
theorem Qqz {n:Nat}{x:Int}:x∈ixs n↔0≤x∧x<n:=by
 unfold ixs
 rw[List.mem_map]
 constructor
 ·rintro ⟨j,hj,rfl⟩
  have:=List.mem_range.1 hj
  omega
 ·rintro ⟨h0,h1⟩
  exact⟨x.toNat,List.mem_range.2 (by omega),by omega⟩
theorem Zdv (n:Nat):(ixs n).Nodup:=List.pairwise_map.2 ((List.nodup_range (n:=n)).imp fun h e=>h (by omega))
section
variable {N L : Nat} {ws : List Int} {M W : Int}
def rkey (M W w:Int):Int:=M*w % W
structure WOk (ws:List Int) (M W:Int):Prop where
 w:∀x∈ws,0≤x∧x≤1000
 m0:0≤M
 m1:M≤1000000
 p0:0<W
 p1:W≤20000
theorem Zcq (h:WOk ws M W) (x:Int):0≤rkey M W x∧rkey M W x<20000:=by
 have:=h.p0
 have:=h.p1
 have a:=Int.emod_nonneg (M*x) (show W≠0 by omega)
 have b:=Int.emod_lt_of_pos (M*x) h.p0
 unfold rkey
 omega
theorem Q6w (h:WOk ws M W) {x:Int}(hx:x∈ws):Qgf N x M W=some (rkey M W x):=by
 obtain⟨x0,x1⟩:=h.w x hx
 have h0:=h.m0
 have h1:=h.m1
 have p:=h.p0
 have:=bdp h0 h1 x0 x1 (by omega)
 unfold Qgf chk rkey
 rw[show(W != 0)=true by rw[bne_iff_ne];omega,cond_true,Qbh (by omega) (by omega),Int.tmod_eq_emod_of_nonneg this.1]
theorem Zrz (h:WOk ws M W) {a b:Int}(ha:0≤a∧a<ws.length) (hb:0≤b∧b<ws.length):Qfn N a b ws M W=some (rkey M W (ws.getD b.toNat 0)-rkey M W (ws.getD a.toNat 0)):=by
 have ga:ws[a.toNat]? = some (ws.getD a.toNat 0):=by rw[List.getD_eq_getElem?_getD,List.getElem?_eq_getElem (by omega)];rfl
 have gb:ws[b.toNat]? = some (ws.getD b.toNat 0):=by rw[List.getD_eq_getElem?_getD,List.getElem?_eq_getElem (by omega)];rfl
 have ka:=Zcq h (ws.getD a.toNat 0)
 have kb:=Zcq h (ws.getD b.toNat 0)
 unfold Qfn
 rw[show getI ws b=some (ws.getD b.toNat 0) from by rw[←gb];unfold getI;rw[if_pos hb.1],show getI ws a=some (ws.getD a.toNat 0) from by rw[←ga];unfold getI;rw[if_pos ha.1]]
 simp only[Option.bind_some,Q6w h (List.mem_of_getElem? ga),Q6w h (List.mem_of_getElem? gb)]
 rw[Qbh (by omega) (by omega)]
theorem Zng (h:WOk ws M W) (hL:L≤20) (hLw:L=ws.length) (k:List Int→Option (List Int)) (x:Int) (R:List Int) (hx:0≤x∧x<ws.length):∀(n:Nat) (P S:List Int),P.length<n→(P++x::S++R).length=L →
  (P++S).Pairwise (Qlg (rkey M W) ws)→(∀s∈S,Qlg (rkey M W) ws x s)→(∀y∈P++S,0≤y∧y<x) →
  ∃Q,Qbi N L 0 ws M W k n P.length (P++x::S++R)=k (Q++R)∧Q.Perm (P++x::S)∧Q.Pairwise (Qlg (rkey M W) ws):=by
 intro n
 induction n with
 |zero=>intro P S hn;exact absurd hn (Nat.not_lt_zero _)
 |succ n ih=>
  intro P S hn hl hp hs hb
  rw[Qbi]
  simp only[Qbc]
  rcases List.eq_nil_or_concat P with rfl |⟨P',y,rfl⟩
  ·refine⟨x::S,by simp,.refl _,?_⟩
   rw[List.pairwise_cons]
   exact⟨hs,by simpa using hp⟩
  ·simp only[List.concat_eq_append] at *
   have hlen:(P'++[y]).length=P'.length+1:=by simp
   have hl2:P'.length+1<L:=by rw[←hl];simp
   have e1:w64 (((P'++[y]).length:Nat)-1:Int)=(P'.length:Int):=by rw[hlen,Qbh (by omega) (by omega)];omega
   have e2:(((P'++[y]).length:Nat):Int).toNat=P'.length+1:=by rw[hlen];omega
   have e3:(P'.length:Int).toNat=P'.length:=by omega
   have gx:(P'++[y]++x::S++R)[P'.length+1]? = some x:=by
    rw[List.append_assoc,List.append_assoc,List.getElem?_append_right (by omega)]
    simp
   have gy:(P'++[y]++x::S++R)[P'.length]? = some y:=by
    rw[List.append_assoc,List.append_assoc,List.getElem?_append_right (by omega)]
    simp
   have hy:=hb y (by simp)
   have c1:(decide ((0:Int)≤(((P'++[y]).length:Nat):Int))&&decide (P'.length+1<L))=true:=by simp;omega
   have c2:(decide ((0:Int)≤(P'.length:Int))&&decide (P'.length<L))=true:=by simp;omega
   have hs1:((P'++[y]++x::S++R).set (P'.length+1) y)[P'.length]? = some y:=by rw[List.getElem?_set_ne (by omega)];exact gy
   have hsw:((P'++[y]++x::S++R).set (P'.length+1) y).set P'.length x=P'++x::(y::S)++R:=by
    have a1:(P'++[y]++x::S++R).set (P'.length+1) y=P'++[y]++y::S++R:=by
     rw[List.append_assoc,List.append_assoc,List.set_append_right _ _ (by omega),show P'.length+1-P'.length=1 by omega]
     simp
    rw[a1,List.append_assoc,List.append_assoc,List.set_append_right _ _ (by omega),Nat.sub_self]
    simp
   have hcmp:=Zrz (N:=N) h hx (show 0≤y∧y<ws.length by omega)
   simp only[show decide ((((P'++[y]).length:Nat):Int)>0)=true from decide_eq_true (by rw[hlen];omega),cond_true,e1,e2,e3,chk,c1,c2,gx,gy,Option.bind_some,hcmp,hs1,hsw]
   by_cases hlt:rkey M W (ws.getD y.toNat 0)-rkey M W (ws.getD x.toNat 0)<0
   ·rw[decide_eq_true hlt,cond_true]
    obtain⟨Q,q1,q2,q3⟩:=ih P' (y::S) (by rw[hlen] at hn;omega) (by rw[←hl];simp) (by simpa using hp) (fun s hs'=>by
     rcases List.mem_cons.1 hs' with rfl |hs'
     ·exact .inl (by omega)
     ·exact hs s hs') (fun z hz=>hb z (by simpa using hz))
    refine⟨Q,q1,q2.trans ?_,q3⟩
    rw[List.append_assoc]
    exact List.Perm.append_left P' (List.Perm.swap y x S)
   ·rw[decide_eq_false hlt,cond_false]
    refine⟨P'++[y]++x::S,rfl,.refl _,?_⟩
    have hyx:Qlg (rkey M W) ws y x:=by unfold Qlg;omega
    rw[List.pairwise_append] at hp ⊢
    obtain⟨p1,p2,p3⟩:=hp
    refine⟨p1,List.pairwise_cons.2 ⟨hs,p2⟩,fun a ha b hb'=>?_⟩
    have hax:Qlg (rkey M W) ws a x:=by
     rcases List.mem_append.1 ha with ha |ha
     ·rw[List.pairwise_append] at p1
      exact Q43 (p1.2.2 a ha y (by simp)) hyx
     ·simp at ha;subst ha;exact hyx
    rcases List.mem_cons.1 hb' with rfl |hb'
    ·exact hax
    ·exact p3 a ha b hb'
theorem Zg6 (h:WOk ws M W) (hL:L≤20) (hLw:L=ws.length) (hN:1000≤N):∀(n i:Nat) (Q:List Int),L-i<n→i≤L→Q.Perm ((ixs L).take i)→Q.Pairwise (Qlg (rkey M W) ws) →
  ∃Q',Qa8 N L 0 L ws M W n i (Q++(ixs L).drop i)=some Q'∧Q'.Perm (ixs L)∧Q'.Pairwise (Qlg (rkey M W) ws):=by
 intro n
 induction n with
 |zero=>intro i _ h;cases h
 |succ n ih=>
  intro i Q hn hi hp hq
  rw[Qa8]
  simp only[Qbc]
  by_cases hlt:i<L
  ·have hql:Q.length=i:=by rw[hp.length_eq,List.length_take,Qiw];omega
   have hd:(ixs L).drop i=(i:Int)::(ixs L).drop (i+1):=by
    have:=Qz1 hlt
    have hi2:i<(ixs L).length:=by rw[Qiw];exact hlt
    rw[List.drop_eq_getElem_cons hi2]
    rw[List.getElem?_eq_getElem hi2] at this
    rw[Option.some.inj this]
   rw[show decide ((i:Int)<(L:Int))=true from by simpa using hlt,cond_true]
   have hmem:∀y∈Q,0≤y∧y<(i:Int):=fun y hy=>by
    have h1:=hp.mem_iff.1 hy
    obtain⟨j,hj,e⟩:=List.mem_take_iff_getElem.1 h1
    have hj2:j<L:=by rw[Qiw] at hj;omega
    have:=Qz1 hj2
    rw[List.getElem?_eq_getElem (by rw[Qiw];exact hj2),e] at this
    cases this
    omega
   obtain⟨Q',q1,q2,q3⟩:=Zng (N:=N) h hL hLw (fun y8=>Qa8 N L 0 L ws M W n (w64 ((i:Int)+1)) y8) (i:Int) ((ixs L).drop (i+1)) (by omega) N Q [] (by omega) (by simp[Qiw,hql];omega) (by simpa using hq) (by simp) (by simpa using hmem)
   rw[hql] at q1
   rw[hd]
   have e:Q++(i:Int)::(ixs L).drop (i+1)=Q++[(i:Int)]++(ixs L).drop (i+1):=by simp
   rw[e]
   have t:(ixs L).take (i+1)=(ixs L).take i++[(i:Int)]:=by
    rw[List.take_add_one,Qz1 hlt];rfl
   obtain⟨Q2,r1,r2,r3⟩:=ih (i+1) Q' (by omega) (by omega) (q2.trans (by rw[t];exact hp.append_right _)) q3
   refine⟨Q2,q1.trans ?_,r2,r3⟩
   rw[w64S (i:=i) (by omega)]
   exact r1
  ·rw[show decide ((i:Int)<(L:Int))=false from by simpa using hlt,cond_false]
   have hiL:i=L:=by omega
   subst hiL
   rw[List.take_of_length_le (by rw[Qiw];exact Nat.le_refl _)] at hp
   exact⟨Q,by rw[List.drop_of_length_le (by rw[Qiw];exact Nat.le_refl _),List.append_nil],hp,hq⟩
theorem Zgu (h:WOk ws M W) (hL:ws.length≤20) (h1:1≤ws.length) (hN:1000≤N):∃Q,Qcc N ws.length (ixs ws.length) ws M W=some Q∧Q.Perm (ixs ws.length)∧Q.Pairwise (Qlg (rkey M W) ws):=by
 have ht:(ixs ws.length).take 1=[0]:=by
  rw[List.take_add_one,Qz1 (by omega)];rfl
 have hd:(ixs ws.length)=[0]++(ixs ws.length).drop 1:=by rw[←ht,List.take_append_drop]
 obtain⟨Q,q1,q2,q3⟩:=Zg6 (N:=N) (L:=ws.length) h hL rfl hN N 1 [0] (by omega) h1 (by rw[ht]) (by simp)
 rw[←hd] at q1
 refine⟨Q,?_,q2,q3⟩
 obtain⟨m,rfl⟩:∃m,N=m+2:=⟨N-2,by omega⟩
 have hins:Qbo (m+2) ws.length 0 (ws.length:Int) (ixs ws.length) ws M W=some Q:=by
  unfold Qbo
  rw[show w64 ((0:Int)+1)=((1:Nat):Int) from Qbh (by decide) (by decide)]
  exact q1
 unfold Qcc Qen
 simp only[Qbc]
 rw[Qbw]
 by_cases h20:ws.length=20
 ·rw[show decide ((20:Int)≤(ws.length:Int))=true from by simp;omega,cond_true]
  have e20:(20:Int)=(ws.length:Int):=by omega
  rw[show Qbo (m+2) ws.length 0 20 (ixs ws.length) ws M W=some Q from by rw[e20];exact hins,Option.bind_some,Qbw,show w64 ((20:Int)+20)=40 from Qbh (by decide) (by decide),show decide ((40:Int)≤(ws.length:Int))=false from by simp;omega,cond_false]
  dsimp only
  unfold Qbo
  rw[show w64 ((20:Int)+1)=21 from Qbh (by decide) (by decide),Qa8,show decide ((21:Int)<(ws.length:Int))=false from by simp;omega,cond_false,Option.bind_some,Qb1,show decide ((20:Int)<(ws.length:Int))=false from by simp;omega,cond_false]
  rfl
 ·rw[show decide ((20:Int)≤(ws.length:Int))=false from by simp;omega,cond_false]
  dsimp only
  rw[hins,Option.bind_some,Qb1,show decide ((20:Int)<(ws.length:Int))=false from by simp;omega,cond_false]
  rfl
theorem Zg8 (ls:List Int) (k:List Int→Option (List Int)) (h8:ls.length≤20):∀(n i:Nat) (l:List Int),ls.length-i<n→i≤ls.length→l=ixs i →
  Qcr N ls k n i l=k (ixs ls.length):=by
 intro n
 induction n with
 |zero=>intro i _ h;cases h
 |succ n ih=>
  intro i l hn hi hl
  rw[Qcr]
  by_cases h:i<ls.length
  ·have e1:w64 ((i:Int)+1)=((i+1:Nat):Int):=Qbh (by omega) (by omega)
   rw[show decide ((i:Int)<(ls.length:Int))=true from by simpa using h,cond_true,e1]
   simp only[chk]
   rw[show decide ((l.length+[(i:Int)].length)*8≤140737488355328)=true from by rw[hl,Qiw];simp;omega,cond_true]
   exact ih (i+1) _ (by omega) (by omega) (by rw[hl];simp[ixs,List.range_succ])
  ·rw[show decide ((i:Int)<(ls.length:Int))=false from by simpa using h,cond_false,hl,show i=ls.length by omega]
theorem Q1o (h:WOk ws M W) (hL:ws.length≤20) (h1:1≤ws.length) (hN:1000≤N):∃Q,Qgi N ws M W=some Q∧Q.Perm (ixs ws.length)∧Q.Pairwise (Qlg (rkey M W) ws):=by
 obtain⟨Q,q1,q2,q3⟩:=Zgu (N:=N) h hL h1 hN
 refine⟨Q,?_,q2,q3⟩
 have hlen:=q2.length_eq
 rw[Qiw] at hlen
 unfold Qgi
 simp only[Qbc]
 have:=Zg8 (N:=N) ws (fun y3=>chk (!y3.isEmpty)<|(Qcc N y3.length y3 ws M W).bind fun x7=>chk (decide (y3.length≤x7.length))<|some (x7.take y3.length)) hL N 0 [] (by omega) (by omega) rfl
 refine this.trans ?_
 have he:(!(ixs ws.length).isEmpty)=true:=by
  cases hh:ixs ws.length with
  |nil=>have:=Qiw ws.length;rw[hh] at this;simp at this;omega
  |cons=>rfl
 simp only[chk,he,cond_true,Qiw,q1,Option.bind_some]
 rw[show decide (ws.length≤Q.length)=true by simp;omega,cond_true,List.take_of_length_le (by omega)]
end
end
section
theorem Q2m {α:Type}{F:Nat→Int→Option Int}{p:List α}{q:α→Option Bool}{b:α→Bool}{k:Unit→Option Int}
  (h:∀n y,F (n+1) y=bif decide (y<(p.length:Int)) then(getI p y).bind fun x=>(q x).bind fun c=>bif c then some y else F n (w64 (y+1)) else k ())
  (hq:∀x,q x=some (b x)) (hk:k ()=some (-1)) (hl:p.length≤1000000):∀(n i:Nat),(p.drop i).length<n→(F n i).bind (fun x=>some (decide (x≥0)))=some ((p.drop i).any b):=by
 intro n
 induction n with
 |zero=>intro i h;cases h
 |succ n ih=>
  intro i hn
  rw[h]
  cases hd:p.drop i with
  |nil=>
   have:=Qbs hd
   rw[show decide ((i:Int)<(p.length:Int))=false by simp;omega,cond_false,hk]
   rfl
  |cons a l=>
   obtain⟨h1,h2,h3⟩:=Qbg hd
   rw[show decide ((i:Int)<(p.length:Int))=true by simp;omega,cond_true,Qbu h1,Option.bind_some,hq,Option.bind_some]
   cases hb:b a with
   |true=>simp[hb]
   |false=>
    rw[cond_false,show w64 ((i:Int)+1)=((i+1:Nat):Int) by rw[Qbh]<;>omega,ih (i+1) (by rw[h2];rw[hd] at hn;simp at hn;omega),h2]
    simp[hb]
theorem Qjm {α:Type}{F:Nat→Int→Option Int}{p:List α}{q:α→Option Bool}{b:α→Bool}{k:Unit→Option Int}{N:Nat}
  (h:∀n y,F (n+1) y=bif decide (y<(p.length:Int)) then(getI p y).bind fun x=>(q x).bind fun c=>bif c then some y else F n (w64 (y+1)) else k ())
  (hq:∀x,q x=some (b x)) (hk:k ()=some (-1)) (hl:p.length≤1000000) (hN:p.length<N):(F N 0).bind (fun x=>some (decide (x≥0)))=some (p.any b):=by
 have:=Q2m h hq hk hl N 0 (by simpa using hN)
 simpa using this
theorem Qkg (N:Nat) (a lo hi:Int):Qcp N a lo hi=some (btw a lo hi):=by
 unfold Qcp btw
 by_cases h:lo≤a<;>simp[h]
theorem Qw3 {α:Type}(l:List α) (b:α→Bool):(!l.any fun x=>!b x)=l.all b:=by
 induction l with
 |nil=>rfl
 |cons a l ih=>simp only[List.any_cons,List.all_cons,Bool.not_or,Bool.not_not,ih]
def wtsB (w:List Int):Bool:=btw w.length 1 20&&(w.all (fun x=>btw x 0 1000)&&w.any fun x=>decide (x>0))
def outl (x:Qaf):Int:=if x.Kind=4 then 2 else if x.Kind=5 then x.Weights.length else 1
def Qil (x:Qaf):Bool:=
 btw x.Kind 1 6&&btw x.Wide 0 1000000&&btw x.Narrow 1 1000000000&&btw x.From.length (if x.Kind=1 then 0 else 1) (if x.Kind=1 then 0 else if x.Kind=2 then 6 else 1) &&
 btw x.Amount 0 (if x.Kind=3 then 1000000000 else if x.Kind=4 then 1000 else 0)&&(if x.Kind=5 then wtsB x.Weights else decide (x.Weights.length=0))
theorem Zo5 {N:Nat}{w:List Int}(hl:w.length≤1000) (hN:1001≤N):Qhs N w=some (w.all fun x=>btw x 0 1000):=by
 have hc:Qc4 N w=some (w.any fun x=>!btw x 0 1000):=by
  unfold Qc4 Qes Qbc
  refine Qjm (F:=Qb8 N w fun _=>some (-1)) (k:=fun _=>some (-1)) (q:=Qhr N) (fun n y=>rfl) (fun x=>?_) rfl (by omega) (by omega)
  simp only[Qhr,Qhb,Qkg,Option.bind_some]
 unfold Qhs
 rw[hc,Option.bind_some,Qw3]
theorem Zo4 {N:Nat}{w:List Int}(hl:w.length≤1000) (hN:1001≤N):Qcl N w=some (w.any fun x=>decide (x>0)):=by
 unfold Qcl Qer Qbc
 exact Qjm (F:=Qb7 N w fun _=>some (-1)) (k:=fun _=>some (-1)) (q:=Qha N) (fun n y=>rfl) (fun x=>rfl) rfl (by omega) (by omega)
theorem Zfg {N:Nat}{x:Qaf}(hw:x.Weights.length≤1000) (hN:1001≤N):Qgs N x=some (Qil x):=by
 have key:∀(a b:Int),(bif ((x.From.length:Int) != a) then some false else
   (Qcp N x.Amount 0 b).bind fun x16=>bif (!x16) then some false else(Qcp N x.Wide 0 1000000).bind fun x19=>bif (!x19) then some false else
    (Qcp N x.Narrow 1 1000000000).bind fun x22=>bif (!x22) then some false else
    bif (x.Kind != 5) then some ((x.Weights.length:Int)==0) else(Qcp N (x.Weights.length:Int) 1 20).bind fun x7=>bif x7 then(Qhs N x.Weights).bind fun x10=>
    bif x10 then(Qcl N x.Weights).bind fun x13=>some x13 else some false else some false) =
   some (decide ((x.From.length:Int)=a)&&btw x.Amount 0 b&&btw x.Wide 0 1000000&&btw x.Narrow 1 1000000000&&(if x.Kind=5 then wtsB x.Weights else decide (x.Weights.length=0))):=fun a b=>by
  simp only[Qkg,Zo5 hw hN,Zo4 hw hN,Option.bind_some]
  by_cases h1:(x.From.length:Int)=a
  ·rw[show((x.From.length:Int) != a)=false by simpa using h1,cond_false,decide_eq_true h1]
   cases btw x.Amount 0 b<;>cases btw x.Wide 0 1000000<;>cases btw x.Narrow 1 1000000000<;>simp only[Bool.not_true,Bool.not_false,cond_true,cond_false,Bool.and_true,Bool.true_and,Bool.false_and,Bool.and_false]
   by_cases h5:x.Kind=5
   ·rw[show(x.Kind != 5)=false by simpa using h5,if_pos h5,wtsB]
    cases btw x.Weights.length 1 20<;>cases (x.Weights.all fun x=>btw x 0 1000)<;>cases (x.Weights.any fun x=>decide (x>0))<;>rfl
   ·rw[show(x.Kind != 5)=true by simpa using h5,if_neg h5,cond_true]
    congr 1
    by_cases h0:x.Weights.length=0
    ·rw[h0];rfl
    ·rw[decide_eq_false h0,beq_eq_false_iff_ne];omega
  ·rw[show((x.From.length:Int) != a)=true by simpa using h1,cond_true,decide_eq_false h1]
   simp
 unfold Qgs Qil
 simp only[Qbc]
 simp only[key]
 have hkd:∀a b:Int,decide (((x.From.length:Int))=a)=btw x.From.length a a:=fun a _=>by
  unfold btw
  by_cases h:(x.From.length:Int)=a
  ·rw[h];simp
  ·rw[decide_eq_false h]
   symm
   rw[Bool.and_eq_false_iff,decide_eq_false_iff_not,decide_eq_false_iff_not];omega
 have fin:∀(a b c d e:Bool),some (a&&b&&c&&d&&e)=some (true&&c&&d&&a&&b&&e):=by
  intro a b c d e;cases a<;>cases b<;>cases c<;>cases d<;>rfl
 by_cases h1:x.Kind=1
 ·rw[h1]
  simp only[beq_self_eq_true,cond_true,hkd 0 0]
  exact fin _ _ _ _ _
 ·have b1:(x.Kind==1)=false:=by simpa using h1
  by_cases h2:x.Kind=2
  ·rw[h2]
   have e:∀c:Int,decide (((x.From.length:Int))=(if (if (6:Int)<x.From.length then 6 else(x.From.length:Int))>1 then(if (6:Int)<x.From.length then 6 else(x.From.length:Int)) else 1))=btw x.From.length 1 6:=fun _=>by
    unfold btw
    by_cases h6:(6:Int)<x.From.length
    ·rw[if_pos h6,if_pos (by decide),decide_eq_false (by omega)]
     symm;rw[Bool.and_eq_false_iff,decide_eq_false_iff_not,decide_eq_false_iff_not];omega
    ·rw[if_neg h6]
     by_cases h7:(x.From.length:Int)>1
     ·rw[if_pos h7];simp;omega
     ·rw[if_neg h7]
      by_cases h8:(x.From.length:Int)=1
      ·rw[h8];rfl
      ·rw[decide_eq_false h8]
       symm;rw[Bool.and_eq_false_iff,decide_eq_false_iff_not,decide_eq_false_iff_not];omega
   simp only[show((2:Int)==1)=false from rfl,beq_self_eq_true,cond_true,cond_false,Option.bind_some,e 0]
   exact fin _ _ _ _ _
  ·have b2:(x.Kind==2)=false:=by simpa using h2
   by_cases h3:x.Kind=3
   ·rw[h3]
    simp only[show((3:Int)==1)=false from rfl,show((3:Int)==2)=false from rfl,beq_self_eq_true,cond_true,cond_false,hkd 1 0]
    exact fin _ _ _ _ _
   ·have b3:(x.Kind==3)=false:=by simpa using h3
    by_cases h4:x.Kind=4
    ·rw[h4]
     simp only[show((4:Int)==1)=false from rfl,show((4:Int)==2)=false from rfl,show((4:Int)==3)=false from rfl,beq_self_eq_true,cond_true,cond_false,hkd 1 0]
     exact fin _ _ _ _ _
    ·have b4:(x.Kind==4)=false:=by simpa using h4
     by_cases h5:x.Kind=5
     ·rw[h5]
      simp only[show((5:Int)==1)=false from rfl,show((5:Int)==2)=false from rfl,show((5:Int)==3)=false from rfl,show((5:Int)==4)=false from rfl,beq_self_eq_true,cond_true,cond_false,hkd 1 0]
      exact fin _ _ _ _ _
     ·have b5:(x.Kind==5)=false:=by simpa using h5
      by_cases h6:x.Kind=6
      ·rw[h6]
       simp only[show((6:Int)==1)=false from rfl,show((6:Int)==2)=false from rfl,show((6:Int)==3)=false from rfl,show((6:Int)==4)=false from rfl,show((6:Int)==5)=false from rfl,beq_self_eq_true,cond_true,cond_false,hkd 1 0]
       exact fin _ _ _ _ _
      ·have b6:(x.Kind==6)=false:=by simpa using h6
       simp only[b1,b2,b3,b4,b5,b6,cond_false]
       have:btw x.Kind 1 6=false:=by
        unfold btw
        rw[Bool.and_eq_false_iff,decide_eq_false_iff_not,decide_eq_false_iff_not];omega
       rw[this];simp
theorem Zgi {N:Nat}(w:List Int) (k:Int→Option Bool) (hl:w.length≤1000):∀(n i:Nat) (s:Int),(w.drop i).length<n→0≤s→s≤1000*i →
  Qcu N w k n s i=bif (w.drop i).all (fun x=>btw x 0 1000) then k (s+(w.drop i).sum) else some false:=by
 intro n
 induction n with
 |zero=>intro i _ h;cases h
 |succ n ih=>
  intro i s h h0 h1
  rw[Qcu]
  cases hd:w.drop i with
  |nil=>
   have:=Qbs hd
   simp[show ¬((i:Int)<w.length) from by omega]
  |cons a l=>
   obtain⟨hg,hd',hlt⟩:=Qbg hd
   simp only[dlI hlt,cond_true,Qbu hg,Option.bind_some,Q4d,List.all_cons]
   cases hb:btw a 0 1000 with
   |false=>rfl
   |true=>
    have hb':=Qf4.1 hb
    simp only[Bool.not_true,cond_false,Bool.true_and,List.sum_cons]
    rw[Qbh (x:=(i:Int)+1) (by omega) (by omega),Qbh (x:=s+a) (by omega) (by omega),show(i:Int)+1=((i+1:Nat):Int) by omega,ih (i+1) (s+a) (dlt hd hd' h) (by omega) (by omega),hd',Int.add_assoc]
theorem Q3w {w:List Int}(h:∀x∈w,0≤x):0≤w.sum∧(w.sum>0↔∃x∈w,x>0):=by
 induction w with
 |nil=>simp
 |cons a l ih=>
  obtain⟨h1,h2⟩:=ih fun x hx=>h x (List.mem_cons_of_mem _ hx)
  have ha:=h a List.mem_cons_self
  simp only[List.sum_cons,List.mem_cons,exists_eq_or_imp]
  refine⟨by omega,⟨fun hs=>?_,fun hs=>?_⟩⟩
  ·by_cases h3:a>0
   ·exact .inl h3
   ·exact .inr (h2.1 (by omega))
  ·rcases hs with hs |hs
   ·omega
   ·have:=h2.2 hs;omega
theorem Zcr {N:Nat}{w:List Int}(hl:w.length≤1000) (hN:1001≤N):Qgo N w=some (wtsB w):=by
 unfold Qgo wtsB
 simp only[Qbc]
 have:=Zgi (N:=N) w (fun y1=>bif (decide ((w.length:Int)≤20)) then some (decide (y1>0)) else some false) hl N 0 0 (by simp;omega) (by omega) (by omega)
 rw[List.drop_zero,Int.zero_add] at this
 refine this.trans ?_
 cases ha:w.all fun x=>btw x 0 1000 with
 |false=>simp
 |true=>
  have ha':∀x∈w,0≤x:=fun x hx=>(Qf4.1 (List.all_eq_true.1 ha x hx)).1
  have hs:=(Q3w ha').2
  have e:(w.any fun x=>decide (x>0))=decide (w.sum>0):=by
   by_cases h:w.sum>0
   ·rw[decide_eq_true h,List.any_eq_true]
    obtain⟨x,h1,h2⟩:=hs.1 h
    exact⟨x,h1,by simpa using h2⟩
   ·rw[decide_eq_false h]
    rw[List.any_eq_false]
    exact fun x hx h2=>h (hs.2 ⟨x,hx,by simpa using h2⟩)
  rw[e,cond_true,Bool.true_and]
  by_cases h1:w.length=0
  ·have:w=[]:=List.length_eq_zero_iff.1 h1
   subst this
   rfl
  ·by_cases h2:(w.length:Int)≤20
   ·rw[show btw (w.length:Int) 1 20=true from Qf4.2 ⟨by omega,h2⟩,decide_eq_true h2];rfl
   ·rw[show btw (w.length:Int) 1 20=false by unfold btw;rw[decide_eq_false h2,Bool.and_false],decide_eq_false h2];rfl
theorem Zff {N:Nat}{x:Qaf}(hw:x.Weights.length≤1000) (hN:1001≤N):Qk7 N x=some (Qil x):=by
 unfold Qk7 Qil
 simp only[Qbc,Q4d,Zcr hw hN,Option.bind_some]
 have hk:btw x.Kind 1 6=(!decide (x.Kind<1)&&!decide (x.Kind>6)):=by
  unfold btw
  by_cases h1:x.Kind<1
  ·rw[decide_eq_true h1,decide_eq_false (by omega)];rfl
  ·by_cases h2:x.Kind>6
   ·rw[decide_eq_true h2,decide_eq_false (show ¬x.Kind≤6 by omega)];simp
   ·rw[decide_eq_false h1,decide_eq_false h2,decide_eq_true (by omega),decide_eq_true (by omega)];rfl
 have hw0:((x.Weights.length:Int)==0)=decide (x.Weights.length=0):=by
  by_cases h0:x.Weights.length=0
  ·rw[h0];rfl
  ·rw[decide_eq_false h0,beq_eq_false_iff_ne];omega
 have fin2:∀(a b c:Bool),(bif !a then some false else bif !b then some false else some c)=some (a&&b&&c):=by
  intro a b c;cases a<;>cases b<;>cases c<;>rfl
 rw[hk,hw0]
 cases decide (x.Kind<1) with
 |true=>rfl
 |false=>
  cases decide (x.Kind>6) with
  |true=>rfl
  |false=>
   simp only[cond_false,Bool.not_false,Bool.true_and]
   cases btw x.Wide 0 1000000 with
   |false=>rfl
   |true=>
    cases btw x.Narrow 1 1000000000 with
    |false=>rfl
    |true=>
     simp only[Bool.not_true,cond_false,Bool.true_and]
     by_cases h1:x.Kind=1
     ·rw[h1]
      simp only[beq_self_eq_true,cond_true,show((1:Int)==2)=false from rfl,show((1:Int)==3)=false from rfl,show((1:Int)==4)=false from rfl,show((1:Int)==5)=false from rfl,cond_false]
      exact fin2 _ _ _
     ·have b1:(x.Kind==1)=false:=by simpa using h1
      simp only[b1,cond_false,if_neg h1]
      by_cases h2:x.Kind=2
      ·rw[h2]
       simp only[beq_self_eq_true,cond_true,show((2:Int)==3)=false from rfl,show((2:Int)==4)=false from rfl,show((2:Int)==5)=false from rfl,cond_false]
       exact fin2 _ _ _
      ·have b2:(x.Kind==2)=false:=by simpa using h2
       simp only[b2,cond_false,if_neg h2]
       by_cases h3:x.Kind=3
       ·rw[h3]
        simp only[beq_self_eq_true,cond_true,show((3:Int)==4)=false from rfl,show((3:Int)==5)=false from rfl,cond_false]
        exact fin2 _ _ _
       ·have b3:(x.Kind==3)=false:=by simpa using h3
        simp only[b3,cond_false,if_neg h3]
        by_cases h4:x.Kind=4
        ·rw[h4]
         simp only[beq_self_eq_true,cond_true,show((4:Int)==5)=false from rfl,cond_false]
         exact fin2 _ _ _
        ·have b4:(x.Kind==4)=false:=by simpa using h4
         simp only[b4,cond_false,if_neg h4]
         by_cases h5:x.Kind=5
         ·rw[h5]
          simp only[beq_self_eq_true,cond_true]
          exact fin2 _ _ _
         ·have b5:(x.Kind==5)=false:=by simpa using h5
          simp only[b5,cond_false,if_neg h5]
          exact fin2 _ _ _
theorem Zm6 (N:Nat) (x:Qaf):Qef N x=some (outl x):=by
 unfold Qef outl
 by_cases h4:x.Kind=4
 ·rw[h4];rfl
 ·by_cases h5:x.Kind=5
  ·rw[h5];rfl
  ·rw[show(x.Kind==4)=false by simpa using h4,show(x.Kind==5)=false by simpa using h5,if_neg h4,if_neg h5];rfl
theorem Zm5 (N:Nat) (x:Qaf):Qi1 N x=some (outl x):=by
 unfold Qi1 outl
 by_cases h4:x.Kind=4
 ·rw[h4];rfl
 ·by_cases h5:x.Kind=5
  ·rw[h5];rfl
  ·rw[show(x.Kind==4)=false by simpa using h4,show(x.Kind==5)=false by simpa using h5,if_neg h4,if_neg h5];rfl
end
section
def Qms (key:Int→Int) (ls:List Int) (mk:List Bool):Nat→Int
 |0=>-1
 |d+1=>if mk.getD d false=false∧(Qms key ls mk d<0∨key (ls.getD (Qms key ls mk d).toNat 0)<key (ls.getD d 0)) then d else Qms key ls mk d
theorem Qtk (key:Int→Int) (ls:List Int) (mk:List Bool):∀d,((∀i,i<d→mk.getD i false=true)∧Qms key ls mk d=-1) ∨
  ∃b:Nat,b<d∧Qms key ls mk d=b∧mk.getD b false=false∧∀i:Nat,i<d→mk.getD i false=false→i=b∨Qlg key ls b i
 |0=>.inl ⟨fun i h=>absurd h (by omega),rfl⟩
 |d+1=>by
  unfold Qms
  rcases Qtk key ls mk d with ⟨h1,h2⟩ |⟨b,hb,h2,h3,h4⟩
  ·rw[h2]
   cases hm:mk.getD d false with
   |true=>exact .inl ⟨fun i hi=>(Nat.lt_succ_iff_lt_or_eq.1 hi).elim (h1 i) (fun e=>e▸hm),by rw[if_neg (by simp)]⟩
   |false=>
    rw[if_pos ⟨rfl,.inl (by omega)⟩]
    refine .inr ⟨d,by omega,rfl,hm,fun i hi hn=>?_⟩
    rcases Nat.lt_succ_iff_lt_or_eq.1 hi with h |h
    ·rw[h1 i h] at hn;exact absurd hn (by simp)
    ·exact .inl h
  ·rw[h2]
   by_cases hc:mk.getD d false=false∧((b:Int)<0∨key (ls.getD (b:Int).toNat 0)<key (ls.getD d 0))
   ·rw[if_pos hc]
    have hk:key (ls.getD b 0)<key (ls.getD d 0):=hc.2.elim (fun h=>by omega) (fun h=>by simpa using h)
    refine .inr ⟨d,by omega,rfl,hc.1,fun i hi hn=>?_⟩
    rcases Nat.lt_succ_iff_lt_or_eq.1 hi with h |h
    ·rcases h4 i h hn with rfl |h5
     ·exact .inr (.inl (by simpa using hk))
     ·refine .inr (.inl ?_)
      unfold Qlg at h5
      simp only[Int.toNat_natCast] at h5 ⊢
      omega
    ·exact .inl h
   ·rw[if_neg hc]
    refine .inr ⟨b,by omega,rfl,h3,fun i hi hn=>?_⟩
    rcases Nat.lt_succ_iff_lt_or_eq.1 hi with h |rfl
    ·exact h4 i h hn
    ·refine .inr ?_
     have:¬key (ls.getD (b:Int).toNat 0)<key (ls.getD i 0):=fun h=>hc ⟨hn,.inr h⟩
     unfold Qlg
     simp only[Int.toNat_natCast] at this ⊢
     omega
theorem Qya {key:Int→Int}{ls L:List Int}{mk:List Bool}{n k:Nat}(hL:L.Pairwise (Qlg key ls)) (hm:∀i:Nat,i<n→(i:Int)∈L) (hr:∀x∈L,0≤x∧x<n)
  (hmk:∀i:Nat,i<n→(mk.getD i false=true↔(i:Int)∈L.take k)) (hk:k<L.length):Qms key ls mk n=L[k]:=by
 have hd:L.Pairwise (· ≠ ·):=hL.imp (fun {a b} h e=>by subst e;exact Qq6 h h)
 obtain⟨x0,x1⟩:=hr L[k] (List.getElem_mem hk)
 have hx:((L[k].toNat:Nat):Int)=L[k]:=Int.toNat_of_nonneg x0
 have hun:mk.getD L[k].toNat false=false:=by
  cases h:mk.getD L[k].toNat false with
  |false=>rfl
  |true=>
   have:=(hmk _ (by omega)).1 h
   rw[hx,List.mem_take_iff_getElem] at this
   obtain⟨i,hi,e⟩:=this
   exact absurd e ((List.pairwise_iff_getElem.1 hd) i k (by omega) hk (by omega))
 rcases Qtk key ls mk n with ⟨h1,_⟩ |⟨b,hb,h2,h3,h4⟩
 ·rw[h1 _ (by omega)] at hun
  exact absurd hun (by simp)
 ·rw[h2]
  rcases h4 L[k].toNat (by omega) hun with h |h
  ·omega
  ·exfalso
   obtain⟨j,hj,e⟩:=List.getElem_of_mem (hm b hb)
   have hjk:¬j<k:=fun hlt=>by
    have:=(hmk b hb).2 (by rw[List.mem_take_iff_getElem];exact⟨j,by omega,e⟩)
    rw[h3] at this
    exact absurd this (by simp)
   rw[hx] at h
   rcases Nat.lt_or_eq_of_le (Nat.le_of_not_lt hjk) with h5 |h5
   ·have:=(List.pairwise_iff_getElem.1 hL) k j hk hj h5
    rw[e] at this
    exact Qq6 h this
   ·subst h5
    rw[e] at h
    exact Qq6 h h
def mark (l:List Bool) (i:Int):List Bool:=l.set i.toNat true
theorem Qv9 (l:List Bool) (i:Int):(mark l i).length=l.length:=by simp[mark]
theorem Q17 (p:List Int):∀l:List Bool,(p.foldl mark l).length=l.length:=by
 induction p with
 |nil=>exact fun _=>rfl
 |cons x r ih=>exact fun l=>(ih (mark l x)).trans (Qv9 l x)
theorem Q8w (p:List Int):∀(l:List Bool) (i:Nat),i<l.length→(∀x∈p,0≤x)→((p.foldl mark l).getD i false=true↔((i:Int)∈p∨l.getD i false=true)):=by
 induction p with
 |nil=>exact fun l i _ _=>by simp
 |cons x r ih=>
  intro l i hi h0
  have hx:=h0 x List.mem_cons_self
  rw[List.foldl_cons,ih (mark l x) i (by rw[Qv9];exact hi) (fun y hy=>h0 y (List.mem_cons_of_mem _ hy)),List.mem_cons]
  have e:(mark l x).getD i false=true↔((i:Int)=x∨l.getD i false=true):=by
   simp only[mark,List.getD_eq_getElem?_getD,List.getElem?_set]
   by_cases h:x.toNat=i
   ·have:(i:Int)=x:=by omega
    simp[h,hi,this]
   ·have:¬(i:Int)=x:=by omega
    simp[h,this]
  rw[e]
  constructor
  ·rintro (h |h |h)
   ·exact .inl (.inr h)
   ·exact .inl (.inl h)
   ·exact .inr h
  ·rintro ((h |h) |h)
   ·exact .inr (.inl h)
   ·exact .inl h
   ·exact .inr (.inr h)
theorem Qx1 {L:List Int}{n k:Nat}(hr:∀x∈L,0≤x∧x<n) (i:Nat) (hi:i<n):(((L.take k).foldl mark (List.replicate n false)).getD i false=true↔(i:Int)∈L.take k):=by
 rw[Q8w _ _ _ (by simpa using hi) (fun x hx=>(hr x (List.mem_of_mem_take hx)).1)]
 simp[hi,List.getD_eq_getElem?_getD]
def bump (l:List Int) (i:Int):List Int:=l.set i.toNat (l.getD i.toNat 0+1)
theorem Qkn (l:List Int) (i:Int):(bump l i).length=l.length:=by simp[bump]
theorem Q2v (p:List Int):∀l:List Int,(p.foldl bump l).length=l.length:=by
 induction p with
 |nil=>exact fun _=>rfl
 |cons x r ih=>exact fun l=>(ih (bump l x)).trans (Qkn l x)
theorem Q2w:∀(is l:List Int),is.Nodup→(∀x∈is,0≤x∧x<l.length)→∀i:Nat,i<l.length→(is.foldl bump l)[i]? = some (l.getD i 0+if (i:Int)∈is then 1 else 0)
 |[],l,_,_,i,hi=>by simp[List.getD_eq_getElem?_getD,hi]
 |x::is,l,hn,hb,i,hi=>by
  obtain⟨hx,hn'⟩:=List.nodup_cons.1 hn
  have hbx:=hb x (by simp)
  have ih:=Q2w is (bump l x) hn' (fun y hy=>by rw[Qkn];exact hb y (by simp[hy])) i (by rw[Qkn];exact hi)
  rw[List.foldl_cons,ih]
  congr 1
  by_cases e:(i:Int)=x
  ·subst e
   have h1:(bump l (i:Int)).getD i 0=l.getD i 0+1:=by
    unfold bump
    rw[Int.toNat_natCast,List.getD_eq_getElem?_getD,List.getElem?_set_self hi]
    rfl
   rw[h1,if_neg hx,if_pos (by simp)]
   omega
  ·have h1:(bump l x).getD i 0=l.getD i 0:=by
    unfold bump
    rw[List.getD_eq_getElem?_getD,List.getElem?_set_ne (by omega),←List.getD_eq_getElem?_getD]
   rw[h1]
   have:((i:Int)∈x::is)↔((i:Int)∈is):=by simp[e]
   simp only[this]
theorem Zcj:∀(o:List Int) (i:Nat) (x y:Int),o[i]? = some x→(o.set i y).sum=o.sum+(y-x)
 |[],_,_,_,h=>by simp at h
 |a::o,0,x,y,h=>by simp at h;subst h;simp only[List.set_cons_zero,List.sum_cons];omega
 |a::o,i+1,x,y,h=>by
  have:=Zcj o i x y (by simpa using h)
  simp only[List.set_cons_succ,List.sum_cons,this];omega
theorem Q2u:∀(is l:List Int),(∀x∈is,0≤x∧x<l.length)→(is.foldl bump l).sum=l.sum+is.length
 |[],l,_=>by simp
 |x::is,l,h=>by
  have hx:=h x (by simp)
  have hg:l[x.toNat]? = some (l.getD x.toNat 0):=by rw[List.getD_eq_getElem?_getD,List.getElem?_eq_getElem (by omega)];rfl
  rw[List.foldl_cons,Q2u is (bump l x) (fun y hy=>by rw[Qkn];exact h y (by simp[hy])),bump,Zcj l _ _ _ hg]
  simp only[List.length_cons]
  omega
def Qov (M:Int) (ws:List Int):List Int:=ws.map fun w=>M*w/ws.sum
def Qot (M:Int) (ws:List Int):Int:=M-(Qov M ws).sum
def Q8r (key:Int→Int) (ls:List Int) (n:Nat):Nat→List Bool→List Int
 |0,_=>[]
 |k+1,mk=>Qms key ls mk n::Q8r key ls n k (mark mk (Qms key ls mk n))
def Qib (M:Int) (ws:List Int):List Int:=(Q8r (rkey M ws.sum) ws ws.length (Qot M ws).toNat (List.replicate ws.length false)).foldl bump (Qov M ws)
theorem Q6l {key:Int→Int}{ls L:List Int}(hp:L.Perm (ixs ls.length)) (hL:L.Pairwise (Qlg key ls)):∀(k j:Nat),j+k≤L.length→Q8r key ls ls.length k ((L.take j).foldl mark (List.replicate ls.length false))=(L.drop j).take k
 |0,j,_=>by simp[Q8r]
 |k+1,j,h=>by
  have hr:∀x∈L,0≤x∧x<ls.length:=fun x hx=>Qqz.1 (hp.mem_iff.1 hx)
  have hb:Qms key ls ((L.take j).foldl mark (List.replicate ls.length false)) ls.length=L[j]'(by omega):=Qya hL (fun i hi=>hp.mem_iff.2 (Qqz.2 ⟨by omega,by omega⟩)) hr (fun i hi=>Qx1 hr i hi) (by omega)
  have ht:mark ((L.take j).foldl mark (List.replicate ls.length false)) (L[j]'(by omega))=(L.take (j+1)).foldl mark (List.replicate ls.length false):=by
   rw[List.take_add_one,List.getElem?_eq_getElem (by omega),List.foldl_append]
   rfl
  rw[Q8r,hb,ht,Q6l hp hL k (j+1) (by omega),List.drop_eq_getElem_cons (show j<L.length by omega),List.take_succ_cons]
structure WtsV (ws:List Int):Prop where
 l1:1≤ws.length
 l2:ws.length≤20
 w:∀x∈ws,0≤x∧x≤1000
 some:∃x∈ws,x>0
theorem Zmc {ws:List Int}(h:wtsB ws=true):WtsV ws:=by
 unfold wtsB at h
 simp only[Bool.and_eq_true] at h
 obtain⟨h1,h2,h3⟩:=h
 have:=Qf4.1 h1
 refine⟨by omega,by omega,fun x hx=>Qf4.1 (List.all_eq_true.1 h2 x hx),?_⟩
 obtain⟨x,hx,h4⟩:=List.any_eq_true.1 h3
 exact⟨x,hx,by simpa using h4⟩
theorem Q8e (ws:List Int) (h:∀x∈ws,0≤x∧x≤1000):0≤ws.sum∧ws.sum≤1000*ws.length:=by
 induction ws with
 |nil=>simp
 |cons a l ih=>
  have h1:=ih fun x hx=>h x (List.mem_cons_of_mem _ hx)
  have h2:=h a List.mem_cons_self
  simp only[List.sum_cons,List.length_cons]
  omega
theorem WtsV.sum {ws:List Int}(h:WtsV ws):0<ws.sum∧ws.sum≤20000:=by
 have h1:=Q8e ws h.w
 have h2:=(Q3w fun x hx=>(h.w x hx).1).2.2 h.some
 have:=h.l2
 omega
theorem WtsV.ok {ws:List Int}(h:WtsV ws) {M:Int}(h0:0≤M) (h1:M≤1000000):WOk ws M ws.sum:=⟨h.w,h0,h1,h.sum.1,h.sum.2⟩
theorem Qta:∀(ws:List Int),(∀x∈ws,0≤x)→∀x∈ws,x≤ws.sum
 |a::l,h,x,hx=>by
  have h1:=(Q3w fun y hy=>h y (List.mem_cons_of_mem a hy)).1
  have h2:=h a List.mem_cons_self
  rw[List.sum_cons]
  rcases List.mem_cons.1 hx with rfl |hx
  ·omega
  ·have:=Qta l (fun y hy=>h y (List.mem_cons_of_mem a hy)) x hx
   omega
theorem Q7j {M W:Int}(hM:0≤M) (hW:0<W):∀(l:List Int),(∀x∈l,0≤x)→W*(l.map fun w=>M*w/W).sum≤M*l.sum∧M*l.sum≤W*(l.map fun w=>M*w/W).sum+(W-1)*l.length∧0≤(l.map fun w=>M*w/W).sum
 |[],_=>by simp
 |x::l,h=>by
  obtain⟨h1,h2,h3⟩:=Q7j hM hW l fun y hy=>h y (List.mem_cons_of_mem _ hy)
  have b:=h x (by simp)
  have p0:=Int.mul_nonneg hM b
  have q0:=Int.ediv_nonneg p0 (show 0≤W by omega)
  have q1:=Int.emod_add_mul_ediv (M*x) W
  have q2:=Int.emod_nonneg (M*x) (show W≠0 by omega)
  have q3:=Int.emod_lt_of_pos (M*x) hW
  simp only[List.map_cons,List.sum_cons,List.length_cons,Int.mul_add,Int.natCast_add,Int.natCast_one,Int.mul_one]
  omega
theorem Qzx {M:Int}{ws:List Int}(h:WtsV ws) (h0:0≤M):0≤Qot M ws∧Qot M ws<ws.length∧0≤(Qov M ws).sum:=by
 obtain⟨w0,w1⟩:=h.sum
 obtain⟨b1,b2,b3⟩:=Q7j h0 w0 ws fun x hx=>(h.w x hx).1
 have hl:=h.l1
 generalize hS:(ws.map fun w=>M*w/ws.sum).sum=S at b1 b2 b3
 have hB:(Qov M ws).sum=S:=hS
 unfold Qot
 rw[hB]
 rw[Int.mul_comm M] at b1 b2
 have c1:S≤M:=Int.le_of_mul_le_mul_left b1 w0
 have c2:M<S+ws.length:=by
  apply Decidable.byContradiction
  intro hc
  have:ws.sum*(S+ws.length)≤ws.sum*M:=Int.mul_le_mul_of_nonneg_left (by omega) (by omega)
  rw[Int.mul_add] at this
  rw[Int.sub_mul] at b2
  omega
 omega
theorem Qn3 {M:Int}{ws L:List Int}(h:WtsV ws) (h0:0≤M) (hp:L.Perm (ixs ws.length)) (hL:L.Pairwise (Qlg (rkey M ws.sum) ws)) :
  Q8r (rkey M ws.sum) ws ws.length (Qot M ws).toNat (List.replicate ws.length false)=L.take (Qot M ws).toNat:=by
 have hb:=Qzx h h0
 have hlen:=hp.length_eq
 rw[Qiw] at hlen
 have:=Q6l hp hL (Qot M ws).toNat 0 (by omega)
 simpa using this
theorem Qvu {M:Int}{ws:List Int}(h:WtsV ws) (h0:0≤M) (h1:M≤1000000):∃L:List Int,L.Perm (ixs ws.length)∧L.Pairwise (Qlg (rkey M ws.sum) ws):=by
 obtain⟨Q,_,q2,q3⟩:=Q1o (N:=1000) (h.ok h0 h1) h.l2 h.l1 (Nat.le_refl _)
 exact⟨Q,q2,q3⟩
theorem Qkb (M:Int) (ws:List Int):(Qov M ws).length=ws.length:=by simp[Qov]
theorem Qhf (M:Int) (ws:List Int):(Qib M ws).length=ws.length:=by rw[Qib,Q2v,Qkb]
theorem Qv8 {M:Int}{ws:List Int}(h:WtsV ws) (h0:0≤M) (h1:M≤1000000):(Qib M ws).sum=M:=by
 obtain⟨L,hp,hL⟩:=Qvu h h0 h1
 have hb:=Qzx h h0
 have hlen:=hp.length_eq
 rw[Qiw] at hlen
 rw[Qib,Qn3 h h0 hp hL,Q2u _ _ (fun x hx=>by rw[Qkb];exact Qqz.1 (hp.mem_iff.1 (List.mem_of_mem_take hx))),List.length_take]
 unfold Qot at hb ⊢
 omega
theorem Qsh {M:Int}{ws:List Int}(h:WtsV ws) (h0:0≤M):∀x∈Qov M ws,0≤x∧x≤M:=by
 intro x hx
 obtain⟨w,hw,rfl⟩:=List.mem_map.1 hx
 obtain⟨w0,w1⟩:=h.sum
 have:=h.w w hw
 have hle:=Qta ws (fun y hy=>(h.w y hy).1) w hw
 refine⟨Int.ediv_nonneg (Int.mul_nonneg h0 this.1) (by omega),Int.ediv_le_of_le_mul w0 ?_⟩
 exact Int.mul_le_mul_of_nonneg_left hle h0
theorem Qtb {M:Int}{ws:List Int}(h:WtsV ws) (h0:0≤M) (h1:M≤1000000):∀x∈Qib M ws,0≤x∧x≤M:=by
 have hs:=Qv8 h h0 h1
 obtain⟨L,hp,hL⟩:=Qvu h h0 h1
 have hnd:L.Nodup:=hp.nodup_iff.2 (Zdv _)
 have hn:∀x∈Qib M ws,0≤x:=fun x hx=>by
  obtain⟨i,hi⟩:=List.mem_iff_getElem?.1 hx
  have hil:i<ws.length:=by have:=(List.getElem?_eq_some_iff.1 hi).1;rwa [Qhf] at this
  rw[Qib,Qn3 h h0 hp hL,Q2w _ _ (hnd.sublist (List.take_sublist _ _)) (fun x hx=>by rw[Qkb];exact Qqz.1 (hp.mem_iff.1 (List.mem_of_mem_take hx))) i (by rw[Qkb];exact hil)] at hi
  have hbx:=Qsh h h0 ((Qov M ws)[i]'(by rw[Qkb];exact hil)) (List.getElem_mem _)
  have hg:(Qov M ws).getD i 0=(Qov M ws)[i]'(by rw[Qkb];exact hil):=by rw[List.getD_eq_getElem?_getD,List.getElem?_eq_getElem (by rw[Qkb];exact hil)];rfl
  rw[hg] at hi
  have:=Option.some.inj hi
  split at this<;>omega
 intro x hx
 exact⟨hn x hx,by rw[←hs];exact Qta _ hn x hx⟩
section
variable {N : Nat} {M : Int} {ws : List Int} (h : WtsV ws) (h0 : 0 ≤ M) (h1 : M ≤ 1000000) (hN : 1001 ≤ N)
include h in
theorem Q77 (k:Int→Option (List Int)):∀(n i:Nat) (s:Int),(ws.drop i).length<n→0≤s→s≤1000*i→Qd6 N ws k n i s=k (s+(ws.drop i).sum):=by
 intro n
 induction n with
 |zero=>intro i _ h;cases h
 |succ n ih=>
  intro i s hn s0 s1
  rw[Qd6]
  cases hd:ws.drop i with
  |nil=>
   have:=Qbs hd
   simp[show ¬((i:Int)<ws.length) from by omega]
  |cons a l=>
   obtain⟨hg,hd',hlt⟩:=Qbg hd
   have ha:=h.w a (List.mem_of_getElem? hg)
   have:=h.l2
   simp only[dlI hlt,cond_true,Qbu hg,Option.bind_some,List.sum_cons]
   rw[Qbh (x:=(i:Int)+1) (by omega) (by omega),Qbh (x:=s+a) (by omega) (by omega),show(i:Int)+1=((i+1:Nat):Int) by omega,ih (i+1) (s+a) (by rw[hd'];rw[hd] at hn;simp at hn;omega) (by omega) (by omega),hd',Int.add_assoc]
include h h0 h1 in
theorem Ze0 (k:Int×List Int→Option (List Int)):∀(n i:Nat) (r:Int) (o:List Int),(ws.drop i).length<n→i≤ws.length→o.length=ws.length-i→-1000000*(i:Int)≤r→r≤1000000 →
  Qd7 N M ws ws.sum k n r i (((ws.take i).map fun w=>M*w/ws.sum)++o)=k (r-((ws.drop i).map fun w=>M*w/ws.sum).sum,Qov M ws):=by
 intro n
 induction n with
 |zero=>intro i _ _ h;cases h
 |succ n ih=>
  intro i r o hn hi ho r0 r1
  rw[Qd7]
  cases hd:ws.drop i with
  |nil=>
   have:=Qbs hd
   have e:o=[]:=List.length_eq_zero_iff.1 (by omega)
   simp[show ¬((i:Int)<ws.length) from by omega,e,List.take_of_length_le this,Qov]
  |cons a l=>
   obtain⟨hg,hd',hlt⟩:=Qbg hd
   have ha:=h.w a (List.mem_of_getElem? hg)
   have hl2:=h.l2
   obtain⟨p0,p1⟩:=h.sum
   obtain⟨x,o',rfl⟩:∃x o',o=x::o':=by
    cases o with
    |nil=>simp at ho;omega
    |cons x o'=>exact⟨x,o',rfl⟩
   have hb:=Qsh h h0 (M*a/ws.sum) (List.mem_map.2 ⟨a,List.mem_of_getElem? hg,rfl⟩)
   have hp:=bdp h0 h1 ha.1 ha.2 (by omega)
   have hlt':((ws.take i).map fun w=>M*w/ws.sum).length=i:=by simp;omega
   have e2:∀y,(((ws.take i).map fun w=>M*w/ws.sum)++y::o')[i]? = some y:=fun y=>by rw[List.getElem?_append_right (by omega),hlt'];simp
   have e3:(((ws.take i).map fun w=>M*w/ws.sum)++x::o').set i (M*a/ws.sum)=((ws.take i).map fun w=>M*w/ws.sum)++(M*a/ws.sum)::o':=by
    rw[List.set_append_right _ _ (by omega),hlt',Nat.sub_self,List.set_cons_zero]
   have e5:((ws.take i).map fun w=>M*w/ws.sum)++(M*a/ws.sum)::o'=((ws.take (i+1)).map fun w=>M*w/ws.sum)++o':=by
    rw[List.take_add_one,hg];simp
   have e4:((i:Int):Int).toNat=i:=by omega
   have c1:(decide ((0:Int)≤(i:Int))&&decide (i<(ws.length:Int).toNat))=true:=by simp;omega
   have ev:w64 ((w64 (M*a)).tdiv ws.sum)=M*a/ws.sum:=by
    rw[Qbh (x:=M*a) (by omega) (by omega),Int.tdiv_eq_ediv_of_nonneg hp.1,Qbh (by omega) (by omega)]
   simp only[dlI hlt,cond_true,Qbu hg,Option.bind_some,chk,show(ws.sum != 0)=true from by rw[bne_iff_ne];omega,e4,c1,e2,ev,e3]
   rw[Qbh (x:=(i:Int)+1) (by omega) (by omega),Qbh (x:=r-M*a/ws.sum) (by omega) (by omega),show(i:Int)+1=((i+1:Nat):Int) by omega,e5,ih (i+1) _ o' (by rw[hd'];rw[hd] at hn;simp at hn;omega) (by omega) (by simp at ho;omega) (by omega) (by omega),hd',List.map_cons,List.sum_cons]
   congr 2
   omega
theorem Zex (k:List Int→Option (List Int)) (x13:List Int) (y6:Int) (is:List Int) (his:x13.take (y6.toNat-0)=is) (hlen:is.length≤20) (hr:∀x∈is,0≤x∧x<ws.length):∀(n i:Nat) (o:List Int),(is.drop i).length<n→o.length=ws.length→(∀x∈o,0≤x∧x≤1000000+i) →
  Qd8 N ws y6 k x13 n i o=k ((is.drop i).foldl bump o):=by
 intro n
 induction n with
 |zero=>intro i _ h;cases h
 |succ n ih=>
  intro i o hn ho hob
  rw[Qd8,his]
  cases hd:is.drop i with
  |nil=>
   have:=Qbs hd
   simp[show ¬((i:Int)<is.length) from by omega]
  |cons b t=>
   obtain⟨hg,hd',hlt⟩:=Qbg hd
   obtain⟨b0,b1⟩:=hr b (List.mem_of_getElem? hg)
   have hx:o[b.toNat]? = some (o.getD b.toNat 0):=by rw[List.getD_eq_getElem?_getD,List.getElem?_eq_getElem (by omega)];rfl
   have hxb:=hob _ (List.mem_of_getElem? hx)
   have c1:(decide ((0:Int)≤b)&&decide (b.toNat<(ws.length:Int).toNat))=true:=by simp;omega
   simp only[dlI hlt,cond_true,Qbu hg,Option.bind_some,chk,c1,hx]
   rw[Qbh (x:=(i:Int)+1) (by omega) (by omega),Qbh (x:=o.getD b.toNat 0+1) (by omega) (by omega),show(i:Int)+1=((i+1:Nat):Int) by omega]
   have:=ih (i+1) (bump o b) (by rw[hd'];rw[hd] at hn;simp at hn;omega) (by rw[Qkn];exact ho) (fun z hz=>by
    rcases List.mem_or_eq_of_mem_set hz with hz |rfl
    ·have:=hob z hz;omega
    ·omega)
   rw[hd'] at this
   exact this
include h h0 h1 hN in
theorem Zdm:Qjp N M ws=some (Qib M ws):=by
 have hl1:=h.l1
 have hl2:=h.l2
 unfold Qjp
 simp only[Qbc]
 refine(Q77 h _ N 0 0 (by simp;omega) (by omega) (by omega)).trans ?_
 rw[List.drop_zero,Int.zero_add]
 simp only[chk]
 rw[show(decide ((0:Int)≤(ws.length:Int))&&decide (8*(ws.length:Int)≤281474976710656)&&decide ((ws.length:Int)≤9223372036854775807))=true from by simp;omega,cond_true]
 have eo:=fun k=>Ze0 (N:=N) h h0 h1 k N 0 M (List.replicate (ws.length:Int).toNat 0) (by simp;omega) (by omega) (by simp) (by omega) h1
 simp only[List.take_zero,List.map_nil,List.nil_append,List.drop_zero] at eo
 refine(eo _).trans ?_
 dsimp only
 obtain⟨Q,q1,q2,q3⟩:=Q1o (N:=N) (h.ok h0 h1) hl2 hl1 (by omega)
 have hlen:=q2.length_eq
 rw[Qiw] at hlen
 have hb:=Qzx h h0
 have hL:M-(ws.map fun w=>M*w/ws.sum).sum=Qot M ws:=rfl
 rw[q1,Option.bind_some,hL,show(decide ((0:Nat)≤0)&&decide (0≤Qot M ws)&&decide (Qot M ws≤(Q.length:Int)))=true from by simp;omega,cond_true]
 have hr:∀x∈Q.take ((Qot M ws).toNat-0),0≤x∧x<ws.length:=fun x hx=>Qqz.1 (q2.mem_iff.1 (List.mem_of_mem_take hx))
 refine(Zex _ Q (Qot M ws) _ rfl (by rw[List.length_take];omega) hr N 0 (Qov M ws) (by rw[List.drop_zero,List.length_take];omega) (Qkb _ _) (fun x hx=>by have:=Qsh h h0 x hx;omega)).trans ?_
 have hm:(Q.take ((Qot M ws).toNat-0)).foldl bump (Qov M ws)=Qib M ws:=by
  rw[Qib,Qn3 h h0 q2 q3,Nat.sub_zero]
 rw[List.drop_zero,hm,Qhf,show decide ((ws.length:Int).toNat≤ws.length)=true from by simp,cond_true,List.take_of_length_le (by rw[Qhf];simp)]
end
end
end Go.Proofs.YtmbhnllcfmiajaaGreat
