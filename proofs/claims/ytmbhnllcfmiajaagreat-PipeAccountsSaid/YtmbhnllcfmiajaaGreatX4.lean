/-
  Functions of the program: what they compute, as plain functions, and that they do. No conditions.
-/
import Derived.Test.YtmbhnllcfmiajaaGreatX3
namespace Go.Proofs.YtmbhnllcfmiajaaGreat
set_option maxRecDepth 100000
set_option maxHeartbeats 4000000
open Go.RowKit
def Qff (_N:Nat) (p0:(List Int)):Option Unit:=
  chk (!p0.isEmpty)<|
  chk (!p0.isEmpty)<|
  chk (decide ((0+p0.length) * 8≤140737488355328))<|
  some ()
def Zk0 (p0:(List Int)):AV:=.dat 1 ((p0:List Int).map Qal)
def Zfj (p0:(List Int)):Slot:=.own 1 ((p0:List Int).map Qal)
def Zo1:AV:=.acc 0 3 1 ((([]:List Int):List Int).map Qal)
theorem Qlj (N:Nat) (p0:(List Int)) (r:Unit) (h:Qff N p0=some r):Spec Tryz.prog 95 [(Zk0 p0)] [] (.own 0 1 (0) (p0.length)) [(Zfj p0)]:=by
  refine Qah Tryz.func95 rfl 1 (nle rfl) (fun X φ0 w0 hφ0 hd0=>?_)
  unfold Qff at h
  refine Qb0<|wxz<|wsq ?_
  obtain ⟨hz1,h⟩:=cko h
  refine wx tbk [(1,rp [(.tmp 3,(Zk0 p0)),((.const (.slice none 0 0)),nilS)] (B false))] ⟨Q38 rfl Tryz.underlying27 rfl (Qms hz1),tv⟩<|wfa<|Qan<|thn ?_
  obtain ⟨ha3,h⟩:=cko h
  obtain ⟨ha2,h⟩:=cko h
  refine wx tbk [(0,⟨[],[(0,.unused)],Zo1,[(0,.tok)],false⟩),(2,⟨[(.tmp 5,Zo1),(.tmp 6,(Zk0 p0))],[(0,.tok),(1,.unused)],(.own 1 1 (0) (p0.length)),[(0,.dead),(1,(Zfj p0))],false⟩)] ⟨Qkp rfl Tryz.underlying27 ti3 tz3,Q8t rfl Tryz.underlying27 te3 (Base.acc _ _) rfl rfl (Qms ha3) (Qmq Qal Qjf _) (Zis Qal ha2) (Zir Qal ha2 (by decide)) (List.length_map _),tv⟩ ?_
  refine wmr (mto (n:=8) (l':=[(2,(.own 0 1 (0) (p0.length)))]) (own':=[(Zfj p0)]) [(2,(.own 1 1 (0) (p0.length)))] [1] [(Zfj p0)] hφ0 (pc (.rn (Qa3 rfl)) pn) (qc (spr Qae) qn))<|Qaf ?_
  obtain rfl:=osi h
  exact ⟨_,Mor.rfl,Qdf (vs:=[(.own 0 1 (0) (p0.length))]) ⟨rot,tv⟩ rfl (NLt.own _ _ _ _ (by decide)) (by kernel_rfl) (Qao (Qci Qae _) Qby)⟩
theorem Qrc:DRet Tryz.prog 96 [1,1]:=by
  refine Qr0 (t:=5) (args:=[.any,.any]) Tryz.func96 rfl (fun _ _=>rfl) (by kernel_rfl) Zms 0 (nle rfl) (fun X φ0 w0 hφ0=>?_)
  exact Qaj<|wx tbk [(0,rp [(.tmp 5,(.lit .nilIface)),(.const .nilIface,(.lit .nilIface))] (B true))] ⟨Q1j rfl Tryz.underlying20,tv⟩<|wtr<|wxz1<|bln<|fend ⟨[],tv,rfl⟩ (.tup _ nl0)
def Qfu (_N:Nat) (p0:GElement) (p1:Int):Option Int:=
  chk (p0.Narrow != 0)<|
  (some (if (w64 (p0.Wide - (w64 (p1.tdiv p0.Narrow))))>0 then w64 (p0.Wide - (w64 (p1.tdiv p0.Narrow))) else 0)).bind fun x2=>
  some x2
theorem Qjc (N:Nat) (p0:GElement) (p1:Int) (r:Int) (h:Qfu N p0 p1=some r):Spec Tryz.prog 74 [(.agg (Qad p0)),(I p1)] [] (I r) []:=by
  refine Qah Tryz.func74 rfl 0 (nle rfl) (fun X φ0 w0 hφ0 hd0=>?_)
  unfold Qfu at h
  refine wxz ?_
  obtain ⟨hz1,h⟩:=cko h
  obtain ⟨x2,hl3,h⟩:=bno h
  refine wxd tbk [(5,rp [(.tmp 7,I p1),(.tmp 9,I p0.Narrow)] (I (w64 (p1.tdiv p0.Narrow)))),(7,rp [ci 0,(.tmp 11,(I (w64 (p0.Wide - (w64 (p1.tdiv p0.Narrow))))))] (I x2))] ⟨Qkd rfl (Qlf hz1),Qhj hl3 (Qmf rfl),tv⟩<|Qaf ?_
  obtain rfl:=osi h
  exact fend ⟨[I x2],⟨rot,tv⟩,rfl⟩ nll
def Qgz (_N:Nat) (_p0:Int) (_p1:(List GRow)) (_p2:(List GElement)) (_p3:Nat) (_p4:Nat) (_p5:Nat) (_p6:(List GStream)) (_p7:Int) (_p8:(List (List GStream))) (_p9:(List GLost)) (_p10:(List Int)):Option Unit:=
  some ()
def Zfi (p1:(List GRow)) (p2:(List GElement)) (p3:Nat) (p4:Nat) (p5:Nat) (p6:(List GStream)) (p7:Int):Slot:=.own 7 [[(.dat 5 ((p1:List GRow).map Qa4)),(.dat 7 ((p2:List GElement).map Qad)),(.own 1 1 (0) (p3)),(.own 2 4 (0) (p4)),(.own 3 1 (0) (p5)),(.dat 4 ((p6:List GStream).map Qaa)),(I (p7))]]
def Zfh (p8:(List (List GStream))):Slot:=.own 1 ((p8:List (List GStream)).map Qak)
def Zfg (p9:(List GLost)):Slot:=.own 4 ((p9:List GLost).map Qa0)
def Zff (p10:(List Int)):Slot:=.own 1 ((p10:List Int).map Qal)
def Zaj:AV:=.fn (.func 133) [] [(.ref 4 1 (0) 0),(.ref 5 1 (0) 0)]
def Zkx:Slot:=.own 1 [[(.ref 0 7 (0) 0)]]
theorem Qoh (N:Nat) (p0:Int) (p1:(List GRow)) (p2:(List GElement)) (p3:Nat) (p4:Nat) (p5:Nat) (p6:(List GStream)) (p7:Int) (p8:(List (List GStream))) (p9:(List GLost)) (p10:(List Int)) (r:Unit) (h:Qgz N p0 p1 p2 p3 p4 p5 p6 p7 p8 p9 p10=some r):Spec Tryz.prog 116 [(.ref 0 7 (0) 0),(I (p0))] [(Zfi p1 p2 p3 p4 p5 p6 p7),(Zfh p8),(Zfg p9),(Zff p10)] Zaj [(Zfi p1 p2 p3 p4 p5 p6 p7),(Zfh p8),(Zfg p9),(Zff p10),Zkx,(.own 1 [[(I (p0))]])]:=by
  refine Qah Tryz.func116 rfl 6 (nle rfl) (fun X φ0 w0 hφ0 hd0=>?_)
  unfold Qgz at h
  refine Qb0<|wxz ?_
  refine wx tbk [(0,rp [(.tmp 2,.ref 4 1 0 0),(.tmp 3,.ref 5 1 0 0)] Zaj)] ⟨Qf7 (fs:=[]) (cs:=[.ref 4 1 0 0,.ref 5 1 0 0]) rfl rfl rfl rfl,tv⟩ ?_
  refine wmr (mto (n:=6) (l':=[(4,Zaj)]) (own':=[(Zfi p1 p2 p3 p4 p5 p6 p7),(Zfh p8),(Zfg p9),(Zff p10),Zkx,(.own 1 [[I p0]])]) [(4,Zaj)] [0,1,2,3,4,5] [(Zfi p1 p2 p3 p4 p5 p6 p7),(Zfh p8),(Zfg p9),(Zff p10),Zkx,(.own 1 [[I p0]])] hφ0 (pc (.rn (Qbp rn0 (rnc (rqr rfl) (rnc (rqr rfl) rn0)))) pn) (qb (lc (rnd Qai) (lc (rnd Qab) (lc (.rn (Qa3 rfl)) (lc (.rn (Qa3 rfl)) (lc (.rn (Qa3 rfl)) (lc (rnd Qac) (lc rwl ln))))))) (qc (spr Qam) (qc (spr Qau) (qc (spr Qae) (qb (lc (.rn (rqr rfl)) ln) (qb (lc rwl ln) qn)))))))<|Qaf ?_
  obtain rfl:=osi h
  exact ⟨_,Mor.rfl,Qdf (vs:=[Zaj]) ⟨rot,tv⟩ rfl (NLt.fn _ _ _ nl0 (nlc (NLt.ref _ _ _ _ (by decide)) (nlc (NLt.ref _ _ _ _ (by decide)) nl0))) (by kernel_rfl) (Qao (Qbi (nlc (NLt.of0 (nld Qai _)) (nlc (NLt.of0 (nld Qab _)) (nlc (NLt.own _ _ _ _ (by decide)) (nlc (NLt.own _ _ _ _ (by decide)) (nlc (NLt.own _ _ _ _ (by decide)) (nlc (NLt.of0 (nld Qac _)) (nlc (NLt.of0 nll) nl0)))))))) (Qao (Qci Qam _) (Qao (Qci Qau _) (Qao (Qci Qae _) (Qao (Qbi (nlc (NLt.ref _ _ _ _ (by decide)) nl0)) (Qao (Qbi (nlc (NLt.of0 nll) nl0)) Qby))))))⟩
def Qcf (N:Nat) (p0:(List Int)) (k1:Unit→Option Int) (p1:Int):Nat→Int→Option Int
  | 0,_=>none
  | n4+1,y2=>
    bif (decide (y2<(p0.length:Int))) then
     (getI p0 y2).bind fun x6=>
     bif (p1==x6) then
      some y2
     else
      Qcf N p0 k1 p1 n4 (w64 (y2+1))
    else
     k1 ()
def Qe0 (N:Nat) (p0:(List Int)) (p1:Int):Option Int:=
  Qbb (fun _=>
    some (-1)) fun k1:Unit→Option Int=>
  Qcf N p0 k1 p1 N 0
def Q61 (p0:(List Int)):AV:=.dat 1 ((p0:List Int).map Qal)
theorem Qie (N:Nat) (p0:(List Int)) (p1:Int) (r:Int) (h:Qe0 N p0 p1=some r):Spec Tryz.prog 134 [(.dat 1 (p0.map Qal)),(I p1)] [] (I r) []:=by
  refine Qah Tryz.func134 rfl 0 (nle rfl) (fun X φ0 w0 hφ0 hd0=>?_)
  unfold Qe0 at h
  refine wxz ?_
  obtain ⟨k1,hk_k1,h⟩:=jko h
  refine wjn (τ:=Unit) (fun t=>k1 t=some r) (fun _=>⟨mk 19 [],[]⟩) (fun t h=>?_) ?_
  ·subst hk_k1
   refine wxz<|Qaf ?_
   obtain rfl:=osi h
   exact fend ⟨[(I ((-1)))],⟨rot,tv⟩,rfl⟩ nll
  ·skip
   refine wx tbk [(1,rp [(.tmp 6,(Q61 p0))] (I ((p0.length:Int))))] ⟨alm (c:=Qal) (l:=p0) (aln rfl Tryz.underlying27 rfl),tv⟩<|Qaj ?_
   refine wmr (mto (n:=19) (l':=[(0,(Q61 p0)),(1,I p1),(7,(I ((p0.length:Int)))),(8,I 0)]) (own':=[]) [(0,(Q61 p0)),(1,I p1),(7,(I ((p0.length:Int)))),(8,I 0)] [] [] hφ0 (pc (rnd Qae) (pw (pw (pw pn)))) qn) ?_
   refine Qbt (τ:=Int) (fun n t=>Qcf N p0 k1 p1 n t=some r) (fun y2=>⟨mk 19 [(0,(Q61 p0)),(1,I p1),(7,(I ((p0.length:Int)))),(8,I y2)],[]⟩) (fun t h=>by rw [Qcf] at h; cases h) (fun n4 ih y2 h=>?_) N (0) h
   rw [Qcf] at h
   skip
   refine wxz<|wsq ?_
   refine bfe h (fun hc5 h=>?_) fun hc5 h=>?_
   ·refine wft hc5<|Qan<|thn<|wsq<|Qaj<|wxz ?_
    obtain ⟨x6,hg7,h⟩:=bno h
    obtain ⟨hi8,hj9⟩:=gsm hg7
    refine wx tbk [(3,rp [(.tmp 12,(Q61 p0)),(.tmp 13,I y2)] (.dptr (Qal (x6)) 0))] ⟨aid rfl Tryz.underlying27 ti3 rfl rfl hi8 (mgt Qal hj9) rfl,tv⟩ ?_
    refine bfe h (fun hc10 h=>?_) fun hc10 h=>?_
    ·refine wft hc10<|wxz<|Qaf<|Qaq<|Qag<|Qag<|Qaq<|Qag ?_
     obtain rfl:=osi h
     exact fend ⟨[I y2],⟨rot,tv⟩,rfl⟩ nll
    ·exact wfn hc10<|Qan<|bln<|thn<|wxz1<|thn<|arm (mto (n:=19) [(0,(Q61 p0)),(1,I p1),(7,(I ((p0.length:Int)))),(8,(I (w64 (y2+1))))] [] [] hφ0 (pc (rnd Qae) (pw (pw (pw pn)))) qn) (ih (w64 (y2+1)) h)
   ·exact wfn hc5<|Qbd<|Qax<|Qax<|Qbc rfl<|thn<|⟨(),h,(mto (n:=19) [] [] [] hφ0 pn qn)⟩
def Qc3 (N:Nat) (x1:GElement) (p2:(List (List GStream))):Nat→Int→Option (List GStream)
  | 0,_=>none
  | n19+1,y15=>
    bif (decide (y15<(x1.From.length:Int))) then
     (getI x1.From y15).bind fun x21=>
     (getI p2 x21.Element).bind fun x25=>
     (getI x25 x21.Outlet).bind fun x29=>
     yld x29<|
     Qc3 N x1 p2 n19 (w64 (y15+1))
    else
     some ([])
def Qgy (N:Nat) (p0:(List GRow)) (p1:(List GElement)) (p2:(List (List GStream))) (_p3:(List GLost)) (_p4:(List Int)) (p5:(List GStream)) (_p6:Int) (p7:Int):Option (List GStream):=
  (getI p1 p7).bind fun x1=>
  bif (x1.Kind==1) then
   (Qii N (⟨p0,p1⟩:GNet) 1).bind fun x7=>
   (Qe0 N x7 p7).bind fun x9=>
   (getI p5 x9).bind fun x10=>
   yld x10<|
   some ([])
  else
   Qc3 N x1 p2 N 0
def Qgo (p0:(List GRow)):AV:=.dat 5 ((p0:List GRow).map Qa4)
def Qf8 (p1:(List GElement)):AV:=.dat 7 ((p1:List GElement).map Qad)
def Qf1 (p2:(List (List GStream))):AV:=.dat 1 ((p2:List (List GStream)).map Qak)
def Qgs (p3:(List GLost)):AV:=.dat 4 ((p3:List GLost).map Qa0)
def Qgr (p4:(List Int)):AV:=.dat 1 ((p4:List Int).map Qal)
def Qf0 (p5:(List GStream)):AV:=.dat 4 ((p5:List GStream).map Qaa)
def Zfe (p0:(List GRow)) (p1:(List GElement)):AV:=.agg [(Qgo p0),(Qf8 p1)]
def Zfd (x7:(List Int)):AV:=.dat 1 ((x7:List Int).map Qal)
def Zfc (x10:GStream):AV:=.agg [(I (x10.Mass)),(I (x10.Heat)),(I (x10.Silica)),(I (x10.Gas))]
def Q62 (x1:GElement):AV:=.dat 2 ((x1.From:List GPort).map Qap)
def Qrr (x21:GPort):Slot:=.own 2 [[(I (x21.Element)),(I (x21.Outlet))]]
def Q4w (x25:(List GStream)):AV:=.dat 4 ((x25:List GStream).map Qaa)
def Q4v (x29:GStream):AV:=.agg [(I (x29.Mass)),(I (x29.Heat)),(I (x29.Silica)),(I (x29.Gas))]
theorem Qog (N:Nat) (p0:(List GRow)) (p1:(List GElement)) (p2:(List (List GStream))) (p3:(List GLost)) (p4:(List Int)) (p5:(List GStream)) (p6:Int) (p7:Int) (r:(List GStream)) (h:Qgy N p0 p1 p2 p3 p4 p5 p6 p7=some r):Qu6 Tryz.prog 133 [(.dptr [(.dptr [(Qgo p0),(Qf8 p1),(Qf1 p2),(Qgs p3),(Qgr p4),(Qf0 p5),(I (p6))] 0)] 0),(.dptr [(I (p7))] 0)] [] (fun x=>[(.agg #[(.int .i64 (x.Mass)),(.int .i64 (x.Heat)),(.int .i64 (x.Silica)),(.int .i64 (x.Gas))])]) r:=by
  refine Qvx Tryz.func133 rfl rfl (fun X φ0 w0 l J hφ0 hy=>?_)
  unfold Qgy at h
  refine wsq ?_
  obtain ⟨x1,hg2,h⟩:=bno h
  obtain ⟨hi3,hj4⟩:=gsm hg2
  refine wxd tbk [(6,rp [(.tmp 10,(Qf8 p1)),(.tmp 11,I p7)] (.dptr (Qad (x1)) 0))] ⟨aid rfl Tryz.underlying40 Qk0 rfl rfl hi3 (mgt Qad hj4) rfl,tv⟩ ?_
  refine bfe h (fun hc5 h=>?_) fun hc5 h=>?_
  ·refine wft hc5 ?_
   obtain ⟨x7,hf6,h⟩:=bno h
   obtain ⟨x9,hf8,h⟩:=bno h
   obtain ⟨x10,hg11,h⟩:=bno h
   obtain ⟨hi12,hj13⟩:=gsm hg11
   obtain ⟨q14,hy_,hq_⟩:=Q2x h
   clear h
   subst hq_
   have h:=hy_
   clear hy_
   refine Q1g 14 [mv 0 (.lit (.func (.yield l) #[] #[])),rp [(.tmp 1,(.dptr [(.dptr [(Qgo p0),(Qf8 p1),(Qf1 p2),(Qgs p3),(Qgr p4),(Qf0 p5),I p6] 0)] 0))] (.dptr [(Qgo p0),(Qf8 p1),(Qf1 p2),(Qgs p3),(Qgr p4),(Qf0 p5),I p6] 0),mv 17 (.dptr [(Qgo p0),(Qf8 p1),(Qf1 p2),(Qgs p3),(Qgr p4),(Qf0 p5),I p6] 0),rp [(.tmp 18,(.dptr [(Qgo p0),(Qf8 p1),(Qf1 p2),(Qgs p3),(Qgr p4),(Qf0 p5),I p6] 0))] (.dptr [(Qgo p0),(Qf8 p1),(Qf1 p2),(Qgs p3),(Qgr p4),(Qf0 p5),I p6] 5),rp [(.tmp 19,(.dptr [(Qgo p0),(Qf8 p1),(Qf1 p2),(Qgs p3),(Qgr p4),(Qf0 p5),I p6] 5))] (Qf0 p5),rp [(.tmp 1,(.dptr [(.dptr [(Qgo p0),(Qf8 p1),(Qf1 p2),(Qgs p3),(Qgr p4),(Qf0 p5),I p6] 0)] 0))] (.dptr [(Qgo p0),(Qf8 p1),(Qf1 p2),(Qgs p3),(Qgr p4),(Qf0 p5),I p6] 0),mv 21 (.dptr [(Qgo p0),(Qf8 p1),(Qf1 p2),(Qgs p3),(Qgr p4),(Qf0 p5),I p6] 0),mv 22 (.dptr [(Qgo p0),(Qf8 p1),(Qf1 p2),(Qgs p3),(Qgr p4),(Qf0 p5),I p6] 0),rp [(.tmp 23,(.dptr [(Qgo p0),(Qf8 p1),(Qf1 p2),(Qgs p3),(Qgr p4),(Qf0 p5),I p6] 0))] (Zfe p0 p1),rp [fu 67,(.tmp 24,(Zfe p0 p1)),(.const (.int .u8 1),(K .u8 (1)))] (Zfd x7),rp [(.tmp 2,(.dptr [I p7] 0))] (I p7),rp [fu 134,(.tmp 25,(Zfd x7)),(.tmp 26,I p7)] (I x9),rp [(.tmp 20,(Qf0 p5)),(.tmp 27,I x9)] (.dptr (Qaa (x10)) 0),rp [(.tmp 28,(.dptr (Qaa (x10)) 0))] (Zfc x10),⟨[(.tmp 16,(.lit (.func (.yield l) #[] #[]))),(.tmp 29,(Zfc x10))],[(0,(.far (J (some (x10::q14)))))],B true,[(0,(.far (J (some (q14)))))],false⟩] [mv 0 (.lit (.func (.yield l) #[] #[])),rp [(.tmp 1,(.dptr [(.dptr [(Qgo p0),(Qf8 p1),(Qf1 p2),(Qgs p3),(Qgr p4),(Qf0 p5),I p6] 0)] 0))] (.dptr [(Qgo p0),(Qf8 p1),(Qf1 p2),(Qgs p3),(Qgr p4),(Qf0 p5),I p6] 0),mv 17 (.dptr [(Qgo p0),(Qf8 p1),(Qf1 p2),(Qgs p3),(Qgr p4),(Qf0 p5),I p6] 0),rp [(.tmp 18,(.dptr [(Qgo p0),(Qf8 p1),(Qf1 p2),(Qgs p3),(Qgr p4),(Qf0 p5),I p6] 0))] (.dptr [(Qgo p0),(Qf8 p1),(Qf1 p2),(Qgs p3),(Qgr p4),(Qf0 p5),I p6] 5),rp [(.tmp 19,(.dptr [(Qgo p0),(Qf8 p1),(Qf1 p2),(Qgs p3),(Qgr p4),(Qf0 p5),I p6] 5))] (Qf0 p5),rp [(.tmp 1,(.dptr [(.dptr [(Qgo p0),(Qf8 p1),(Qf1 p2),(Qgs p3),(Qgr p4),(Qf0 p5),I p6] 0)] 0))] (.dptr [(Qgo p0),(Qf8 p1),(Qf1 p2),(Qgs p3),(Qgr p4),(Qf0 p5),I p6] 0),mv 21 (.dptr [(Qgo p0),(Qf8 p1),(Qf1 p2),(Qgs p3),(Qgr p4),(Qf0 p5),I p6] 0),mv 22 (.dptr [(Qgo p0),(Qf8 p1),(Qf1 p2),(Qgs p3),(Qgr p4),(Qf0 p5),I p6] 0),rp [(.tmp 23,(.dptr [(Qgo p0),(Qf8 p1),(Qf1 p2),(Qgs p3),(Qgr p4),(Qf0 p5),I p6] 0))] (Zfe p0 p1),rp [fu 67,(.tmp 24,(Zfe p0 p1)),(.const (.int .u8 1),(K .u8 (1)))] (Zfd x7),rp [(.tmp 2,(.dptr [I p7] 0))] (I p7),rp [fu 134,(.tmp 25,(Zfd x7)),(.tmp 26,I p7)] (I x9),rp [(.tmp 20,(Qf0 p5)),(.tmp 27,I x9)] (.dptr (Qaa (x10)) 0),rp [(.tmp 28,(.dptr (Qaa (x10)) 0))] (Zfc x10),⟨[(.tmp 16,(.lit (.func (.yield l) #[] #[]))),(.tmp 29,(Zfc x10))],[(0,(.far (J (some (x10::q14)))))],B false,[(0,(.far (J none)))],false⟩] (by exact ⟨by kernel_rfl,by kernel_rfl⟩) (by exact ⟨by kernel_rfl,by kernel_rfl⟩) rfl rfl rfl rfl (Qpe (rd':=(.tmp 16,.lit (.func (.yield l) #[] #[]))::[(.tmp 29,.lit (.agg #[(.int .i64 (x10.Mass)),(.int .i64 (x10.Heat)),(.int .i64 (x10.Silica)),(.int .i64 (x10.Gas))]))]) ⟨rfl,lrf,rfl,(Less.lits [(.int .i64 (x10.Mass)),(.int .i64 (x10.Heat)),(.int .i64 (x10.Silica)),(.int .i64 (x10.Gas))]),tv⟩ (Qnw (x:=x10) (rest:=q14) rfl rfl hy rfl)) (⟨fun _ _=>amv rfl,fun _ _=>ald_ rfl Qvb (by decide) (nle rfl) rfl,fun _ _=>anc rfl rfl,fun _ _=>afd rfl Tryz.underlying140 rfl rfl ti45 (by decide) rfl,fun _ _=>ald_ rfl ti45 (by decide) (nle rfl) rfl,fun _ _=>ald_ rfl Qvb (by decide) (nle rfl) rfl,fun _ _=>anc rfl rfl,fun _ _=>afd rfl Tryz.underlying140 rfl rfl ti42 (by decide) rfl,fun _ _=>ald_ rfl ti42 (by decide) (nle rfl) rfl,fun _ _=>apv Q3r (Qk9 N (⟨p0,p1⟩:GNet) 1 _ hf6) (nlc (NLt.agg _ (nlc (nld Qai _) (nlc (nld Qab _) nl0))) (nlc nll nl0)) (nld Qae _),fun _ _=>ald_ rfl ti3 (by decide) (nle rfl) rfl,fun _ _=>apv Q6b (Qie N x7 p7 _ hf8) (nlc (nld Qae _) (nlc nll nl0)) nll,fun _ _=>aid rfl Tryz.underlying45 ti63 rfl rfl hi12 (mgt Qaa hj13) rfl,fun _ _=>ald_ rfl ti63 (by decide) (nle rfl) rfl,fun _ h=>absurd rfl h,tv⟩) (⟨fun _ _=>amv rfl,fun _ _=>ald_ rfl Qvb (by decide) (nle rfl) rfl,fun _ _=>anc rfl rfl,fun _ _=>afd rfl Tryz.underlying140 rfl rfl ti45 (by decide) rfl,fun _ _=>ald_ rfl ti45 (by decide) (nle rfl) rfl,fun _ _=>ald_ rfl Qvb (by decide) (nle rfl) rfl,fun _ _=>anc rfl rfl,fun _ _=>afd rfl Tryz.underlying140 rfl rfl ti42 (by decide) rfl,fun _ _=>ald_ rfl ti42 (by decide) (nle rfl) rfl,fun _ _=>apv Q3r (Qk9 N (⟨p0,p1⟩:GNet) 1 _ hf6) (nlc (NLt.agg _ (nlc (nld Qai _) (nlc (nld Qab _) nl0))) (nlc nll nl0)) (nld Qae _),fun _ _=>ald_ rfl ti3 (by decide) (nle rfl) rfl,fun _ _=>apv Q6b (Qie N x7 p7 _ hf8) (nlc (nld Qae _) (nlc nll nl0)) nll,fun _ _=>aid rfl Tryz.underlying45 ti63 rfl rfl hi12 (mgt Qaa hj13) rfl,fun _ _=>ald_ rfl ti63 (by decide) (nle rfl) rfl,fun _ h=>absurd rfl h,tv⟩) ?_ ?_
   ·skip
    refine Qaf<|Qag ?_
    obtain rfl:=osi h
    exact Or.inl rfl
   ·clear h
    exact Qaf<|Qag<|Or.inr (by kernel_rfl)
  ·refine wfn hc5<|Qan<|thn ?_
   refine wxd tbk [(6,rp [(.tmp 35,(Qf8 p1)),(.tmp 36,I p7)] (.dptr (Qad (x1)) 0)),(9,rp [(.tmp 39,(Q62 x1))] (I ((x1.From.length:Int))))] ⟨aid rfl Tryz.underlying40 Qk0 rfl rfl hi3 (mgt Qad hj4) rfl,alm (c:=Qap) (l:=x1.From) (aln rfl Tryz.underlying116 rfl),tv⟩<|Qaj ?_
   refine wmr (mto (n:=62) (l':=[(0,(.lit (.func (.yield l) #[] #[]))),(1,(.dptr [(.dptr [(Qgo p0),(Qf8 p1),(Qf1 p2),(Qgs p3),(Qgr p4),(Qf0 p5),I p6] 0)] 0)),(39,(Q62 x1)),(40,(I ((x1.From.length:Int)))),(41,I 0)]) (own':=[(.far (J (some (r))))]) [(0,(.lit (.func (.yield l) #[] #[]))),(1,(.dptr [(.dptr [(Qgo p0),(Qf8 p1),(Qf1 p2),(Qgs p3),(Qgr p4),(Qf0 p5),I p6] 0)] 0)),(39,(Q62 x1)),(40,(I ((x1.From.length:Int)))),(41,I 0)] [0] [(.far (J (some (r))))] hφ0 (pw (pc (.rn (.plain _ (NLt.dptr _ _ (nlc (NLt.dptr _ _ (nlc (nld Qai _) (nlc (nld Qab _) (nlc (nld Qam _) (nlc (nld Qau _) (nlc (nld Qae _) (nlc (nld Qac _) (nlc nll nl0)))))))) nl0)))) (pc (rnd Qay) (pw (pw pn))))) (qc (.far _) qn)) ?_
   refine Qbt (τ:=(Int)×List GStream) (fun n t=>Qc3 N x1 p2 n t.1=some t.2) (fun ⟨y15,q16⟩=>⟨mk 62 [(0,(.lit (.func (.yield l) #[] #[]))),(1,(.dptr [(.dptr [(Qgo p0),(Qf8 p1),(Qf1 p2),(Qgs p3),(Qgr p4),(Qf0 p5),I p6] 0)] 0)),(39,(Q62 x1)),(40,(I ((x1.From.length:Int)))),(41,I y15)],[(.far (J (some (q16))))]⟩) (fun t h=>by rw [Qc3] at h; cases h) (fun n19 ih t h=>?_) N ((0),r) h
   obtain ⟨y15,q16⟩:=t
   rw [Qc3] at h
   try dsimp only at h
   refine wxz<|wsq ?_
   refine bfe h (fun hc20 h=>?_) fun hc20 h=>?_
   ·refine wft hc20<|Qan<|thn<|wsq<|Qaj ?_
    obtain ⟨x21,hg22,h⟩:=bno h
    obtain ⟨hi23,hj24⟩:=gsm hg22
    refine wx tbk [(0,rp [(.tmp 39,(Q62 x1)),(.tmp 41,I y15)] (.dptr (Qap (x21)) 0))] ⟨aid rfl Tryz.underlying116 Qq3 rfl rfl hi23 (mgt Qap hj24) rfl,tv⟩ ?_
    obtain ⟨x25,hg26,h⟩:=bno h
    obtain ⟨hi27,hj28⟩:=gsm hg26
    obtain ⟨x29,hg30,h⟩:=bno h
    obtain ⟨hi31,hj32⟩:=gsm hg30
    obtain ⟨q33,hy_,hq_⟩:=Q2x h
    clear h
    subst hq_
    have h:=hy_
    clear hy_
    refine Q1g 14 [mv 0 (.lit (.func (.yield l) #[] #[])),rp [(.tmp 1,(.dptr [(.dptr [(Qgo p0),(Qf8 p1),(Qf1 p2),(Qgs p3),(Qgr p4),(Qf0 p5),I p6] 0)] 0))] (.dptr [(Qgo p0),(Qf8 p1),(Qf1 p2),(Qgs p3),(Qgr p4),(Qf0 p5),I p6] 0),mv 46 (.dptr [(Qgo p0),(Qf8 p1),(Qf1 p2),(Qgs p3),(Qgr p4),(Qf0 p5),I p6] 0),rp [(.tmp 47,(.dptr [(Qgo p0),(Qf8 p1),(Qf1 p2),(Qgs p3),(Qgr p4),(Qf0 p5),I p6] 0))] (.dptr [(Qgo p0),(Qf8 p1),(Qf1 p2),(Qgs p3),(Qgr p4),(Qf0 p5),I p6] 2),mv 48 (.dptr [(Qgo p0),(Qf8 p1),(Qf1 p2),(Qgs p3),(Qgr p4),(Qf0 p5),I p6] 2),rp [(.tmp 49,(.dptr [(Qgo p0),(Qf8 p1),(Qf1 p2),(Qgs p3),(Qgr p4),(Qf0 p5),I p6] 2))] (Qf1 p2),rb [(.tmp 5,.ref 1 2 0 0)] [(1,(Qrr x21))] (.ref 1 2 0 0),rb [(.tmp 51,.ref 1 2 0 0)] [(1,(Qrr x21))] (I x21.Element),rp [(.tmp 50,(Qf1 p2)),(.tmp 52,I x21.Element)] (.dptr (Qak (x25)) 0),rp [(.tmp 53,(.dptr (Qak (x25)) 0))] (Q4w x25),rb [(.tmp 5,.ref 1 2 0 0)] [(1,(Qrr x21))] (.ref 1 2 0 1),rb [(.tmp 55,.ref 1 2 0 1)] [(1,(Qrr x21))] (I x21.Outlet),rp [(.tmp 54,(Q4w x25)),(.tmp 56,I x21.Outlet)] (.dptr (Qaa (x29)) 0),rp [(.tmp 57,(.dptr (Qaa (x29)) 0))] (Q4v x29),⟨[(.tmp 45,(.lit (.func (.yield l) #[] #[]))),(.tmp 58,(Q4v x29))],[(0,(.far (J (some (x29::q33)))))],B true,[(0,(.far (J (some (q33)))))],false⟩,rp [(.tmp 59,B true)] (B false)] [mv 0 (.lit (.func (.yield l) #[] #[])),rp [(.tmp 1,(.dptr [(.dptr [(Qgo p0),(Qf8 p1),(Qf1 p2),(Qgs p3),(Qgr p4),(Qf0 p5),I p6] 0)] 0))] (.dptr [(Qgo p0),(Qf8 p1),(Qf1 p2),(Qgs p3),(Qgr p4),(Qf0 p5),I p6] 0),mv 46 (.dptr [(Qgo p0),(Qf8 p1),(Qf1 p2),(Qgs p3),(Qgr p4),(Qf0 p5),I p6] 0),rp [(.tmp 47,(.dptr [(Qgo p0),(Qf8 p1),(Qf1 p2),(Qgs p3),(Qgr p4),(Qf0 p5),I p6] 0))] (.dptr [(Qgo p0),(Qf8 p1),(Qf1 p2),(Qgs p3),(Qgr p4),(Qf0 p5),I p6] 2),mv 48 (.dptr [(Qgo p0),(Qf8 p1),(Qf1 p2),(Qgs p3),(Qgr p4),(Qf0 p5),I p6] 2),rp [(.tmp 49,(.dptr [(Qgo p0),(Qf8 p1),(Qf1 p2),(Qgs p3),(Qgr p4),(Qf0 p5),I p6] 2))] (Qf1 p2),rb [(.tmp 5,.ref 1 2 0 0)] [(1,(Qrr x21))] (.ref 1 2 0 0),rb [(.tmp 51,.ref 1 2 0 0)] [(1,(Qrr x21))] (I x21.Element),rp [(.tmp 50,(Qf1 p2)),(.tmp 52,I x21.Element)] (.dptr (Qak (x25)) 0),rp [(.tmp 53,(.dptr (Qak (x25)) 0))] (Q4w x25),rb [(.tmp 5,.ref 1 2 0 0)] [(1,(Qrr x21))] (.ref 1 2 0 1),rb [(.tmp 55,.ref 1 2 0 1)] [(1,(Qrr x21))] (I x21.Outlet),rp [(.tmp 54,(Q4w x25)),(.tmp 56,I x21.Outlet)] (.dptr (Qaa (x29)) 0),rp [(.tmp 57,(.dptr (Qaa (x29)) 0))] (Q4v x29),⟨[(.tmp 45,(.lit (.func (.yield l) #[] #[]))),(.tmp 58,(Q4v x29))],[(0,(.far (J (some (x29::q33)))))],B false,[(0,(.far (J none)))],false⟩,rp [(.tmp 59,B false)] (B true)] (by exact ⟨by kernel_rfl,by kernel_rfl⟩) (by exact ⟨by kernel_rfl,by kernel_rfl⟩) rfl rfl rfl rfl (Qpe (rd':=(.tmp 45,.lit (.func (.yield l) #[] #[]))::[(.tmp 58,.lit (.agg #[(.int .i64 (x29.Mass)),(.int .i64 (x29.Heat)),(.int .i64 (x29.Silica)),(.int .i64 (x29.Gas))]))]) ⟨rfl,lrf,rfl,(Less.lits [(.int .i64 (x29.Mass)),(.int .i64 (x29.Heat)),(.int .i64 (x29.Silica)),(.int .i64 (x29.Gas))]),tv⟩ (Qnw (x:=x29) (rest:=q33) rfl rfl hy rfl)) (⟨fun _ _=>amv rfl,fun _ _=>ald_ rfl Qvb (by decide) (nle rfl) rfl,fun _ _=>anc rfl rfl,fun _ _=>afd rfl Tryz.underlying140 rfl rfl ti34 (by decide) rfl,fun _ _=>afd rfl Tryz.underlying34 rfl rfl ti31 (by decide) rfl,fun _ _=>ald_ rfl ti31 (by decide) (nle rfl) rfl,fun _ _=>afa rfl Tryz.underlying120 rfl rfl ti3 (by decide) rfl,fun _ _=>ald rfl ti3 (by decide) rfl (nle rfl) rfl,fun _ _=>aid rfl Tryz.underlying31 ti45 rfl rfl hi27 (mgt Qak hj28) rfl,fun _ _=>ald_ rfl ti45 (by decide) (nle rfl) rfl,fun _ _=>afa rfl Tryz.underlying120 rfl rfl ti3 (by decide) rfl,fun _ _=>ald rfl ti3 (by decide) rfl (nle rfl) rfl,fun _ _=>aid rfl Tryz.underlying45 ti63 rfl rfl hi31 (mgt Qaa hj32) rfl,fun _ _=>ald_ rfl ti63 (by decide) (nle rfl) rfl,fun _ h=>absurd rfl h,fun _ _=>Qlg rfl,tv⟩) (⟨fun _ _=>amv rfl,fun _ _=>ald_ rfl Qvb (by decide) (nle rfl) rfl,fun _ _=>anc rfl rfl,fun _ _=>afd rfl Tryz.underlying140 rfl rfl ti34 (by decide) rfl,fun _ _=>afd rfl Tryz.underlying34 rfl rfl ti31 (by decide) rfl,fun _ _=>ald_ rfl ti31 (by decide) (nle rfl) rfl,fun _ _=>afa rfl Tryz.underlying120 rfl rfl ti3 (by decide) rfl,fun _ _=>ald rfl ti3 (by decide) rfl (nle rfl) rfl,fun _ _=>aid rfl Tryz.underlying31 ti45 rfl rfl hi27 (mgt Qak hj28) rfl,fun _ _=>ald_ rfl ti45 (by decide) (nle rfl) rfl,fun _ _=>afa rfl Tryz.underlying120 rfl rfl ti3 (by decide) rfl,fun _ _=>ald rfl ti3 (by decide) rfl (nle rfl) rfl,fun _ _=>aid rfl Tryz.underlying45 ti63 rfl rfl hi31 (mgt Qaa hj32) rfl,fun _ _=>ald_ rfl ti63 (by decide) (nle rfl) rfl,fun _ h=>absurd rfl h,fun _ _=>Qlg rfl,tv⟩) ?_ ?_
    ·skip
     exact wfa<|Qan<|bln<|thn<|wxz1<|thn<|arm (mto (n:=62) [(0,(.lit (.func (.yield l) #[] #[]))),(1,(.dptr [(.dptr [(Qgo p0),(Qf8 p1),(Qf1 p2),(Qgs p3),(Qgr p4),(Qf0 p5),I p6] 0)] 0)),(39,(Q62 x1)),(40,(I ((x1.From.length:Int)))),(41,(I (w64 (y15+1))))] [0] [(.far (J (some (q33))))] hφ0 (pw (pc (.rn (.plain _ (NLt.dptr _ _ (nlc (NLt.dptr _ _ (nlc (nld Qai _) (nlc (nld Qab _) (nlc (nld Qam _) (nlc (nld Qau _) (nlc (nld Qae _) (nlc (nld Qac _) (nlc nll nl0)))))))) nl0)))) (pc (rnd Qay) (pw (pw pn))))) (qc (.far _) qn)) (ih ((w64 (y15+1)),q33) h)
    ·clear h
     exact wtr<|Qaf<|Qaq<|Qag<|Qag<|Qaq<|Or.inr (by kernel_rfl)
   ·refine wfn hc20<|Qbd<|Qax<|Qax<|Qbc rfl ?_
    obtain rfl:=osi h
    exact Or.inl rfl
def Qa1 (N:Nat) (k3:(List GStream)→Option (List GStream)):(List GStream)→(List GStream)→Option (List GStream)
  | [],y6=>
    k3 (y6)
  | x9::q10,y6=>
    chk (decide ((y6.length+([x9]).length) * 32≤140737488355328))<|
    Qa1 N k3 q10 (y6++([x9]))
def Qb9 (N:Nat) (p0:(List GRow)) (p1:(List GElement)) (p2:(List (List GStream))) (p3:(List GLost)) (p4:(List Int)) (p5:(List GStream)) (p6:Int) (p7:Int):Option (List GStream):=
  Qbb (fun y2=>
    some y2) fun k3:(List GStream)→Option (List GStream)=>
  (Qgy N p0 p1 p2 p3 p4 p5 p6 p7).bind fun q4=>
  Qa1 N k3 q4 ([])
def Zkv (p0:(List GRow)) (p1:(List GElement)) (p2:(List (List GStream))) (p3:(List GLost)) (p4:(List Int)) (p5:(List GStream)) (p6:Int) (p7:Int):AV:=.fn (.func 133) [] [(.dptr [(.dptr [(.dat 5 ((p0:List GRow).map Qa4)),(.dat 7 ((p1:List GElement).map Qad)),(.dat 1 ((p2:List (List GStream)).map Qak)),(.dat 4 ((p3:List GLost).map Qa0)),(.dat 1 ((p4:List Int).map Qal)),(.dat 4 ((p5:List GStream).map Qaa)),(I (p6))] 0)] 0),(.dptr [(I (p7))] 0)]
def Zah (y6:(List GStream)):AV:=.acc 1 63 4 ((y6:List GStream).map Qaa)
def Zjf (x9:GStream):AV:=.agg [(I (x9.Mass)),(I (x9.Heat)),(I (x9.Silica)),(I (x9.Gas))]
theorem Qge (N:Nat) (p0:(List GRow)) (p1:(List GElement)) (p2:(List (List GStream))) (p3:(List GLost)) (p4:(List Int)) (p5:(List GStream)) (p6:Int) (p7:Int) (r:(List GStream)) (h:Qb9 N p0 p1 p2 p3 p4 p5 p6 p7=some r):Spec Tryz.prog 132 [nilS,(Zkv p0 p1 p2 p3 p4 p5 p6 p7)] [] (.acc 0 63 4 ((r:List GStream).map Qaa)) [.tok]:=by
  refine Qah Tryz.func132 rfl 1 (nle rfl) (fun X φ0 w0 hφ0 hd0=>?_)
  unfold Qb9 at h
  refine Qb0<|wxz ?_
  obtain ⟨k3,hk_k3,h⟩:=jko h
  refine wjn (τ:=(List GStream)) (fun t=>k3 t=some r) (fun y2=>⟨mk 13 [(2,.ref 0 1 0 0)],[(.own 1 [[(.acc 1 63 4 ((y2:List GStream).map Qaa))]]),.tok]⟩) (fun y2 h=>?_) ?_
  ·subst hk_k3
   refine wxz<|wmr (mto (n:=13) (l':=[(4,(.acc 0 63 4 ((y2:List GStream).map Qaa)))]) (own':=[.tok]) [(4,(.acc 1 63 4 ((y2:List GStream).map Qaa)))] [1] [.tok] hφ0 (pc (.rn (Qaw rfl (Qas Qac _))) pn) (qc .tok qn))<|Qaf ?_
   obtain rfl:=osi h
   exact ⟨_,Mor.rfl,Qdf (vs:=[(.acc 0 63 4 ((y2:List GStream).map Qaa))]) ⟨rot,tv⟩ rfl (NLt.acc _ _ _ _ (by decide) (Qyc Qac _)) (by kernel_rfl) (Qao .tok Qby)⟩
  ·skip
   refine wxz<|Qaj ?_
   obtain ⟨q4,hL5,h⟩:=bno h
   refine wmr (mto (n:=13) (l':=[(2,.ref 0 1 0 0),(6,(Zkv p0 p1 p2 p3 p4 p5 p6 p7))]) (own':=[(.own 1 [[nilS]])]) [(2,.ref 0 1 0 0),(6,(Zkv p0 p1 p2 p3 p4 p5 p6 p7))] [0] [(.own 1 [[nilS]])] hφ0 (prr (pc (.rn (Qbp rn0 (rnc (.plain _ (NLt.dptr _ _ (nlc (NLt.dptr _ _ (nlc (nld Qai _) (nlc (nld Qab _) (nlc (nld Qam _) (nlc (nld Qau _) (nlc (nld Qae _) (nlc (nld Qac _) (nlc nll nl0)))))))) nl0))) (rnc (.plain _ (NLt.dptr _ _ (nlc nll nl0))) rn0)))) pn)) (qb (lc rwl ln) qn)) ?_
   refine wmr (Qln (n:=1) (ty:=63) (m:=4) (q:=0) (mq:=1) (c:=[nilS]) 0 (by kernel_rfl) (by kernel_rfl) (by kernel_rfl) (by decide)) ?_
   refine Qro (τ:=((List GStream))) (kb:=1) (caps:=[(.dptr [(.dptr [(.dat 5 ((p0:List GRow).map Qa4)),(.dat 7 ((p1:List GElement).map Qad)),(.dat 1 ((p2:List (List GStream)).map Qak)),(.dat 4 ((p3:List GLost).map Qa0)),(.dat 1 ((p4:List Int).map Qal)),(.dat 4 ((p5:List GStream).map Qaa)),I p6] 0)] 0),(.dptr [I p7] 0)]) (σr:=[]) (encs:=fun x=>[(.agg #[(.int .i64 (x.Mass)),(.int .i64 (x.Heat)),(.int .i64 (x.Silica)),(.int .i64 (x.Gas))])]) (fun x=>[(.agg [I x.Mass,I x.Heat,I x.Silica,I x.Gas])]) [] (fun n hn=>hφ0 n (Nat.le_trans (nle rfl) hn)) hd0 (Qog N p0 p1 p2 p3 p4 p5 p6 p7 _ hL5) Zhq (by kernel_rfl) (by kernel_rfl) (Qbv (rnc (.plain _ (NLt.dptr _ _ (nlc (NLt.dptr _ _ (nlc (nld Qai _) (nlc (nld Qab _) (nlc (nld Qam _) (nlc (nld Qau _) (nlc (nld Qae _) (nlc (nld Qac _) (nlc nll nl0)))))))) nl0))) (rnc (.plain _ (NLt.dptr _ _ (nlc nll nl0))) rn0))) Qat (by kernel_rfl) (fun _=>rfl) (fun x=>⟨(Less.unlits [(.int .i64 (x.Mass)),(.int .i64 (x.Heat)),(.int .i64 (x.Silica)),(.int .i64 (x.Gas))]),tv⟩) (Zc2 (Qi4 (NLt.ref _ _ _ _ (by decide)) (Qi4 (NLt.of0 (NLt.fn _ _ _ nl0 (nlc (NLt.dptr _ _ (nlc (NLt.dptr _ _ (nlc (nld Qai _) (nlc (nld Qab _) (nlc (nld Qam _) (nlc (nld Qau _) (nlc (nld Qae _) (nlc (nld Qac _) (nlc nll nl0)))))))) nl0)) (nlc (NLt.dptr _ _ (nlc nll nl0)) nl0)))) Q3i))) (fun y6=>[(.own 1 [[(Zah y6)]]),.tok]) (fun _=>rfl) (fun _=>rfl) (fun l t=>Qa1 N k3 l t=some r) ([]) h (by kernel_rfl) ?_ ?_
   ·intro l11 o12 X15 φ16 w17 hφ14 x9 q10 y6 h
    rw [Qa1] at h
    refine wxz1 ?_
    refine ⟨by kernel_rfl,fun o13=>?_⟩
    refine Qaj ?_
    obtain ⟨ha18,h⟩:=cko h
    refine wx1 tbk [(2,rp [(.tmp 9,(Zjf x9))] (.dat 4 (([x9]:List GStream).map Qaa))),(3,⟨[(.tmp 8,(Zah y6)),(.tmp 10,(.dat 4 (([x9]:List GStream).map Qaa)))],[(1,.tok),(4,.unused)],(.acc 4 63 4 ((y6++([x9]):List GStream).map Qaa)),[(1,.dead),(4,.tok)],false⟩)] ⟨Qbe (vs:=[(Zjf x9)]) rfl Tryz.underlying45 ti63 tz63 rfl (by decide) rfl (by decide) (by rfl) (by rfl) (by rfl) rfl,Qdj rfl Tryz.underlying45 te63 (Base.acc _ _) rfl rfl (by rfl) (Qf4 Qaa ha18) (Qf3 Qaa ha18 (by decide)) (Qf2 Qaa) rfl rfl,tv⟩<|bln ?_
    exact ⟨(y6++([x9])),h,Zcn (own':=[(.own 1 [[(.acc 1 63 4 (((y6++([x9])):List GStream).map Qaa))]]),.tok,(.far (farL l11 o13))]) [0,4,2] [(.own 1 [[(.acc 4 63 4 ((y6++([x9]):List GStream).map Qaa))]]),.tok,(.far (farL l11 o13))] (by kernel_rfl) (by kernel_rfl) ⟨(spb (lc (.rn (Qaw rfl (Qas Qac _))) ln)),.tok,.far _,tv⟩⟩
   ·intro y6 h
    rw [Qa1] at h
    exact bln<|thn<|⟨(y6),h,(mto (n:=13) [(2,.ref 0 1 0 0)] [0,1] [(.own 1 [[(Zah y6)]]),.tok] hφ0 (prr pn) (qb (lc (.rn (Qaw rfl (Qas Qac _))) ln) (qc .tok qn)))⟩
def Qbz (N:Nat) (p0:(List GRow)) (p1:(List GElement)) (p2:(List (List GStream))) (p3:(List GLost)) (p4:(List Int)) (p5:(List GStream)) (p6:Int) (p7:Int):Option (List GStream):=
  (Qb9 N p0 p1 p2 p3 p4 p5 p6 p7).bind fun x3=>
  some x3
def Zkw (p0:(List GRow)) (p1:(List GElement)) (p2:(List (List GStream))) (p3:(List GLost)) (p4:(List Int)) (p5:(List GStream)) (p6:Int) (p7:Int):AV:=.fn (.func 133) [] [(.dptr [(.dptr [(.dat 5 ((p0:List GRow).map Qa4)),(.dat 7 ((p1:List GElement).map Qad)),(.dat 1 ((p2:List (List GStream)).map Qak)),(.dat 4 ((p3:List GLost).map Qa0)),(.dat 1 ((p4:List Int).map Qal)),(.dat 4 ((p5:List GStream).map Qaa)),(I (p6))] 0)] 0),(.dptr [(I (p7))] 0)]
def Zai (x3:(List GStream)):AV:=.acc 0 63 4 ((x3:List GStream).map Qaa)
theorem Qiw (N:Nat) (p0:(List GRow)) (p1:(List GElement)) (p2:(List (List GStream))) (p3:(List GLost)) (p4:(List Int)) (p5:(List GStream)) (p6:Int) (p7:Int) (r:(List GStream)) (h:Qbz N p0 p1 p2 p3 p4 p5 p6 p7=some r):Spec Tryz.prog 115 [(Zkw p0 p1 p2 p3 p4 p5 p6 p7)] [] (.acc 0 63 4 ((r:List GStream).map Qaa)) [.tok]:=by
  refine Qah Tryz.func115 rfl 1 (nle rfl) (fun X φ0 w0 hφ0 hd0=>?_)
  unfold Qbz at h
  refine Qb0<|wxz ?_
  obtain ⟨x3,hf2,h⟩:=bno h
  refine wx tbk [(1,⟨[fu 132,((.const (.slice none 0 0)),nilS),(.tmp 3,(Zkw p0 p1 p2 p3 p4 p5 p6 p7))],[(0,.unused)],(Zai x3),[(0,.tok)],false⟩)] ⟨Qav (first:=[]) (cap:=[]) (vs:=[nilS,(Zkw p0 p1 p2 p3 p4 p5 p6 p7)]) (σr:=[]) (σr':=[.tok]) (res':=(Zai x3)) [0] rfl Zhr (Qge N p0 p1 p2 p3 p4 p5 p6 p7 _ hf2) rfl (Qbv (rnc (.plain _ nll) (rnc (.plain _ (NLt.fn _ _ _ nl0 (nlc (NLt.dptr _ _ (nlc (NLt.dptr _ _ (nlc (nld Qai _) (nlc (nld Qab _) (nlc (nld Qam _) (nlc (nld Qau _) (nlc (nld Qae _) (nlc (nld Qac _) (nlc nll nl0)))))))) nl0)) (nlc (NLt.dptr _ _ (nlc nll nl0)) nl0)))) rn0))) Qat (slc .tok Qat) (Zcg rfl (Qas Qac _)) rfl rfl rfl,tv⟩ ?_
  refine wmr (mto (n:=5) (l':=[(2,(Zai x3))]) (own':=[.tok]) [(2,(Zai x3))] [0] [.tok] hφ0 (pc (.rn (Qaw rfl (Qas Qac _))) pn) (qc .tok qn))<|Qaf ?_
  obtain rfl:=osi h
  exact ⟨_,Mor.rfl,Qdf (vs:=[(Zai x3)]) ⟨rot,tv⟩ rfl (NLt.acc _ _ _ _ (by decide) (Qyc Qac _)) (by kernel_rfl) (Qao .tok Qby)⟩
def Qfk (_N:Nat) (_p0:Int) (p1:GStream) (_p2:(List GRow)) (_p3:(List GElement)) (_p4:Nat) (_p5:Nat) (_p6:Nat) (_p7:(List GStream)) (_p8:Int) (_p9:(List (List GStream))) (_p10:(List GLost)) (_p11:(List Int)):Option (List GStream):=
  some ([p1])
def Zku (p1:GStream):AV:=.agg [(I (p1.Mass)),(I (p1.Heat)),(I (p1.Silica)),(I (p1.Gas))]
def Zfa (p2:(List GRow)) (p3:(List GElement)) (p4:Nat) (p5:Nat) (p6:Nat) (p7:(List GStream)) (p8:Int):Slot:=.own 7 [[(.dat 5 ((p2:List GRow).map Qa4)),(.dat 7 ((p3:List GElement).map Qad)),(.own 1 1 (0) (p4)),(.own 2 4 (0) (p5)),(.own 3 1 (0) (p6)),(.dat 4 ((p7:List GStream).map Qaa)),(I (p8))]]
def Ze9 (p9:(List (List GStream))):Slot:=.own 1 ((p9:List (List GStream)).map Qak)
def Ze8 (p10:(List GLost)):Slot:=.own 4 ((p10:List GLost).map Qa0)
def Ze7 (p11:(List Int)):Slot:=.own 1 ((p11:List Int).map Qal)
def Zfb (p1:GStream):AV:=.dat 4 (([p1]:List GStream).map Qaa)
theorem Qh0 (N:Nat) (p0:Int) (p1:GStream) (p2:(List GRow)) (p3:(List GElement)) (p4:Nat) (p5:Nat) (p6:Nat) (p7:(List GStream)) (p8:Int) (p9:(List (List GStream))) (p10:(List GLost)) (p11:(List Int)) (r:(List GStream)) (h:Qfk N p0 p1 p2 p3 p4 p5 p6 p7 p8 p9 p10 p11=some r):Spec Tryz.prog 117 [(.ref 0 7 (0) 0),(I (p0)),(Zku p1)] [(Zfa p2 p3 p4 p5 p6 p7 p8),(Ze9 p9),(Ze8 p10),(Ze7 p11)] (.dat 4 ((r:List GStream).map Qaa)) [(Zfa p2 p3 p4 p5 p6 p7 p8),(Ze9 p9),(Ze8 p10),(Ze7 p11)]:=by
  refine Qah Tryz.func117 rfl 4 (nle rfl) (fun X φ0 w0 hφ0 hd0=>?_)
  unfold Qfk at h
  refine Qb0<|wxz ?_
  refine wx tbk [(1,rp [(.tmp 7,(Zku p1))] (Zfb p1))] ⟨Qbe (vs:=[(Zku p1)]) rfl Tryz.underlying45 ti63 tz63 rfl (by decide) rfl (by decide) (by rfl) (by rfl) (by rfl) rfl,tv⟩ ?_
  refine wmr (mto (n:=9) (l':=[(6,(Zfb p1))]) (own':=[(Zfa p2 p3 p4 p5 p6 p7 p8),(Ze9 p9),(Ze8 p10),(Ze7 p11)]) [(6,(Zfb p1))] [0,1,2,3] [(Zfa p2 p3 p4 p5 p6 p7 p8),(Ze9 p9),(Ze8 p10),(Ze7 p11)] hφ0 (pc (rnd Qac) pn) (qb (lc (rnd Qai) (lc (rnd Qab) (lc (.rn (Qa3 rfl)) (lc (.rn (Qa3 rfl)) (lc (.rn (Qa3 rfl)) (lc (rnd Qac) (lc rwl ln))))))) (qc (spr Qam) (qc (spr Qau) (qc (spr Qae) qn)))))<|Qaf ?_
  obtain rfl:=osi h
  exact ⟨_,Mor.rfl,Qdf (vs:=[(Zfb p1)]) ⟨rot,tv⟩ rfl (NLt.of0 (nld Qac _)) (by kernel_rfl) (Qao (Qbi (nlc (NLt.of0 (nld Qai _)) (nlc (NLt.of0 (nld Qab _)) (nlc (NLt.own _ _ _ _ (by decide)) (nlc (NLt.own _ _ _ _ (by decide)) (nlc (NLt.own _ _ _ _ (by decide)) (nlc (NLt.of0 (nld Qac _)) (nlc (NLt.of0 nll) nl0)))))))) (Qao (Qci Qam _) (Qao (Qci Qau _) (Qao (Qci Qae _) Qby))))⟩
def Qhx (_N:Nat) (p0:Int) (p1:GStream) (_p2:(List GRow)) (p3:(List GElement)) (_p4:Nat) (p5:Nat) (_p6:Nat) (_p7:(List GStream)) (_p8:Int) (_p9:(List (List GStream))) (p10:(List GLost)) (_p11:(List Int)):Option ((List GStream)×(List GLost)):=
  (getI p3 p0).bind fun x3=>
  (some (if p1.Heat<x3.Amount then p1.Heat else x3.Amount)).bind fun x7=>
  chk (decide (0≤p0)&&decide (p0.toNat<p5))<|
  (p10[p0.toNat]?).bind fun x10=>
  some ([(⟨p1.Mass,w64 (p1.Heat - x7),p1.Silica,p1.Gas⟩:GStream)],p10.set p0.toNat (⟨x7,x10.Silica,x10.Gas,x10.Scale⟩:GLost))
def Q60 (p2:(List GRow)) (p3:(List GElement)) (p4:Nat) (p5:Nat) (p6:Nat) (p7:(List GStream)) (p8:Int):Slot:=.own 7 [[(.dat 5 ((p2:List GRow).map Qa4)),(.dat 7 ((p3:List GElement).map Qad)),(.own 1 1 (0) (p4)),(.own 2 4 (0) (p5)),(.own 3 1 (0) (p6)),(.dat 4 ((p7:List GStream).map Qaa)),(I (p8))]]
def Q4t (p9:(List (List GStream))):Slot:=.own 1 ((p9:List (List GStream)).map Qak)
def Zkt (p10:(List GLost)):Slot:=.own 4 ((p10:List GLost).map Qa0)
def Q4s (p11:(List Int)):Slot:=.own 1 ((p11:List Int).map Qal)
def Zje (p1:GStream) (x7:Int):AV:=.agg [(I (p1.Mass)),(I (w64 (p1.Heat - x7))),(I (p1.Silica)),(I (p1.Gas))]
def Q4u (p1:GStream) (x7:Int):AV:=.dat 4 (([(⟨p1.Mass,w64 (p1.Heat - x7),p1.Silica,p1.Gas⟩:GStream)]:List GStream).map Qaa)
theorem Qoi (N:Nat) (p0:Int) (p1:GStream) (p2:(List GRow)) (p3:(List GElement)) (p4:Nat) (p5:Nat) (p6:Nat) (p7:(List GStream)) (p8:Int) (p9:(List (List GStream))) (p10:(List GLost)) (p11:(List Int)) (r:((List GStream)×(List GLost))) (h:Qhx N p0 p1 p2 p3 p4 p5 p6 p7 p8 p9 p10 p11=some r):Spec Tryz.prog 118 [(.ref 0 7 (0) 0),(I (p0)),(.agg [(I (p1.Mass)),(I (p1.Heat)),(I (p1.Silica)),(I (p1.Gas))])] [(Q60 p2 p3 p4 p5 p6 p7 p8),(Q4t p9),(Zkt p10),(Q4s p11)] (.dat 4 ((r.1:List GStream).map Qaa)) [(Q60 p2 p3 p4 p5 p6 p7 p8),(Q4t p9),(.own 4 ((r.2:List GLost).map Qa0)),(Q4s p11)]:=by
  refine Qah Tryz.func118 rfl 4 (nle rfl) (fun X φ0 w0 hφ0 hd0=>?_)
  unfold Qhx at h
  refine Qb0<|wxz ?_
  obtain ⟨x3,hg4,h⟩:=bno h
  obtain ⟨hi5,hj6⟩:=gsm hg4
  obtain ⟨x7,hl8,h⟩:=bno h
  refine wxd tbk [(1,rb [(.tmp 8,.ref 0 7 0 0)] [(0,(Q60 p2 p3 p4 p5 p6 p7 p8))] (.ref 0 7 0 0)),(6,rp [(.tmp 12,(.dat 7 ((p3:List GElement).map Qad))),(.tmp 13,I p0)] (.dptr (Qad (x3)) 0)),(11,rp [(.tmp 16,I x3.Amount),(.tmp 18,I p1.Heat)] (I ((if p1.Heat<x3.Amount then p1.Heat else x3.Amount)))),(12,rp [(.tmp 19,(I ((if p1.Heat<x3.Amount then p1.Heat else x3.Amount))))] (I x7))] ⟨Qbh rfl,aid rfl Tryz.underlying40 Qk0 rfl rfl hi5 (mgt Qad hj6) rfl,Qqr rfl,Qhj hl8 (aas rfl),tv⟩ ?_
  obtain ⟨hi9,h⟩:=cko h
  obtain ⟨hi9a,hi9b⟩:=Qd0 hi9
  obtain ⟨x10,hg11,h⟩:=bno h
  refine wx tbk [(1,rb [(.tmp 20,.ref 0 7 0 0)] [(0,(Q60 p2 p3 p4 p5 p6 p7 p8))] (.ref 0 7 0 0)),(7,rb [(.tmp 24,(.own 2 4 (0) (p5))),(.tmp 25,I p0)] [(2,(Zkt p10))] (.ref 2 4 (p0.toNat) 0)),(9,⟨[(.tmp 28,(.ref 2 4 (p0.toNat) 0)),(.tmp 26,I x7)],[(2,(Zkt p10))],.any,[(2,(.own 4 ((p10.set p0.toNat (⟨x7,x10.Silica,x10.Gas,x10.Scale⟩:GLost):List GLost).map Qa0)))],false⟩)] ⟨Qbh rfl,aio rfl Tryz.underlying32 ti82 (odt hi9a) (odt hi9b) (Nat.zero_add _),ast rfl ti3 (by rfl) (mgt Qa0 hg11) (nle rfl) (Qgv Qa0 rfl),tv⟩<|wxz ?_
  refine wx tbk [(1,rp [(.tmp 34,(Zje p1 x7))] (Q4u p1 x7))] ⟨Qbe (vs:=[(Zje p1 x7)]) rfl Tryz.underlying45 ti63 tz63 rfl (by decide) rfl (by decide) (by rfl) (by rfl) (by rfl) rfl,tv⟩ ?_
  refine wmr (mto (n:=36) (l':=[(6,(Q4u p1 x7))]) (own':=[(Q60 p2 p3 p4 p5 p6 p7 p8),(Q4t p9),(.own 4 (((p10.set p0.toNat (⟨x7,x10.Silica,x10.Gas,x10.Scale⟩:GLost)):List GLost).map Qa0)),(Q4s p11)]) [(6,(Q4u p1 x7))] [0,1,2,3] [(Q60 p2 p3 p4 p5 p6 p7 p8),(Q4t p9),(.own 4 ((p10.set p0.toNat (⟨x7,x10.Silica,x10.Gas,x10.Scale⟩:GLost):List GLost).map Qa0)),(Q4s p11)] hφ0 (pc (rnd Qac) pn) (qb (lc (rnd Qai) (lc (rnd Qab) (lc (.rn (Qa3 rfl)) (lc (.rn (Qa3 rfl)) (lc (.rn (Qa3 rfl)) (lc (rnd Qac) (lc rwl ln))))))) (qc (spr Qam) (qc (spr Qau) (qc (spr Qae) qn)))))<|Qaf ?_
  obtain rfl:=osi h
  exact ⟨_,Mor.rfl,Qdf (vs:=[(Q4u p1 x7)]) ⟨rot,tv⟩ rfl (NLt.of0 (nld Qac _)) (by kernel_rfl) (Qao (Qbi (nlc (NLt.of0 (nld Qai _)) (nlc (NLt.of0 (nld Qab _)) (nlc (NLt.own _ _ _ _ (by decide)) (nlc (NLt.own _ _ _ _ (by decide)) (nlc (NLt.own _ _ _ _ (by decide)) (nlc (NLt.of0 (nld Qac _)) (nlc (NLt.of0 nll) nl0)))))))) (Qao (Qci Qam _) (Qao (Qci Qau _) (Qao (Qci Qae _) Qby))))⟩
def Qh7 (N:Nat) (p0:(List GRow)) (p1:Int):Option Bool:=
  (Qc1 N p1 0 (w64 ((p0.length:Int) - 1))).bind fun x2=>
  some x2
theorem Qo1 (N:Nat) (p0:(List GRow)) (p1:Int) (r:Bool) (h:Qh7 N p0 p1=some r):Spec Tryz.prog 143 [(.dat 5 (p0.map Qa4)),(I p1)] [] (B r) []:=by
  refine Qah Tryz.func143 rfl 0 (nle rfl) (fun X φ0 w0 hφ0 hd0=>?_)
  unfold Qh7 at h
  refine wxz ?_
  obtain ⟨x2,hf1,h⟩:=bno h
  exact wx tbk [(2,rp [(.tmp 6,(.dat 5 ((p0:List GRow).map Qa4)))] (I ((p0.length:Int)))),(4,rp [fu 137,(.tmp 5,I p1),ci 0,(.tmp 8,(I (w64 ((p0.length:Int) - 1))))] (B x2))] ⟨alm (c:=Qa4) (l:=p0) (aln rfl Tryz.underlying39 rfl),apv Qi9 (Qc5 N p1 0 (w64 ((p0.length:Int) - 1)) _ hf1) (nlcc (nlc nll nl0)) nll,tv⟩<|Qaf<|frb h
def Qiq (_N:Nat) (p0:(List GRow)) (p1:Int):Option GFlash:=
  (getI p0 p1).bind fun x1=>
  some (⟨x1⟩:GFlash)
def Zkr (x1:GRow):AV:=.agg [(I (x1.T)),(I (x1.P)),(I (x1.Liquid)),(I (x1.Vapour)),(I (x1.Silica))]
theorem Qp1 (N:Nat) (p0:(List GRow)) (p1:Int) (r:GFlash) (h:Qiq N p0 p1=some r):Spec Tryz.prog 144 [(.dat 5 (p0.map Qa4)),(I p1)] [] (.agg (Qyv r)) []:=by
  refine Qah Tryz.func144 rfl 0 (nle rfl) (fun X φ0 w0 hφ0 hd0=>?_)
  unfold Qiq at h
  refine wxz ?_
  obtain ⟨x1,hg2,h⟩:=bno h
  obtain ⟨hi3,hj4⟩:=gsm hg2
  refine wx tbk [(2,rp [(.tmp 5,(.dat 5 ((p0:List GRow).map Qa4))),(.tmp 6,I p1)] (.dptr (Qa4 (x1)) 0)),(4,mv 8 (Zkr x1))] ⟨aid rfl Tryz.underlying39 Qva rfl rfl hi3 (mgt Qa4 hj4) rfl,Qaz (vs:=[(Zkr x1)]) rfl Zqz Zpn rfl (by rfl) rfl,tv⟩<|Qaf ?_
  obtain rfl:=osi h
  exact fend ⟨[(Zkr x1)],⟨Qbj (n:=0) (m:=5) (j:=0) (i:=0) (xs:=[[I x1.T,I x1.P,I x1.Liquid,I x1.Vapour,I x1.Silica]]) (by kernel_rfl) (by kernel_rfl) Zpt (by decide) rfl (nle rfl) rfl,tv⟩,rfl⟩ (NLt.agg _ (nlcc (nlcc (nlc nll nl0))))
def Qf9 (_N:Nat) (p0:GFlash) (p1:GStream):Option Int:=
  (some (w64 (p1.Heat - (w64 (p1.Mass * p0.Row.Liquid))))).bind fun x1=>
  bif (decide (x1≤0)) then
   some 0
  else
   bif (decide (p1.Heat≥(w64 (p1.Mass * p0.Row.Vapour)))) then
    some p1.Mass
   else
    chk ((w64 (p0.Row.Vapour - p0.Row.Liquid)) != 0)<|
    (some (w64 (x1.tdiv (w64 (p0.Row.Vapour - p0.Row.Liquid))))).bind fun x6=>
    some x6
theorem Qnf (N:Nat) (p0:GFlash) (p1:GStream) (r:Int) (h:Qf9 N p0 p1=some r):Spec Tryz.prog 149 [(.agg (Qyv p0)),(.agg (Qaa p1))] [] (I r) []:=by
  refine Qah Tryz.func149 rfl 0 (nle rfl) (fun X φ0 w0 hφ0 hd0=>?_)
  unfold Qf9 at h
  refine wxz ?_
  obtain ⟨x1,hl2,h⟩:=bno h
  refine wx tbk [(9,rp [(.tmp 14,(I (w64 (p1.Heat - (w64 (p1.Mass * p0.Row.Liquid))))))] (I x1))] ⟨Qhj hl2 (aas rfl),tv⟩<|wsq<|Qaj<|wxz ?_
  refine bfe h (fun hc3 h=>?_) fun hc3 h=>?_
  ·refine wft hc3<|wxz<|Qaf<|Qaq<|Qag ?_
   obtain rfl:=osi h
   exact fend ⟨[I 0],⟨rot,tv⟩,rfl⟩ nll
  ·refine wfn hc3<|wxz ?_
   refine bfe h (fun hc4 h=>?_) fun hc4 h=>?_
   ·refine wft hc4<|wxz<|Qaf<|Qaq<|Qag ?_
    obtain rfl:=osi h
    exact fend ⟨[I p1.Mass],⟨rot,tv⟩,rfl⟩ nll
   ·refine wfn hc4<|Qan<|bln<|thn ?_
    obtain ⟨hz5,h⟩:=cko h
    obtain ⟨x6,hl7,h⟩:=bno h
    refine wx tbk [(8,rp [(.tmp 30,I x1),(.tmp 37,(I (w64 (p0.Row.Vapour - p0.Row.Liquid))))] (I (w64 (x1.tdiv (w64 (p0.Row.Vapour - p0.Row.Liquid)))))),(9,rp [(.tmp 38,(I (w64 (x1.tdiv (w64 (p0.Row.Vapour - p0.Row.Liquid))))))] (I x6))] ⟨Qkd rfl (Qlf hz5),Qhj hl7 (aas rfl),tv⟩<|Qaf ?_
    obtain rfl:=osi h
    exact fend ⟨[I x6],⟨rot,tv⟩,rfl⟩ nll
def Qgt (N:Nat) (p0:GFlash) (p1:GStream):Option GParts:=
  (Qf9 N (⟨(⟨p0.Row.T,p0.Row.P,p0.Row.Liquid,p0.Row.Vapour,p0.Row.Silica⟩:GRow)⟩:GFlash) p1).bind fun x2=>
  Qbb (fun ⟨y3,y4,y5,y6,y7,_,y9⟩=>
    (some (if (w64 (y6 * p0.Row.Silica))<p1.Silica then w64 (y6 * p0.Row.Silica) else p1.Silica)).bind fun x11=>
    bif (decide (y6>0)) then
     (some (if (w64 (y7 - (w64 (y6 * p0.Row.Liquid))))>0 then w64 (y7 - (w64 (y6 * p0.Row.Liquid))) else 0)).bind fun x14=>
     some (⟨(⟨y3,y4,0,y5⟩:GStream),(⟨y6,y7,x11,y9⟩:GStream),x14,w64 (p1.Silica - x11)⟩:GParts)
    else
     some (⟨(⟨y3,y4,0,y5⟩:GStream),(⟨y6,y7,x11,y9⟩:GStream),0,w64 (p1.Silica - x11)⟩:GParts)) fun k10:Int×Int×Int×Int×Int×Int×Int→Option GParts=>
  bif (x2==0) then
   k10 (0,0,0,p1.Mass,p1.Heat,p1.Silica,p1.Gas)
  else
   bif (x2==p1.Mass) then
    k10 (x2,p1.Heat,p1.Gas,0,0,0,0)
   else
    k10 (x2,w64 (x2 * p0.Row.Vapour),p1.Gas,w64 (p1.Mass - x2),w64 (p1.Heat - (w64 (x2 * p0.Row.Vapour))),0,0)
def Zqm (p0:GFlash):AV:=.agg [(I (p0.Row.T)),(I (p0.Row.P)),(I (p0.Row.Liquid)),(I (p0.Row.Vapour)),(I (p0.Row.Silica))]
def Zql (p1:GStream):AV:=.agg [(I (p1.Mass)),(I (p1.Heat)),(I (p1.Silica)),(I (p1.Gas))]
def Ze6 (p0:GFlash):Slot:=.own 5 [[(I (p0.Row.T)),(I (p0.Row.P)),(I (p0.Row.Liquid)),(I (p0.Row.Vapour)),(I (p0.Row.Silica))]]
def Ze5 (p1:GStream):Slot:=.own 4 [[(I (p1.Mass)),(I (p1.Heat)),(I (p1.Silica)),(I (p1.Gas))]]
theorem Qp0 (N:Nat) (p0:GFlash) (p1:GStream) (r:GParts) (h:Qgt N p0 p1=some r):Spec Tryz.prog 145 [(.agg (Qyv p0)),(.agg (Qaa p1))] [] (.agg (Qyu r)) []:=by
  refine Qah Tryz.func145 rfl 0 (nle rfl) (fun X φ0 w0 hφ0 hd0=>?_)
  unfold Qgt at h
  refine wxz ?_
  obtain ⟨x2,hf1,h⟩:=bno h
  refine wx tbk [(2,rp [fu 149,(.tmp 7,(Zqm p0)),(.tmp 8,(Zql p1))] (I x2))] ⟨apv Zhe (Qnf N (⟨(⟨p0.Row.T,p0.Row.P,p0.Row.Liquid,p0.Row.Vapour,p0.Row.Silica⟩:GRow)⟩:GFlash) p1 _ hf1) (nlc (NLt.agg _ (nlcc (nlcc (nlc nll nl0)))) (nlc (NLt.agg _ (nlcc (nlcc nl0))) nl0)) nll,tv⟩ ?_
  obtain ⟨k10,hk_k10,h⟩:=jko h
  refine wjn (τ:=Int×Int×Int×Int×Int×Int×Int) (fun t=>k10 t=some r) (fun ⟨y3,y4,y5,y6,y7,y8,y9⟩=>⟨mk 87 [(2,.ref 0 5 0 0),(3,.ref 1 4 0 0),(4,.ref 2 10 0 0)],[(Ze6 p0),(Ze5 p1),(.own 10 [[I y3,I y4,I 0,I y5,I y6,I y7,I y8,I y9,I 0,I 0]])]⟩) (fun t h=>?_) ?_
  ·subst hk_k10
   obtain ⟨y3,y4,y5,y6,y7,y8,y9⟩:=t
   obtain ⟨x11,hl12,h⟩:=bno h
   refine wx tbk [(9,rp [(.tmp 52,I p1.Silica),(.tmp 59,(I (w64 (y6 * p0.Row.Silica))))] (I x11))] ⟨Qhj hl12 (Qqr rfl),tv⟩<|wxe<|wsq<|wxz ?_
   refine bfe h (fun hc13 h=>?_) fun hc13 h=>?_
   ·refine wft hc13 ?_
    obtain ⟨x14,hl15,h⟩:=bno h
    refine wx1 tbk [(11,rp [ci 0,(.tmp 83,(I (w64 (y7 - (w64 (y6 * p0.Row.Liquid))))))] (I x14))] ⟨Qhj hl15 (Qmf rfl),tv⟩<|thn<|wxz<|Qaf ?_
    obtain rfl:=osi h
    exact fend ⟨[(.agg [I y3,I y4,I 0,I y5,I y6,I y7,I x11,I y9,I x14,(I (w64 (p1.Silica - x11)))])],⟨Qbj (n:=2) (m:=10) (j:=0) (i:=0) (xs:=[[I y3,I y4,I 0,I y5,I y6,I y7,I x11,I y9,I x14,(I (w64 (p1.Silica - x11)))]]) (by kernel_rfl) (by kernel_rfl) Q25 (by decide) rfl (nle rfl) rfl,tv⟩,rfl⟩ (NLt.agg _ (nlcc (nlcc (nlcc (nlcc (nlcc nl0))))))
   ·refine wfn hc13<|Qan<|thn<|wxz<|Qaf ?_
    obtain rfl:=osi h
    exact fend ⟨[(.agg [I y3,I y4,I 0,I y5,I y6,I y7,I x11,I y9,I 0,(I (w64 (p1.Silica - x11)))])],⟨Qbj (n:=2) (m:=10) (j:=0) (i:=0) (xs:=[[I y3,I y4,I 0,I y5,I y6,I y7,I x11,I y9,I 0,(I (w64 (p1.Silica - x11)))]]) (by kernel_rfl) (by kernel_rfl) Q25 (by decide) rfl (nle rfl) rfl,tv⟩,rfl⟩ (NLt.agg _ (nlcc (nlcc (nlcc (nlcc (nlcc nl0))))))
  ·skip
   refine Qaj<|wxz ?_
   refine bfe h (fun hc16 h=>?_) fun hc16 h=>?_
   ·exact wft hc16<|wxz1<|bln<|thn<|⟨(0,0,0,p1.Mass,p1.Heat,p1.Silica,p1.Gas),h,(mto (n:=87) [(2,.ref 0 5 0 0),(3,.ref 1 4 0 0),(4,.ref 2 10 0 0)] [0,1,2] [(Ze6 p0),(Ze5 p1),(.own 10 [[I 0,I 0,I 0,I 0,I p1.Mass,I p1.Heat,I p1.Silica,I p1.Gas,I 0,I 0]])] hφ0 (prr (prr (prr pn))) (qb (lcc (lcc (lc rwl ln))) (qb (lcc (lcc ln)) (qb (lcc (lcc (lcc (lcc (lcc ln))))) qn))))⟩
   ·refine wfn hc16<|wxz ?_
    refine bfe h (fun hc17 h=>?_) fun hc17 h=>?_
    ·exact wft hc17<|wx1 tbk [(5,rp [(.tmp 44,I x2),(.tmp 46,I p1.Heat),(.tmp 48,I p1.Gas)] (.agg [I x2,I p1.Heat,I 0,I p1.Gas]))] ⟨Qaz (vs:=[I x2,I p1.Heat,I p1.Gas]) rfl ts63 tz63 rfl (by rfl) rfl,tv⟩<|bln<|thn<|⟨(x2,p1.Heat,p1.Gas,0,0,0,0),h,(mto (n:=87) [(2,.ref 0 5 0 0),(3,.ref 1 4 0 0),(4,.ref 2 10 0 0)] [0,1,2] [(Ze6 p0),(Ze5 p1),(.own 10 [[I x2,I p1.Heat,I 0,I p1.Gas,I 0,I 0,I 0,I 0,I 0,I 0]])] hφ0 (prr (prr (prr pn))) (qb (lcc (lcc (lc rwl ln))) (qb (lcc (lcc ln)) (qb (lcc (lcc (lcc (lcc (lcc ln))))) qn))))⟩
    ·refine wfn hc17<|wx tbk [(8,rp [(.tmp 10,I x2),(.tmp 15,(I (w64 (x2 * p0.Row.Vapour)))),(.tmp 17,I p1.Gas)] (.agg [I x2,(I (w64 (x2 * p0.Row.Vapour))),I 0,I p1.Gas]))] ⟨Qaz (vs:=[I x2,(I (w64 (x2 * p0.Row.Vapour))),I p1.Gas]) rfl ts63 tz63 rfl (by rfl) rfl,tv⟩ ?_
     exact wx1 tbk [(12,rp [(.tmp 23,(I (w64 (p1.Mass - x2)))),(.tmp 31,(I (w64 (p1.Heat - (w64 (x2 * p0.Row.Vapour))))))] (.agg [(I (w64 (p1.Mass - x2))),(I (w64 (p1.Heat - (w64 (x2 * p0.Row.Vapour))))),I 0,I 0]))] ⟨Qaz (vs:=[(I (w64 (p1.Mass - x2))),(I (w64 (p1.Heat - (w64 (x2 * p0.Row.Vapour)))))]) rfl ts63 tz63 rfl (by rfl) rfl,tv⟩<|bln<|thn<|⟨(x2,w64 (x2 * p0.Row.Vapour),p1.Gas,w64 (p1.Mass - x2),w64 (p1.Heat - (w64 (x2 * p0.Row.Vapour))),0,0),h,(mto (n:=87) [(2,.ref 0 5 0 0),(3,.ref 1 4 0 0),(4,.ref 2 10 0 0)] [0,1,2] [(Ze6 p0),(Ze5 p1),(.own 10 [[I x2,(I (w64 (x2 * p0.Row.Vapour))),I 0,I p1.Gas,(I (w64 (p1.Mass - x2))),(I (w64 (p1.Heat - (w64 (x2 * p0.Row.Vapour))))),I 0,I 0,I 0,I 0]])] hφ0 (prr (prr (prr pn))) (qb (lcc (lcc (lc rwl ln))) (qb (lcc (lcc ln)) (qb (lcc (lcc (lcc (lcc (lcc ln))))) qn))))⟩
def Qjv (N:Nat) (p0:(List GRow)) (p1:Int) (p2:GStream):Option (GParts×Int):=
  (Qe3 N p0).bind fun x2=>
  bif (!x2) then
   some ((⟨(⟨0,0,0,0⟩:GStream),(⟨0,0,0,0⟩:GStream),0,0⟩:GParts),1)
  else
   (Qh7 N p0 p1).bind fun x5=>
   bif (!x5) then
    some ((⟨(⟨0,0,0,0⟩:GStream),(⟨0,0,0,0⟩:GStream),0,0⟩:GParts),2)
   else
    (Qdy N p2).bind fun x8=>
    bif (!x8) then
     some ((⟨(⟨0,0,0,0⟩:GStream),(⟨0,0,0,0⟩:GStream),0,0⟩:GParts),1)
    else
     (Qiq N p0 p1).bind fun x11=>
     (Qgt N (⟨(⟨x11.Row.T,x11.Row.P,x11.Row.Liquid,x11.Row.Vapour,x11.Row.Silica⟩:GRow)⟩:GFlash) p2).bind fun x13=>
     some ((⟨(⟨x13.Steam.Mass,x13.Steam.Heat,x13.Steam.Silica,x13.Steam.Gas⟩:GStream),(⟨x13.Water.Mass,x13.Water.Heat,x13.Water.Silica,x13.Water.Gas⟩:GStream),x13.Rest,x13.Scale⟩:GParts),0)
def Zks (p0:(List GRow)):AV:=.dat 5 ((p0:List GRow).map Qa4)
def Q6x:AV:=.agg [(I (0)),(I (0)),(I (0)),(I (0)),(I (0)),(I (0)),(I (0)),(I (0)),(I (0)),(I (0))]
def Zoz (p2:GStream):AV:=.agg [(I (p2.Mass)),(I (p2.Heat)),(I (p2.Silica)),(I (p2.Gas))]
def Zoy (x11:GFlash):AV:=.agg [(I (x11.Row.T)),(I (x11.Row.P)),(I (x11.Row.Liquid)),(I (x11.Row.Vapour)),(I (x11.Row.Silica))]
def Zox (x13:GParts):AV:=.agg [(I (x13.Steam.Mass)),(I (x13.Steam.Heat)),(I (x13.Steam.Silica)),(I (x13.Steam.Gas)),(I (x13.Water.Mass)),(I (x13.Water.Heat)),(I (x13.Water.Silica)),(I (x13.Water.Gas)),(I (x13.Rest)),(I (x13.Scale))]
theorem Qtj (N:Nat) (p0:(List GRow)) (p1:Int) (p2:GStream) (r:(GParts×Int)) (h:Qjv N p0 p1 p2=some r):Spec Tryz.prog 135 [(.dat 5 (p0.map Qa4)),(I p1),(.agg (Qaa p2))] [] (.tup [(.agg (Qyu r.1)),(I r.2)]) []:=by
  refine Qah Tryz.func135 rfl 0 (nle rfl) (fun X φ0 w0 hφ0 hd0=>?_)
  unfold Qjv at h
  refine wxz<|wsq<|Qaj ?_
  obtain ⟨x2,hf1,h⟩:=bno h
  refine wx tbk [(1,rp [fu 122,(.tmp 9,(Zks p0))] (B x2))] ⟨apv Q6d (Qjt N p0 _ hf1) (nlc (nld Qai _) nl0) nll,tv⟩ ?_
  refine bfe h (fun hc3 h=>?_) fun hc3 h=>?_
  ·refine wft hc3<|wx tbk [(0,rp [] Q6x)] ⟨Qaz (vs:=[]) rfl Zmh Zf3 rfl (by rfl) rfl,tv⟩<|Qaf<|Qaq<|Qag ?_
   obtain rfl:=osi h
   exact fend ⟨[Q6x,I 1],⟨Qbj (n:=1) (m:=10) (j:=0) (i:=0) (xs:=[[I 0,I 0,I 0,I 0,I 0,I 0,I 0,I 0,I 0,I 0]]) (by kernel_rfl) (by kernel_rfl) Q25 (by decide) rfl (nle rfl) rfl,rot,tv⟩,rfl⟩ (NLt.tup _ (nlc (NLt.agg _ (nlcc (nlcc (nlcc (nlcc (nlcc nl0)))))) (nlc nll nl0)))
  ·refine wfn hc3 ?_
   obtain ⟨x5,hf4,h⟩:=bno h
   refine wx tbk [(2,rp [fu 143,(.tmp 14,(Zks p0)),(.tmp 15,I p1)] (B x5))] ⟨apv Zhk (Qo1 N p0 p1 _ hf4) (nlc (nld Qai _) (nlc nll nl0)) nll,tv⟩ ?_
   refine bfe h (fun hc6 h=>?_) fun hc6 h=>?_
   ·refine wft hc6<|wx tbk [(0,rp [] Q6x)] ⟨Qaz (vs:=[]) rfl Zmh Zf3 rfl (by rfl) rfl,tv⟩<|Qaf<|Qaq<|Qag ?_
    obtain rfl:=osi h
    exact fend ⟨[Q6x,I 2],⟨Qbj (n:=1) (m:=10) (j:=0) (i:=0) (xs:=[[I 0,I 0,I 0,I 0,I 0,I 0,I 0,I 0,I 0,I 0]]) (by kernel_rfl) (by kernel_rfl) Q25 (by decide) rfl (nle rfl) rfl,rot,tv⟩,rfl⟩ (NLt.tup _ (nlc (NLt.agg _ (nlcc (nlcc (nlcc (nlcc (nlcc nl0)))))) (nlc nll nl0)))
   ·refine wfn hc6 ?_
    obtain ⟨x8,hf7,h⟩:=bno h
    refine wx tbk [(1,rp [fu 131,(.tmp 20,(Zoz p2))] (B x8))] ⟨apv Qyq (Qhh N p2 _ hf7) (nlc (NLt.agg _ (nlcc (nlcc nl0))) nl0) nll,tv⟩ ?_
    refine bfe h (fun hc9 h=>?_) fun hc9 h=>?_
    ·refine wft hc9<|wx tbk [(0,rp [] Q6x)] ⟨Qaz (vs:=[]) rfl Zmh Zf3 rfl (by rfl) rfl,tv⟩<|Qaf<|Qaq<|Qag ?_
     obtain rfl:=osi h
     exact fend ⟨[Q6x,I 1],⟨Qbj (n:=1) (m:=10) (j:=0) (i:=0) (xs:=[[I 0,I 0,I 0,I 0,I 0,I 0,I 0,I 0,I 0,I 0]]) (by kernel_rfl) (by kernel_rfl) Q25 (by decide) rfl (nle rfl) rfl,rot,tv⟩,rfl⟩ (NLt.tup _ (nlc (NLt.agg _ (nlcc (nlcc (nlcc (nlcc (nlcc nl0)))))) (nlc nll nl0)))
    ·refine wfn hc9<|Qan<|bln<|thn ?_
     obtain ⟨x11,hf10,h⟩:=bno h
     obtain ⟨x13,hf12,h⟩:=bno h
     refine wxd tbk [(2,rp [fu 144,(.tmp 24,(Zks p0)),(.tmp 25,I p1)] (Zoy x11)),(4,rp [fu 145,(.tmp 26,(Zoy x11)),(.tmp 27,(Zoz p2))] (Zox x13))] ⟨apv Zhj (Qp1 N p0 p1 _ hf10) (nlc (nld Qai _) (nlc nll nl0)) (NLt.agg _ (nlcc (nlcc (nlc nll nl0)))),apv Zhi (Qp0 N (⟨(⟨x11.Row.T,x11.Row.P,x11.Row.Liquid,x11.Row.Vapour,x11.Row.Silica⟩:GRow)⟩:GFlash) p2 _ hf12) (nlc (NLt.agg _ (nlcc (nlcc (nlc nll nl0)))) (nlc (NLt.agg _ (nlcc (nlcc nl0))) nl0)) (NLt.agg _ (nlcc (nlcc (nlcc (nlcc (nlcc nl0)))))),tv⟩<|Qaf ?_
     obtain rfl:=osi h
     exact fend ⟨[(Zox x13),I 0],⟨Qbj (n:=1) (m:=10) (j:=0) (i:=0) (xs:=[[I x13.Steam.Mass,I x13.Steam.Heat,I x13.Steam.Silica,I x13.Steam.Gas,I x13.Water.Mass,I x13.Water.Heat,I x13.Water.Silica,I x13.Water.Gas,I x13.Rest,I x13.Scale]]) (by kernel_rfl) (by kernel_rfl) Q25 (by decide) rfl (nle rfl) rfl,rot,tv⟩,rfl⟩ (NLt.tup _ (nlc (NLt.agg _ (nlcc (nlcc (nlcc (nlcc (nlcc nl0)))))) (nlc nll nl0)))
def Qe5 (N:Nat) (p0:Int) (p1:GStream) (p2:(List Int)) (_p3:(List GRow)) (_p4:(List GElement)) (_p5:Nat) (p6:Nat) (_p7:Nat) (_p8:(List GStream)) (_p9:Int) (_p10:(List (List GStream))) (p11:(List GLost)) (_p12:(List Int)):Option ((List GStream)×(List GLost)):=
  (Qju N p1 p2).bind fun x4=>
  chk (decide (0≤p0)&&decide (p0.toNat<p6))<|
  (p11[p0.toNat]?).bind fun x6=>
  chk (decide (0≤p0)&&decide (p0.toNat<p6))<|
  ((p11.set p0.toNat (⟨x4.2.1.Heat,x6.Silica,x6.Gas,x6.Scale⟩:GLost))[p0.toNat]?).bind fun x9=>
  chk (decide (0≤p0)&&decide (p0.toNat<p6))<|
  (((p11.set p0.toNat (⟨x4.2.1.Heat,x6.Silica,x6.Gas,x6.Scale⟩:GLost)).set p0.toNat (⟨x9.Heat,x4.2.1.Silica,x9.Gas,x9.Scale⟩:GLost))[p0.toNat]?).bind fun x12=>
  some (x4.1,((p11.set p0.toNat (⟨x4.2.1.Heat,x6.Silica,x6.Gas,x6.Scale⟩:GLost)).set p0.toNat (⟨x9.Heat,x4.2.1.Silica,x9.Gas,x9.Scale⟩:GLost)).set p0.toNat (⟨x12.Heat,x12.Silica,x4.2.1.Gas,x12.Scale⟩:GLost))
def Zow (p1:GStream):AV:=.agg [(I (p1.Mass)),(I (p1.Heat)),(I (p1.Silica)),(I (p1.Gas))]
def Zov (p2:(List Int)):AV:=.dat 1 ((p2:List Int).map Qal)
def Qsr (p3:(List GRow)) (p4:(List GElement)) (p5:Nat) (p6:Nat) (p7:Nat) (p8:(List GStream)) (p9:Int):Slot:=.own 7 [[(.dat 5 ((p3:List GRow).map Qa4)),(.dat 7 ((p4:List GElement).map Qad)),(.own 1 1 (0) (p5)),(.own 2 4 (0) (p6)),(.own 3 1 (0) (p7)),(.dat 4 ((p8:List GStream).map Qaa)),(I (p9))]]
def Q4k (p10:(List (List GStream))):Slot:=.own 1 ((p10:List (List GStream)).map Qak)
def Zab (p11:(List GLost)):Slot:=.own 4 ((p11:List GLost).map Qa0)
def Q4j (p12:(List Int)):Slot:=.own 1 ((p12:List Int).map Qal)
def Q4l (x4:((List GStream)×GLoss×Int)):AV:=.dat 4 ((x4.1:List GStream).map Qaa)
def Zaa (p11:(List GLost)) (p0:Int) (x4:((List GStream)×GLoss×Int)) (x6:GLost):Slot:=.own 4 ((p11.set p0.toNat (⟨x4.2.1.Heat,x6.Silica,x6.Gas,x6.Scale⟩:GLost):List GLost).map Qa0)
def Q99 (p11:(List GLost)) (p0:Int) (x4:((List GStream)×GLoss×Int)) (x6:GLost) (x9:GLost):Slot:=.own 4 (((p11.set p0.toNat (⟨x4.2.1.Heat,x6.Silica,x6.Gas,x6.Scale⟩:GLost)).set p0.toNat (⟨x9.Heat,x4.2.1.Silica,x9.Gas,x9.Scale⟩:GLost):List GLost).map Qa0)
def Zja (p11:(List GLost)) (p0:Int) (x4:((List GStream)×GLoss×Int)) (x6:GLost) (x9:GLost) (x12:GLost):Slot:=.own 4 ((((p11.set p0.toNat (⟨x4.2.1.Heat,x6.Silica,x6.Gas,x6.Scale⟩:GLost)).set p0.toNat (⟨x9.Heat,x4.2.1.Silica,x9.Gas,x9.Scale⟩:GLost)).set p0.toNat (⟨x12.Heat,x12.Silica,x4.2.1.Gas,x12.Scale⟩:GLost):List GLost).map Qa0)
theorem Qj8 (N:Nat) (p0:Int) (p1:GStream) (p2:(List Int)) (p3:(List GRow)) (p4:(List GElement)) (p5:Nat) (p6:Nat) (p7:Nat) (p8:(List GStream)) (p9:Int) (p10:(List (List GStream))) (p11:(List GLost)) (p12:(List Int)) (r:((List GStream)×(List GLost))) (h:Qe5 N p0 p1 p2 p3 p4 p5 p6 p7 p8 p9 p10 p11 p12=some r):Spec Tryz.prog 136 [(.ref 0 7 (0) 0),(I (p0)),(Zow p1),(Zov p2)] [(Qsr p3 p4 p5 p6 p7 p8 p9),(Q4k p10),(Zab p11),(Q4j p12)] (.dat 4 ((r.1:List GStream).map Qaa)) [(Qsr p3 p4 p5 p6 p7 p8 p9),(Q4k p10),(.own 4 ((r.2:List GLost).map Qa0)),(Q4j p12)]:=by
  refine Qah Tryz.func136 rfl 4 (nle rfl) (fun X φ0 w0 hφ0 hd0=>?_)
  unfold Qe5 at h
  refine Qb0<|wxz ?_
  obtain ⟨x4,hf3,h⟩:=bno h
  refine wx tbk [(2,rp [fu 146,(.tmp 13,(Zow p1)),(.tmp 14,(Zov p2))] (.tup [(Q4l x4),(.agg [I x4.2.1.Heat,I x4.2.1.Silica,I x4.2.1.Gas]),I x4.2.2]))] ⟨apv Zhh (Qti N p1 p2 _ hf3) (nlc (NLt.agg _ (nlcc (nlcc nl0))) (nlc (nld Qae _) nl0)) (NLt.tup _ (nlc (nld Qac _) (nlc (NLt.agg _ (nlcc (nlc nll nl0))) (nlc nll nl0)))),tv⟩ ?_
  obtain ⟨hi5,h⟩:=cko h
  obtain ⟨hi5a,hi5b⟩:=Qd0 hi5
  obtain ⟨x6,hg7,h⟩:=bno h
  obtain ⟨hi8,h⟩:=cko h
  obtain ⟨hi8a,hi8b⟩:=Qd0 hi8
  obtain ⟨x9,hg10,h⟩:=bno h
  obtain ⟨hi11,h⟩:=cko h
  obtain ⟨hi11a,hi11b⟩:=Qd0 hi11
  obtain ⟨x12,hg13,h⟩:=bno h
  refine wxd tbk [(1,rb [(.tmp 19,.ref 0 7 0 0)] [(0,(Qsr p3 p4 p5 p6 p7 p8 p9))] (.ref 0 7 0 0)),(7,rb [(.tmp 25,.ref 0 7 0 0)] [(0,(Qsr p3 p4 p5 p6 p7 p8 p9))] (.ref 0 7 0 0)),(13,rb [(.tmp 31,.ref 0 7 0 0)] [(0,(Qsr p3 p4 p5 p6 p7 p8 p9))] (.ref 0 7 0 0)),(24,rb [(.tmp 23,(.own 2 4 (0) (p6))),(.tmp 24,I p0)] [(2,(Zab p11))] (.ref 2 4 (p0.toNat) 0)),(26,⟨[(.tmp 44,(.ref 2 4 (p0.toNat) 0)),(.tmp 38,I x4.2.1.Heat)],[(2,(Zab p11))],.any,[(2,(Zaa p11 p0 x4 x6))],false⟩),(27,rb [(.tmp 29,(.own 2 4 (0) (p6))),(.tmp 30,I p0)] [(2,(Zaa p11 p0 x4 x6))] (.ref 2 4 (p0.toNat) 0)),(29,⟨[(.tmp 46,(.ref 2 4 (p0.toNat) 1)),(.tmp 40,I x4.2.1.Silica)],[(2,(Zaa p11 p0 x4 x6))],.any,[(2,(Q99 p11 p0 x4 x6 x9))],false⟩),(30,rb [(.tmp 35,(.own 2 4 (0) (p6))),(.tmp 36,I p0)] [(2,(Q99 p11 p0 x4 x6 x9))] (.ref 2 4 (p0.toNat) 0)),(32,⟨[(.tmp 48,(.ref 2 4 (p0.toNat) 2)),(.tmp 42,I x4.2.1.Gas)],[(2,(Q99 p11 p0 x4 x6 x9))],.any,[(2,(Zja p11 p0 x4 x6 x9 x12))],false⟩)] ⟨Qbh rfl,Qbh rfl,Qbh rfl,aio rfl Tryz.underlying32 ti82 (odt hi5a) (odt hi5b) (Nat.zero_add _),ast rfl ti3 (by rfl) (mgt Qa0 hg7) (nle rfl) (Qgv Qa0 rfl),aio rfl Tryz.underlying32 ti82 (odt hi8a) (odt hi8b) (Nat.zero_add _),ast rfl ti3 (by rfl) (mgt Qa0 hg10) (nle rfl) (Qgv Qa0 rfl),aio rfl Tryz.underlying32 ti82 (odt hi11a) (odt hi11b) (Nat.zero_add _),ast rfl ti3 (by rfl) (mgt Qa0 hg13) (nle rfl) (Qgv Qa0 rfl),tv⟩<|wxz ?_
  refine wmr (mto (n:=50) (l':=[(8,(Q4l x4))]) (own':=[(Qsr p3 p4 p5 p6 p7 p8 p9),(Q4k p10),(.own 4 (((((p11.set p0.toNat (⟨x4.2.1.Heat,x6.Silica,x6.Gas,x6.Scale⟩:GLost)).set p0.toNat (⟨x9.Heat,x4.2.1.Silica,x9.Gas,x9.Scale⟩:GLost)).set p0.toNat (⟨x12.Heat,x12.Silica,x4.2.1.Gas,x12.Scale⟩:GLost)):List GLost).map Qa0)),(Q4j p12)]) [(8,(Q4l x4))] [0,1,2,3] [(Qsr p3 p4 p5 p6 p7 p8 p9),(Q4k p10),(Zja p11 p0 x4 x6 x9 x12),(Q4j p12)] hφ0 (pc (rnd Qac) pn) (qb (lc (rnd Qai) (lc (rnd Qab) (lc (.rn (Qa3 rfl)) (lc (.rn (Qa3 rfl)) (lc (.rn (Qa3 rfl)) (lc (rnd Qac) (lc rwl ln))))))) (qc (spr Qam) (qc (spr Qau) (qc (spr Qae) qn)))))<|Qaf ?_
  obtain rfl:=osi h
  exact ⟨_,Mor.rfl,Qdf (vs:=[(Q4l x4)]) ⟨rot,tv⟩ rfl (NLt.of0 (nld Qac _)) (by kernel_rfl) (Qao (Qbi (nlc (NLt.of0 (nld Qai _)) (nlc (NLt.of0 (nld Qab _)) (nlc (NLt.own _ _ _ _ (by decide)) (nlc (NLt.own _ _ _ _ (by decide)) (nlc (NLt.own _ _ _ _ (by decide)) (nlc (NLt.of0 (nld Qac _)) (nlc (NLt.of0 nll) nl0)))))))) (Qao (Qci Qam _) (Qao (Qci Qau _) (Qao (Qci Qae _) Qby))))⟩
def Qe1 (N:Nat) (p0:Int) (p1:GStream) (p2:(List GRow)) (p3:(List GElement)) (p4:Nat) (p5:Nat) (p6:Nat) (p7:(List GStream)) (p8:Int) (p9:(List (List GStream))) (p10:(List GLost)) (p11:(List Int)):Option ((List GStream)×Int×(List GLost)×(List Int)):=
  (getI p3 p0).bind fun x5=>
  (Qjv N p2 x5.Level p1).bind fun x10=>
  chk (decide (0≤p0)&&decide (p0.toNat<p5))<|
  (p10[p0.toNat]?).bind fun x12=>
  chk (decide (0≤p0)&&decide (p0.toNat<p6))<|
  (p11[p0.toNat]?).bind fun x15=>
  chk (decide (0≤p0)&&decide (p0.toNat<p6))<|
  (p11[p0.toNat]?).bind fun _=>
  bif (x5.Amount==0) then
   some ([(⟨x10.1.Steam.Mass,x10.1.Steam.Heat,x10.1.Steam.Silica,x10.1.Steam.Gas⟩:GStream),(⟨x10.1.Water.Mass,x10.1.Water.Heat,x10.1.Water.Silica,x10.1.Water.Gas⟩:GStream)],w64 (p8+x10.1.Steam.Mass),p10.set p0.toNat (⟨x12.Heat,x12.Silica,x12.Gas,x10.1.Scale⟩:GLost),p11.set p0.toNat (w64 (x15+x10.1.Scale)))
  else
   (Qe5 N p0 (⟨x10.1.Water.Mass,x10.1.Water.Heat,x10.1.Water.Silica,x10.1.Water.Gas⟩:GStream) ([w64 (1000 - x5.Amount),x5.Amount]) p2 p3 p4 p5 p6 p7 (w64 (p8+x10.1.Steam.Mass)) p9 (p10.set p0.toNat (⟨x12.Heat,x12.Silica,x12.Gas,x10.1.Scale⟩:GLost)) (p11.set p0.toNat (w64 (x15+x10.1.Scale)))).bind fun x22=>
   (getI x22.1 1).bind fun x23=>
   (Qen N ([(⟨x10.1.Steam.Mass,x10.1.Steam.Heat,x10.1.Steam.Silica,x10.1.Steam.Gas⟩:GStream),x23])).bind fun x28=>
   (getI x22.1 0).bind fun x29=>
   some ([x28,x29],w64 (p8+x10.1.Steam.Mass),x22.2,p11.set p0.toNat (w64 (x15+x10.1.Scale)))
def Zo0 (p1:GStream):AV:=.agg [(I (p1.Mass)),(I (p1.Heat)),(I (p1.Silica)),(I (p1.Gas))]
def Q6z (p2:(List GRow)):AV:=.dat 5 ((p2:List GRow).map Qa4)
def Q6y (p3:(List GElement)):AV:=.dat 7 ((p3:List GElement).map Qad)
def Zaf (p7:(List GStream)):AV:=.dat 4 ((p7:List GStream).map Qaa)
def Q2a (p2:(List GRow)) (p3:(List GElement)) (p4:Nat) (p5:Nat) (p6:Nat) (p7:(List GStream)) (p8:Int):Slot:=.own 7 [[(Q6z p2),(Q6y p3),(.own 1 1 (0) (p4)),(.own 2 4 (0) (p5)),(.own 3 1 (0) (p6)),(Zaf p7),(I (p8))]]
def Qoo (p9:(List (List GStream))):Slot:=.own 1 ((p9:List (List GStream)).map Qak)
def Zag (p10:(List GLost)):Slot:=.own 4 ((p10:List GLost).map Qa0)
def Qy4 (p11:(List Int)):Slot:=.own 1 ((p11:List Int).map Qal)
def Q4r (p10:(List GLost)) (p0:Int) (x12:GLost) (x10:(GParts×Int)):Slot:=.own 4 ((p10.set p0.toNat (⟨x12.Heat,x12.Silica,x12.Gas,x10.1.Scale⟩:GLost):List GLost).map Qa0)
def Qss (p11:(List Int)) (p0:Int) (x15:Int) (x10:(GParts×Int)):Slot:=.own 1 ((p11.set p0.toNat (w64 (x15+x10.1.Scale)):List Int).map Qal)
def Q4q (x10:(GParts×Int)):AV:=.agg [(I (x10.1.Steam.Mass)),(I (x10.1.Steam.Heat)),(I (x10.1.Steam.Silica)),(I (x10.1.Steam.Gas))]
def Zae (x10:(GParts×Int)):AV:=.agg [(I (x10.1.Water.Mass)),(I (x10.1.Water.Heat)),(I (x10.1.Water.Silica)),(I (x10.1.Water.Gas))]
def Q4p (x10:(GParts×Int)):AV:=.dat 4 (([(⟨x10.1.Steam.Mass,x10.1.Steam.Heat,x10.1.Steam.Silica,x10.1.Steam.Gas⟩:GStream),(⟨x10.1.Water.Mass,x10.1.Water.Heat,x10.1.Water.Silica,x10.1.Water.Gas⟩:GStream)]:List GStream).map Qaa)
def Qvl (p2:(List GRow)) (p3:(List GElement)) (p4:Nat) (p5:Nat) (p6:Nat) (p7:(List GStream)) (p8:Int) (x10:(GParts×Int)):Slot:=.own 7 [[(Q6z p2),(Q6y p3),(.own 1 1 (0) (p4)),(.own 2 4 (0) (p5)),(.own 3 1 (0) (p6)),(Zaf p7),(I (w64 (p8+x10.1.Steam.Mass)))]]
def Zad (x5:GElement):AV:=.dat 1 (([w64 (1000 - x5.Amount),x5.Amount]:List Int).map Qal)
def Q4n (x22:((List GStream)×(List GLost))):AV:=.dat 4 ((x22.1:List GStream).map Qaa)
def Q4o (x22:((List GStream)×(List GLost))):Slot:=.own 4 ((x22.2:List GLost).map Qa0)
def Zjd (x23:GStream):AV:=.agg [(I (x23.Mass)),(I (x23.Heat)),(I (x23.Silica)),(I (x23.Gas))]
def Zjc (x10:(GParts×Int)) (x23:GStream):AV:=.dat 4 (([(⟨x10.1.Steam.Mass,x10.1.Steam.Heat,x10.1.Steam.Silica,x10.1.Steam.Gas⟩:GStream),x23]:List GStream).map Qaa)
def Zac (x28:GStream):AV:=.agg [(I (x28.Mass)),(I (x28.Heat)),(I (x28.Silica)),(I (x28.Gas))]
def Zjb (x29:GStream):AV:=.agg [(I (x29.Mass)),(I (x29.Heat)),(I (x29.Silica)),(I (x29.Gas))]
def Q4m (x28:GStream) (x29:GStream):AV:=.dat 4 (([x28,x29]:List GStream).map Qaa)
theorem Ql3 (N:Nat) (p0:Int) (p1:GStream) (p2:(List GRow)) (p3:(List GElement)) (p4:Nat) (p5:Nat) (p6:Nat) (p7:(List GStream)) (p8:Int) (p9:(List (List GStream))) (p10:(List GLost)) (p11:(List Int)) (r:((List GStream)×Int×(List GLost)×(List Int))) (h:Qe1 N p0 p1 p2 p3 p4 p5 p6 p7 p8 p9 p10 p11=some r):Spec Tryz.prog 119 [(.ref 0 7 (0) 0),(I (p0)),(Zo0 p1)] [(Q2a p2 p3 p4 p5 p6 p7 p8),(Qoo p9),(Zag p10),(Qy4 p11)] (.dat 4 ((r.1:List GStream).map Qaa)) [(.own 7 [[(Q6z p2),(Q6y p3),(.own 1 1 (0) (p4)),(.own 2 4 (0) (p5)),(.own 3 1 (0) (p6)),(Zaf p7),(I (r.2.1))]]),(Qoo p9),(.own 4 ((r.2.2.1:List GLost).map Qa0)),(.own 1 ((r.2.2.2:List Int).map Qal))]:=by
  refine Qah Tryz.func119 rfl 4 (nle rfl) (fun X φ0 w0 hφ0 hd0=>?_)
  unfold Qe1 at h
  refine Qb0<|wxz ?_
  obtain ⟨x5,hg6,h⟩:=bno h
  obtain ⟨hi7,hj8⟩:=gsm hg6
  refine wx tbk [(1,rb [(.tmp 11,.ref 0 7 0 0)] [(0,(Q2a p2 p3 p4 p5 p6 p7 p8))] (.ref 0 7 0 0)),(6,rp [(.tmp 15,(Q6y p3)),(.tmp 16,I p0)] (.dptr (Qad (x5)) 0))] ⟨Qbh rfl,aid rfl Tryz.underlying40 Qk0 rfl rfl hi7 (mgt Qad hj8) rfl,tv⟩ ?_
  obtain ⟨x10,hf9,h⟩:=bno h
  refine wxd tbk [(1,rb [(.tmp 20,.ref 0 7 0 0)] [(0,(Q2a p2 p3 p4 p5 p6 p7 p8))] (.ref 0 7 0 0)),(8,rp [fu 135,(.tmp 24,(Q6z p2)),(.tmp 26,I x5.Level),(.tmp 27,(Zo0 p1))] (.tup [(.agg [I x10.1.Steam.Mass,I x10.1.Steam.Heat,I x10.1.Steam.Silica,I x10.1.Steam.Gas,I x10.1.Water.Mass,I x10.1.Water.Heat,I x10.1.Water.Silica,I x10.1.Water.Gas,I x10.1.Rest,I x10.1.Scale]),I x10.2]))] ⟨Qbh rfl,apv Zhp (Qtj N p2 x5.Level p1 _ hf9) (nlc (nld Qai _) (nlc nll (nlc (NLt.agg _ (nlcc (nlcc nl0))) nl0))) (NLt.tup _ (nlc (NLt.agg _ (nlcc (nlcc (nlcc (nlcc (nlcc nl0)))))) (nlc nll nl0))),tv⟩ ?_
  obtain ⟨hi11,h⟩:=cko h
  obtain ⟨hi11a,hi11b⟩:=Qd0 hi11
  obtain ⟨x12,hg13,h⟩:=bno h
  refine wxd tbk [(1,rb [(.tmp 31,.ref 0 7 0 0)] [(0,(Q2a p2 p3 p4 p5 p6 p7 p8))] (.ref 0 7 0 0)),(8,rb [(.tmp 35,(.own 2 4 (0) (p5))),(.tmp 36,I p0)] [(2,(Zag p10))] (.ref 2 4 (p0.toNat) 0)),(10,⟨[(.tmp 40,(.ref 2 4 (p0.toNat) 3)),(.tmp 38,I x10.1.Scale)],[(2,(Zag p10))],.any,[(2,(Q4r p10 p0 x12 x10))],false⟩)] ⟨Qbh rfl,aio rfl Tryz.underlying32 ti82 (odt hi11a) (odt hi11b) (Nat.zero_add _),ast rfl ti3 (by rfl) (mgt Qa0 hg13) (nle rfl) (Qgv Qa0 rfl),tv⟩ ?_
  obtain ⟨hi14,h⟩:=cko h
  obtain ⟨hi14a,hi14b⟩:=Qd0 hi14
  obtain ⟨x15,hg16,h⟩:=bno h
  obtain ⟨hi17,h⟩:=cko h
  obtain ⟨hi17a,hi17b⟩:=Qd0 hi17
  obtain ⟨x18,hg19,h⟩:=bno h
  refine wxd tbk [(1,rb [(.tmp 41,.ref 0 7 0 0)] [(0,(Q2a p2 p3 p4 p5 p6 p7 p8))] (.ref 0 7 0 0)),(6,rb [(.tmp 45,(.own 3 1 (0) (p6))),(.tmp 46,I p0)] [(3,(Qy4 p11))] (.ref 3 1 (p0.toNat) 0)),(7,rb [(.tmp 47,(.ref 3 1 (p0.toNat) 0))] [(3,(Qy4 p11))] (I x15)),(11,rb [(.tmp 45,(.own 3 1 (0) (p6))),(.tmp 46,I p0)] [(3,(Qy4 p11))] (.ref 3 1 (p0.toNat) 0)),(12,⟨[(.tmp 52,(.ref 3 1 (p0.toNat) 0)),(.tmp 51,(I (w64 (x15+x10.1.Scale))))],[(3,(Qy4 p11))],.any,[(3,(Qss p11 p0 x15 x10))],false⟩)] ⟨Qbh rfl,aio rfl Tryz.underlying27 ti3 (odt hi14a) (odt hi14b) (Nat.zero_add _),ald rfl ti3 (by decide) (mgt Qal hg16) (nle rfl) rfl,aio rfl Tryz.underlying27 ti3 (odt hi17a) (odt hi17b) (Nat.zero_add _),ast rfl ti3 (by rfl) (mgt Qal hg19) (nle rfl) (Qgv Qal rfl),tv⟩ ?_
  refine wxd tbk [(1,rb [(.tmp 53,.ref 0 7 0 0)] [(0,(Q2a p2 p3 p4 p5 p6 p7 p8))] (.ref 0 7 0 0)),(8,rb [(.tmp 53,.ref 0 7 0 0)] [(0,(Q2a p2 p3 p4 p5 p6 p7 p8))] (.ref 0 7 0 0))] ⟨Qbh rfl,Qbh rfl,tv⟩<|wsq<|wxz ?_
  refine bfe h (fun hc20 h=>?_) fun hc20 h=>?_
  ·refine wft hc20<|wx tbk [(4,rp [(.tmp 67,(Q4q x10)),(.tmp 69,(Zae x10))] (Q4p x10))] ⟨Qbe (vs:=[(Q4q x10),(Zae x10)]) rfl Tryz.underlying45 ti63 tz63 rfl (by decide) rfl (by decide) (by rfl) (by rfl) (by rfl) rfl,tv⟩ ?_
   refine wmr (mto (n:=93) (l':=[(6,(Q4p x10))]) (own':=[(.own 7 [[(Q6z p2),(Q6y p3),(.own 1 1 (0) (p4)),(.own 2 4 (0) (p5)),(.own 3 1 (0) (p6)),(Zaf p7),(I ((w64 (p8+x10.1.Steam.Mass))))]]),(Qoo p9),(.own 4 (((p10.set p0.toNat (⟨x12.Heat,x12.Silica,x12.Gas,x10.1.Scale⟩:GLost)):List GLost).map Qa0)),(.own 1 (((p11.set p0.toNat (w64 (x15+x10.1.Scale))):List Int).map Qal))]) [(6,(Q4p x10))] [0,1,2,3] [(Qvl p2 p3 p4 p5 p6 p7 p8 x10),(Qoo p9),(Q4r p10 p0 x12 x10),(Qss p11 p0 x15 x10)] hφ0 (pc (rnd Qac) pn) (qb (lc (rnd Qai) (lc (rnd Qab) (lc (.rn (Qa3 rfl)) (lc (.rn (Qa3 rfl)) (lc (.rn (Qa3 rfl)) (lc (rnd Qac) (lc rwl ln))))))) (qc (spr Qam) (qc (spr Qau) (qc (spr Qae) qn)))))<|Qaf<|Qag ?_
   obtain rfl:=osi h
   exact ⟨_,Mor.rfl,Qdf (vs:=[(Q4p x10)]) ⟨rot,tv⟩ rfl (NLt.of0 (nld Qac _)) (by kernel_rfl) (Qao (Qbi (nlc (NLt.of0 (nld Qai _)) (nlc (NLt.of0 (nld Qab _)) (nlc (NLt.own _ _ _ _ (by decide)) (nlc (NLt.own _ _ _ _ (by decide)) (nlc (NLt.own _ _ _ _ (by decide)) (nlc (NLt.of0 (nld Qac _)) (nlc (NLt.of0 nll) nl0)))))))) (Qao (Qci Qam _) (Qao (Qci Qau _) (Qao (Qci Qae _) Qby))))⟩
  ·refine wfn hc20<|Qan<|thn ?_
   obtain ⟨x22,hf21,h⟩:=bno h
   refine wx tbk [(9,rp [(.tmp 77,(I (w64 (1000 - x5.Amount)))),(.tmp 79,I x5.Amount)] (Zad x5)),(10,⟨[fu 136,(.tmp 71,.ref 0 7 0 0),(.tmp 72,I p0),(.tmp 74,(Zae x10)),(.tmp 80,(Zad x5))],[(0,(Qvl p2 p3 p4 p5 p6 p7 p8 x10)),(1,(Qoo p9)),(2,(Q4r p10 p0 x12 x10)),(3,(Qss p11 p0 x15 x10))],(Q4n x22),[(0,(Qvl p2 p3 p4 p5 p6 p7 p8 x10)),(1,(Qoo p9)),(2,(Q4o x22)),(3,(Qss p11 p0 x15 x10))],false⟩)] ⟨Qbe (vs:=[(I (w64 (1000 - x5.Amount))),I x5.Amount]) rfl Tryz.underlying27 ti3 tz3 rfl (by decide) rfl (by decide) (by rfl) (by rfl) (by rfl) rfl,Qav (first:=[]) (cap:=[]) (vs:=[.ref 0 7 0 0,I p0,(.agg [(I ((⟨x10.1.Water.Mass,x10.1.Water.Heat,x10.1.Water.Silica,x10.1.Water.Gas⟩:GStream).Mass)),(I ((⟨x10.1.Water.Mass,x10.1.Water.Heat,x10.1.Water.Silica,x10.1.Water.Gas⟩:GStream).Heat)),(I ((⟨x10.1.Water.Mass,x10.1.Water.Heat,x10.1.Water.Silica,x10.1.Water.Gas⟩:GStream).Silica)),(I ((⟨x10.1.Water.Mass,x10.1.Water.Heat,x10.1.Water.Silica,x10.1.Water.Gas⟩:GStream).Gas))]),(Zad x5)]) (σr:=[(Qvl p2 p3 p4 p5 p6 p7 p8 x10),(Qoo p9),(Q4r p10 p0 x12 x10),(Qss p11 p0 x15 x10)]) (σr':=[(Qvl p2 p3 p4 p5 p6 p7 p8 x10),(Qoo p9),(Q4o x22),(Qss p11 p0 x15 x10)]) (res':=(Q4n x22)) [0,1,2,3] rfl Q6a (Qj8 N p0 (⟨x10.1.Water.Mass,x10.1.Water.Heat,x10.1.Water.Silica,x10.1.Water.Gas⟩:GStream) ([w64 (1000 - x5.Amount),x5.Amount]) p2 p3 p4 p5 p6 p7 (w64 (p8+x10.1.Steam.Mass)) p9 (p10.set p0.toNat (⟨x12.Heat,x12.Silica,x12.Gas,x10.1.Scale⟩:GLost)) (p11.set p0.toNat (w64 (x15+x10.1.Scale))) _ hf21) rfl (Qbv (rnc (Qbo rfl) (rnc (.plain _ nll) (rnc (.plain _ (NLt.agg _ (nlcc (nlcc nl0)))) (rnc (pld Qae) rn0))))) (slc (Qar (rnc (pld Qai) (rnc (pld Qab) (rnc (Qc7 rfl) (rnc (Qc7 rfl) (rnc (Qc7 rfl) (rnc (pld Qac) (rnc (.plain _ nll) rn0)))))))) (slc (Qbf Qam) (slc (Qbf Qau) (slc (Qbf Qae) Qat)))) (slc (Qar (rnc (pld Qai) (rnc (pld Qab) (rnc (Qdg rfl) (rnc (Qdg rfl) (rnc (Qdg rfl) (rnc (pld Qac) (rnc (.plain _ nll) rn0)))))))) (slc (Qbf Qam) (slc (Qbf Qau) (slc (Qbf Qae) Qat)))) (pld Qac) rfl rfl rfl,tv⟩ ?_
   obtain ⟨x23,hg24,h⟩:=bno h
   obtain ⟨hi25,hj26⟩:=gsm hg24
   obtain ⟨x28,hf27,h⟩:=bno h
   obtain ⟨x29,hg30,h⟩:=bno h
   obtain ⟨hi31,hj32⟩:=gsm hg30
   refine wxd tbk [(3,rp [(.tmp 84,(Q4n x22)),ci 1] (.dptr (Qaa (x23)) 0)),(5,rp [(.tmp 83,(Q4q x10)),(.tmp 86,(Zjd x23))] (Zjc x10 x23)),(6,rp [fu 76,(.tmp 87,(Zjc x10 x23))] (Zac x28)),(8,rp [(.tmp 89,(Q4n x22)),ci 0] (.dptr (Qaa (x29)) 0)),(10,rp [(.tmp 88,(Zac x28)),(.tmp 91,(Zjb x29))] (Q4m x28 x29))] ⟨aid rfl Tryz.underlying45 ti63 rfl rfl hi25 (mgt Qaa hj26) rfl,Qbe (vs:=[(Q4q x10),(Zjd x23)]) rfl Tryz.underlying45 ti63 tz63 rfl (by decide) rfl (by decide) (by rfl) (by rfl) (by rfl) rfl,apv Quk (Qh6 N ([(⟨x10.1.Steam.Mass,x10.1.Steam.Heat,x10.1.Steam.Silica,x10.1.Steam.Gas⟩:GStream),x23]) _ hf27) (nlc (nld Qac _) nl0) (NLt.agg _ (nlcc (nlcc nl0))),aid rfl Tryz.underlying45 ti63 rfl rfl hi31 (mgt Qaa hj32) rfl,Qbe (vs:=[(Zac x28),(Zjb x29)]) rfl Tryz.underlying45 ti63 tz63 rfl (by decide) rfl (by decide) (by rfl) (by rfl) (by rfl) rfl,tv⟩ ?_
   refine wmr (mto (n:=93) (l':=[(6,(Q4m x28 x29))]) (own':=[(.own 7 [[(Q6z p2),(Q6y p3),(.own 1 1 (0) (p4)),(.own 2 4 (0) (p5)),(.own 3 1 (0) (p6)),(Zaf p7),(I ((w64 (p8+x10.1.Steam.Mass))))]]),(Qoo p9),(Q4o x22),(.own 1 (((p11.set p0.toNat (w64 (x15+x10.1.Scale))):List Int).map Qal))]) [(6,(Q4m x28 x29))] [0,1,2,3] [(Qvl p2 p3 p4 p5 p6 p7 p8 x10),(Qoo p9),(Q4o x22),(Qss p11 p0 x15 x10)] hφ0 (pc (rnd Qac) pn) (qb (lc (rnd Qai) (lc (rnd Qab) (lc (.rn (Qa3 rfl)) (lc (.rn (Qa3 rfl)) (lc (.rn (Qa3 rfl)) (lc (rnd Qac) (lc rwl ln))))))) (qc (spr Qam) (qc (spr Qau) (qc (spr Qae) qn)))))<|Qaf ?_
   obtain rfl:=osi h
   exact ⟨_,Mor.rfl,Qdf (vs:=[(Q4m x28 x29)]) ⟨rot,tv⟩ rfl (NLt.of0 (nld Qac _)) (by kernel_rfl) (Qao (Qbi (nlc (NLt.of0 (nld Qai _)) (nlc (NLt.of0 (nld Qab _)) (nlc (NLt.own _ _ _ _ (by decide)) (nlc (NLt.own _ _ _ _ (by decide)) (nlc (NLt.own _ _ _ _ (by decide)) (nlc (NLt.of0 (nld Qac _)) (nlc (NLt.of0 nll) nl0)))))))) (Qao (Qci Qam _) (Qao (Qci Qau _) (Qao (Qci Qae _) Qby))))⟩
def Qhk (N:Nat) (p0:Int) (p1:GStream) (p2:(List GRow)) (p3:(List GElement)) (p4:Nat) (p5:Nat) (p6:Nat) (p7:(List GStream)) (p8:Int) (p9:(List (List GStream))) (p10:(List GLost)) (p11:(List Int)):Option ((List GStream)×(List GLost)):=
  (getI p3 p0).bind fun x3=>
  (Qe5 N p0 p1 x3.Weights p2 p3 p4 p5 p6 p7 p8 p9 p10 p11).bind fun x8=>
  some (x8.1,x8.2)
def Zkq (p1:GStream):AV:=.agg [(I (p1.Mass)),(I (p1.Heat)),(I (p1.Silica)),(I (p1.Gas))]
def Qww (p2:(List GRow)) (p3:(List GElement)) (p4:Nat) (p5:Nat) (p6:Nat) (p7:(List GStream)) (p8:Int):Slot:=.own 7 [[(.dat 5 ((p2:List GRow).map Qa4)),(.dat 7 ((p3:List GElement).map Qad)),(.own 1 1 (0) (p4)),(.own 2 4 (0) (p5)),(.own 3 1 (0) (p6)),(.dat 4 ((p7:List GStream).map Qaa)),(I (p8))]]
def Qy2 (p9:(List (List GStream))):Slot:=.own 1 ((p9:List (List GStream)).map Qak)
def Zkp (p10:(List GLost)):Slot:=.own 4 ((p10:List GLost).map Qa0)
def Qy1 (p11:(List Int)):Slot:=.own 1 ((p11:List Int).map Qal)
def Qy3 (x8:((List GStream)×(List GLost))):AV:=.dat 4 ((x8.1:List GStream).map Qaa)
def Q4i (x8:((List GStream)×(List GLost))):Slot:=.own 4 ((x8.2:List GLost).map Qa0)
theorem Qno (N:Nat) (p0:Int) (p1:GStream) (p2:(List GRow)) (p3:(List GElement)) (p4:Nat) (p5:Nat) (p6:Nat) (p7:(List GStream)) (p8:Int) (p9:(List (List GStream))) (p10:(List GLost)) (p11:(List Int)) (r:((List GStream)×(List GLost))) (h:Qhk N p0 p1 p2 p3 p4 p5 p6 p7 p8 p9 p10 p11=some r):Spec Tryz.prog 120 [(.ref 0 7 (0) 0),(I (p0)),(Zkq p1)] [(Qww p2 p3 p4 p5 p6 p7 p8),(Qy2 p9),(Zkp p10),(Qy1 p11)] (.dat 4 ((r.1:List GStream).map Qaa)) [(Qww p2 p3 p4 p5 p6 p7 p8),(Qy2 p9),(.own 4 ((r.2:List GLost).map Qa0)),(Qy1 p11)]:=by
  refine Qah Tryz.func120 rfl 4 (nle rfl) (fun X φ0 w0 hφ0 hd0=>?_)
  unfold Qhk at h
  refine Qb0<|wxz ?_
  obtain ⟨x3,hg4,h⟩:=bno h
  obtain ⟨hi5,hj6⟩:=gsm hg4
  obtain ⟨x8,hf7,h⟩:=bno h
  refine wxd tbk [(4,rb [(.tmp 10,.ref 0 7 0 0)] [(0,(Qww p2 p3 p4 p5 p6 p7 p8))] (.ref 0 7 0 0)),(9,rp [(.tmp 14,(.dat 7 ((p3:List GElement).map Qad))),(.tmp 15,I p0)] (.dptr (Qad (x3)) 0)),(12,⟨[fu 136,(.tmp 7,.ref 0 7 0 0),(.tmp 8,I p0),(.tmp 9,(Zkq p1)),(.tmp 18,(.dat 1 ((x3.Weights:List Int).map Qal)))],[(0,(Qww p2 p3 p4 p5 p6 p7 p8)),(1,(Qy2 p9)),(2,(Zkp p10)),(3,(Qy1 p11))],(Qy3 x8),[(0,(Qww p2 p3 p4 p5 p6 p7 p8)),(1,(Qy2 p9)),(2,(Q4i x8)),(3,(Qy1 p11))],false⟩)] ⟨Qbh rfl,aid rfl Tryz.underlying40 Qk0 rfl rfl hi5 (mgt Qad hj6) rfl,Qav (first:=[]) (cap:=[]) (vs:=[.ref 0 7 0 0,I p0,(Zkq p1),(.dat 1 ((x3.Weights:List Int).map Qal))]) (σr:=[(Qww p2 p3 p4 p5 p6 p7 p8),(Qy2 p9),(Zkp p10),(Qy1 p11)]) (σr':=[(Qww p2 p3 p4 p5 p6 p7 p8),(Qy2 p9),(Q4i x8),(Qy1 p11)]) (res':=(Qy3 x8)) [0,1,2,3] rfl Q6a (Qj8 N p0 p1 x3.Weights p2 p3 p4 p5 p6 p7 p8 p9 p10 p11 _ hf7) rfl (Qbv (rnc (Qbo rfl) (rnc (.plain _ nll) (rnc (.plain _ (NLt.agg _ (nlcc (nlcc nl0)))) (rnc (pld Qae) rn0))))) (slc (Qar (rnc (pld Qai) (rnc (pld Qab) (rnc (Qc7 rfl) (rnc (Qc7 rfl) (rnc (Qc7 rfl) (rnc (pld Qac) (rnc (.plain _ nll) rn0)))))))) (slc (Qbf Qam) (slc (Qbf Qau) (slc (Qbf Qae) Qat)))) (slc (Qar (rnc (pld Qai) (rnc (pld Qab) (rnc (Qdg rfl) (rnc (Qdg rfl) (rnc (Qdg rfl) (rnc (pld Qac) (rnc (.plain _ nll) rn0)))))))) (slc (Qbf Qam) (slc (Qbf Qau) (slc (Qbf Qae) Qat)))) (pld Qac) rfl rfl rfl,tv⟩ ?_
  refine wmr (mto (n:=20) (l':=[(6,(Qy3 x8))]) (own':=[(Qww p2 p3 p4 p5 p6 p7 p8),(Qy2 p9),(Q4i x8),(Qy1 p11)]) [(6,(Qy3 x8))] [0,1,2,3] [(Qww p2 p3 p4 p5 p6 p7 p8),(Qy2 p9),(Q4i x8),(Qy1 p11)] hφ0 (pc (rnd Qac) pn) (qb (lc (rnd Qai) (lc (rnd Qab) (lc (.rn (Qa3 rfl)) (lc (.rn (Qa3 rfl)) (lc (.rn (Qa3 rfl)) (lc (rnd Qac) (lc rwl ln))))))) (qc (spr Qam) (qc (spr Qau) (qc (spr Qae) qn)))))<|Qaf ?_
  obtain rfl:=osi h
  exact ⟨_,Mor.rfl,Qdf (vs:=[(Qy3 x8)]) ⟨rot,tv⟩ rfl (NLt.of0 (nld Qac _)) (by kernel_rfl) (Qao (Qbi (nlc (NLt.of0 (nld Qai _)) (nlc (NLt.of0 (nld Qab _)) (nlc (NLt.own _ _ _ _ (by decide)) (nlc (NLt.own _ _ _ _ (by decide)) (nlc (NLt.own _ _ _ _ (by decide)) (nlc (NLt.of0 (nld Qac _)) (nlc (NLt.of0 nll) nl0)))))))) (Qao (Qci Qam _) (Qao (Qci Qau _) (Qao (Qci Qae _) Qby))))⟩
def Qct (N:Nat) (p0:Int) (p1:Int) (p2:(List GRow)) (p3:(List GElement)) (p4:Nat) (p5:Nat) (p6:Nat) (p7:(List GStream)) (p8:Int) (p9:(List (List GStream))) (p10:(List GLost)) (p11:(List Int)):Option ((Int×(List (List GStream))×(List GLost)×(List Int))⊕Int):=
  (Qgz N p0 p2 p3 p4 p5 p6 p7 p8 p9 p10 p11).bind fun _=>
  chk (decide (p4≤p9.length))<|
  chk (decide (p5≤p10.length))<|
  chk (decide (p6≤p11.length))<|
  (Qbz N p2 p3 (p9.take p4) (p10.take p5) (p11.take p6) p7 p8 p0).bind fun x12=>
  (Qen N x12).bind fun x14=>
  Qbb (fun _=>
    (getI p3 p0).bind fun x16=>
    bif (x16.Kind==0) then
     none
    else
     bif (x16.Kind==1) then
      (Qfk N p0 x14 p2 p3 p4 p5 p6 p7 p8 p9 p10 p11).bind fun x23=>
      chk (decide (0≤p0)&&decide (p0.toNat<p4))<|
      (p9[p0.toNat]?).bind fun _=>
      some (.inl (p8,p9.set p0.toNat x23,p10,p11))
     else
      bif (x16.Kind==2) then
       (Qfk N p0 x14 p2 p3 p4 p5 p6 p7 p8 p9 p10 p11).bind fun x29=>
       chk (decide (0≤p0)&&decide (p0.toNat<p4))<|
       (p9[p0.toNat]?).bind fun _=>
       some (.inl (p8,p9.set p0.toNat x29,p10,p11))
      else
       bif (x16.Kind==3) then
        (Qhx N p0 x14 p2 p3 p4 p5 p6 p7 p8 p9 p10 p11).bind fun x35=>
        chk (decide (0≤p0)&&decide (p0.toNat<p4))<|
        (p9[p0.toNat]?).bind fun _=>
        some (.inl (p8,p9.set p0.toNat x35.1,x35.2,p11))
       else
        bif (x16.Kind==4) then
         (Qe1 N p0 x14 p2 p3 p4 p5 p6 p7 p8 p9 p10 p11).bind fun x41=>
         chk (decide (0≤p0)&&decide (p0.toNat<p4))<|
         (p9[p0.toNat]?).bind fun _=>
         some (.inl (x41.2.1,p9.set p0.toNat x41.1,x41.2.2.1,x41.2.2.2))
        else
         bif (x16.Kind==5) then
          (Qhk N p0 x14 p2 p3 p4 p5 p6 p7 p8 p9 p10 p11).bind fun x47=>
          chk (decide (0≤p0)&&decide (p0.toNat<p4))<|
          (p9[p0.toNat]?).bind fun _=>
          some (.inl (p8,p9.set p0.toNat x47.1,x47.2,p11))
         else
          bif (x16.Kind==6) then
           (Qfk N p0 x14 p2 p3 p4 p5 p6 p7 p8 p9 p10 p11).bind fun x53=>
           chk (decide (0≤p0)&&decide (p0.toNat<p4))<|
           (p9[p0.toNat]?).bind fun _=>
           some (.inl (p8,p9.set p0.toNat x53,p10,p11))
          else
           none) fun k15:Unit→Option ((Int×(List (List GStream))×(List GLost)×(List Int))⊕Int)=>
  bif (decide (x14.Mass>p1)) then
   some (.inr p0)
  else
   k15 ()
def Qsu (p2:(List GRow)):AV:=.dat 5 ((p2:List GRow).map Qa4)
def Qkw (p3:(List GElement)):AV:=.dat 7 ((p3:List GElement).map Qad)
def Qst (p7:(List GStream)):AV:=.dat 4 ((p7:List GStream).map Qaa)
def Qgq (p2:(List GRow)) (p3:(List GElement)) (p4:Nat) (p5:Nat) (p6:Nat) (p7:(List GStream)) (p8:Int):Slot:=.own 7 [[(Qsu p2),(Qkw p3),(.own 1 1 (0) (p4)),(.own 2 4 (0) (p5)),(.own 3 1 (0) (p6)),(Qst p7),(I (p8))]]
def Qfy (p9:(List (List GStream))):Slot:=.own 1 ((p9:List (List GStream)).map Qak)
def Qhv (p10:(List GLost)):Slot:=.own 4 ((p10:List GLost).map Qa0)
def Qgp (p11:(List Int)):Slot:=.own 1 ((p11:List Int).map Qal)
def Zky:AV:=.fn (.func 133) [] [(.ref 4 1 (0) 0),(.ref 5 1 (0) 0)]
def Zkz:Slot:=.own 1 [[(.ref 0 7 (0) 0)]]
def Zan (x12:(List GStream)):AV:=.acc 6 63 4 ((x12:List GStream).map Qaa)
def Qim (x14:GStream):AV:=.agg [(I (x14.Mass)),(I (x14.Heat)),(I (x14.Silica)),(I (x14.Gas))]
def Qrs (x14:GStream):Slot:=.own 4 [[(I (x14.Mass)),(I (x14.Heat)),(I (x14.Silica)),(I (x14.Gas))]]
def Qm0:Slot:=.own 7 [[(.lit .nilFunc),(.fn (.func 117) [] []),(.fn (.func 117) [] []),(.fn (.func 118) [] []),(.fn (.func 119) [] []),(.fn (.func 120) [] []),(.fn (.func 117) [] [])]]
def Zam (x23:(List GStream)):AV:=.dat 4 ((x23:List GStream).map Qaa)
def Zal (x29:(List GStream)):AV:=.dat 4 ((x29:List GStream).map Qaa)
def Q41 (x35:((List GStream)×(List GLost))):Slot:=.own 4 ((x35.2:List GLost).map Qa0)
def Q40 (p2:(List GRow)) (p3:(List GElement)) (p4:Nat) (p5:Nat) (p6:Nat) (p7:(List GStream)) (x41:((List GStream)×Int×(List GLost)×(List Int))):Slot:=.own 7 [[(Qsu p2),(Qkw p3),(.own 1 1 (0) (p4)),(.own 2 4 (0) (p5)),(.own 3 1 (0) (p6)),(Qst p7),(I (x41.2.1))]]
def Q4z (x41:((List GStream)×Int×(List GLost)×(List Int))):Slot:=.own 4 ((x41.2.2.1:List GLost).map Qa0)
def Q4y (x41:((List GStream)×Int×(List GLost)×(List Int))):Slot:=.own 1 ((x41.2.2.2:List Int).map Qal)
def Q4x (x47:((List GStream)×(List GLost))):Slot:=.own 4 ((x47.2:List GLost).map Qa0)
def Zak (x53:(List GStream)):AV:=.dat 4 ((x53:List GStream).map Qaa)
theorem Qiz (N:Nat) (p0:Int) (p1:Int) (p2:(List GRow)) (p3:(List GElement)) (p4:Nat) (p5:Nat) (p6:Nat) (p7:(List GStream)) (p8:Int) (p9:(List (List GStream))) (p10:(List GLost)) (p11:(List Int)) (r:((Int×(List (List GStream))×(List GLost)×(List Int))⊕Int)) (h:Qct N p0 p1 p2 p3 p4 p5 p6 p7 p8 p9 p10 p11=some r):Zqj Tryz.prog 97 [(.ref 0 7 (0) 0),(I (p0)),(I (p1))] [(Qgq p2 p3 p4 p5 p6 p7 p8),(Qfy p9),(Qhv p10),(Qgp p11)]  ((Sum.elim (fun r=>.ret (.tup []) [(.own 7 [[(.dat 5 ((p2:List GRow).map Qa4)),(.dat 7 ((p3:List GElement).map Qad)),(.own 1 1 (0) (p4)),(.own 2 4 (0) (p5)),(.own 3 1 (0) (p6)),(.dat 4 ((p7:List GStream).map Qaa)),(I (r.1))]]),(.own 1 ((r.2.1:List (List GStream)).map Qak)),(.own 4 ((r.2.2.1:List GLost).map Qa0)),(.own 1 ((r.2.2.2:List Int).map Qal))]) (fun r=>.pan (.iface 182 (.agg #[(.int .i64 (r))]))):((Int×(List (List GStream))×(List GLost)×(List Int))⊕Int)→Out) r):=by
  refine Qz3 Tryz.func97 rfl 4 (nle rfl) (fun X φ0 w0 hφ0 hd0=>?_)
  unfold Qct at h
  obtain ⟨x7,hf6,h⟩:=bno h
  obtain ⟨hz8,h⟩:=cko h
  obtain ⟨hz9,h⟩:=cko h
  obtain ⟨hz10,h⟩:=cko h
  obtain ⟨x12,hf11,h⟩:=bno h
  obtain ⟨x14,hf13,h⟩:=bno h
  refine wx tbk [(2,⟨[fu 116,(.tmp 8,.ref 0 7 0 0),(.tmp 9,I p0)],[(0,(Qgq p2 p3 p4 p5 p6 p7 p8)),(1,(Qfy p9)),(2,(Qhv p10)),(3,(Qgp p11)),(4,.unused),(5,.unused)],Zky,[(0,(Qgq p2 p3 p4 p5 p6 p7 p8)),(1,(Qfy p9)),(2,(Qhv p10)),(3,(Qgp p11)),(4,Zkz),(5,.own 1 [[I p0]])],false⟩),(3,⟨[fu 115,(.tmp 10,Zky)],[(4,Zkz),(0,(Qgq p2 p3 p4 p5 p6 p7 p8)),(1,(Qfy p9)),(2,(Qhv p10)),(3,(Qgp p11)),(5,.own 1 [[I p0]]),(6,.unused)],(Zan x12),[(6,.tok)],false⟩),(4,rp [fu 76,(.tmp 11,(Zan x12))] (Qim x14))] ⟨Qav (first:=[]) (cap:=[]) (vs:=[.ref 0 7 0 0,I p0]) (σr:=[(Qgq p2 p3 p4 p5 p6 p7 p8),(Qfy p9),(Qhv p10),(Qgp p11)]) (σr':=[(Qgq p2 p3 p4 p5 p6 p7 p8),(Qfy p9),(Qhv p10),(Qgp p11),Zkz,(.own 1 [[I p0]])]) (res':=Zky) [0,1,2,3,4,5] rfl Zh2 (Qoh N p0 p2 p3 p4 p5 p6 p7 p8 p9 p10 p11 _ hf6) rfl (Qbv (rnc (Qbo rfl) (rnc (.plain _ nll) rn0))) (slc (Qar (rnc (pld Qai) (rnc (pld Qab) (rnc (Qc7 rfl) (rnc (Qc7 rfl) (rnc (Qc7 rfl) (rnc (pld Qac) (rnc (.plain _ nll) rn0)))))))) (slc (Qbf Qam) (slc (Qbf Qau) (slc (Qbf Qae) Qat)))) (slc (Qar (rnc (pld Qai) (rnc (pld Qab) (rnc (Qdg rfl) (rnc (Qdg rfl) (rnc (Qdg rfl) (rnc (pld Qac) (rnc (.plain _ nll) rn0)))))))) (slc (Qbf Qam) (slc (Qbf Qau) (slc (Qbf Qae) (slc (Qar (rnc (Qbr rfl) rn0)) (slc (Qar (rnc (.plain _ nll) rn0)) Qat)))))) (Qbp rn0 (rnc (Qbr rfl) (rnc (Qbr rfl) rn0))) rfl rfl rfl,Qhy (rd':=[fu 115,(.tmp 10,(.fn (.func 133) [] [(.dptr [(.dptr [(Qsu p2),(Qkw p3),(.dat 1 ((p9.take p4:List (List GStream)).map Qak)),(.dat 4 ((p10.take p5:List GLost).map Qa0)),(.dat 1 ((p11.take p6:List Int).map Qal)),(Qst p7),I p8] 0)] 0),(.dptr [I p0] 0)]))]) [(4,1,[[.ref 0 7 0 0]]),(0,7,[[(Qsu p2),(Qkw p3),(.own 1 1 (0) (p4)),(.own 2 4 (0) (p5)),(.own 3 1 (0) (p6)),(Qst p7),I p8]]),(1,1,(p9:List (List GStream)).map Qak),(2,4,(p10:List GLost).map Qa0),(3,1,(p11:List Int).map Qal),(5,1,[[I p0]])] ⟨rfl,.same _,rfl,(Zie tv ⟨(Qql 0 rfl (lc (Qql 1 rfl (lc (.same _) (lc (.same _) (lc (Qup 2 rfl hz8) (lc (Qup 3 rfl hz9) (lc (Qup 4 rfl hz10) (lc (.same _) (lc (.same _) ln)))))))) ln)),(Qql 5 rfl (lc (.same _) ln)),tv⟩),tv⟩ (by rfl) (.acc _ _ _ _ (nin rfl) (by simp) (Qyd Qt9 _)) (Qp3 .tok Qq8) (Qav (first:=[]) (cap:=[]) (vs:=[(.fn (.func 133) [] [(.dptr [(.dptr [(Qsu p2),(Qkw p3),(.dat 1 ((p9.take p4:List (List GStream)).map Qak)),(.dat 4 ((p10.take p5:List GLost).map Qa0)),(.dat 1 ((p11.take p6:List Int).map Qal)),(Qst p7),I p8] 0)] 0),(.dptr [I p0] 0)])]) (σr:=[]) (σr':=[.tok]) (res':=(Zan x12)) [6] rfl Zh3 (Qiw N p2 p3 (p9.take p4) (p10.take p5) (p11.take p6) p7 p8 p0 _ hf11) rfl (Qbv (rnc (.plain _ (NLt.fn _ _ _ nl0 (nlc (NLt.dptr _ _ (nlc (NLt.dptr _ _ (nlc (nld Qai _) (nlc (nld Qab _) (nlc (nld Qam _) (nlc (nld Qau _) (nlc (nld Qae _) (nlc (nld Qac _) (nlc nll nl0)))))))) nl0)) (nlc (NLt.dptr _ _ (nlc nll nl0)) nl0)))) rn0)) Qat (slc .tok Qat) (Zcg rfl (Qas Qac _)) rfl rfl rfl),awk (rd':=(.func 76,(.fn (.func 76) [] []))::[(.tmp 11,(.dat 4 ((x12:List GStream).map Qaa)))]) ⟨rfl,lrf,rfl,Less.acc,tv⟩ (apv Quk (Qh6 N x12 _ hf13) (nlc (nld Qac _) nl0) (NLt.agg _ (nlcc (nlcc nl0)))),tv⟩ ?_
  obtain ⟨k15,hk_k15,h⟩:=jko h
  refine wjn (τ:=Unit) (fun t=>k15 t=some r) (fun _=>⟨mk 43 [(0,.ref 0 7 0 0),(1,I p0),(6,.ref 4 4 0 0)],[(Qgq p2 p3 p4 p5 p6 p7 p8),(Qfy p9),(Qhv p10),(Qgp p11),(Qrs x14)]⟩) (fun t h=>?_) ?_
  ·subst hk_k15
   refine wx tbk [(0,rp [fu 117,fu 117,fu 118,fu 119,fu 120,fu 117] (.agg [(.lit .nilFunc),(.fn (.func 117) [] []),(.fn (.func 117) [] []),(.fn (.func 118) [] []),(.fn (.func 119) [] []),(.fn (.func 120) [] []),(.fn (.func 117) [] [])]))] ⟨Qr3 (vs:=[(.fn (.func 117) [] []),(.fn (.func 117) [] []),(.fn (.func 118) [] []),(.fn (.func 119) [] []),(.fn (.func 120) [] []),(.fn (.func 117) [] [])]) rfl Tryz.underlying209 Qpx Zpo rfl (by rfl) rfl,tv⟩ ?_
   obtain ⟨x16,hg17,h⟩:=bno h
   obtain ⟨hi18,hj19⟩:=gsm hg17
   refine bfe h (fun hb20 h=>?_) fun hb20 h=>?_
   ·cases h
   ·refine bfe h (fun hb21 h=>?_) fun hb21 h=>?_
    ·obtain ⟨x23,hf22,h⟩:=bno h
     obtain ⟨hi24,h⟩:=cko h
     obtain ⟨hi24a,hi24b⟩:=Qd0 hi24
     obtain ⟨x25,hg26,h⟩:=bno h
     refine Qme 0 (.own 7 [[(Qsu p2),(Qkw p3),(.own 1 1 (0) (p4)),(.own 2 4 (0) (p5)),(.own 3 1 (0) (p6)),(Qst p7),I p8]]) [mv 0 (.ref 0 7 0 0),⟨[(.tmp 21,.ref 0 7 0 0)],[],.ref 0 7 0 0,[],false⟩,⟨[(.tmp 22,.ref 0 7 0 0)],[],.ref 0 7 0 2,[],false⟩,⟨[(.tmp 23,.ref 0 7 0 2)],[],.ref 0 7 0 2,[],false⟩,⟨[(.tmp 24,.ref 0 7 0 2)],[],(.own 1 1 (0) (p4)),[],false⟩,mv 1 (I p0),mv 0 (.ref 0 7 0 0),⟨[(.tmp 27,.ref 0 7 0 0)],[],.ref 0 7 0 0,[],false⟩,⟨[(.tmp 28,.ref 0 7 0 0)],[],.ref 0 7 0 0,[],false⟩,⟨[(.tmp 29,.ref 0 7 0 0)],[],.ref 0 7 0 1,[],false⟩,⟨[(.tmp 30,.ref 0 7 0 1)],[],(Qkw p3),[],false⟩,mv 1 (I p0),rp [(.tmp 31,(Qkw p3)),(.tmp 32,I p0)] (.dptr (Qad (x16)) 0),mv 33 (.dptr (Qad (x16)) 0),rp [(.tmp 34,(.dptr (Qad (x16)) 0))] (K .u8 (x16.Kind)),rb [(.tmp 7,.ref 5 7 0 0),(.tmp 35,(K .u8 (x16.Kind)))] [(5,Qm0)] (.ref 5 7 0 1),rb [(.tmp 36,.ref 5 7 0 1)] [(5,Qm0)] (.fn (.func 117) [] []),mv 0 (.ref 0 7 0 0),mv 1 (I p0),rb [(.tmp 6,.ref 4 4 0 0)] [(4,(Qrs x14))] (Qim x14),⟨[(.tmp 37,(.fn (.func 117) [] [])),(.tmp 38,.ref 0 7 0 0),(.tmp 39,I p0),(.tmp 40,(Qim x14))],[(0,(Qgq p2 p3 p4 p5 p6 p7 p8)),(1,(Qfy p9)),(2,(Qhv p10)),(3,(Qgp p11))],(Zam x23),[(0,(Qgq p2 p3 p4 p5 p6 p7 p8)),(1,(Qfy p9)),(2,(Qhv p10)),(3,(Qgp p11))],false⟩,rb [(.tmp 25,(.own 1 1 (0) (p4))),(.tmp 26,I p0)] [(1,(Qfy p9))] (.ref 1 1 (p0.toNat) 0),⟨[(.tmp 42,(.ref 1 1 (p0.toNat) 0)),(.tmp 41,(Zam x23))],[(1,(Qfy p9))],.any,[(1,(.own 1 ((p9.set p0.toNat x23:List (List GStream)).map Qak)))],false⟩] (SImp.box ⟨lrf,lrf,lrf,lrf,lrf,lrf,lrf,tv⟩) ⟨tv,tv,tv,tv,tv,tv,tv,tv,tv,tv,tv,tv,tv,tv,tv,tv,tv,tv,tv,tv,⟨(SImp.box ⟨lrf,lrf,lrf,lrf,lrf,lrf,lrf,tv⟩),tv,tv,tv,tv⟩,tv,⟨tv,tv⟩,tv⟩ ?_ ?_
     ·exact ⟨hr_ (amv rfl),sf_ (Qbh rfl),sf_ (afa rfl Tryz.underlying140 rfl rfl ti34 (by decide) rfl),sf_ (afa rfl Tryz.underlying34 rfl rfl ti31 (by decide) rfl),sf_ (ald rfl ti31 (by decide) rfl (nle rfl) rfl),hr_ (amv rfl),hr_ (amv rfl),sf_ (Qbh rfl),sf_ (afa rfl Tryz.underlying140 rfl rfl ti42 (by decide) rfl),sf_ (afa rfl Tryz.underlying42 rfl rfl ti40 (by decide) rfl),sf_ (ald rfl ti40 (by decide) rfl (nle rfl) rfl),hr_ (amv rfl),hr_ (aid rfl Tryz.underlying40 Qk0 rfl rfl hi18 (mgt Qad hj19) rfl),hr_ (afd rfl Tryz.underlying133 rfl rfl ti5 (by decide) rfl),hr_ (ald_ rfl ti5 (by decide) (nle rfl) rfl),hr_ (Qku hb21 (Qkv rfl Tryz.underlying209 Qpx (by decide) (by decide) rfl)),hr_ (ald rfl Qpx (by decide) rfl (nle rfl) rfl),hr_ (amv rfl),hr_ (amv rfl),hr_ (ald rfl ti63 (by decide) rfl (nle rfl) rfl),hr_ (Qav (first:=[]) (cap:=[]) (vs:=[.ref 0 7 0 0,I p0,(Qim x14)]) (σr:=[(Qgq p2 p3 p4 p5 p6 p7 p8),(Qfy p9),(Qhv p10),(Qgp p11)]) (σr':=[(Qgq p2 p3 p4 p5 p6 p7 p8),(Qfy p9),(Qhv p10),(Qgp p11)]) (res':=(Zam x23)) [0,1,2,3] rfl Qyr (Qh0 N p0 x14 p2 p3 p4 p5 p6 p7 p8 p9 p10 p11 _ hf22) rfl (Qbv (rnc (Qbo rfl) (rnc (.plain _ nll) (rnc (.plain _ (NLt.agg _ (nlcc (nlcc nl0)))) rn0)))) (slc (Qar (rnc (pld Qai) (rnc (pld Qab) (rnc (Qc7 rfl) (rnc (Qc7 rfl) (rnc (Qc7 rfl) (rnc (pld Qac) (rnc (.plain _ nll) rn0)))))))) (slc (Qbf Qam) (slc (Qbf Qau) (slc (Qbf Qae) Qat)))) (slc (Qar (rnc (pld Qai) (rnc (pld Qab) (rnc (Qdg rfl) (rnc (Qdg rfl) (rnc (Qdg rfl) (rnc (pld Qac) (rnc (.plain _ nll) rn0)))))))) (slc (Qbf Qam) (slc (Qbf Qau) (slc (Qbf Qae) Qat)))) (pld Qac) rfl rfl rfl),hr_ (aio rfl Tryz.underlying31 ti45 (odt hi24a) (odt hi24b) (Nat.zero_add _)),hr_ (ast rfl ti45 (by rfl) (mgt Qak hg26) (nle rfl) (Qgv Qak rfl)),tv⟩
     obtain rfl:=osi h
     exact ⟨_,(mto (n:=43) (l':=[]) (own':=[(Qgq p2 p3 p4 p5 p6 p7 p8),(.own 1 (((p9.set p0.toNat x23):List (List GStream)).map Qak)),(Qhv p10),(Qgp p11)]) [] [0,1,2,3] [(Qgq p2 p3 p4 p5 p6 p7 p8),(.own 1 ((p9.set p0.toNat x23:List (List GStream)).map Qak)),(Qhv p10),(Qgp p11)] hφ0 pn (qb (lc (rnd Qai) (lc (rnd Qab) (lc (.rn (Qa3 rfl)) (lc (.rn (Qa3 rfl)) (lc (.rn (Qa3 rfl)) (lc (rnd Qac) (lc rwl ln))))))) (qc (spr Qam) (qc (spr Qau) (qc (spr Qae) qn))))),Qlo (vs:=[]) tv rfl (NLt.tup _ nl0) (by kernel_rfl) (Qao (Qbi (nlc (NLt.of0 (nld Qai _)) (nlc (NLt.of0 (nld Qab _)) (nlc (NLt.own _ _ _ _ (by decide)) (nlc (NLt.own _ _ _ _ (by decide)) (nlc (NLt.own _ _ _ _ (by decide)) (nlc (NLt.of0 (nld Qac _)) (nlc (NLt.of0 nll) nl0)))))))) (Qao (Qci Qam _) (Qao (Qci Qau _) (Qao (Qci Qae _) Qby))))⟩
    ·refine bfe h (fun hb27 h=>?_) fun hb27 h=>?_
     ·obtain ⟨x29,hf28,h⟩:=bno h
      obtain ⟨hi30,h⟩:=cko h
      obtain ⟨hi30a,hi30b⟩:=Qd0 hi30
      obtain ⟨x31,hg32,h⟩:=bno h
      refine Qme 0 (.own 7 [[(Qsu p2),(Qkw p3),(.own 1 1 (0) (p4)),(.own 2 4 (0) (p5)),(.own 3 1 (0) (p6)),(Qst p7),I p8]]) [mv 0 (.ref 0 7 0 0),⟨[(.tmp 21,.ref 0 7 0 0)],[],.ref 0 7 0 0,[],false⟩,⟨[(.tmp 22,.ref 0 7 0 0)],[],.ref 0 7 0 2,[],false⟩,⟨[(.tmp 23,.ref 0 7 0 2)],[],.ref 0 7 0 2,[],false⟩,⟨[(.tmp 24,.ref 0 7 0 2)],[],(.own 1 1 (0) (p4)),[],false⟩,mv 1 (I p0),mv 0 (.ref 0 7 0 0),⟨[(.tmp 27,.ref 0 7 0 0)],[],.ref 0 7 0 0,[],false⟩,⟨[(.tmp 28,.ref 0 7 0 0)],[],.ref 0 7 0 0,[],false⟩,⟨[(.tmp 29,.ref 0 7 0 0)],[],.ref 0 7 0 1,[],false⟩,⟨[(.tmp 30,.ref 0 7 0 1)],[],(Qkw p3),[],false⟩,mv 1 (I p0),rp [(.tmp 31,(Qkw p3)),(.tmp 32,I p0)] (.dptr (Qad (x16)) 0),mv 33 (.dptr (Qad (x16)) 0),rp [(.tmp 34,(.dptr (Qad (x16)) 0))] (K .u8 (x16.Kind)),rb [(.tmp 7,.ref 5 7 0 0),(.tmp 35,(K .u8 (x16.Kind)))] [(5,Qm0)] (.ref 5 7 0 2),rb [(.tmp 36,.ref 5 7 0 2)] [(5,Qm0)] (.fn (.func 117) [] []),mv 0 (.ref 0 7 0 0),mv 1 (I p0),rb [(.tmp 6,.ref 4 4 0 0)] [(4,(Qrs x14))] (Qim x14),⟨[(.tmp 37,(.fn (.func 117) [] [])),(.tmp 38,.ref 0 7 0 0),(.tmp 39,I p0),(.tmp 40,(Qim x14))],[(0,(Qgq p2 p3 p4 p5 p6 p7 p8)),(1,(Qfy p9)),(2,(Qhv p10)),(3,(Qgp p11))],(Zal x29),[(0,(Qgq p2 p3 p4 p5 p6 p7 p8)),(1,(Qfy p9)),(2,(Qhv p10)),(3,(Qgp p11))],false⟩,rb [(.tmp 25,(.own 1 1 (0) (p4))),(.tmp 26,I p0)] [(1,(Qfy p9))] (.ref 1 1 (p0.toNat) 0),⟨[(.tmp 42,(.ref 1 1 (p0.toNat) 0)),(.tmp 41,(Zal x29))],[(1,(Qfy p9))],.any,[(1,(.own 1 ((p9.set p0.toNat x29:List (List GStream)).map Qak)))],false⟩] (SImp.box ⟨lrf,lrf,lrf,lrf,lrf,lrf,lrf,tv⟩) ⟨tv,tv,tv,tv,tv,tv,tv,tv,tv,tv,tv,tv,tv,tv,tv,tv,tv,tv,tv,tv,⟨(SImp.box ⟨lrf,lrf,lrf,lrf,lrf,lrf,lrf,tv⟩),tv,tv,tv,tv⟩,tv,⟨tv,tv⟩,tv⟩ ?_ ?_
      ·exact ⟨hr_ (amv rfl),sf_ (Qbh rfl),sf_ (afa rfl Tryz.underlying140 rfl rfl ti34 (by decide) rfl),sf_ (afa rfl Tryz.underlying34 rfl rfl ti31 (by decide) rfl),sf_ (ald rfl ti31 (by decide) rfl (nle rfl) rfl),hr_ (amv rfl),hr_ (amv rfl),sf_ (Qbh rfl),sf_ (afa rfl Tryz.underlying140 rfl rfl ti42 (by decide) rfl),sf_ (afa rfl Tryz.underlying42 rfl rfl ti40 (by decide) rfl),sf_ (ald rfl ti40 (by decide) rfl (nle rfl) rfl),hr_ (amv rfl),hr_ (aid rfl Tryz.underlying40 Qk0 rfl rfl hi18 (mgt Qad hj19) rfl),hr_ (afd rfl Tryz.underlying133 rfl rfl ti5 (by decide) rfl),hr_ (ald_ rfl ti5 (by decide) (nle rfl) rfl),hr_ (Qku hb27 (Qkv rfl Tryz.underlying209 Qpx (by decide) (by decide) rfl)),hr_ (ald rfl Qpx (by decide) rfl (nle rfl) rfl),hr_ (amv rfl),hr_ (amv rfl),hr_ (ald rfl ti63 (by decide) rfl (nle rfl) rfl),hr_ (Qav (first:=[]) (cap:=[]) (vs:=[.ref 0 7 0 0,I p0,(Qim x14)]) (σr:=[(Qgq p2 p3 p4 p5 p6 p7 p8),(Qfy p9),(Qhv p10),(Qgp p11)]) (σr':=[(Qgq p2 p3 p4 p5 p6 p7 p8),(Qfy p9),(Qhv p10),(Qgp p11)]) (res':=(Zal x29)) [0,1,2,3] rfl Qyr (Qh0 N p0 x14 p2 p3 p4 p5 p6 p7 p8 p9 p10 p11 _ hf28) rfl (Qbv (rnc (Qbo rfl) (rnc (.plain _ nll) (rnc (.plain _ (NLt.agg _ (nlcc (nlcc nl0)))) rn0)))) (slc (Qar (rnc (pld Qai) (rnc (pld Qab) (rnc (Qc7 rfl) (rnc (Qc7 rfl) (rnc (Qc7 rfl) (rnc (pld Qac) (rnc (.plain _ nll) rn0)))))))) (slc (Qbf Qam) (slc (Qbf Qau) (slc (Qbf Qae) Qat)))) (slc (Qar (rnc (pld Qai) (rnc (pld Qab) (rnc (Qdg rfl) (rnc (Qdg rfl) (rnc (Qdg rfl) (rnc (pld Qac) (rnc (.plain _ nll) rn0)))))))) (slc (Qbf Qam) (slc (Qbf Qau) (slc (Qbf Qae) Qat)))) (pld Qac) rfl rfl rfl),hr_ (aio rfl Tryz.underlying31 ti45 (odt hi30a) (odt hi30b) (Nat.zero_add _)),hr_ (ast rfl ti45 (by rfl) (mgt Qak hg32) (nle rfl) (Qgv Qak rfl)),tv⟩
      obtain rfl:=osi h
      exact ⟨_,(mto (n:=43) (l':=[]) (own':=[(Qgq p2 p3 p4 p5 p6 p7 p8),(.own 1 (((p9.set p0.toNat x29):List (List GStream)).map Qak)),(Qhv p10),(Qgp p11)]) [] [0,1,2,3] [(Qgq p2 p3 p4 p5 p6 p7 p8),(.own 1 ((p9.set p0.toNat x29:List (List GStream)).map Qak)),(Qhv p10),(Qgp p11)] hφ0 pn (qb (lc (rnd Qai) (lc (rnd Qab) (lc (.rn (Qa3 rfl)) (lc (.rn (Qa3 rfl)) (lc (.rn (Qa3 rfl)) (lc (rnd Qac) (lc rwl ln))))))) (qc (spr Qam) (qc (spr Qau) (qc (spr Qae) qn))))),Qlo (vs:=[]) tv rfl (NLt.tup _ nl0) (by kernel_rfl) (Qao (Qbi (nlc (NLt.of0 (nld Qai _)) (nlc (NLt.of0 (nld Qab _)) (nlc (NLt.own _ _ _ _ (by decide)) (nlc (NLt.own _ _ _ _ (by decide)) (nlc (NLt.own _ _ _ _ (by decide)) (nlc (NLt.of0 (nld Qac _)) (nlc (NLt.of0 nll) nl0)))))))) (Qao (Qci Qam _) (Qao (Qci Qau _) (Qao (Qci Qae _) Qby))))⟩
     ·refine bfe h (fun hb33 h=>?_) fun hb33 h=>?_
      ·obtain ⟨x35,hf34,h⟩:=bno h
       obtain ⟨hi36,h⟩:=cko h
       obtain ⟨hi36a,hi36b⟩:=Qd0 hi36
       obtain ⟨x37,hg38,h⟩:=bno h
       refine Qme 0 (.own 7 [[(Qsu p2),(Qkw p3),(.own 1 1 (0) (p4)),(.own 2 4 (0) (p5)),(.own 3 1 (0) (p6)),(Qst p7),I p8]]) [mv 0 (.ref 0 7 0 0),⟨[(.tmp 21,.ref 0 7 0 0)],[],.ref 0 7 0 0,[],false⟩,⟨[(.tmp 22,.ref 0 7 0 0)],[],.ref 0 7 0 2,[],false⟩,⟨[(.tmp 23,.ref 0 7 0 2)],[],.ref 0 7 0 2,[],false⟩,⟨[(.tmp 24,.ref 0 7 0 2)],[],(.own 1 1 (0) (p4)),[],false⟩,mv 1 (I p0),mv 0 (.ref 0 7 0 0),⟨[(.tmp 27,.ref 0 7 0 0)],[],.ref 0 7 0 0,[],false⟩,⟨[(.tmp 28,.ref 0 7 0 0)],[],.ref 0 7 0 0,[],false⟩,⟨[(.tmp 29,.ref 0 7 0 0)],[],.ref 0 7 0 1,[],false⟩,⟨[(.tmp 30,.ref 0 7 0 1)],[],(Qkw p3),[],false⟩,mv 1 (I p0),rp [(.tmp 31,(Qkw p3)),(.tmp 32,I p0)] (.dptr (Qad (x16)) 0),mv 33 (.dptr (Qad (x16)) 0),rp [(.tmp 34,(.dptr (Qad (x16)) 0))] (K .u8 (x16.Kind)),rb [(.tmp 7,.ref 5 7 0 0),(.tmp 35,(K .u8 (x16.Kind)))] [(5,Qm0)] (.ref 5 7 0 3),rb [(.tmp 36,.ref 5 7 0 3)] [(5,Qm0)] (.fn (.func 118) [] []),mv 0 (.ref 0 7 0 0),mv 1 (I p0),rb [(.tmp 6,.ref 4 4 0 0)] [(4,(Qrs x14))] (Qim x14),⟨[(.tmp 37,(.fn (.func 118) [] [])),(.tmp 38,.ref 0 7 0 0),(.tmp 39,I p0),(.tmp 40,(Qim x14))],[(0,(Qgq p2 p3 p4 p5 p6 p7 p8)),(1,(Qfy p9)),(2,(Qhv p10)),(3,(Qgp p11))],(.dat 4 ((x35.1:List GStream).map Qaa)),[(0,(Qgq p2 p3 p4 p5 p6 p7 p8)),(1,(Qfy p9)),(2,(Q41 x35)),(3,(Qgp p11))],false⟩,rb [(.tmp 25,(.own 1 1 (0) (p4))),(.tmp 26,I p0)] [(1,(Qfy p9))] (.ref 1 1 (p0.toNat) 0),⟨[(.tmp 42,(.ref 1 1 (p0.toNat) 0)),(.tmp 41,(.dat 4 ((x35.1:List GStream).map Qaa)))],[(1,(Qfy p9))],.any,[(1,(.own 1 ((p9.set p0.toNat x35.1:List (List GStream)).map Qak)))],false⟩] (SImp.box ⟨lrf,lrf,lrf,lrf,lrf,lrf,lrf,tv⟩) ⟨tv,tv,tv,tv,tv,tv,tv,tv,tv,tv,tv,tv,tv,tv,tv,tv,tv,tv,tv,tv,⟨(SImp.box ⟨lrf,lrf,lrf,lrf,lrf,lrf,lrf,tv⟩),tv,tv,tv,tv⟩,tv,⟨tv,tv⟩,tv⟩ ?_ ?_
       ·exact ⟨hr_ (amv rfl),sf_ (Qbh rfl),sf_ (afa rfl Tryz.underlying140 rfl rfl ti34 (by decide) rfl),sf_ (afa rfl Tryz.underlying34 rfl rfl ti31 (by decide) rfl),sf_ (ald rfl ti31 (by decide) rfl (nle rfl) rfl),hr_ (amv rfl),hr_ (amv rfl),sf_ (Qbh rfl),sf_ (afa rfl Tryz.underlying140 rfl rfl ti42 (by decide) rfl),sf_ (afa rfl Tryz.underlying42 rfl rfl ti40 (by decide) rfl),sf_ (ald rfl ti40 (by decide) rfl (nle rfl) rfl),hr_ (amv rfl),hr_ (aid rfl Tryz.underlying40 Qk0 rfl rfl hi18 (mgt Qad hj19) rfl),hr_ (afd rfl Tryz.underlying133 rfl rfl ti5 (by decide) rfl),hr_ (ald_ rfl ti5 (by decide) (nle rfl) rfl),hr_ (Qku hb33 (Qkv rfl Tryz.underlying209 Qpx (by decide) (by decide) rfl)),hr_ (ald rfl Qpx (by decide) rfl (nle rfl) rfl),hr_ (amv rfl),hr_ (amv rfl),hr_ (ald rfl ti63 (by decide) rfl (nle rfl) rfl),hr_ (Qav (first:=[]) (cap:=[]) (vs:=[.ref 0 7 0 0,I p0,(Qim x14)]) (σr:=[(Qgq p2 p3 p4 p5 p6 p7 p8),(Qfy p9),(Qhv p10),(Qgp p11)]) (σr':=[(Qgq p2 p3 p4 p5 p6 p7 p8),(Qfy p9),(Q41 x35),(Qgp p11)]) (res':=(.dat 4 ((x35.1:List GStream).map Qaa))) [0,1,2,3] rfl Zh1 (Qoi N p0 x14 p2 p3 p4 p5 p6 p7 p8 p9 p10 p11 _ hf34) rfl (Qbv (rnc (Qbo rfl) (rnc (.plain _ nll) (rnc (.plain _ (NLt.agg _ (nlcc (nlcc nl0)))) rn0)))) (slc (Qar (rnc (pld Qai) (rnc (pld Qab) (rnc (Qc7 rfl) (rnc (Qc7 rfl) (rnc (Qc7 rfl) (rnc (pld Qac) (rnc (.plain _ nll) rn0)))))))) (slc (Qbf Qam) (slc (Qbf Qau) (slc (Qbf Qae) Qat)))) (slc (Qar (rnc (pld Qai) (rnc (pld Qab) (rnc (Qdg rfl) (rnc (Qdg rfl) (rnc (Qdg rfl) (rnc (pld Qac) (rnc (.plain _ nll) rn0)))))))) (slc (Qbf Qam) (slc (Qbf Qau) (slc (Qbf Qae) Qat)))) (pld Qac) rfl rfl rfl),hr_ (aio rfl Tryz.underlying31 ti45 (odt hi36a) (odt hi36b) (Nat.zero_add _)),hr_ (ast rfl ti45 (by rfl) (mgt Qak hg38) (nle rfl) (Qgv Qak rfl)),tv⟩
       obtain rfl:=osi h
       exact ⟨_,(mto (n:=43) (l':=[]) (own':=[(Qgq p2 p3 p4 p5 p6 p7 p8),(.own 1 (((p9.set p0.toNat x35.1):List (List GStream)).map Qak)),(Q41 x35),(Qgp p11)]) [] [0,1,2,3] [(Qgq p2 p3 p4 p5 p6 p7 p8),(.own 1 ((p9.set p0.toNat x35.1:List (List GStream)).map Qak)),(Q41 x35),(Qgp p11)] hφ0 pn (qb (lc (rnd Qai) (lc (rnd Qab) (lc (.rn (Qa3 rfl)) (lc (.rn (Qa3 rfl)) (lc (.rn (Qa3 rfl)) (lc (rnd Qac) (lc rwl ln))))))) (qc (spr Qam) (qc (spr Qau) (qc (spr Qae) qn))))),Qlo (vs:=[]) tv rfl (NLt.tup _ nl0) (by kernel_rfl) (Qao (Qbi (nlc (NLt.of0 (nld Qai _)) (nlc (NLt.of0 (nld Qab _)) (nlc (NLt.own _ _ _ _ (by decide)) (nlc (NLt.own _ _ _ _ (by decide)) (nlc (NLt.own _ _ _ _ (by decide)) (nlc (NLt.of0 (nld Qac _)) (nlc (NLt.of0 nll) nl0)))))))) (Qao (Qci Qam _) (Qao (Qci Qau _) (Qao (Qci Qae _) Qby))))⟩
      ·refine bfe h (fun hb39 h=>?_) fun hb39 h=>?_
       ·obtain ⟨x41,hf40,h⟩:=bno h
        obtain ⟨hi42,h⟩:=cko h
        obtain ⟨hi42a,hi42b⟩:=Qd0 hi42
        obtain ⟨x43,hg44,h⟩:=bno h
        refine Qme 0 (.own 7 [[(Qsu p2),(Qkw p3),(.own 1 1 (0) (p4)),(.own 2 4 (0) (p5)),(.own 3 1 (0) (p6)),(Qst p7),.any]]) [mv 0 (.ref 0 7 0 0),⟨[(.tmp 21,.ref 0 7 0 0)],[],.ref 0 7 0 0,[],false⟩,⟨[(.tmp 22,.ref 0 7 0 0)],[],.ref 0 7 0 2,[],false⟩,⟨[(.tmp 23,.ref 0 7 0 2)],[],.ref 0 7 0 2,[],false⟩,⟨[(.tmp 24,.ref 0 7 0 2)],[],(.own 1 1 (0) (p4)),[],false⟩,mv 1 (I p0),mv 0 (.ref 0 7 0 0),⟨[(.tmp 27,.ref 0 7 0 0)],[],.ref 0 7 0 0,[],false⟩,⟨[(.tmp 28,.ref 0 7 0 0)],[],.ref 0 7 0 0,[],false⟩,⟨[(.tmp 29,.ref 0 7 0 0)],[],.ref 0 7 0 1,[],false⟩,⟨[(.tmp 30,.ref 0 7 0 1)],[],(Qkw p3),[],false⟩,mv 1 (I p0),rp [(.tmp 31,(Qkw p3)),(.tmp 32,I p0)] (.dptr (Qad (x16)) 0),mv 33 (.dptr (Qad (x16)) 0),rp [(.tmp 34,(.dptr (Qad (x16)) 0))] (K .u8 (x16.Kind)),rb [(.tmp 7,.ref 5 7 0 0),(.tmp 35,(K .u8 (x16.Kind)))] [(5,Qm0)] (.ref 5 7 0 4),rb [(.tmp 36,.ref 5 7 0 4)] [(5,Qm0)] (.fn (.func 119) [] []),mv 0 (.ref 0 7 0 0),mv 1 (I p0),rb [(.tmp 6,.ref 4 4 0 0)] [(4,(Qrs x14))] (Qim x14),⟨[(.tmp 37,(.fn (.func 119) [] [])),(.tmp 38,.ref 0 7 0 0),(.tmp 39,I p0),(.tmp 40,(Qim x14))],[(0,(Qgq p2 p3 p4 p5 p6 p7 p8)),(1,(Qfy p9)),(2,(Qhv p10)),(3,(Qgp p11))],(.dat 4 ((x41.1:List GStream).map Qaa)),[(0,(Q40 p2 p3 p4 p5 p6 p7 x41)),(1,(Qfy p9)),(2,(Q4z x41)),(3,(Q4y x41))],false⟩,rb [(.tmp 25,(.own 1 1 (0) (p4))),(.tmp 26,I p0)] [(1,(Qfy p9))] (.ref 1 1 (p0.toNat) 0),⟨[(.tmp 42,(.ref 1 1 (p0.toNat) 0)),(.tmp 41,(.dat 4 ((x41.1:List GStream).map Qaa)))],[(1,(Qfy p9))],.any,[(1,(.own 1 ((p9.set p0.toNat x41.1:List (List GStream)).map Qak)))],false⟩] (SImp.box ⟨lrf,lrf,lrf,lrf,lrf,lrf,Less.any,tv⟩) ⟨tv,tv,tv,tv,tv,tv,tv,tv,tv,tv,tv,tv,tv,tv,tv,tv,tv,tv,tv,tv,⟨(SImp.box ⟨lrf,lrf,lrf,lrf,lrf,lrf,Less.any,tv⟩),tv,tv,tv,tv⟩,tv,⟨tv,tv⟩,tv⟩ ?_ ?_
        ·exact ⟨hr_ (amv rfl),sf_ (Qbh rfl),sf_ (afa rfl Tryz.underlying140 rfl rfl ti34 (by decide) rfl),sf_ (afa rfl Tryz.underlying34 rfl rfl ti31 (by decide) rfl),sf_ (ald rfl ti31 (by decide) rfl (nle rfl) rfl),hr_ (amv rfl),hr_ (amv rfl),sf_ (Qbh rfl),sf_ (afa rfl Tryz.underlying140 rfl rfl ti42 (by decide) rfl),sf_ (afa rfl Tryz.underlying42 rfl rfl ti40 (by decide) rfl),sf_ (ald rfl ti40 (by decide) rfl (nle rfl) rfl),hr_ (amv rfl),hr_ (aid rfl Tryz.underlying40 Qk0 rfl rfl hi18 (mgt Qad hj19) rfl),hr_ (afd rfl Tryz.underlying133 rfl rfl ti5 (by decide) rfl),hr_ (ald_ rfl ti5 (by decide) (nle rfl) rfl),hr_ (Qku hb39 (Qkv rfl Tryz.underlying209 Qpx (by decide) (by decide) rfl)),hr_ (ald rfl Qpx (by decide) rfl (nle rfl) rfl),hr_ (amv rfl),hr_ (amv rfl),hr_ (ald rfl ti63 (by decide) rfl (nle rfl) rfl),hr_ (Qav (first:=[]) (cap:=[]) (vs:=[.ref 0 7 0 0,I p0,(Qim x14)]) (σr:=[(Qgq p2 p3 p4 p5 p6 p7 p8),(Qfy p9),(Qhv p10),(Qgp p11)]) (σr':=[(Q40 p2 p3 p4 p5 p6 p7 x41),(Qfy p9),(Q4z x41),(Q4y x41)]) (res':=(.dat 4 ((x41.1:List GStream).map Qaa))) [0,1,2,3] rfl Zh0 (Ql3 N p0 x14 p2 p3 p4 p5 p6 p7 p8 p9 p10 p11 _ hf40) rfl (Qbv (rnc (Qbo rfl) (rnc (.plain _ nll) (rnc (.plain _ (NLt.agg _ (nlcc (nlcc nl0)))) rn0)))) (slc (Qar (rnc (pld Qai) (rnc (pld Qab) (rnc (Qc7 rfl) (rnc (Qc7 rfl) (rnc (Qc7 rfl) (rnc (pld Qac) (rnc (.plain _ nll) rn0)))))))) (slc (Qbf Qam) (slc (Qbf Qau) (slc (Qbf Qae) Qat)))) (slc (Qar (rnc (pld Qai) (rnc (pld Qab) (rnc (Qdg rfl) (rnc (Qdg rfl) (rnc (Qdg rfl) (rnc (pld Qac) (rnc (.plain _ nll) rn0)))))))) (slc (Qbf Qam) (slc (Qbf Qau) (slc (Qbf Qae) Qat)))) (pld Qac) rfl rfl rfl),hr_ (aio rfl Tryz.underlying31 ti45 (odt hi42a) (odt hi42b) (Nat.zero_add _)),hr_ (ast rfl ti45 (by rfl) (mgt Qak hg44) (nle rfl) (Qgv Qak rfl)),tv⟩
        obtain rfl:=osi h
        exact ⟨_,(mto (n:=43) (l':=[]) (own':=[(Q40 p2 p3 p4 p5 p6 p7 x41),(.own 1 (((p9.set p0.toNat x41.1):List (List GStream)).map Qak)),(Q4z x41),(Q4y x41)]) [] [0,1,2,3] [(Q40 p2 p3 p4 p5 p6 p7 x41),(.own 1 ((p9.set p0.toNat x41.1:List (List GStream)).map Qak)),(Q4z x41),(Q4y x41)] hφ0 pn (qb (lc (rnd Qai) (lc (rnd Qab) (lc (.rn (Qa3 rfl)) (lc (.rn (Qa3 rfl)) (lc (.rn (Qa3 rfl)) (lc (rnd Qac) (lc rwl ln))))))) (qc (spr Qam) (qc (spr Qau) (qc (spr Qae) qn))))),Qlo (vs:=[]) tv rfl (NLt.tup _ nl0) (by kernel_rfl) (Qao (Qbi (nlc (NLt.of0 (nld Qai _)) (nlc (NLt.of0 (nld Qab _)) (nlc (NLt.own _ _ _ _ (by decide)) (nlc (NLt.own _ _ _ _ (by decide)) (nlc (NLt.own _ _ _ _ (by decide)) (nlc (NLt.of0 (nld Qac _)) (nlc (NLt.of0 nll) nl0)))))))) (Qao (Qci Qam _) (Qao (Qci Qau _) (Qao (Qci Qae _) Qby))))⟩
       ·refine bfe h (fun hb45 h=>?_) fun hb45 h=>?_
        ·obtain ⟨x47,hf46,h⟩:=bno h
         obtain ⟨hi48,h⟩:=cko h
         obtain ⟨hi48a,hi48b⟩:=Qd0 hi48
         obtain ⟨x49,hg50,h⟩:=bno h
         refine Qme 0 (.own 7 [[(Qsu p2),(Qkw p3),(.own 1 1 (0) (p4)),(.own 2 4 (0) (p5)),(.own 3 1 (0) (p6)),(Qst p7),I p8]]) [mv 0 (.ref 0 7 0 0),⟨[(.tmp 21,.ref 0 7 0 0)],[],.ref 0 7 0 0,[],false⟩,⟨[(.tmp 22,.ref 0 7 0 0)],[],.ref 0 7 0 2,[],false⟩,⟨[(.tmp 23,.ref 0 7 0 2)],[],.ref 0 7 0 2,[],false⟩,⟨[(.tmp 24,.ref 0 7 0 2)],[],(.own 1 1 (0) (p4)),[],false⟩,mv 1 (I p0),mv 0 (.ref 0 7 0 0),⟨[(.tmp 27,.ref 0 7 0 0)],[],.ref 0 7 0 0,[],false⟩,⟨[(.tmp 28,.ref 0 7 0 0)],[],.ref 0 7 0 0,[],false⟩,⟨[(.tmp 29,.ref 0 7 0 0)],[],.ref 0 7 0 1,[],false⟩,⟨[(.tmp 30,.ref 0 7 0 1)],[],(Qkw p3),[],false⟩,mv 1 (I p0),rp [(.tmp 31,(Qkw p3)),(.tmp 32,I p0)] (.dptr (Qad (x16)) 0),mv 33 (.dptr (Qad (x16)) 0),rp [(.tmp 34,(.dptr (Qad (x16)) 0))] (K .u8 (x16.Kind)),rb [(.tmp 7,.ref 5 7 0 0),(.tmp 35,(K .u8 (x16.Kind)))] [(5,Qm0)] (.ref 5 7 0 5),rb [(.tmp 36,.ref 5 7 0 5)] [(5,Qm0)] (.fn (.func 120) [] []),mv 0 (.ref 0 7 0 0),mv 1 (I p0),rb [(.tmp 6,.ref 4 4 0 0)] [(4,(Qrs x14))] (Qim x14),⟨[(.tmp 37,(.fn (.func 120) [] [])),(.tmp 38,.ref 0 7 0 0),(.tmp 39,I p0),(.tmp 40,(Qim x14))],[(0,(Qgq p2 p3 p4 p5 p6 p7 p8)),(1,(Qfy p9)),(2,(Qhv p10)),(3,(Qgp p11))],(.dat 4 ((x47.1:List GStream).map Qaa)),[(0,(Qgq p2 p3 p4 p5 p6 p7 p8)),(1,(Qfy p9)),(2,(Q4x x47)),(3,(Qgp p11))],false⟩,rb [(.tmp 25,(.own 1 1 (0) (p4))),(.tmp 26,I p0)] [(1,(Qfy p9))] (.ref 1 1 (p0.toNat) 0),⟨[(.tmp 42,(.ref 1 1 (p0.toNat) 0)),(.tmp 41,(.dat 4 ((x47.1:List GStream).map Qaa)))],[(1,(Qfy p9))],.any,[(1,(.own 1 ((p9.set p0.toNat x47.1:List (List GStream)).map Qak)))],false⟩] (SImp.box ⟨lrf,lrf,lrf,lrf,lrf,lrf,lrf,tv⟩) ⟨tv,tv,tv,tv,tv,tv,tv,tv,tv,tv,tv,tv,tv,tv,tv,tv,tv,tv,tv,tv,⟨(SImp.box ⟨lrf,lrf,lrf,lrf,lrf,lrf,lrf,tv⟩),tv,tv,tv,tv⟩,tv,⟨tv,tv⟩,tv⟩ ?_ ?_
         ·exact ⟨hr_ (amv rfl),sf_ (Qbh rfl),sf_ (afa rfl Tryz.underlying140 rfl rfl ti34 (by decide) rfl),sf_ (afa rfl Tryz.underlying34 rfl rfl ti31 (by decide) rfl),sf_ (ald rfl ti31 (by decide) rfl (nle rfl) rfl),hr_ (amv rfl),hr_ (amv rfl),sf_ (Qbh rfl),sf_ (afa rfl Tryz.underlying140 rfl rfl ti42 (by decide) rfl),sf_ (afa rfl Tryz.underlying42 rfl rfl ti40 (by decide) rfl),sf_ (ald rfl ti40 (by decide) rfl (nle rfl) rfl),hr_ (amv rfl),hr_ (aid rfl Tryz.underlying40 Qk0 rfl rfl hi18 (mgt Qad hj19) rfl),hr_ (afd rfl Tryz.underlying133 rfl rfl ti5 (by decide) rfl),hr_ (ald_ rfl ti5 (by decide) (nle rfl) rfl),hr_ (Qku hb45 (Qkv rfl Tryz.underlying209 Qpx (by decide) (by decide) rfl)),hr_ (ald rfl Qpx (by decide) rfl (nle rfl) rfl),hr_ (amv rfl),hr_ (amv rfl),hr_ (ald rfl ti63 (by decide) rfl (nle rfl) rfl),hr_ (Qav (first:=[]) (cap:=[]) (vs:=[.ref 0 7 0 0,I p0,(Qim x14)]) (σr:=[(Qgq p2 p3 p4 p5 p6 p7 p8),(Qfy p9),(Qhv p10),(Qgp p11)]) (σr':=[(Qgq p2 p3 p4 p5 p6 p7 p8),(Qfy p9),(Q4x x47),(Qgp p11)]) (res':=(.dat 4 ((x47.1:List GStream).map Qaa))) [0,1,2,3] rfl Zhz (Qno N p0 x14 p2 p3 p4 p5 p6 p7 p8 p9 p10 p11 _ hf46) rfl (Qbv (rnc (Qbo rfl) (rnc (.plain _ nll) (rnc (.plain _ (NLt.agg _ (nlcc (nlcc nl0)))) rn0)))) (slc (Qar (rnc (pld Qai) (rnc (pld Qab) (rnc (Qc7 rfl) (rnc (Qc7 rfl) (rnc (Qc7 rfl) (rnc (pld Qac) (rnc (.plain _ nll) rn0)))))))) (slc (Qbf Qam) (slc (Qbf Qau) (slc (Qbf Qae) Qat)))) (slc (Qar (rnc (pld Qai) (rnc (pld Qab) (rnc (Qdg rfl) (rnc (Qdg rfl) (rnc (Qdg rfl) (rnc (pld Qac) (rnc (.plain _ nll) rn0)))))))) (slc (Qbf Qam) (slc (Qbf Qau) (slc (Qbf Qae) Qat)))) (pld Qac) rfl rfl rfl),hr_ (aio rfl Tryz.underlying31 ti45 (odt hi48a) (odt hi48b) (Nat.zero_add _)),hr_ (ast rfl ti45 (by rfl) (mgt Qak hg50) (nle rfl) (Qgv Qak rfl)),tv⟩
         obtain rfl:=osi h
         exact ⟨_,(mto (n:=43) (l':=[]) (own':=[(Qgq p2 p3 p4 p5 p6 p7 p8),(.own 1 (((p9.set p0.toNat x47.1):List (List GStream)).map Qak)),(Q4x x47),(Qgp p11)]) [] [0,1,2,3] [(Qgq p2 p3 p4 p5 p6 p7 p8),(.own 1 ((p9.set p0.toNat x47.1:List (List GStream)).map Qak)),(Q4x x47),(Qgp p11)] hφ0 pn (qb (lc (rnd Qai) (lc (rnd Qab) (lc (.rn (Qa3 rfl)) (lc (.rn (Qa3 rfl)) (lc (.rn (Qa3 rfl)) (lc (rnd Qac) (lc rwl ln))))))) (qc (spr Qam) (qc (spr Qau) (qc (spr Qae) qn))))),Qlo (vs:=[]) tv rfl (NLt.tup _ nl0) (by kernel_rfl) (Qao (Qbi (nlc (NLt.of0 (nld Qai _)) (nlc (NLt.of0 (nld Qab _)) (nlc (NLt.own _ _ _ _ (by decide)) (nlc (NLt.own _ _ _ _ (by decide)) (nlc (NLt.own _ _ _ _ (by decide)) (nlc (NLt.of0 (nld Qac _)) (nlc (NLt.of0 nll) nl0)))))))) (Qao (Qci Qam _) (Qao (Qci Qau _) (Qao (Qci Qae _) Qby))))⟩
        ·refine bfe h (fun hb51 h=>?_) fun hb51 h=>?_
         ·obtain ⟨x53,hf52,h⟩:=bno h
          obtain ⟨hi54,h⟩:=cko h
          obtain ⟨hi54a,hi54b⟩:=Qd0 hi54
          obtain ⟨x55,hg56,h⟩:=bno h
          refine Qme 0 (.own 7 [[(Qsu p2),(Qkw p3),(.own 1 1 (0) (p4)),(.own 2 4 (0) (p5)),(.own 3 1 (0) (p6)),(Qst p7),I p8]]) [mv 0 (.ref 0 7 0 0),⟨[(.tmp 21,.ref 0 7 0 0)],[],.ref 0 7 0 0,[],false⟩,⟨[(.tmp 22,.ref 0 7 0 0)],[],.ref 0 7 0 2,[],false⟩,⟨[(.tmp 23,.ref 0 7 0 2)],[],.ref 0 7 0 2,[],false⟩,⟨[(.tmp 24,.ref 0 7 0 2)],[],(.own 1 1 (0) (p4)),[],false⟩,mv 1 (I p0),mv 0 (.ref 0 7 0 0),⟨[(.tmp 27,.ref 0 7 0 0)],[],.ref 0 7 0 0,[],false⟩,⟨[(.tmp 28,.ref 0 7 0 0)],[],.ref 0 7 0 0,[],false⟩,⟨[(.tmp 29,.ref 0 7 0 0)],[],.ref 0 7 0 1,[],false⟩,⟨[(.tmp 30,.ref 0 7 0 1)],[],(Qkw p3),[],false⟩,mv 1 (I p0),rp [(.tmp 31,(Qkw p3)),(.tmp 32,I p0)] (.dptr (Qad (x16)) 0),mv 33 (.dptr (Qad (x16)) 0),rp [(.tmp 34,(.dptr (Qad (x16)) 0))] (K .u8 (x16.Kind)),rb [(.tmp 7,.ref 5 7 0 0),(.tmp 35,(K .u8 (x16.Kind)))] [(5,Qm0)] (.ref 5 7 0 6),rb [(.tmp 36,.ref 5 7 0 6)] [(5,Qm0)] (.fn (.func 117) [] []),mv 0 (.ref 0 7 0 0),mv 1 (I p0),rb [(.tmp 6,.ref 4 4 0 0)] [(4,(Qrs x14))] (Qim x14),⟨[(.tmp 37,(.fn (.func 117) [] [])),(.tmp 38,.ref 0 7 0 0),(.tmp 39,I p0),(.tmp 40,(Qim x14))],[(0,(Qgq p2 p3 p4 p5 p6 p7 p8)),(1,(Qfy p9)),(2,(Qhv p10)),(3,(Qgp p11))],(Zak x53),[(0,(Qgq p2 p3 p4 p5 p6 p7 p8)),(1,(Qfy p9)),(2,(Qhv p10)),(3,(Qgp p11))],false⟩,rb [(.tmp 25,(.own 1 1 (0) (p4))),(.tmp 26,I p0)] [(1,(Qfy p9))] (.ref 1 1 (p0.toNat) 0),⟨[(.tmp 42,(.ref 1 1 (p0.toNat) 0)),(.tmp 41,(Zak x53))],[(1,(Qfy p9))],.any,[(1,(.own 1 ((p9.set p0.toNat x53:List (List GStream)).map Qak)))],false⟩] (SImp.box ⟨lrf,lrf,lrf,lrf,lrf,lrf,lrf,tv⟩) ⟨tv,tv,tv,tv,tv,tv,tv,tv,tv,tv,tv,tv,tv,tv,tv,tv,tv,tv,tv,tv,⟨(SImp.box ⟨lrf,lrf,lrf,lrf,lrf,lrf,lrf,tv⟩),tv,tv,tv,tv⟩,tv,⟨tv,tv⟩,tv⟩ ?_ ?_
          ·exact ⟨hr_ (amv rfl),sf_ (Qbh rfl),sf_ (afa rfl Tryz.underlying140 rfl rfl ti34 (by decide) rfl),sf_ (afa rfl Tryz.underlying34 rfl rfl ti31 (by decide) rfl),sf_ (ald rfl ti31 (by decide) rfl (nle rfl) rfl),hr_ (amv rfl),hr_ (amv rfl),sf_ (Qbh rfl),sf_ (afa rfl Tryz.underlying140 rfl rfl ti42 (by decide) rfl),sf_ (afa rfl Tryz.underlying42 rfl rfl ti40 (by decide) rfl),sf_ (ald rfl ti40 (by decide) rfl (nle rfl) rfl),hr_ (amv rfl),hr_ (aid rfl Tryz.underlying40 Qk0 rfl rfl hi18 (mgt Qad hj19) rfl),hr_ (afd rfl Tryz.underlying133 rfl rfl ti5 (by decide) rfl),hr_ (ald_ rfl ti5 (by decide) (nle rfl) rfl),hr_ (Qku hb51 (Qkv rfl Tryz.underlying209 Qpx (by decide) (by decide) rfl)),hr_ (ald rfl Qpx (by decide) rfl (nle rfl) rfl),hr_ (amv rfl),hr_ (amv rfl),hr_ (ald rfl ti63 (by decide) rfl (nle rfl) rfl),hr_ (Qav (first:=[]) (cap:=[]) (vs:=[.ref 0 7 0 0,I p0,(Qim x14)]) (σr:=[(Qgq p2 p3 p4 p5 p6 p7 p8),(Qfy p9),(Qhv p10),(Qgp p11)]) (σr':=[(Qgq p2 p3 p4 p5 p6 p7 p8),(Qfy p9),(Qhv p10),(Qgp p11)]) (res':=(Zak x53)) [0,1,2,3] rfl Qyr (Qh0 N p0 x14 p2 p3 p4 p5 p6 p7 p8 p9 p10 p11 _ hf52) rfl (Qbv (rnc (Qbo rfl) (rnc (.plain _ nll) (rnc (.plain _ (NLt.agg _ (nlcc (nlcc nl0)))) rn0)))) (slc (Qar (rnc (pld Qai) (rnc (pld Qab) (rnc (Qc7 rfl) (rnc (Qc7 rfl) (rnc (Qc7 rfl) (rnc (pld Qac) (rnc (.plain _ nll) rn0)))))))) (slc (Qbf Qam) (slc (Qbf Qau) (slc (Qbf Qae) Qat)))) (slc (Qar (rnc (pld Qai) (rnc (pld Qab) (rnc (Qdg rfl) (rnc (Qdg rfl) (rnc (Qdg rfl) (rnc (pld Qac) (rnc (.plain _ nll) rn0)))))))) (slc (Qbf Qam) (slc (Qbf Qau) (slc (Qbf Qae) Qat)))) (pld Qac) rfl rfl rfl),hr_ (aio rfl Tryz.underlying31 ti45 (odt hi54a) (odt hi54b) (Nat.zero_add _)),hr_ (ast rfl ti45 (by rfl) (mgt Qak hg56) (nle rfl) (Qgv Qak rfl)),tv⟩
          obtain rfl:=osi h
          exact ⟨_,(mto (n:=43) (l':=[]) (own':=[(Qgq p2 p3 p4 p5 p6 p7 p8),(.own 1 (((p9.set p0.toNat x53):List (List GStream)).map Qak)),(Qhv p10),(Qgp p11)]) [] [0,1,2,3] [(Qgq p2 p3 p4 p5 p6 p7 p8),(.own 1 ((p9.set p0.toNat x53:List (List GStream)).map Qak)),(Qhv p10),(Qgp p11)] hφ0 pn (qb (lc (rnd Qai) (lc (rnd Qab) (lc (.rn (Qa3 rfl)) (lc (.rn (Qa3 rfl)) (lc (.rn (Qa3 rfl)) (lc (rnd Qac) (lc rwl ln))))))) (qc (spr Qam) (qc (spr Qau) (qc (spr Qae) qn))))),Qlo (vs:=[]) tv rfl (NLt.tup _ nl0) (by kernel_rfl) (Qao (Qbi (nlc (NLt.of0 (nld Qai _)) (nlc (NLt.of0 (nld Qab _)) (nlc (NLt.own _ _ _ _ (by decide)) (nlc (NLt.own _ _ _ _ (by decide)) (nlc (NLt.own _ _ _ _ (by decide)) (nlc (NLt.of0 (nld Qac _)) (nlc (NLt.of0 nll) nl0)))))))) (Qao (Qci Qam _) (Qao (Qci Qau _) (Qao (Qci Qae _) Qby))))⟩
         ·cases h
  ·skip
   refine wxz ?_
   refine bfe h (fun hc57 h=>?_) fun hc57 h=>?_
   ·refine wft hc57<|Zim 3 [mv 1 (I p0),rp [(.tmp 17,I p0)] (.agg [I p0]),rp [(.tmp 18,(.agg [I p0]))] (.lit (.iface 182 (.agg #[(.int .i64 (p0))]))),⟨[(.tmp 19,(.lit (.iface 182 (.agg #[(.int .i64 (p0))]))))],[],.any,[],false⟩] (by exact ⟨by kernel_rfl,by kernel_rfl⟩) rfl (by kernel_rfl) rfl (Q3d rfl) (⟨fun _ _=>amv rfl,fun _ _=>Qaz (vs:=[I p0]) rfl Zq0 Zpp rfl (by rfl) rfl,fun _ _=>awk (rd':=[(.tmp 18,.lit (.agg #[(.int .i64 (p0))]))]) ⟨rfl,(Less.lits [(.int .i64 (p0))]),tv⟩ (Q36 rfl Tryz.underlying182),fun _ h=>absurd rfl h,tv⟩) ?_
    obtain rfl:=osi h
    exact rfl
   ·exact wfn hc57<|Qan<|thn<|⟨(),h,(mto (n:=43) [(0,.ref 0 7 0 0),(1,I p0),(6,.ref 7 4 0 0)] [0,1,2,3,7] [(Qgq p2 p3 p4 p5 p6 p7 p8),(Qfy p9),(Qhv p10),(Qgp p11),(Qrs x14)] hφ0 (prr (pw (prr pn))) (qb (lc (rnd Qai) (lc (rnd Qab) (lc (.rn (Qa3 rfl)) (lc (.rn (Qa3 rfl)) (lc (.rn (Qa3 rfl)) (lc (rnd Qac) (lc rwl ln))))))) (qc (spr Qam) (qc (spr Qau) (qc (spr Qae) (qb (lcc (lcc ln)) qn))))))⟩
theorem Ql5 (N:Nat) (p0:Int) (p1:Int) (p2:(List GRow)) (p3:(List GElement)) (p4:Nat) (p5:Nat) (p6:Nat) (p7:(List GStream)) (p8:Int) (p9:(List (List GStream))) (p10:(List GLost)) (p11:(List Int)) (r:(Int×(List (List GStream))×(List GLost)×(List Int))) (h:Qct N p0 p1 p2 p3 p4 p5 p6 p7 p8 p9 p10 p11=some (.inl r)):Spec Tryz.prog 97 [.ref 0 7 0 0,I p0,I p1] [(Qgq p2 p3 p4 p5 p6 p7 p8),(Qfy p9),(Qhv p10),(Qgp p11)] (.tup []) [(.own 7 [[(.dat 5 ((p2:List GRow).map Qa4)),(.dat 7 ((p3:List GElement).map Qad)),(.own 1 1 (0) (p4)),(.own 2 4 (0) (p5)),(.own 3 1 (0) (p6)),(.dat 4 ((p7:List GStream).map Qaa)),I r.1]]),(.own 1 ((r.2.1:List (List GStream)).map Qak)),(.own 4 ((r.2.2.1:List GLost).map Qa0)),(.own 1 ((r.2.2.2:List Int).map Qal))]:=Qiz N p0 p1 p2 p3 p4 p5 p6 p7 p8 p9 p10 p11 _ h
theorem Ql4 (N:Nat) (p0:Int) (p1:Int) (p2:(List GRow)) (p3:(List GElement)) (p4:Nat) (p5:Nat) (p6:Nat) (p7:(List GStream)) (p8:Int) (p9:(List (List GStream))) (p10:(List GLost)) (p11:(List Int)) (r:Int) (h:Qct N p0 p1 p2 p3 p4 p5 p6 p7 p8 p9 p10 p11=some (.inr r)):Zix Tryz.prog 97 [.ref 0 7 0 0,I p0,I p1] [(Qgq p2 p3 p4 p5 p6 p7 p8),(Qfy p9),(Qhv p10),(Qgp p11)] (.iface 182 (.agg #[(.int .i64 (r))])):=Qiz N p0 p1 p2 p3 p4 p5 p6 p7 p8 p9 p10 p11 _ h
def Zou:Slot:=.own 1 [[(.lit (.pointer none))]]
theorem Qp9 (v0:Int):DPan Tryz.prog 96 [1,1] (.iface 182 (.agg #[(.int .i64 (v0))])) [[(.lit (.pointer none))],[(I (v0))]]:=by
  refine Qr0 (t:=5) (args:=[.ref 0 1 0 0,.ref 1 1 0 0]) Tryz.func96 rfl (fun _ _=>rfl) (by kernel_rfl) Zmt 2 (nle rfl) (fun X φ0 w0 hφ0=>?_)
  refine Qb0<|Qaj ?_
  refine wx tbk [(0,rp [(.tmp 5,(.lit (.iface 182 (.agg #[(.int .i64 (v0))])))),(.const .nilIface,(.lit .nilIface))] (B false))] ⟨Q35 rfl Tryz.underlying20,tv⟩<|wfa ?_
  exact wx tbk [(0,rp [(.tmp 5,(.lit (.iface 182 (.agg #[(.int .i64 (v0))]))))] (.tup [(.agg [I v0]),B true]))] ⟨Q31 (r:=.lit (.tuple #[(.agg #[(.int .i64 (v0))]),(.bool true)])) (Less.trans Zdf (Less.tup ⟨Zdg (l:=[(.int .i64 (v0))]),lrf,tv⟩)) (Qyy rfl Tryz.underlying182),tv⟩<|wtr<|wxz<|wxe1<|bln<|⟨_,(mto (n:=13) (l':=[]) (own':=[Zou,(.own 1 [[I v0]])]) [] [0,1] [Zou,(.own 1 [[I v0]])] hφ0 pn (qb (lc rwl ln) (qb (lc rwl ln) qn))),Qdf (vs:=[]) tv rfl (NLt.tup _ nl0) (by kernel_rfl) (Qao (Qbi (nlt0 (nlc nll nl0))) (Qao (Qbi (nlt0 (nlc nll nl0))) Qby))⟩
end Go.Proofs.YtmbhnllcfmiajaaGreat
