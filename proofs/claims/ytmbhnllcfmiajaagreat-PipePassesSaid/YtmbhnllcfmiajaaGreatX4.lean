/-
  Functions of the program: what they compute, as plain functions, and that they do. No conditions.
-/
import Derived.Test.YtmbhnllcfmiajaaGreatX3
namespace Go.Proofs.YtmbhnllcfmiajaaGreat
set_option maxRecDepth 100000
set_option maxHeartbeats 4000000
open Go.RowKit
def Qe4 (_N:Nat) (p0:(List Int)):Option Unit:=
  chk (!p0.isEmpty)<|
  chk (!p0.isEmpty)<|
  chk (decide ((0+p0.length) * 8≤140737488355328))<|
  some ()
def Zgy (p0:(List Int)):AV:=.dat 1 ((p0:List Int).map Qak)
def Zbd (p0:(List Int)):Slot:=.own 1 ((p0:List Int).map Qak)
def Zk3:AV:=.acc 0 3 1 ((([]:List Int):List Int).map Qak)
theorem Qj8 (N:Nat) (p0:(List Int)) (r:Unit) (h:Qe4 N p0=some r):Spec Tryz.prog 95 [(Zgy p0)] [] (.own 0 1 (0) (p0.length)) [(Zbd p0)]:=by
  refine Qah Tryz.func95 rfl 1 (nle rfl) (fun X φ0 w0 hφ0 hd0=>?_)
  unfold Qe4 at h
  refine Qbx<|wxz<|wsq ?_
  obtain ⟨hz1,h⟩:=cko h
  refine wx tbk [(1,rp [(.tmp 3,(Zgy p0)),((.const (.slice none 0 0)),nilS)] (B false))] ⟨Q0m rfl Tryz.underlying27 rfl (Qj2 hz1),tv⟩<|wfa<|Qan<|thn ?_
  obtain ⟨ha3,h⟩:=cko h
  obtain ⟨ha2,h⟩:=cko h
  refine wx tbk [(0,⟨[],[(0,.unused)],Zk3,[(0,.tok)],false⟩),(2,⟨[(.tmp 5,Zk3),(.tmp 6,(Zgy p0))],[(0,.tok),(1,.unused)],(.own 1 1 (0) (p0.length)),[(0,.dead),(1,(Zbd p0))],false⟩)] ⟨Qh6 rfl Tryz.underlying27 ti3 tz3,Qt7 rfl Tryz.underlying27 te3 (Base.acc _ _) rfl rfl (Qj2 ha3) (Ql9 Qak Qpb _) (Q3b Qak ha2) (Q3a Qak ha2 (by decide)) (List.length_map _),tv⟩ ?_
  refine wmr (mto (n:=8) (l':=[(2,(.own 0 1 (0) (p0.length)))]) (own':=[(Zbd p0)]) [(2,(.own 1 1 (0) (p0.length)))] [1] [(Zbd p0)] hφ0 (pc (.rn (Qa5 rfl)) pn) (qc (spr Qaf) qn))<|Qae ?_
  obtain rfl:=osi h
  exact ⟨_,Mor.rfl,Qc8 (vs:=[(.own 0 1 (0) (p0.length))]) ⟨rot,tv⟩ rfl (NLt.own _ _ _ _ (by decide)) (by kernel_rfl) (Qao (Qcj Qaf _) Qbs)⟩
theorem Qo9:DRet Tryz.prog 96 [1,1]:=by
  refine Qpy (t:=5) (args:=[.any,.any]) Tryz.func96 rfl (fun _ _=>rfl) (by kernel_rfl) Ziq 0 (nle rfl) (fun X φ0 w0 hφ0=>?_)
  exact Qaj<|wx tbk [(0,rp [(.tmp 5,(.lit .nilIface)),(.const .nilIface,(.lit .nilIface))] (B true))] ⟨Qya rfl Tryz.underlying20,tv⟩<|wtr<|wxz1<|bln<|fend ⟨[],tv,rfl⟩ (.tup _ nl0)
def Qff (_N:Nat) (p0:GElement) (p1:Int):Option Int:=
  chk (p0.Narrow != 0)<|
  (some (if (w64 (p0.Wide - (w64 (p1.tdiv p0.Narrow))))>0 then w64 (p0.Wide - (w64 (p1.tdiv p0.Narrow))) else 0)).bind fun x2=>
  some x2
theorem Qh8 (N:Nat) (p0:GElement) (p1:Int) (r:Int) (h:Qff N p0 p1=some r):Spec Tryz.prog 74 [(.agg (Qab p0)),(I p1)] [] (I r) []:=by
  refine Qah Tryz.func74 rfl 0 (nle rfl) (fun X φ0 w0 hφ0 hd0=>?_)
  unfold Qff at h
  refine wxz ?_
  obtain ⟨hz1,h⟩:=cko h
  obtain ⟨x2,hl3,h⟩:=bno h
  refine wxd tbk [(5,rp [(.tmp 7,I p1),(.tmp 9,I p0.Narrow)] (I (w64 (p1.tdiv p0.Narrow)))),(7,rp [ci 0,(.tmp 11,(I (w64 (p0.Wide - (w64 (p1.tdiv p0.Narrow))))))] (I x2))] ⟨Qon rfl (Qpm hz1),Qjd hl3 (Qoo rfl),tv⟩<|Qae ?_
  obtain rfl:=osi h
  exact fend ⟨[I x2],⟨rot,tv⟩,rfl⟩ nll
def Qf8 (_N:Nat) (_p0:Int) (_p1:(List GRow)) (_p2:(List GElement)) (_p3:Nat) (_p4:Nat) (_p5:Nat) (_p6:(List GStream)) (_p7:Int) (_p8:(List (List GStream))) (_p9:(List GLost)) (_p10:(List Int)):Option Unit:=
  some ()
def Zbc (p1:(List GRow)) (p2:(List GElement)) (p3:Nat) (p4:Nat) (p5:Nat) (p6:(List GStream)) (p7:Int):Slot:=.own 7 [[(.dat 5 ((p1:List GRow).map Qa1)),(.dat 7 ((p2:List GElement).map Qab)),(.own 1 1 (0) (p3)),(.own 2 4 (0) (p4)),(.own 3 1 (0) (p5)),(.dat 4 ((p6:List GStream).map Qac)),(I (p7))]]
def Zbb (p8:(List (List GStream))):Slot:=.own 1 ((p8:List (List GStream)).map Qam)
def Zba (p9:(List GLost)):Slot:=.own 4 ((p9:List GLost).map Qa7)
def Za9 (p10:(List Int)):Slot:=.own 1 ((p10:List Int).map Qak)
def Q6z:AV:=.fn (.func 133) [] [(.ref 4 1 (0) 0),(.ref 5 1 (0) 0)]
def Zgv:Slot:=.own 1 [[(.ref 0 7 (0) 0)]]
theorem Qmm (N:Nat) (p0:Int) (p1:(List GRow)) (p2:(List GElement)) (p3:Nat) (p4:Nat) (p5:Nat) (p6:(List GStream)) (p7:Int) (p8:(List (List GStream))) (p9:(List GLost)) (p10:(List Int)) (r:Unit) (h:Qf8 N p0 p1 p2 p3 p4 p5 p6 p7 p8 p9 p10=some r):Spec Tryz.prog 116 [(.ref 0 7 (0) 0),(I (p0))] [(Zbc p1 p2 p3 p4 p5 p6 p7),(Zbb p8),(Zba p9),(Za9 p10)] Q6z [(Zbc p1 p2 p3 p4 p5 p6 p7),(Zbb p8),(Zba p9),(Za9 p10),Zgv,(.own 1 [[(I (p0))]])]:=by
  refine Qah Tryz.func116 rfl 6 (nle rfl) (fun X φ0 w0 hφ0 hd0=>?_)
  unfold Qf8 at h
  refine Qbx<|wxz ?_
  refine wx tbk [(0,rp [(.tmp 2,.ref 4 1 0 0),(.tmp 3,.ref 5 1 0 0)] Q6z)] ⟨Qfl (fs:=[]) (cs:=[.ref 4 1 0 0,.ref 5 1 0 0]) rfl rfl rfl rfl,tv⟩ ?_
  refine wmr (mto (n:=6) (l':=[(4,Q6z)]) (own':=[(Zbc p1 p2 p3 p4 p5 p6 p7),(Zbb p8),(Zba p9),(Za9 p10),Zgv,(.own 1 [[I p0]])]) [(4,Q6z)] [0,1,2,3,4,5] [(Zbc p1 p2 p3 p4 p5 p6 p7),(Zbb p8),(Zba p9),(Za9 p10),Zgv,(.own 1 [[I p0]])] hφ0 (pc (.rn (Qbn rn0 (rnc (rqr rfl) (rnc (rqr rfl) rn0)))) pn) (qb (lc (rnd Qai) (lc (rnd Qaa) (lc (.rn (Qa5 rfl)) (lc (.rn (Qa5 rfl)) (lc (.rn (Qa5 rfl)) (lc (rnd Qad) (lc rwl ln))))))) (qc (spr Qal) (qc (spr Qaw) (qc (spr Qaf) (qb (lc (.rn (rqr rfl)) ln) (qb (lc rwl ln) qn)))))))<|Qae ?_
  obtain rfl:=osi h
  exact ⟨_,Mor.rfl,Qc8 (vs:=[Q6z]) ⟨rot,tv⟩ rfl (NLt.fn _ _ _ nl0 (nlc (NLt.ref _ _ _ _ (by decide)) (nlc (NLt.ref _ _ _ _ (by decide)) nl0))) (by kernel_rfl) (Qao (Qbc (nlc (NLt.of0 (nld Qai _)) (nlc (NLt.of0 (nld Qaa _)) (nlc (NLt.own _ _ _ _ (by decide)) (nlc (NLt.own _ _ _ _ (by decide)) (nlc (NLt.own _ _ _ _ (by decide)) (nlc (NLt.of0 (nld Qad _)) (nlc (NLt.of0 nll) nl0)))))))) (Qao (Qcj Qal _) (Qao (Qcj Qaw _) (Qao (Qcj Qaf _) (Qao (Qbc (nlc (NLt.ref _ _ _ _ (by decide)) nl0)) (Qao (Qbc (nlc (NLt.of0 nll) nl0)) Qbs))))))⟩
def Qce (N:Nat) (p0:(List Int)) (k1:Unit→Option Int) (p1:Int):Nat→Int→Option Int
  | 0,_=>none
  | n4+1,y2=>
    bif (decide (y2<(p0.length:Int))) then
     (getI p0 y2).bind fun x6=>
     bif (p1==x6) then
      some y2
     else
      Qce N p0 k1 p1 n4 (w64 (y2+1))
    else
     k1 ()
def Qeo (N:Nat) (p0:(List Int)) (p1:Int):Option Int:=
  Qbp (fun _=>
    some (-1)) fun k1:Unit→Option Int=>
  Qce N p0 k1 p1 N 0
def Q3m (p0:(List Int)):AV:=.dat 1 ((p0:List Int).map Qak)
theorem Qhg (N:Nat) (p0:(List Int)) (p1:Int) (r:Int) (h:Qeo N p0 p1=some r):Spec Tryz.prog 134 [(.dat 1 (p0.map Qak)),(I p1)] [] (I r) []:=by
  refine Qah Tryz.func134 rfl 0 (nle rfl) (fun X φ0 w0 hφ0 hd0=>?_)
  unfold Qeo at h
  refine wxz ?_
  obtain ⟨k1,hk_k1,h⟩:=jko h
  refine wjn (τ:=Unit) (fun t=>k1 t=some r) (fun _=>⟨mk 19 [],[]⟩) (fun t h=>?_) ?_
  ·subst hk_k1
   refine wxz<|Qae ?_
   obtain rfl:=osi h
   exact fend ⟨[(I ((-1)))],⟨rot,tv⟩,rfl⟩ nll
  ·skip
   refine wx tbk [(1,rp [(.tmp 6,(Q3m p0))] (I ((p0.length:Int))))] ⟨alm (c:=Qak) (l:=p0) (aln rfl Tryz.underlying27 rfl),tv⟩<|Qaj ?_
   refine wmr (mto (n:=19) (l':=[(0,(Q3m p0)),(1,I p1),(7,(I ((p0.length:Int)))),(8,I 0)]) (own':=[]) [(0,(Q3m p0)),(1,I p1),(7,(I ((p0.length:Int)))),(8,I 0)] [] [] hφ0 (pc (rnd Qaf) (pw (pw (pw pn)))) qn) ?_
   refine Qcb (τ:=Int) (fun n t=>Qce N p0 k1 p1 n t=some r) (fun y2=>⟨mk 19 [(0,(Q3m p0)),(1,I p1),(7,(I ((p0.length:Int)))),(8,I y2)],[]⟩) (fun t h=>by rw [Qce] at h; cases h) (fun n4 ih y2 h=>?_) N (0) h
   rw [Qce] at h
   skip
   refine wxz<|wsq ?_
   refine bfe h (fun hc5 h=>?_) fun hc5 h=>?_
   ·refine wft hc5<|Qan<|thn<|wsq<|Qaj<|wxz ?_
    obtain ⟨x6,hg7,h⟩:=bno h
    obtain ⟨hi8,hj9⟩:=gsm hg7
    refine wx tbk [(3,rp [(.tmp 12,(Q3m p0)),(.tmp 13,I y2)] (.dptr (Qak (x6)) 0))] ⟨aid rfl Tryz.underlying27 ti3 rfl rfl hi8 (mgt Qak hj9) rfl,tv⟩ ?_
    refine bfe h (fun hc10 h=>?_) fun hc10 h=>?_
    ·refine wft hc10<|wxz<|Qae<|Qap<|Qag<|Qag<|Qap<|Qag ?_
     obtain rfl:=osi h
     exact fend ⟨[I y2],⟨rot,tv⟩,rfl⟩ nll
    ·exact wfn hc10<|Qan<|bln<|thn<|wxz1<|thn<|arm (mto (n:=19) [(0,(Q3m p0)),(1,I p1),(7,(I ((p0.length:Int)))),(8,(I (w64 (y2+1))))] [] [] hφ0 (pc (rnd Qaf) (pw (pw (pw pn)))) qn) (ih (w64 (y2+1)) h)
   ·exact wfn hc5<|Qbi<|Qax<|Qax<|Qbh rfl<|thn<|⟨(),h,(mto (n:=19) [] [] [] hφ0 pn qn)⟩
def Qc0 (N:Nat) (x1:GElement) (p2:(List (List GStream))):Nat→Int→Option (List GStream)
  | 0,_=>none
  | n19+1,y15=>
    bif (decide (y15<(x1.From.length:Int))) then
     (getI x1.From y15).bind fun x21=>
     (getI p2 x21.Element).bind fun x25=>
     (getI x25 x21.Outlet).bind fun x29=>
     yld x29<|
     Qc0 N x1 p2 n19 (w64 (y15+1))
    else
     some ([])
def Qf7 (N:Nat) (p0:(List GRow)) (p1:(List GElement)) (p2:(List (List GStream))) (_p3:(List GLost)) (_p4:(List Int)) (p5:(List GStream)) (_p6:Int) (p7:Int):Option (List GStream):=
  (getI p1 p7).bind fun x1=>
  bif (x1.Kind==1) then
   (Qhh N (⟨p0,p1⟩:GNet) 1).bind fun x7=>
   (Qeo N x7 p7).bind fun x9=>
   (getI p5 x9).bind fun x10=>
   yld x10<|
   some ([])
  else
   Qc0 N x1 p2 N 0
def Qfz (p0:(List GRow)):AV:=.dat 5 ((p0:List GRow).map Qa1)
def Qfm (p1:(List GElement)):AV:=.dat 7 ((p1:List GElement).map Qab)
def Qfk (p2:(List (List GStream))):AV:=.dat 1 ((p2:List (List GStream)).map Qam)
def Qf3 (p3:(List GLost)):AV:=.dat 4 ((p3:List GLost).map Qa7)
def Qf2 (p4:(List Int)):AV:=.dat 1 ((p4:List Int).map Qak)
def Qfj (p5:(List GStream)):AV:=.dat 4 ((p5:List GStream).map Qac)
def Za8 (p0:(List GRow)) (p1:(List GElement)):AV:=.agg [(Qfz p0),(Qfm p1)]
def Za7 (x7:(List Int)):AV:=.dat 1 ((x7:List Int).map Qak)
def Za6 (x10:GStream):AV:=.agg [(I (x10.Mass)),(I (x10.Heat)),(I (x10.Silica)),(I (x10.Gas))]
def Q3n (x1:GElement):AV:=.dat 2 ((x1.From:List GPort).map Qar)
def Qpq (x21:GPort):Slot:=.own 2 [[(I (x21.Element)),(I (x21.Outlet))]]
def Q1b (x25:(List GStream)):AV:=.dat 4 ((x25:List GStream).map Qac)
def Q1a (x29:GStream):AV:=.agg [(I (x29.Mass)),(I (x29.Heat)),(I (x29.Silica)),(I (x29.Gas))]
theorem Qml (N:Nat) (p0:(List GRow)) (p1:(List GElement)) (p2:(List (List GStream))) (p3:(List GLost)) (p4:(List Int)) (p5:(List GStream)) (p6:Int) (p7:Int) (r:(List GStream)) (h:Qf7 N p0 p1 p2 p3 p4 p5 p6 p7=some r):Qss Tryz.prog 133 [(.dptr [(.dptr [(Qfz p0),(Qfm p1),(Qfk p2),(Qf3 p3),(Qf2 p4),(Qfj p5),(I (p6))] 0)] 0),(.dptr [(I (p7))] 0)] [] (fun x=>[(.agg #[(.int .i64 (x.Mass)),(.int .i64 (x.Heat)),(.int .i64 (x.Silica)),(.int .i64 (x.Gas))])]) r:=by
  refine Qth Tryz.func133 rfl rfl (fun X φ0 w0 l J hφ0 hy=>?_)
  unfold Qf7 at h
  refine wsq ?_
  obtain ⟨x1,hg2,h⟩:=bno h
  obtain ⟨hi3,hj4⟩:=gsm hg2
  refine wxd tbk [(6,rp [(.tmp 10,(Qfm p1)),(.tmp 11,I p7)] (.dptr (Qab (x1)) 0))] ⟨aid rfl Tryz.underlying40 Qju rfl rfl hi3 (mgt Qab hj4) rfl,tv⟩ ?_
  refine bfe h (fun hc5 h=>?_) fun hc5 h=>?_
  ·refine wft hc5 ?_
   obtain ⟨x7,hf6,h⟩:=bno h
   obtain ⟨x9,hf8,h⟩:=bno h
   obtain ⟨x10,hg11,h⟩:=bno h
   obtain ⟨hi12,hj13⟩:=gsm hg11
   obtain ⟨q14,hy_,hq_⟩:=Qy9 h
   clear h
   subst hq_
   have h:=hy_
   clear hy_
   refine Qx6 14 [mv 0 (.lit (.func (.yield l) #[] #[])),rp [(.tmp 1,(.dptr [(.dptr [(Qfz p0),(Qfm p1),(Qfk p2),(Qf3 p3),(Qf2 p4),(Qfj p5),I p6] 0)] 0))] (.dptr [(Qfz p0),(Qfm p1),(Qfk p2),(Qf3 p3),(Qf2 p4),(Qfj p5),I p6] 0),mv 17 (.dptr [(Qfz p0),(Qfm p1),(Qfk p2),(Qf3 p3),(Qf2 p4),(Qfj p5),I p6] 0),rp [(.tmp 18,(.dptr [(Qfz p0),(Qfm p1),(Qfk p2),(Qf3 p3),(Qf2 p4),(Qfj p5),I p6] 0))] (.dptr [(Qfz p0),(Qfm p1),(Qfk p2),(Qf3 p3),(Qf2 p4),(Qfj p5),I p6] 5),rp [(.tmp 19,(.dptr [(Qfz p0),(Qfm p1),(Qfk p2),(Qf3 p3),(Qf2 p4),(Qfj p5),I p6] 5))] (Qfj p5),rp [(.tmp 1,(.dptr [(.dptr [(Qfz p0),(Qfm p1),(Qfk p2),(Qf3 p3),(Qf2 p4),(Qfj p5),I p6] 0)] 0))] (.dptr [(Qfz p0),(Qfm p1),(Qfk p2),(Qf3 p3),(Qf2 p4),(Qfj p5),I p6] 0),mv 21 (.dptr [(Qfz p0),(Qfm p1),(Qfk p2),(Qf3 p3),(Qf2 p4),(Qfj p5),I p6] 0),mv 22 (.dptr [(Qfz p0),(Qfm p1),(Qfk p2),(Qf3 p3),(Qf2 p4),(Qfj p5),I p6] 0),rp [(.tmp 23,(.dptr [(Qfz p0),(Qfm p1),(Qfk p2),(Qf3 p3),(Qf2 p4),(Qfj p5),I p6] 0))] (Za8 p0 p1),rp [fu 67,(.tmp 24,(Za8 p0 p1)),(.const (.int .u8 1),(K .u8 (1)))] (Za7 x7),rp [(.tmp 2,(.dptr [I p7] 0))] (I p7),rp [fu 134,(.tmp 25,(Za7 x7)),(.tmp 26,I p7)] (I x9),rp [(.tmp 20,(Qfj p5)),(.tmp 27,I x9)] (.dptr (Qac (x10)) 0),rp [(.tmp 28,(.dptr (Qac (x10)) 0))] (Za6 x10),⟨[(.tmp 16,(.lit (.func (.yield l) #[] #[]))),(.tmp 29,(Za6 x10))],[(0,(.far (J (some (x10::q14)))))],B true,[(0,(.far (J (some (q14)))))],false⟩] [mv 0 (.lit (.func (.yield l) #[] #[])),rp [(.tmp 1,(.dptr [(.dptr [(Qfz p0),(Qfm p1),(Qfk p2),(Qf3 p3),(Qf2 p4),(Qfj p5),I p6] 0)] 0))] (.dptr [(Qfz p0),(Qfm p1),(Qfk p2),(Qf3 p3),(Qf2 p4),(Qfj p5),I p6] 0),mv 17 (.dptr [(Qfz p0),(Qfm p1),(Qfk p2),(Qf3 p3),(Qf2 p4),(Qfj p5),I p6] 0),rp [(.tmp 18,(.dptr [(Qfz p0),(Qfm p1),(Qfk p2),(Qf3 p3),(Qf2 p4),(Qfj p5),I p6] 0))] (.dptr [(Qfz p0),(Qfm p1),(Qfk p2),(Qf3 p3),(Qf2 p4),(Qfj p5),I p6] 5),rp [(.tmp 19,(.dptr [(Qfz p0),(Qfm p1),(Qfk p2),(Qf3 p3),(Qf2 p4),(Qfj p5),I p6] 5))] (Qfj p5),rp [(.tmp 1,(.dptr [(.dptr [(Qfz p0),(Qfm p1),(Qfk p2),(Qf3 p3),(Qf2 p4),(Qfj p5),I p6] 0)] 0))] (.dptr [(Qfz p0),(Qfm p1),(Qfk p2),(Qf3 p3),(Qf2 p4),(Qfj p5),I p6] 0),mv 21 (.dptr [(Qfz p0),(Qfm p1),(Qfk p2),(Qf3 p3),(Qf2 p4),(Qfj p5),I p6] 0),mv 22 (.dptr [(Qfz p0),(Qfm p1),(Qfk p2),(Qf3 p3),(Qf2 p4),(Qfj p5),I p6] 0),rp [(.tmp 23,(.dptr [(Qfz p0),(Qfm p1),(Qfk p2),(Qf3 p3),(Qf2 p4),(Qfj p5),I p6] 0))] (Za8 p0 p1),rp [fu 67,(.tmp 24,(Za8 p0 p1)),(.const (.int .u8 1),(K .u8 (1)))] (Za7 x7),rp [(.tmp 2,(.dptr [I p7] 0))] (I p7),rp [fu 134,(.tmp 25,(Za7 x7)),(.tmp 26,I p7)] (I x9),rp [(.tmp 20,(Qfj p5)),(.tmp 27,I x9)] (.dptr (Qac (x10)) 0),rp [(.tmp 28,(.dptr (Qac (x10)) 0))] (Za6 x10),⟨[(.tmp 16,(.lit (.func (.yield l) #[] #[]))),(.tmp 29,(Za6 x10))],[(0,(.far (J (some (x10::q14)))))],B false,[(0,(.far (J none)))],false⟩] (by exact ⟨by kernel_rfl,by kernel_rfl⟩) (by exact ⟨by kernel_rfl,by kernel_rfl⟩) rfl rfl rfl rfl (Qnf (rd':=(.tmp 16,.lit (.func (.yield l) #[] #[]))::[(.tmp 29,.lit (.agg #[(.int .i64 (x10.Mass)),(.int .i64 (x10.Heat)),(.int .i64 (x10.Silica)),(.int .i64 (x10.Gas))]))]) ⟨rfl,lrf,rfl,(Less.lits [(.int .i64 (x10.Mass)),(.int .i64 (x10.Heat)),(.int .i64 (x10.Silica)),(.int .i64 (x10.Gas))]),tv⟩ (Ql2 (x:=x10) (rest:=q14) rfl rfl hy rfl)) (⟨fun _ _=>amv rfl,fun _ _=>ald_ rfl Qsy (by decide) (nle rfl) rfl,fun _ _=>anc rfl rfl,fun _ _=>afd rfl Tryz.underlying140 rfl rfl ti45 (by decide) rfl,fun _ _=>ald_ rfl ti45 (by decide) (nle rfl) rfl,fun _ _=>ald_ rfl Qsy (by decide) (nle rfl) rfl,fun _ _=>anc rfl rfl,fun _ _=>afd rfl Tryz.underlying140 rfl rfl ti42 (by decide) rfl,fun _ _=>ald_ rfl ti42 (by decide) (nle rfl) rfl,fun _ _=>apv Qz6 (Qj1 N (⟨p0,p1⟩:GNet) 1 _ hf6) (nlc (NLt.agg _ (nlc (nld Qai _) (nlc (nld Qaa _) nl0))) (nlc nll nl0)) (nld Qaf _),fun _ _=>ald_ rfl ti3 (by decide) (nle rfl) rfl,fun _ _=>apv Q2w (Qhg N x7 p7 _ hf8) (nlc (nld Qaf _) (nlc nll nl0)) nll,fun _ _=>aid rfl Tryz.underlying45 ti63 rfl rfl hi12 (mgt Qac hj13) rfl,fun _ _=>ald_ rfl ti63 (by decide) (nle rfl) rfl,fun _ h=>absurd rfl h,tv⟩) (⟨fun _ _=>amv rfl,fun _ _=>ald_ rfl Qsy (by decide) (nle rfl) rfl,fun _ _=>anc rfl rfl,fun _ _=>afd rfl Tryz.underlying140 rfl rfl ti45 (by decide) rfl,fun _ _=>ald_ rfl ti45 (by decide) (nle rfl) rfl,fun _ _=>ald_ rfl Qsy (by decide) (nle rfl) rfl,fun _ _=>anc rfl rfl,fun _ _=>afd rfl Tryz.underlying140 rfl rfl ti42 (by decide) rfl,fun _ _=>ald_ rfl ti42 (by decide) (nle rfl) rfl,fun _ _=>apv Qz6 (Qj1 N (⟨p0,p1⟩:GNet) 1 _ hf6) (nlc (NLt.agg _ (nlc (nld Qai _) (nlc (nld Qaa _) nl0))) (nlc nll nl0)) (nld Qaf _),fun _ _=>ald_ rfl ti3 (by decide) (nle rfl) rfl,fun _ _=>apv Q2w (Qhg N x7 p7 _ hf8) (nlc (nld Qaf _) (nlc nll nl0)) nll,fun _ _=>aid rfl Tryz.underlying45 ti63 rfl rfl hi12 (mgt Qac hj13) rfl,fun _ _=>ald_ rfl ti63 (by decide) (nle rfl) rfl,fun _ h=>absurd rfl h,tv⟩) ?_ ?_
   ·skip
    refine Qae<|Qag ?_
    obtain rfl:=osi h
    exact Or.inl rfl
   ·clear h
    exact Qae<|Qag<|Or.inr (by kernel_rfl)
  ·refine wfn hc5<|Qan<|thn ?_
   refine wxd tbk [(6,rp [(.tmp 35,(Qfm p1)),(.tmp 36,I p7)] (.dptr (Qab (x1)) 0)),(9,rp [(.tmp 39,(Q3n x1))] (I ((x1.From.length:Int))))] ⟨aid rfl Tryz.underlying40 Qju rfl rfl hi3 (mgt Qab hj4) rfl,alm (c:=Qar) (l:=x1.From) (aln rfl Tryz.underlying116 rfl),tv⟩<|Qaj ?_
   refine wmr (mto (n:=62) (l':=[(0,(.lit (.func (.yield l) #[] #[]))),(1,(.dptr [(.dptr [(Qfz p0),(Qfm p1),(Qfk p2),(Qf3 p3),(Qf2 p4),(Qfj p5),I p6] 0)] 0)),(39,(Q3n x1)),(40,(I ((x1.From.length:Int)))),(41,I 0)]) (own':=[(.far (J (some (r))))]) [(0,(.lit (.func (.yield l) #[] #[]))),(1,(.dptr [(.dptr [(Qfz p0),(Qfm p1),(Qfk p2),(Qf3 p3),(Qf2 p4),(Qfj p5),I p6] 0)] 0)),(39,(Q3n x1)),(40,(I ((x1.From.length:Int)))),(41,I 0)] [0] [(.far (J (some (r))))] hφ0 (pw (pc (.rn (.plain _ (NLt.dptr _ _ (nlc (NLt.dptr _ _ (nlc (nld Qai _) (nlc (nld Qaa _) (nlc (nld Qal _) (nlc (nld Qaw _) (nlc (nld Qaf _) (nlc (nld Qad _) (nlc nll nl0)))))))) nl0)))) (pc (rnd Qav) (pw (pw pn))))) (qc (.far _) qn)) ?_
   refine Qcb (τ:=(Int)×List GStream) (fun n t=>Qc0 N x1 p2 n t.1=some t.2) (fun ⟨y15,q16⟩=>⟨mk 62 [(0,(.lit (.func (.yield l) #[] #[]))),(1,(.dptr [(.dptr [(Qfz p0),(Qfm p1),(Qfk p2),(Qf3 p3),(Qf2 p4),(Qfj p5),I p6] 0)] 0)),(39,(Q3n x1)),(40,(I ((x1.From.length:Int)))),(41,I y15)],[(.far (J (some (q16))))]⟩) (fun t h=>by rw [Qc0] at h; cases h) (fun n19 ih t h=>?_) N ((0),r) h
   obtain ⟨y15,q16⟩:=t
   rw [Qc0] at h
   try dsimp only at h
   refine wxz<|wsq ?_
   refine bfe h (fun hc20 h=>?_) fun hc20 h=>?_
   ·refine wft hc20<|Qan<|thn<|wsq<|Qaj ?_
    obtain ⟨x21,hg22,h⟩:=bno h
    obtain ⟨hi23,hj24⟩:=gsm hg22
    refine wx tbk [(0,rp [(.tmp 39,(Q3n x1)),(.tmp 41,I y15)] (.dptr (Qar (x21)) 0))] ⟨aid rfl Tryz.underlying116 Qo1 rfl rfl hi23 (mgt Qar hj24) rfl,tv⟩ ?_
    obtain ⟨x25,hg26,h⟩:=bno h
    obtain ⟨hi27,hj28⟩:=gsm hg26
    obtain ⟨x29,hg30,h⟩:=bno h
    obtain ⟨hi31,hj32⟩:=gsm hg30
    obtain ⟨q33,hy_,hq_⟩:=Qy9 h
    clear h
    subst hq_
    have h:=hy_
    clear hy_
    refine Qx6 14 [mv 0 (.lit (.func (.yield l) #[] #[])),rp [(.tmp 1,(.dptr [(.dptr [(Qfz p0),(Qfm p1),(Qfk p2),(Qf3 p3),(Qf2 p4),(Qfj p5),I p6] 0)] 0))] (.dptr [(Qfz p0),(Qfm p1),(Qfk p2),(Qf3 p3),(Qf2 p4),(Qfj p5),I p6] 0),mv 46 (.dptr [(Qfz p0),(Qfm p1),(Qfk p2),(Qf3 p3),(Qf2 p4),(Qfj p5),I p6] 0),rp [(.tmp 47,(.dptr [(Qfz p0),(Qfm p1),(Qfk p2),(Qf3 p3),(Qf2 p4),(Qfj p5),I p6] 0))] (.dptr [(Qfz p0),(Qfm p1),(Qfk p2),(Qf3 p3),(Qf2 p4),(Qfj p5),I p6] 2),mv 48 (.dptr [(Qfz p0),(Qfm p1),(Qfk p2),(Qf3 p3),(Qf2 p4),(Qfj p5),I p6] 2),rp [(.tmp 49,(.dptr [(Qfz p0),(Qfm p1),(Qfk p2),(Qf3 p3),(Qf2 p4),(Qfj p5),I p6] 2))] (Qfk p2),rb [(.tmp 5,.ref 1 2 0 0)] [(1,(Qpq x21))] (.ref 1 2 0 0),rb [(.tmp 51,.ref 1 2 0 0)] [(1,(Qpq x21))] (I x21.Element),rp [(.tmp 50,(Qfk p2)),(.tmp 52,I x21.Element)] (.dptr (Qam (x25)) 0),rp [(.tmp 53,(.dptr (Qam (x25)) 0))] (Q1b x25),rb [(.tmp 5,.ref 1 2 0 0)] [(1,(Qpq x21))] (.ref 1 2 0 1),rb [(.tmp 55,.ref 1 2 0 1)] [(1,(Qpq x21))] (I x21.Outlet),rp [(.tmp 54,(Q1b x25)),(.tmp 56,I x21.Outlet)] (.dptr (Qac (x29)) 0),rp [(.tmp 57,(.dptr (Qac (x29)) 0))] (Q1a x29),⟨[(.tmp 45,(.lit (.func (.yield l) #[] #[]))),(.tmp 58,(Q1a x29))],[(0,(.far (J (some (x29::q33)))))],B true,[(0,(.far (J (some (q33)))))],false⟩,rp [(.tmp 59,B true)] (B false)] [mv 0 (.lit (.func (.yield l) #[] #[])),rp [(.tmp 1,(.dptr [(.dptr [(Qfz p0),(Qfm p1),(Qfk p2),(Qf3 p3),(Qf2 p4),(Qfj p5),I p6] 0)] 0))] (.dptr [(Qfz p0),(Qfm p1),(Qfk p2),(Qf3 p3),(Qf2 p4),(Qfj p5),I p6] 0),mv 46 (.dptr [(Qfz p0),(Qfm p1),(Qfk p2),(Qf3 p3),(Qf2 p4),(Qfj p5),I p6] 0),rp [(.tmp 47,(.dptr [(Qfz p0),(Qfm p1),(Qfk p2),(Qf3 p3),(Qf2 p4),(Qfj p5),I p6] 0))] (.dptr [(Qfz p0),(Qfm p1),(Qfk p2),(Qf3 p3),(Qf2 p4),(Qfj p5),I p6] 2),mv 48 (.dptr [(Qfz p0),(Qfm p1),(Qfk p2),(Qf3 p3),(Qf2 p4),(Qfj p5),I p6] 2),rp [(.tmp 49,(.dptr [(Qfz p0),(Qfm p1),(Qfk p2),(Qf3 p3),(Qf2 p4),(Qfj p5),I p6] 2))] (Qfk p2),rb [(.tmp 5,.ref 1 2 0 0)] [(1,(Qpq x21))] (.ref 1 2 0 0),rb [(.tmp 51,.ref 1 2 0 0)] [(1,(Qpq x21))] (I x21.Element),rp [(.tmp 50,(Qfk p2)),(.tmp 52,I x21.Element)] (.dptr (Qam (x25)) 0),rp [(.tmp 53,(.dptr (Qam (x25)) 0))] (Q1b x25),rb [(.tmp 5,.ref 1 2 0 0)] [(1,(Qpq x21))] (.ref 1 2 0 1),rb [(.tmp 55,.ref 1 2 0 1)] [(1,(Qpq x21))] (I x21.Outlet),rp [(.tmp 54,(Q1b x25)),(.tmp 56,I x21.Outlet)] (.dptr (Qac (x29)) 0),rp [(.tmp 57,(.dptr (Qac (x29)) 0))] (Q1a x29),⟨[(.tmp 45,(.lit (.func (.yield l) #[] #[]))),(.tmp 58,(Q1a x29))],[(0,(.far (J (some (x29::q33)))))],B false,[(0,(.far (J none)))],false⟩,rp [(.tmp 59,B false)] (B true)] (by exact ⟨by kernel_rfl,by kernel_rfl⟩) (by exact ⟨by kernel_rfl,by kernel_rfl⟩) rfl rfl rfl rfl (Qnf (rd':=(.tmp 45,.lit (.func (.yield l) #[] #[]))::[(.tmp 58,.lit (.agg #[(.int .i64 (x29.Mass)),(.int .i64 (x29.Heat)),(.int .i64 (x29.Silica)),(.int .i64 (x29.Gas))]))]) ⟨rfl,lrf,rfl,(Less.lits [(.int .i64 (x29.Mass)),(.int .i64 (x29.Heat)),(.int .i64 (x29.Silica)),(.int .i64 (x29.Gas))]),tv⟩ (Ql2 (x:=x29) (rest:=q33) rfl rfl hy rfl)) (⟨fun _ _=>amv rfl,fun _ _=>ald_ rfl Qsy (by decide) (nle rfl) rfl,fun _ _=>anc rfl rfl,fun _ _=>afd rfl Tryz.underlying140 rfl rfl ti34 (by decide) rfl,fun _ _=>afd rfl Tryz.underlying34 rfl rfl ti31 (by decide) rfl,fun _ _=>ald_ rfl ti31 (by decide) (nle rfl) rfl,fun _ _=>afa rfl Tryz.underlying120 rfl rfl ti3 (by decide) rfl,fun _ _=>ald rfl ti3 (by decide) rfl (nle rfl) rfl,fun _ _=>aid rfl Tryz.underlying31 ti45 rfl rfl hi27 (mgt Qam hj28) rfl,fun _ _=>ald_ rfl ti45 (by decide) (nle rfl) rfl,fun _ _=>afa rfl Tryz.underlying120 rfl rfl ti3 (by decide) rfl,fun _ _=>ald rfl ti3 (by decide) rfl (nle rfl) rfl,fun _ _=>aid rfl Tryz.underlying45 ti63 rfl rfl hi31 (mgt Qac hj32) rfl,fun _ _=>ald_ rfl ti63 (by decide) (nle rfl) rfl,fun _ h=>absurd rfl h,fun _ _=>Qj5 rfl,tv⟩) (⟨fun _ _=>amv rfl,fun _ _=>ald_ rfl Qsy (by decide) (nle rfl) rfl,fun _ _=>anc rfl rfl,fun _ _=>afd rfl Tryz.underlying140 rfl rfl ti34 (by decide) rfl,fun _ _=>afd rfl Tryz.underlying34 rfl rfl ti31 (by decide) rfl,fun _ _=>ald_ rfl ti31 (by decide) (nle rfl) rfl,fun _ _=>afa rfl Tryz.underlying120 rfl rfl ti3 (by decide) rfl,fun _ _=>ald rfl ti3 (by decide) rfl (nle rfl) rfl,fun _ _=>aid rfl Tryz.underlying31 ti45 rfl rfl hi27 (mgt Qam hj28) rfl,fun _ _=>ald_ rfl ti45 (by decide) (nle rfl) rfl,fun _ _=>afa rfl Tryz.underlying120 rfl rfl ti3 (by decide) rfl,fun _ _=>ald rfl ti3 (by decide) rfl (nle rfl) rfl,fun _ _=>aid rfl Tryz.underlying45 ti63 rfl rfl hi31 (mgt Qac hj32) rfl,fun _ _=>ald_ rfl ti63 (by decide) (nle rfl) rfl,fun _ h=>absurd rfl h,fun _ _=>Qj5 rfl,tv⟩) ?_ ?_
    ·skip
     exact wfa<|Qan<|bln<|thn<|wxz1<|thn<|arm (mto (n:=62) [(0,(.lit (.func (.yield l) #[] #[]))),(1,(.dptr [(.dptr [(Qfz p0),(Qfm p1),(Qfk p2),(Qf3 p3),(Qf2 p4),(Qfj p5),I p6] 0)] 0)),(39,(Q3n x1)),(40,(I ((x1.From.length:Int)))),(41,(I (w64 (y15+1))))] [0] [(.far (J (some (q33))))] hφ0 (pw (pc (.rn (.plain _ (NLt.dptr _ _ (nlc (NLt.dptr _ _ (nlc (nld Qai _) (nlc (nld Qaa _) (nlc (nld Qal _) (nlc (nld Qaw _) (nlc (nld Qaf _) (nlc (nld Qad _) (nlc nll nl0)))))))) nl0)))) (pc (rnd Qav) (pw (pw pn))))) (qc (.far _) qn)) (ih ((w64 (y15+1)),q33) h)
    ·clear h
     exact wtr<|Qae<|Qap<|Qag<|Qag<|Qap<|Or.inr (by kernel_rfl)
   ·refine wfn hc20<|Qbi<|Qax<|Qax<|Qbh rfl ?_
    obtain rfl:=osi h
    exact Or.inl rfl
def Qau (N:Nat) (k3:(List GStream)→Option (List GStream)):(List GStream)→(List GStream)→Option (List GStream)
  | [],y6=>
    k3 (y6)
  | x9::q10,y6=>
    chk (decide ((y6.length+([x9]).length) * 32≤140737488355328))<|
    Qau N k3 q10 (y6++([x9]))
def Qb7 (N:Nat) (p0:(List GRow)) (p1:(List GElement)) (p2:(List (List GStream))) (p3:(List GLost)) (p4:(List Int)) (p5:(List GStream)) (p6:Int) (p7:Int):Option (List GStream):=
  Qbp (fun y2=>
    some y2) fun k3:(List GStream)→Option (List GStream)=>
  (Qf7 N p0 p1 p2 p3 p4 p5 p6 p7).bind fun q4=>
  Qau N k3 q4 ([])
def Zgt (p0:(List GRow)) (p1:(List GElement)) (p2:(List (List GStream))) (p3:(List GLost)) (p4:(List Int)) (p5:(List GStream)) (p6:Int) (p7:Int):AV:=.fn (.func 133) [] [(.dptr [(.dptr [(.dat 5 ((p0:List GRow).map Qa1)),(.dat 7 ((p1:List GElement).map Qab)),(.dat 1 ((p2:List (List GStream)).map Qam)),(.dat 4 ((p3:List GLost).map Qa7)),(.dat 1 ((p4:List Int).map Qak)),(.dat 4 ((p5:List GStream).map Qac)),(I (p6))] 0)] 0),(.dptr [(I (p7))] 0)]
def Q6x (y6:(List GStream)):AV:=.acc 1 63 4 ((y6:List GStream).map Qac)
def Zfb (x9:GStream):AV:=.agg [(I (x9.Mass)),(I (x9.Heat)),(I (x9.Silica)),(I (x9.Gas))]
theorem Qfs (N:Nat) (p0:(List GRow)) (p1:(List GElement)) (p2:(List (List GStream))) (p3:(List GLost)) (p4:(List Int)) (p5:(List GStream)) (p6:Int) (p7:Int) (r:(List GStream)) (h:Qb7 N p0 p1 p2 p3 p4 p5 p6 p7=some r):Spec Tryz.prog 132 [nilS,(Zgt p0 p1 p2 p3 p4 p5 p6 p7)] [] (.acc 0 63 4 ((r:List GStream).map Qac)) [.tok]:=by
  refine Qah Tryz.func132 rfl 1 (nle rfl) (fun X φ0 w0 hφ0 hd0=>?_)
  unfold Qb7 at h
  refine Qbx<|wxz ?_
  obtain ⟨k3,hk_k3,h⟩:=jko h
  refine wjn (τ:=(List GStream)) (fun t=>k3 t=some r) (fun y2=>⟨mk 13 [(2,.ref 0 1 0 0)],[(.own 1 [[(.acc 1 63 4 ((y2:List GStream).map Qac))]]),.tok]⟩) (fun y2 h=>?_) ?_
  ·subst hk_k3
   refine wxz<|wmr (mto (n:=13) (l':=[(4,(.acc 0 63 4 ((y2:List GStream).map Qac)))]) (own':=[.tok]) [(4,(.acc 1 63 4 ((y2:List GStream).map Qac)))] [1] [.tok] hφ0 (pc (.rn (Qbw rfl (Qbk Qad _))) pn) (qc .tok qn))<|Qae ?_
   obtain rfl:=osi h
   exact ⟨_,Mor.rfl,Qc8 (vs:=[(.acc 0 63 4 ((y2:List GStream).map Qac))]) ⟨rot,tv⟩ rfl (NLt.acc _ _ _ _ (by decide) (Qqn Qad _)) (by kernel_rfl) (Qao .tok Qbs)⟩
  ·skip
   refine wxz<|Qaj ?_
   obtain ⟨q4,hL5,h⟩:=bno h
   refine wmr (mto (n:=13) (l':=[(2,.ref 0 1 0 0),(6,(Zgt p0 p1 p2 p3 p4 p5 p6 p7))]) (own':=[(.own 1 [[nilS]])]) [(2,.ref 0 1 0 0),(6,(Zgt p0 p1 p2 p3 p4 p5 p6 p7))] [0] [(.own 1 [[nilS]])] hφ0 (prr (pc (.rn (Qbn rn0 (rnc (.plain _ (NLt.dptr _ _ (nlc (NLt.dptr _ _ (nlc (nld Qai _) (nlc (nld Qaa _) (nlc (nld Qal _) (nlc (nld Qaw _) (nlc (nld Qaf _) (nlc (nld Qad _) (nlc nll nl0)))))))) nl0))) (rnc (.plain _ (NLt.dptr _ _ (nlc nll nl0))) rn0)))) pn)) (qb (lc rwl ln) qn)) ?_
   refine wmr (Qn7 (n:=1) (ty:=63) (m:=4) (q:=0) (mq:=1) (c:=[nilS]) 0 (by kernel_rfl) (by kernel_rfl) (by kernel_rfl) (by decide)) ?_
   refine Qt1 (τ:=((List GStream))) (kb:=1) (caps:=[(.dptr [(.dptr [(.dat 5 ((p0:List GRow).map Qa1)),(.dat 7 ((p1:List GElement).map Qab)),(.dat 1 ((p2:List (List GStream)).map Qam)),(.dat 4 ((p3:List GLost).map Qa7)),(.dat 1 ((p4:List Int).map Qak)),(.dat 4 ((p5:List GStream).map Qac)),I p6] 0)] 0),(.dptr [I p7] 0)]) (σr:=[]) (encs:=fun x=>[(.agg #[(.int .i64 (x.Mass)),(.int .i64 (x.Heat)),(.int .i64 (x.Silica)),(.int .i64 (x.Gas))])]) (fun x=>[(.agg [I x.Mass,I x.Heat,I x.Silica,I x.Gas])]) [] (fun n hn=>hφ0 n (Nat.le_trans (nle rfl) hn)) hd0 (Qml N p0 p1 p2 p3 p4 p5 p6 p7 _ hL5) Zdm (by kernel_rfl) (by kernel_rfl) (Qbt (rnc (.plain _ (NLt.dptr _ _ (nlc (NLt.dptr _ _ (nlc (nld Qai _) (nlc (nld Qaa _) (nlc (nld Qal _) (nlc (nld Qaw _) (nlc (nld Qaf _) (nlc (nld Qad _) (nlc nll nl0)))))))) nl0))) (rnc (.plain _ (NLt.dptr _ _ (nlc nll nl0))) rn0))) Qas (by kernel_rfl) (fun _=>rfl) (fun x=>⟨(Less.unlits [(.int .i64 (x.Mass)),(.int .i64 (x.Heat)),(.int .i64 (x.Silica)),(.int .i64 (x.Gas))]),tv⟩) (Zfw (Qqm (NLt.ref _ _ _ _ (by decide)) (Qqm (NLt.of0 (NLt.fn _ _ _ nl0 (nlc (NLt.dptr _ _ (nlc (NLt.dptr _ _ (nlc (nld Qai _) (nlc (nld Qaa _) (nlc (nld Qal _) (nlc (nld Qaw _) (nlc (nld Qaf _) (nlc (nld Qad _) (nlc nll nl0)))))))) nl0)) (nlc (NLt.dptr _ _ (nlc nll nl0)) nl0)))) Q8y))) (fun y6=>[(.own 1 [[(Q6x y6)]]),.tok]) (fun _=>rfl) (fun _=>rfl) (fun l t=>Qau N k3 l t=some r) ([]) h (by kernel_rfl) ?_ ?_
   ·intro l11 o12 X15 φ16 w17 hφ14 x9 q10 y6 h
    rw [Qau] at h
    refine wxz1 ?_
    refine ⟨by kernel_rfl,fun o13=>?_⟩
    refine Qaj ?_
    obtain ⟨ha18,h⟩:=cko h
    refine wx1 tbk [(2,rp [(.tmp 9,(Zfb x9))] (.dat 4 (([x9]:List GStream).map Qac))),(3,⟨[(.tmp 8,(Q6x y6)),(.tmp 10,(.dat 4 (([x9]:List GStream).map Qac)))],[(1,.tok),(4,.unused)],(.acc 4 63 4 ((y6++([x9]):List GStream).map Qac)),[(1,.dead),(4,.tok)],false⟩)] ⟨Qbo (vs:=[(Zfb x9)]) rfl Tryz.underlying45 ti63 tz63 rfl (by decide) rfl (by decide) (by rfl) (by rfl) (by rfl) rfl,Qer rfl Tryz.underlying45 te63 (Base.acc _ _) rfl rfl (by rfl) (Qg0 Qac ha18) (Qgz Qac ha18 (by decide)) (Qgy Qac) rfl rfl,tv⟩<|bln ?_
    exact ⟨(y6++([x9])),h,Zfq (own':=[(.own 1 [[(.acc 1 63 4 (((y6++([x9])):List GStream).map Qac))]]),.tok,(.far (farL l11 o13))]) [0,4,2] [(.own 1 [[(.acc 4 63 4 ((y6++([x9]):List GStream).map Qac))]]),.tok,(.far (farL l11 o13))] (by kernel_rfl) (by kernel_rfl) ⟨(spb (lc (.rn (Qbw rfl (Qbk Qad _))) ln)),.tok,.far _,tv⟩⟩
   ·intro y6 h
    rw [Qau] at h
    exact bln<|thn<|⟨(y6),h,(mto (n:=13) [(2,.ref 0 1 0 0)] [0,1] [(.own 1 [[(Q6x y6)]]),.tok] hφ0 (prr pn) (qb (lc (.rn (Qbw rfl (Qbk Qad _))) ln) (qc .tok qn)))⟩
def Qby (N:Nat) (p0:(List GRow)) (p1:(List GElement)) (p2:(List (List GStream))) (p3:(List GLost)) (p4:(List Int)) (p5:(List GStream)) (p6:Int) (p7:Int):Option (List GStream):=
  (Qb7 N p0 p1 p2 p3 p4 p5 p6 p7).bind fun x3=>
  some x3
def Zgu (p0:(List GRow)) (p1:(List GElement)) (p2:(List (List GStream))) (p3:(List GLost)) (p4:(List Int)) (p5:(List GStream)) (p6:Int) (p7:Int):AV:=.fn (.func 133) [] [(.dptr [(.dptr [(.dat 5 ((p0:List GRow).map Qa1)),(.dat 7 ((p1:List GElement).map Qab)),(.dat 1 ((p2:List (List GStream)).map Qam)),(.dat 4 ((p3:List GLost).map Qa7)),(.dat 1 ((p4:List Int).map Qak)),(.dat 4 ((p5:List GStream).map Qac)),(I (p6))] 0)] 0),(.dptr [(I (p7))] 0)]
def Q6y (x3:(List GStream)):AV:=.acc 0 63 4 ((x3:List GStream).map Qac)
theorem Qhv (N:Nat) (p0:(List GRow)) (p1:(List GElement)) (p2:(List (List GStream))) (p3:(List GLost)) (p4:(List Int)) (p5:(List GStream)) (p6:Int) (p7:Int) (r:(List GStream)) (h:Qby N p0 p1 p2 p3 p4 p5 p6 p7=some r):Spec Tryz.prog 115 [(Zgu p0 p1 p2 p3 p4 p5 p6 p7)] [] (.acc 0 63 4 ((r:List GStream).map Qac)) [.tok]:=by
  refine Qah Tryz.func115 rfl 1 (nle rfl) (fun X φ0 w0 hφ0 hd0=>?_)
  unfold Qby at h
  refine Qbx<|wxz ?_
  obtain ⟨x3,hf2,h⟩:=bno h
  refine wx tbk [(1,⟨[fu 132,((.const (.slice none 0 0)),nilS),(.tmp 3,(Zgu p0 p1 p2 p3 p4 p5 p6 p7))],[(0,.unused)],(Q6y x3),[(0,.tok)],false⟩)] ⟨Qat (first:=[]) (cap:=[]) (vs:=[nilS,(Zgu p0 p1 p2 p3 p4 p5 p6 p7)]) (σr:=[]) (σr':=[.tok]) (res':=(Q6y x3)) [0] rfl Zdn (Qfs N p0 p1 p2 p3 p4 p5 p6 p7 _ hf2) rfl (Qbt (rnc (.plain _ nll) (rnc (.plain _ (NLt.fn _ _ _ nl0 (nlc (NLt.dptr _ _ (nlc (NLt.dptr _ _ (nlc (nld Qai _) (nlc (nld Qaa _) (nlc (nld Qal _) (nlc (nld Qaw _) (nlc (nld Qaf _) (nlc (nld Qad _) (nlc nll nl0)))))))) nl0)) (nlc (NLt.dptr _ _ (nlc nll nl0)) nl0)))) rn0))) Qas (slc .tok Qas) (Qu9 rfl (Qbk Qad _)) rfl rfl rfl,tv⟩ ?_
  refine wmr (mto (n:=5) (l':=[(2,(Q6y x3))]) (own':=[.tok]) [(2,(Q6y x3))] [0] [.tok] hφ0 (pc (.rn (Qbw rfl (Qbk Qad _))) pn) (qc .tok qn))<|Qae ?_
  obtain rfl:=osi h
  exact ⟨_,Mor.rfl,Qc8 (vs:=[(Q6y x3)]) ⟨rot,tv⟩ rfl (NLt.acc _ _ _ _ (by decide) (Qqn Qad _)) (by kernel_rfl) (Qao .tok Qbs)⟩
def Qe8 (_N:Nat) (_p0:Int) (p1:GStream) (_p2:(List GRow)) (_p3:(List GElement)) (_p4:Nat) (_p5:Nat) (_p6:Nat) (_p7:(List GStream)) (_p8:Int) (_p9:(List (List GStream))) (_p10:(List GLost)) (_p11:(List Int)):Option (List GStream):=
  some ([p1])
def Zgs (p1:GStream):AV:=.agg [(I (p1.Mass)),(I (p1.Heat)),(I (p1.Silica)),(I (p1.Gas))]
def Za4 (p2:(List GRow)) (p3:(List GElement)) (p4:Nat) (p5:Nat) (p6:Nat) (p7:(List GStream)) (p8:Int):Slot:=.own 7 [[(.dat 5 ((p2:List GRow).map Qa1)),(.dat 7 ((p3:List GElement).map Qab)),(.own 1 1 (0) (p4)),(.own 2 4 (0) (p5)),(.own 3 1 (0) (p6)),(.dat 4 ((p7:List GStream).map Qac)),(I (p8))]]
def Za3 (p9:(List (List GStream))):Slot:=.own 1 ((p9:List (List GStream)).map Qam)
def Za2 (p10:(List GLost)):Slot:=.own 4 ((p10:List GLost).map Qa7)
def Za1 (p11:(List Int)):Slot:=.own 1 ((p11:List Int).map Qak)
def Za5 (p1:GStream):AV:=.dat 4 (([p1]:List GStream).map Qac)
theorem Qg7 (N:Nat) (p0:Int) (p1:GStream) (p2:(List GRow)) (p3:(List GElement)) (p4:Nat) (p5:Nat) (p6:Nat) (p7:(List GStream)) (p8:Int) (p9:(List (List GStream))) (p10:(List GLost)) (p11:(List Int)) (r:(List GStream)) (h:Qe8 N p0 p1 p2 p3 p4 p5 p6 p7 p8 p9 p10 p11=some r):Spec Tryz.prog 117 [(.ref 0 7 (0) 0),(I (p0)),(Zgs p1)] [(Za4 p2 p3 p4 p5 p6 p7 p8),(Za3 p9),(Za2 p10),(Za1 p11)] (.dat 4 ((r:List GStream).map Qac)) [(Za4 p2 p3 p4 p5 p6 p7 p8),(Za3 p9),(Za2 p10),(Za1 p11)]:=by
  refine Qah Tryz.func117 rfl 4 (nle rfl) (fun X φ0 w0 hφ0 hd0=>?_)
  unfold Qe8 at h
  refine Qbx<|wxz ?_
  refine wx tbk [(1,rp [(.tmp 7,(Zgs p1))] (Za5 p1))] ⟨Qbo (vs:=[(Zgs p1)]) rfl Tryz.underlying45 ti63 tz63 rfl (by decide) rfl (by decide) (by rfl) (by rfl) (by rfl) rfl,tv⟩ ?_
  refine wmr (mto (n:=9) (l':=[(6,(Za5 p1))]) (own':=[(Za4 p2 p3 p4 p5 p6 p7 p8),(Za3 p9),(Za2 p10),(Za1 p11)]) [(6,(Za5 p1))] [0,1,2,3] [(Za4 p2 p3 p4 p5 p6 p7 p8),(Za3 p9),(Za2 p10),(Za1 p11)] hφ0 (pc (rnd Qad) pn) (qb (lc (rnd Qai) (lc (rnd Qaa) (lc (.rn (Qa5 rfl)) (lc (.rn (Qa5 rfl)) (lc (.rn (Qa5 rfl)) (lc (rnd Qad) (lc rwl ln))))))) (qc (spr Qal) (qc (spr Qaw) (qc (spr Qaf) qn)))))<|Qae ?_
  obtain rfl:=osi h
  exact ⟨_,Mor.rfl,Qc8 (vs:=[(Za5 p1)]) ⟨rot,tv⟩ rfl (NLt.of0 (nld Qad _)) (by kernel_rfl) (Qao (Qbc (nlc (NLt.of0 (nld Qai _)) (nlc (NLt.of0 (nld Qaa _)) (nlc (NLt.own _ _ _ _ (by decide)) (nlc (NLt.own _ _ _ _ (by decide)) (nlc (NLt.own _ _ _ _ (by decide)) (nlc (NLt.of0 (nld Qad _)) (nlc (NLt.of0 nll) nl0)))))))) (Qao (Qcj Qal _) (Qao (Qcj Qaw _) (Qao (Qcj Qaf _) Qbs))))⟩
def Qg3 (_N:Nat) (p0:Int) (p1:GStream) (_p2:(List GRow)) (p3:(List GElement)) (_p4:Nat) (p5:Nat) (_p6:Nat) (_p7:(List GStream)) (_p8:Int) (_p9:(List (List GStream))) (p10:(List GLost)) (_p11:(List Int)):Option ((List GStream)×(List GLost)):=
  (getI p3 p0).bind fun x3=>
  (some (if p1.Heat<x3.Amount then p1.Heat else x3.Amount)).bind fun x7=>
  chk (decide (0≤p0)&&decide (p0.toNat<p5))<|
  (p10[p0.toNat]?).bind fun x10=>
  some ([(⟨p1.Mass,w64 (p1.Heat - x7),p1.Silica,p1.Gas⟩:GStream)],p10.set p0.toNat (⟨x7,x10.Silica,x10.Gas,x10.Scale⟩:GLost))
def Q3l (p2:(List GRow)) (p3:(List GElement)) (p4:Nat) (p5:Nat) (p6:Nat) (p7:(List GStream)) (p8:Int):Slot:=.own 7 [[(.dat 5 ((p2:List GRow).map Qa1)),(.dat 7 ((p3:List GElement).map Qab)),(.own 1 1 (0) (p4)),(.own 2 4 (0) (p5)),(.own 3 1 (0) (p6)),(.dat 4 ((p7:List GStream).map Qac)),(I (p8))]]
def Q08 (p9:(List (List GStream))):Slot:=.own 1 ((p9:List (List GStream)).map Qam)
def Zgr (p10:(List GLost)):Slot:=.own 4 ((p10:List GLost).map Qa7)
def Q07 (p11:(List Int)):Slot:=.own 1 ((p11:List Int).map Qak)
def Zfa (p1:GStream) (x7:Int):AV:=.agg [(I (p1.Mass)),(I (w64 (p1.Heat - x7))),(I (p1.Silica)),(I (p1.Gas))]
def Q09 (p1:GStream) (x7:Int):AV:=.dat 4 (([(⟨p1.Mass,w64 (p1.Heat - x7),p1.Silica,p1.Gas⟩:GStream)]:List GStream).map Qac)
theorem Qmn (N:Nat) (p0:Int) (p1:GStream) (p2:(List GRow)) (p3:(List GElement)) (p4:Nat) (p5:Nat) (p6:Nat) (p7:(List GStream)) (p8:Int) (p9:(List (List GStream))) (p10:(List GLost)) (p11:(List Int)) (r:((List GStream)×(List GLost))) (h:Qg3 N p0 p1 p2 p3 p4 p5 p6 p7 p8 p9 p10 p11=some r):Spec Tryz.prog 118 [(.ref 0 7 (0) 0),(I (p0)),(.agg [(I (p1.Mass)),(I (p1.Heat)),(I (p1.Silica)),(I (p1.Gas))])] [(Q3l p2 p3 p4 p5 p6 p7 p8),(Q08 p9),(Zgr p10),(Q07 p11)] (.dat 4 ((r.1:List GStream).map Qac)) [(Q3l p2 p3 p4 p5 p6 p7 p8),(Q08 p9),(.own 4 ((r.2:List GLost).map Qa7)),(Q07 p11)]:=by
  refine Qah Tryz.func118 rfl 4 (nle rfl) (fun X φ0 w0 hφ0 hd0=>?_)
  unfold Qg3 at h
  refine Qbx<|wxz ?_
  obtain ⟨x3,hg4,h⟩:=bno h
  obtain ⟨hi5,hj6⟩:=gsm hg4
  obtain ⟨x7,hl8,h⟩:=bno h
  refine wxd tbk [(1,rb [(.tmp 8,.ref 0 7 0 0)] [(0,(Q3l p2 p3 p4 p5 p6 p7 p8))] (.ref 0 7 0 0)),(6,rp [(.tmp 12,(.dat 7 ((p3:List GElement).map Qab))),(.tmp 13,I p0)] (.dptr (Qab (x3)) 0)),(11,rp [(.tmp 16,I x3.Amount),(.tmp 18,I p1.Heat)] (I ((if p1.Heat<x3.Amount then p1.Heat else x3.Amount)))),(12,rp [(.tmp 19,(I ((if p1.Heat<x3.Amount then p1.Heat else x3.Amount))))] (I x7))] ⟨Qbb rfl,aid rfl Tryz.underlying40 Qju rfl rfl hi5 (mgt Qab hj6) rfl,Qsj rfl,Qjd hl8 (aas rfl),tv⟩ ?_
  obtain ⟨hi9,h⟩:=cko h
  obtain ⟨hi9a,hi9b⟩:=Qei hi9
  obtain ⟨x10,hg11,h⟩:=bno h
  refine wx tbk [(1,rb [(.tmp 20,.ref 0 7 0 0)] [(0,(Q3l p2 p3 p4 p5 p6 p7 p8))] (.ref 0 7 0 0)),(7,rb [(.tmp 24,(.own 2 4 (0) (p5))),(.tmp 25,I p0)] [(2,(Zgr p10))] (.ref 2 4 (p0.toNat) 0)),(9,⟨[(.tmp 28,(.ref 2 4 (p0.toNat) 0)),(.tmp 26,I x7)],[(2,(Zgr p10))],.any,[(2,(.own 4 ((p10.set p0.toNat (⟨x7,x10.Silica,x10.Gas,x10.Scale⟩:GLost):List GLost).map Qa7)))],false⟩)] ⟨Qbb rfl,aio rfl Tryz.underlying32 ti82 (odt hi9a) (odt hi9b) (Nat.zero_add _),ast rfl ti3 (by rfl) (mgt Qa7 hg11) (nle rfl) (Qgr Qa7 rfl),tv⟩<|wxz ?_
  refine wx tbk [(1,rp [(.tmp 34,(Zfa p1 x7))] (Q09 p1 x7))] ⟨Qbo (vs:=[(Zfa p1 x7)]) rfl Tryz.underlying45 ti63 tz63 rfl (by decide) rfl (by decide) (by rfl) (by rfl) (by rfl) rfl,tv⟩ ?_
  refine wmr (mto (n:=36) (l':=[(6,(Q09 p1 x7))]) (own':=[(Q3l p2 p3 p4 p5 p6 p7 p8),(Q08 p9),(.own 4 (((p10.set p0.toNat (⟨x7,x10.Silica,x10.Gas,x10.Scale⟩:GLost)):List GLost).map Qa7)),(Q07 p11)]) [(6,(Q09 p1 x7))] [0,1,2,3] [(Q3l p2 p3 p4 p5 p6 p7 p8),(Q08 p9),(.own 4 ((p10.set p0.toNat (⟨x7,x10.Silica,x10.Gas,x10.Scale⟩:GLost):List GLost).map Qa7)),(Q07 p11)] hφ0 (pc (rnd Qad) pn) (qb (lc (rnd Qai) (lc (rnd Qaa) (lc (.rn (Qa5 rfl)) (lc (.rn (Qa5 rfl)) (lc (.rn (Qa5 rfl)) (lc (rnd Qad) (lc rwl ln))))))) (qc (spr Qal) (qc (spr Qaw) (qc (spr Qaf) qn)))))<|Qae ?_
  obtain rfl:=osi h
  exact ⟨_,Mor.rfl,Qc8 (vs:=[(Q09 p1 x7)]) ⟨rot,tv⟩ rfl (NLt.of0 (nld Qad _)) (by kernel_rfl) (Qao (Qbc (nlc (NLt.of0 (nld Qai _)) (nlc (NLt.of0 (nld Qaa _)) (nlc (NLt.own _ _ _ _ (by decide)) (nlc (NLt.own _ _ _ _ (by decide)) (nlc (NLt.own _ _ _ _ (by decide)) (nlc (NLt.of0 (nld Qad _)) (nlc (NLt.of0 nll) nl0)))))))) (Qao (Qcj Qal _) (Qao (Qcj Qaw _) (Qao (Qcj Qaf _) Qbs))))⟩
def Qha (N:Nat) (p0:(List GRow)) (p1:Int):Option Bool:=
  (Qcy N p1 0 (w64 ((p0.length:Int) - 1))).bind fun x2=>
  some x2
theorem Qm2 (N:Nat) (p0:(List GRow)) (p1:Int) (r:Bool) (h:Qha N p0 p1=some r):Spec Tryz.prog 143 [(.dat 5 (p0.map Qa1)),(I p1)] [] (B r) []:=by
  refine Qah Tryz.func143 rfl 0 (nle rfl) (fun X φ0 w0 hφ0 hd0=>?_)
  unfold Qha at h
  refine wxz ?_
  obtain ⟨x2,hf1,h⟩:=bno h
  exact wx tbk [(2,rp [(.tmp 6,(.dat 5 ((p0:List GRow).map Qa1)))] (I ((p0.length:Int)))),(4,rp [fu 137,(.tmp 5,I p1),ci 0,(.tmp 8,(I (w64 ((p0.length:Int) - 1))))] (B x2))] ⟨alm (c:=Qa1) (l:=p0) (aln rfl Tryz.underlying39 rfl),apv Qh5 (Qc4 N p1 0 (w64 ((p0.length:Int) - 1)) _ hf1) (nlcc (nlc nll nl0)) nll,tv⟩<|Qae<|frb h
def Qhp (_N:Nat) (p0:(List GRow)) (p1:Int):Option GFlash:=
  (getI p0 p1).bind fun x1=>
  some (⟨x1⟩:GFlash)
def Zgp (x1:GRow):AV:=.agg [(I (x1.T)),(I (x1.P)),(I (x1.Liquid)),(I (x1.Vapour)),(I (x1.Silica))]
theorem Qnw (N:Nat) (p0:(List GRow)) (p1:Int) (r:GFlash) (h:Qhp N p0 p1=some r):Spec Tryz.prog 144 [(.dat 5 (p0.map Qa1)),(I p1)] [] (.agg (Qvx r)) []:=by
  refine Qah Tryz.func144 rfl 0 (nle rfl) (fun X φ0 w0 hφ0 hd0=>?_)
  unfold Qhp at h
  refine wxz ?_
  obtain ⟨x1,hg2,h⟩:=bno h
  obtain ⟨hi3,hj4⟩:=gsm hg2
  refine wx tbk [(2,rp [(.tmp 5,(.dat 5 ((p0:List GRow).map Qa1))),(.tmp 6,I p1)] (.dptr (Qa1 (x1)) 0)),(4,mv 8 (Zgp x1))] ⟨aid rfl Tryz.underlying39 Qsx rfl rfl hi3 (mgt Qa1 hj4) rfl,Qa2 (vs:=[(Zgp x1)]) rfl Zm2 Zlo rfl (by rfl) rfl,tv⟩<|Qae ?_
  obtain rfl:=osi h
  exact fend ⟨[(Zgp x1)],⟨Qcc (n:=0) (m:=5) (j:=0) (i:=0) (xs:=[[I x1.T,I x1.P,I x1.Liquid,I x1.Vapour,I x1.Silica]]) (by kernel_rfl) (by kernel_rfl) Zlu (by decide) rfl (nle rfl) rfl,tv⟩,rfl⟩ (NLt.agg _ (nlcc (nlcc (nlc nll nl0))))
def Qfn (_N:Nat) (p0:GFlash) (p1:GStream):Option Int:=
  (some (w64 (p1.Heat - (w64 (p1.Mass * p0.Row.Liquid))))).bind fun x1=>
  bif (decide (x1≤0)) then
   some 0
  else
   bif (decide (p1.Heat≥(w64 (p1.Mass * p0.Row.Vapour)))) then
    some p1.Mass
   else
    chk ((w64 (p0.Row.Vapour - p0.Row.Liquid)) != 0)<|
    (some (w64 (x1.tdiv (w64 (p0.Row.Vapour - p0.Row.Liquid))))).bind fun x6=>
    some x6
theorem Qlr (N:Nat) (p0:GFlash) (p1:GStream) (r:Int) (h:Qfn N p0 p1=some r):Spec Tryz.prog 149 [(.agg (Qvx p0)),(.agg (Qac p1))] [] (I r) []:=by
  refine Qah Tryz.func149 rfl 0 (nle rfl) (fun X φ0 w0 hφ0 hd0=>?_)
  unfold Qfn at h
  refine wxz ?_
  obtain ⟨x1,hl2,h⟩:=bno h
  refine wx tbk [(9,rp [(.tmp 14,(I (w64 (p1.Heat - (w64 (p1.Mass * p0.Row.Liquid))))))] (I x1))] ⟨Qjd hl2 (aas rfl),tv⟩<|wsq<|Qaj<|wxz ?_
  refine bfe h (fun hc3 h=>?_) fun hc3 h=>?_
  ·refine wft hc3<|wxz<|Qae<|Qap<|Qag ?_
   obtain rfl:=osi h
   exact fend ⟨[I 0],⟨rot,tv⟩,rfl⟩ nll
  ·refine wfn hc3<|wxz ?_
   refine bfe h (fun hc4 h=>?_) fun hc4 h=>?_
   ·refine wft hc4<|wxz<|Qae<|Qap<|Qag ?_
    obtain rfl:=osi h
    exact fend ⟨[I p1.Mass],⟨rot,tv⟩,rfl⟩ nll
   ·refine wfn hc4<|Qan<|bln<|thn ?_
    obtain ⟨hz5,h⟩:=cko h
    obtain ⟨x6,hl7,h⟩:=bno h
    refine wx tbk [(8,rp [(.tmp 30,I x1),(.tmp 37,(I (w64 (p0.Row.Vapour - p0.Row.Liquid))))] (I (w64 (x1.tdiv (w64 (p0.Row.Vapour - p0.Row.Liquid)))))),(9,rp [(.tmp 38,(I (w64 (x1.tdiv (w64 (p0.Row.Vapour - p0.Row.Liquid))))))] (I x6))] ⟨Qon rfl (Qpm hz5),Qjd hl7 (aas rfl),tv⟩<|Qae ?_
    obtain rfl:=osi h
    exact fend ⟨[I x6],⟨rot,tv⟩,rfl⟩ nll
def Qf4 (N:Nat) (p0:GFlash) (p1:GStream):Option GParts:=
  (Qfn N (⟨(⟨p0.Row.T,p0.Row.P,p0.Row.Liquid,p0.Row.Vapour,p0.Row.Silica⟩:GRow)⟩:GFlash) p1).bind fun x2=>
  Qbp (fun ⟨y3,y4,y5,y6,y7,_,y9⟩=>
    (some (if (w64 (y6 * p0.Row.Silica))<p1.Silica then w64 (y6 * p0.Row.Silica) else p1.Silica)).bind fun x11=>
    bif (decide (y6>0)) then
     (some (if (w64 (y7 - (w64 (y6 * p0.Row.Liquid))))>0 then w64 (y7 - (w64 (y6 * p0.Row.Liquid))) else 0)).bind fun x14=>
     some (⟨(⟨y3,y4,0,y5⟩:GStream),(⟨y6,y7,x11,y9⟩:GStream),x14,w64 (p1.Silica - x11)⟩:GParts)
    else
     some (⟨(⟨y3,y4,0,y5⟩:GStream),(⟨y6,y7,x11,y9⟩:GStream),0,w64 (p1.Silica - x11)⟩:GParts)) fun k10:Int×Int×Int×Int×Int×Int×Int→Option GParts=>
  bif (x2==0) then
   k10 (0,0,0,p1.Mass,p1.Heat,p1.Silica,p1.Gas)
  else
   bif (x2==p1.Mass) then
    k10 (x2,p1.Heat,p1.Gas,0,0,0,0)
   else
    k10 (x2,w64 (x2 * p0.Row.Vapour),p1.Gas,w64 (p1.Mass - x2),w64 (p1.Heat - (w64 (x2 * p0.Row.Vapour))),0,0)
def Zmo (p0:GFlash):AV:=.agg [(I (p0.Row.T)),(I (p0.Row.P)),(I (p0.Row.Liquid)),(I (p0.Row.Vapour)),(I (p0.Row.Silica))]
def Zmn (p1:GStream):AV:=.agg [(I (p1.Mass)),(I (p1.Heat)),(I (p1.Silica)),(I (p1.Gas))]
def Za0 (p0:GFlash):Slot:=.own 5 [[(I (p0.Row.T)),(I (p0.Row.P)),(I (p0.Row.Liquid)),(I (p0.Row.Vapour)),(I (p0.Row.Silica))]]
def Zaz (p1:GStream):Slot:=.own 4 [[(I (p1.Mass)),(I (p1.Heat)),(I (p1.Silica)),(I (p1.Gas))]]
theorem Qnv (N:Nat) (p0:GFlash) (p1:GStream) (r:GParts) (h:Qf4 N p0 p1=some r):Spec Tryz.prog 145 [(.agg (Qvx p0)),(.agg (Qac p1))] [] (.agg (Q23 r)) []:=by
  refine Qah Tryz.func145 rfl 0 (nle rfl) (fun X φ0 w0 hφ0 hd0=>?_)
  unfold Qf4 at h
  refine wxz ?_
  obtain ⟨x2,hf1,h⟩:=bno h
  refine wx tbk [(2,rp [fu 149,(.tmp 7,(Zmo p0)),(.tmp 8,(Zmn p1))] (I x2))] ⟨apv Zda (Qlr N (⟨(⟨p0.Row.T,p0.Row.P,p0.Row.Liquid,p0.Row.Vapour,p0.Row.Silica⟩:GRow)⟩:GFlash) p1 _ hf1) (nlc (NLt.agg _ (nlcc (nlcc (nlc nll nl0)))) (nlc (NLt.agg _ (nlcc (nlcc nl0))) nl0)) nll,tv⟩ ?_
  obtain ⟨k10,hk_k10,h⟩:=jko h
  refine wjn (τ:=Int×Int×Int×Int×Int×Int×Int) (fun t=>k10 t=some r) (fun ⟨y3,y4,y5,y6,y7,y8,y9⟩=>⟨mk 87 [(2,.ref 0 5 0 0),(3,.ref 1 4 0 0),(4,.ref 2 10 0 0)],[(Za0 p0),(Zaz p1),(.own 10 [[I y3,I y4,I 0,I y5,I y6,I y7,I y8,I y9,I 0,I 0]])]⟩) (fun t h=>?_) ?_
  ·subst hk_k10
   obtain ⟨y3,y4,y5,y6,y7,y8,y9⟩:=t
   obtain ⟨x11,hl12,h⟩:=bno h
   refine wx tbk [(9,rp [(.tmp 52,I p1.Silica),(.tmp 59,(I (w64 (y6 * p0.Row.Silica))))] (I x11))] ⟨Qjd hl12 (Qsj rfl),tv⟩<|wxe<|wsq<|wxz ?_
   refine bfe h (fun hc13 h=>?_) fun hc13 h=>?_
   ·refine wft hc13 ?_
    obtain ⟨x14,hl15,h⟩:=bno h
    refine wx1 tbk [(11,rp [ci 0,(.tmp 83,(I (w64 (y7 - (w64 (y6 * p0.Row.Liquid))))))] (I x14))] ⟨Qjd hl15 (Qoo rfl),tv⟩<|thn<|wxz<|Qae ?_
    obtain rfl:=osi h
    exact fend ⟨[(.agg [I y3,I y4,I 0,I y5,I y6,I y7,I x11,I y9,I x14,(I (w64 (p1.Silica - x11)))])],⟨Qcc (n:=2) (m:=10) (j:=0) (i:=0) (xs:=[[I y3,I y4,I 0,I y5,I y6,I y7,I x11,I y9,I x14,(I (w64 (p1.Silica - x11)))]]) (by kernel_rfl) (by kernel_rfl) Qzg (by decide) rfl (nle rfl) rfl,tv⟩,rfl⟩ (NLt.agg _ (nlcc (nlcc (nlcc (nlcc (nlcc nl0))))))
   ·refine wfn hc13<|Qan<|thn<|wxz<|Qae ?_
    obtain rfl:=osi h
    exact fend ⟨[(.agg [I y3,I y4,I 0,I y5,I y6,I y7,I x11,I y9,I 0,(I (w64 (p1.Silica - x11)))])],⟨Qcc (n:=2) (m:=10) (j:=0) (i:=0) (xs:=[[I y3,I y4,I 0,I y5,I y6,I y7,I x11,I y9,I 0,(I (w64 (p1.Silica - x11)))]]) (by kernel_rfl) (by kernel_rfl) Qzg (by decide) rfl (nle rfl) rfl,tv⟩,rfl⟩ (NLt.agg _ (nlcc (nlcc (nlcc (nlcc (nlcc nl0))))))
  ·skip
   refine Qaj<|wxz ?_
   refine bfe h (fun hc16 h=>?_) fun hc16 h=>?_
   ·exact wft hc16<|wxz1<|bln<|thn<|⟨(0,0,0,p1.Mass,p1.Heat,p1.Silica,p1.Gas),h,(mto (n:=87) [(2,.ref 0 5 0 0),(3,.ref 1 4 0 0),(4,.ref 2 10 0 0)] [0,1,2] [(Za0 p0),(Zaz p1),(.own 10 [[I 0,I 0,I 0,I 0,I p1.Mass,I p1.Heat,I p1.Silica,I p1.Gas,I 0,I 0]])] hφ0 (prr (prr (prr pn))) (qb (lcc (lcc (lc rwl ln))) (qb (lcc (lcc ln)) (qb (lcc (lcc (lcc (lcc (lcc ln))))) qn))))⟩
   ·refine wfn hc16<|wxz ?_
    refine bfe h (fun hc17 h=>?_) fun hc17 h=>?_
    ·exact wft hc17<|wx1 tbk [(5,rp [(.tmp 44,I x2),(.tmp 46,I p1.Heat),(.tmp 48,I p1.Gas)] (.agg [I x2,I p1.Heat,I 0,I p1.Gas]))] ⟨Qa2 (vs:=[I x2,I p1.Heat,I p1.Gas]) rfl ts63 tz63 rfl (by rfl) rfl,tv⟩<|bln<|thn<|⟨(x2,p1.Heat,p1.Gas,0,0,0,0),h,(mto (n:=87) [(2,.ref 0 5 0 0),(3,.ref 1 4 0 0),(4,.ref 2 10 0 0)] [0,1,2] [(Za0 p0),(Zaz p1),(.own 10 [[I x2,I p1.Heat,I 0,I p1.Gas,I 0,I 0,I 0,I 0,I 0,I 0]])] hφ0 (prr (prr (prr pn))) (qb (lcc (lcc (lc rwl ln))) (qb (lcc (lcc ln)) (qb (lcc (lcc (lcc (lcc (lcc ln))))) qn))))⟩
    ·refine wfn hc17<|wx tbk [(8,rp [(.tmp 10,I x2),(.tmp 15,(I (w64 (x2 * p0.Row.Vapour)))),(.tmp 17,I p1.Gas)] (.agg [I x2,(I (w64 (x2 * p0.Row.Vapour))),I 0,I p1.Gas]))] ⟨Qa2 (vs:=[I x2,(I (w64 (x2 * p0.Row.Vapour))),I p1.Gas]) rfl ts63 tz63 rfl (by rfl) rfl,tv⟩ ?_
     exact wx1 tbk [(12,rp [(.tmp 23,(I (w64 (p1.Mass - x2)))),(.tmp 31,(I (w64 (p1.Heat - (w64 (x2 * p0.Row.Vapour))))))] (.agg [(I (w64 (p1.Mass - x2))),(I (w64 (p1.Heat - (w64 (x2 * p0.Row.Vapour))))),I 0,I 0]))] ⟨Qa2 (vs:=[(I (w64 (p1.Mass - x2))),(I (w64 (p1.Heat - (w64 (x2 * p0.Row.Vapour)))))]) rfl ts63 tz63 rfl (by rfl) rfl,tv⟩<|bln<|thn<|⟨(x2,w64 (x2 * p0.Row.Vapour),p1.Gas,w64 (p1.Mass - x2),w64 (p1.Heat - (w64 (x2 * p0.Row.Vapour))),0,0),h,(mto (n:=87) [(2,.ref 0 5 0 0),(3,.ref 1 4 0 0),(4,.ref 2 10 0 0)] [0,1,2] [(Za0 p0),(Zaz p1),(.own 10 [[I x2,(I (w64 (x2 * p0.Row.Vapour))),I 0,I p1.Gas,(I (w64 (p1.Mass - x2))),(I (w64 (p1.Heat - (w64 (x2 * p0.Row.Vapour))))),I 0,I 0,I 0,I 0]])] hφ0 (prr (prr (prr pn))) (qb (lcc (lcc (lc rwl ln))) (qb (lcc (lcc ln)) (qb (lcc (lcc (lcc (lcc (lcc ln))))) qn))))⟩
def Qim (N:Nat) (p0:(List GRow)) (p1:Int) (p2:GStream):Option (GParts×Int):=
  (Qet N p0).bind fun x2=>
  bif (!x2) then
   some ((⟨(⟨0,0,0,0⟩:GStream),(⟨0,0,0,0⟩:GStream),0,0⟩:GParts),1)
  else
   (Qha N p0 p1).bind fun x5=>
   bif (!x5) then
    some ((⟨(⟨0,0,0,0⟩:GStream),(⟨0,0,0,0⟩:GStream),0,0⟩:GParts),2)
   else
    (Qdt N p2).bind fun x8=>
    bif (!x8) then
     some ((⟨(⟨0,0,0,0⟩:GStream),(⟨0,0,0,0⟩:GStream),0,0⟩:GParts),1)
    else
     (Qhp N p0 p1).bind fun x11=>
     (Qf4 N (⟨(⟨x11.Row.T,x11.Row.P,x11.Row.Liquid,x11.Row.Vapour,x11.Row.Silica⟩:GRow)⟩:GFlash) p2).bind fun x13=>
     some ((⟨(⟨x13.Steam.Mass,x13.Steam.Heat,x13.Steam.Silica,x13.Steam.Gas⟩:GStream),(⟨x13.Water.Mass,x13.Water.Heat,x13.Water.Silica,x13.Water.Gas⟩:GStream),x13.Rest,x13.Scale⟩:GParts),0)
def Zgq (p0:(List GRow)):AV:=.dat 5 ((p0:List GRow).map Qa1)
def Q3i:AV:=.agg [(I (0)),(I (0)),(I (0)),(I (0)),(I (0)),(I (0)),(I (0)),(I (0)),(I (0)),(I (0))]
def Zk1 (p2:GStream):AV:=.agg [(I (p2.Mass)),(I (p2.Heat)),(I (p2.Silica)),(I (p2.Gas))]
def Zk0 (x11:GFlash):AV:=.agg [(I (x11.Row.T)),(I (x11.Row.P)),(I (x11.Row.Liquid)),(I (x11.Row.Vapour)),(I (x11.Row.Silica))]
def Zkz (x13:GParts):AV:=.agg [(I (x13.Steam.Mass)),(I (x13.Steam.Heat)),(I (x13.Steam.Silica)),(I (x13.Steam.Gas)),(I (x13.Water.Mass)),(I (x13.Water.Heat)),(I (x13.Water.Silica)),(I (x13.Water.Gas)),(I (x13.Rest)),(I (x13.Scale))]
theorem Qq7 (N:Nat) (p0:(List GRow)) (p1:Int) (p2:GStream) (r:(GParts×Int)) (h:Qim N p0 p1 p2=some r):Spec Tryz.prog 135 [(.dat 5 (p0.map Qa1)),(I p1),(.agg (Qac p2))] [] (.tup [(.agg (Q23 r.1)),(I r.2)]) []:=by
  refine Qah Tryz.func135 rfl 0 (nle rfl) (fun X φ0 w0 hφ0 hd0=>?_)
  unfold Qim at h
  refine wxz<|wsq<|Qaj ?_
  obtain ⟨x2,hf1,h⟩:=bno h
  refine wx tbk [(1,rp [fu 122,(.tmp 9,(Zgq p0))] (B x2))] ⟨apv Q2y (Qik N p0 _ hf1) (nlc (nld Qai _) nl0) nll,tv⟩ ?_
  refine bfe h (fun hc3 h=>?_) fun hc3 h=>?_
  ·refine wft hc3<|wx tbk [(0,rp [] Q3i)] ⟨Qa2 (vs:=[]) rfl Zif Zbv rfl (by rfl) rfl,tv⟩<|Qae<|Qap<|Qag ?_
   obtain rfl:=osi h
   exact fend ⟨[Q3i,I 1],⟨Qcc (n:=1) (m:=10) (j:=0) (i:=0) (xs:=[[I 0,I 0,I 0,I 0,I 0,I 0,I 0,I 0,I 0,I 0]]) (by kernel_rfl) (by kernel_rfl) Qzg (by decide) rfl (nle rfl) rfl,rot,tv⟩,rfl⟩ (NLt.tup _ (nlc (NLt.agg _ (nlcc (nlcc (nlcc (nlcc (nlcc nl0)))))) (nlc nll nl0)))
  ·refine wfn hc3 ?_
   obtain ⟨x5,hf4,h⟩:=bno h
   refine wx tbk [(2,rp [fu 143,(.tmp 14,(Zgq p0)),(.tmp 15,I p1)] (B x5))] ⟨apv Zdg (Qm2 N p0 p1 _ hf4) (nlc (nld Qai _) (nlc nll nl0)) nll,tv⟩ ?_
   refine bfe h (fun hc6 h=>?_) fun hc6 h=>?_
   ·refine wft hc6<|wx tbk [(0,rp [] Q3i)] ⟨Qa2 (vs:=[]) rfl Zif Zbv rfl (by rfl) rfl,tv⟩<|Qae<|Qap<|Qag ?_
    obtain rfl:=osi h
    exact fend ⟨[Q3i,I 2],⟨Qcc (n:=1) (m:=10) (j:=0) (i:=0) (xs:=[[I 0,I 0,I 0,I 0,I 0,I 0,I 0,I 0,I 0,I 0]]) (by kernel_rfl) (by kernel_rfl) Qzg (by decide) rfl (nle rfl) rfl,rot,tv⟩,rfl⟩ (NLt.tup _ (nlc (NLt.agg _ (nlcc (nlcc (nlcc (nlcc (nlcc nl0)))))) (nlc nll nl0)))
   ·refine wfn hc6 ?_
    obtain ⟨x8,hf7,h⟩:=bno h
    refine wx tbk [(1,rp [fu 131,(.tmp 20,(Zk1 p2))] (B x8))] ⟨apv Qvt (Qgq N p2 _ hf7) (nlc (NLt.agg _ (nlcc (nlcc nl0))) nl0) nll,tv⟩ ?_
    refine bfe h (fun hc9 h=>?_) fun hc9 h=>?_
    ·refine wft hc9<|wx tbk [(0,rp [] Q3i)] ⟨Qa2 (vs:=[]) rfl Zif Zbv rfl (by rfl) rfl,tv⟩<|Qae<|Qap<|Qag ?_
     obtain rfl:=osi h
     exact fend ⟨[Q3i,I 1],⟨Qcc (n:=1) (m:=10) (j:=0) (i:=0) (xs:=[[I 0,I 0,I 0,I 0,I 0,I 0,I 0,I 0,I 0,I 0]]) (by kernel_rfl) (by kernel_rfl) Qzg (by decide) rfl (nle rfl) rfl,rot,tv⟩,rfl⟩ (NLt.tup _ (nlc (NLt.agg _ (nlcc (nlcc (nlcc (nlcc (nlcc nl0)))))) (nlc nll nl0)))
    ·refine wfn hc9<|Qan<|bln<|thn ?_
     obtain ⟨x11,hf10,h⟩:=bno h
     obtain ⟨x13,hf12,h⟩:=bno h
     refine wxd tbk [(2,rp [fu 144,(.tmp 24,(Zgq p0)),(.tmp 25,I p1)] (Zk0 x11)),(4,rp [fu 145,(.tmp 26,(Zk0 x11)),(.tmp 27,(Zk1 p2))] (Zkz x13))] ⟨apv Zdf (Qnw N p0 p1 _ hf10) (nlc (nld Qai _) (nlc nll nl0)) (NLt.agg _ (nlcc (nlcc (nlc nll nl0)))),apv Zde (Qnv N (⟨(⟨x11.Row.T,x11.Row.P,x11.Row.Liquid,x11.Row.Vapour,x11.Row.Silica⟩:GRow)⟩:GFlash) p2 _ hf12) (nlc (NLt.agg _ (nlcc (nlcc (nlc nll nl0)))) (nlc (NLt.agg _ (nlcc (nlcc nl0))) nl0)) (NLt.agg _ (nlcc (nlcc (nlcc (nlcc (nlcc nl0)))))),tv⟩<|Qae ?_
     obtain rfl:=osi h
     exact fend ⟨[(Zkz x13),I 0],⟨Qcc (n:=1) (m:=10) (j:=0) (i:=0) (xs:=[[I x13.Steam.Mass,I x13.Steam.Heat,I x13.Steam.Silica,I x13.Steam.Gas,I x13.Water.Mass,I x13.Water.Heat,I x13.Water.Silica,I x13.Water.Gas,I x13.Rest,I x13.Scale]]) (by kernel_rfl) (by kernel_rfl) Qzg (by decide) rfl (nle rfl) rfl,rot,tv⟩,rfl⟩ (NLt.tup _ (nlc (NLt.agg _ (nlcc (nlcc (nlcc (nlcc (nlcc nl0)))))) (nlc nll nl0)))
def Qeu (N:Nat) (p0:Int) (p1:GStream) (p2:(List Int)) (_p3:(List GRow)) (_p4:(List GElement)) (_p5:Nat) (p6:Nat) (_p7:Nat) (_p8:(List GStream)) (_p9:Int) (_p10:(List (List GStream))) (p11:(List GLost)) (_p12:(List Int)):Option ((List GStream)×(List GLost)):=
  (Qil N p1 p2).bind fun x4=>
  chk (decide (0≤p0)&&decide (p0.toNat<p6))<|
  (p11[p0.toNat]?).bind fun x6=>
  chk (decide (0≤p0)&&decide (p0.toNat<p6))<|
  ((p11.set p0.toNat (⟨x4.2.1.Heat,x6.Silica,x6.Gas,x6.Scale⟩:GLost))[p0.toNat]?).bind fun x9=>
  chk (decide (0≤p0)&&decide (p0.toNat<p6))<|
  (((p11.set p0.toNat (⟨x4.2.1.Heat,x6.Silica,x6.Gas,x6.Scale⟩:GLost)).set p0.toNat (⟨x9.Heat,x4.2.1.Silica,x9.Gas,x9.Scale⟩:GLost))[p0.toNat]?).bind fun x12=>
  some (x4.1,((p11.set p0.toNat (⟨x4.2.1.Heat,x6.Silica,x6.Gas,x6.Scale⟩:GLost)).set p0.toNat (⟨x9.Heat,x4.2.1.Silica,x9.Gas,x9.Scale⟩:GLost)).set p0.toNat (⟨x12.Heat,x12.Silica,x4.2.1.Gas,x12.Scale⟩:GLost))
def Zky (p1:GStream):AV:=.agg [(I (p1.Mass)),(I (p1.Heat)),(I (p1.Silica)),(I (p1.Gas))]
def Zkx (p2:(List Int)):AV:=.dat 1 ((p2:List Int).map Qak)
def Qqt (p3:(List GRow)) (p4:(List GElement)) (p5:Nat) (p6:Nat) (p7:Nat) (p8:(List GStream)) (p9:Int):Slot:=.own 7 [[(.dat 5 ((p3:List GRow).map Qa1)),(.dat 7 ((p4:List GElement).map Qab)),(.own 1 1 (0) (p5)),(.own 2 4 (0) (p6)),(.own 3 1 (0) (p7)),(.dat 4 ((p8:List GStream).map Qac)),(I (p9))]]
def Q0z (p10:(List (List GStream))):Slot:=.own 1 ((p10:List (List GStream)).map Qam)
def Q6r (p11:(List GLost)):Slot:=.own 4 ((p11:List GLost).map Qa7)
def Q0y (p12:(List Int)):Slot:=.own 1 ((p12:List Int).map Qak)
def Q00 (x4:((List GStream)×GLoss×Int)):AV:=.dat 4 ((x4.1:List GStream).map Qac)
def Q6q (p11:(List GLost)) (p0:Int) (x4:((List GStream)×GLoss×Int)) (x6:GLost):Slot:=.own 4 ((p11.set p0.toNat (⟨x4.2.1.Heat,x6.Silica,x6.Gas,x6.Scale⟩:GLost):List GLost).map Qa7)
def Q6p (p11:(List GLost)) (p0:Int) (x4:((List GStream)×GLoss×Int)) (x6:GLost) (x9:GLost):Slot:=.own 4 (((p11.set p0.toNat (⟨x4.2.1.Heat,x6.Silica,x6.Gas,x6.Scale⟩:GLost)).set p0.toNat (⟨x9.Heat,x4.2.1.Silica,x9.Gas,x9.Scale⟩:GLost):List GLost).map Qa7)
def Ze6 (p11:(List GLost)) (p0:Int) (x4:((List GStream)×GLoss×Int)) (x6:GLost) (x9:GLost) (x12:GLost):Slot:=.own 4 ((((p11.set p0.toNat (⟨x4.2.1.Heat,x6.Silica,x6.Gas,x6.Scale⟩:GLost)).set p0.toNat (⟨x9.Heat,x4.2.1.Silica,x9.Gas,x9.Scale⟩:GLost)).set p0.toNat (⟨x12.Heat,x12.Silica,x4.2.1.Gas,x12.Scale⟩:GLost):List GLost).map Qa7)
theorem Qi0 (N:Nat) (p0:Int) (p1:GStream) (p2:(List Int)) (p3:(List GRow)) (p4:(List GElement)) (p5:Nat) (p6:Nat) (p7:Nat) (p8:(List GStream)) (p9:Int) (p10:(List (List GStream))) (p11:(List GLost)) (p12:(List Int)) (r:((List GStream)×(List GLost))) (h:Qeu N p0 p1 p2 p3 p4 p5 p6 p7 p8 p9 p10 p11 p12=some r):Spec Tryz.prog 136 [(.ref 0 7 (0) 0),(I (p0)),(Zky p1),(Zkx p2)] [(Qqt p3 p4 p5 p6 p7 p8 p9),(Q0z p10),(Q6r p11),(Q0y p12)] (.dat 4 ((r.1:List GStream).map Qac)) [(Qqt p3 p4 p5 p6 p7 p8 p9),(Q0z p10),(.own 4 ((r.2:List GLost).map Qa7)),(Q0y p12)]:=by
  refine Qah Tryz.func136 rfl 4 (nle rfl) (fun X φ0 w0 hφ0 hd0=>?_)
  unfold Qeu at h
  refine Qbx<|wxz ?_
  obtain ⟨x4,hf3,h⟩:=bno h
  refine wx tbk [(2,rp [fu 146,(.tmp 13,(Zky p1)),(.tmp 14,(Zkx p2))] (.tup [(Q00 x4),(.agg [I x4.2.1.Heat,I x4.2.1.Silica,I x4.2.1.Gas]),I x4.2.2]))] ⟨apv Zdd (Qq6 N p1 p2 _ hf3) (nlc (NLt.agg _ (nlcc (nlcc nl0))) (nlc (nld Qaf _) nl0)) (NLt.tup _ (nlc (nld Qad _) (nlc (NLt.agg _ (nlcc (nlc nll nl0))) (nlc nll nl0)))),tv⟩ ?_
  obtain ⟨hi5,h⟩:=cko h
  obtain ⟨hi5a,hi5b⟩:=Qei hi5
  obtain ⟨x6,hg7,h⟩:=bno h
  obtain ⟨hi8,h⟩:=cko h
  obtain ⟨hi8a,hi8b⟩:=Qei hi8
  obtain ⟨x9,hg10,h⟩:=bno h
  obtain ⟨hi11,h⟩:=cko h
  obtain ⟨hi11a,hi11b⟩:=Qei hi11
  obtain ⟨x12,hg13,h⟩:=bno h
  refine wxd tbk [(1,rb [(.tmp 19,.ref 0 7 0 0)] [(0,(Qqt p3 p4 p5 p6 p7 p8 p9))] (.ref 0 7 0 0)),(7,rb [(.tmp 25,.ref 0 7 0 0)] [(0,(Qqt p3 p4 p5 p6 p7 p8 p9))] (.ref 0 7 0 0)),(13,rb [(.tmp 31,.ref 0 7 0 0)] [(0,(Qqt p3 p4 p5 p6 p7 p8 p9))] (.ref 0 7 0 0)),(24,rb [(.tmp 23,(.own 2 4 (0) (p6))),(.tmp 24,I p0)] [(2,(Q6r p11))] (.ref 2 4 (p0.toNat) 0)),(26,⟨[(.tmp 44,(.ref 2 4 (p0.toNat) 0)),(.tmp 38,I x4.2.1.Heat)],[(2,(Q6r p11))],.any,[(2,(Q6q p11 p0 x4 x6))],false⟩),(27,rb [(.tmp 29,(.own 2 4 (0) (p6))),(.tmp 30,I p0)] [(2,(Q6q p11 p0 x4 x6))] (.ref 2 4 (p0.toNat) 0)),(29,⟨[(.tmp 46,(.ref 2 4 (p0.toNat) 1)),(.tmp 40,I x4.2.1.Silica)],[(2,(Q6q p11 p0 x4 x6))],.any,[(2,(Q6p p11 p0 x4 x6 x9))],false⟩),(30,rb [(.tmp 35,(.own 2 4 (0) (p6))),(.tmp 36,I p0)] [(2,(Q6p p11 p0 x4 x6 x9))] (.ref 2 4 (p0.toNat) 0)),(32,⟨[(.tmp 48,(.ref 2 4 (p0.toNat) 2)),(.tmp 42,I x4.2.1.Gas)],[(2,(Q6p p11 p0 x4 x6 x9))],.any,[(2,(Ze6 p11 p0 x4 x6 x9 x12))],false⟩)] ⟨Qbb rfl,Qbb rfl,Qbb rfl,aio rfl Tryz.underlying32 ti82 (odt hi5a) (odt hi5b) (Nat.zero_add _),ast rfl ti3 (by rfl) (mgt Qa7 hg7) (nle rfl) (Qgr Qa7 rfl),aio rfl Tryz.underlying32 ti82 (odt hi8a) (odt hi8b) (Nat.zero_add _),ast rfl ti3 (by rfl) (mgt Qa7 hg10) (nle rfl) (Qgr Qa7 rfl),aio rfl Tryz.underlying32 ti82 (odt hi11a) (odt hi11b) (Nat.zero_add _),ast rfl ti3 (by rfl) (mgt Qa7 hg13) (nle rfl) (Qgr Qa7 rfl),tv⟩<|wxz ?_
  refine wmr (mto (n:=50) (l':=[(8,(Q00 x4))]) (own':=[(Qqt p3 p4 p5 p6 p7 p8 p9),(Q0z p10),(.own 4 (((((p11.set p0.toNat (⟨x4.2.1.Heat,x6.Silica,x6.Gas,x6.Scale⟩:GLost)).set p0.toNat (⟨x9.Heat,x4.2.1.Silica,x9.Gas,x9.Scale⟩:GLost)).set p0.toNat (⟨x12.Heat,x12.Silica,x4.2.1.Gas,x12.Scale⟩:GLost)):List GLost).map Qa7)),(Q0y p12)]) [(8,(Q00 x4))] [0,1,2,3] [(Qqt p3 p4 p5 p6 p7 p8 p9),(Q0z p10),(Ze6 p11 p0 x4 x6 x9 x12),(Q0y p12)] hφ0 (pc (rnd Qad) pn) (qb (lc (rnd Qai) (lc (rnd Qaa) (lc (.rn (Qa5 rfl)) (lc (.rn (Qa5 rfl)) (lc (.rn (Qa5 rfl)) (lc (rnd Qad) (lc rwl ln))))))) (qc (spr Qal) (qc (spr Qaw) (qc (spr Qaf) qn)))))<|Qae ?_
  obtain rfl:=osi h
  exact ⟨_,Mor.rfl,Qc8 (vs:=[(Q00 x4)]) ⟨rot,tv⟩ rfl (NLt.of0 (nld Qad _)) (by kernel_rfl) (Qao (Qbc (nlc (NLt.of0 (nld Qai _)) (nlc (NLt.of0 (nld Qaa _)) (nlc (NLt.own _ _ _ _ (by decide)) (nlc (NLt.own _ _ _ _ (by decide)) (nlc (NLt.own _ _ _ _ (by decide)) (nlc (NLt.of0 (nld Qad _)) (nlc (NLt.of0 nll) nl0)))))))) (Qao (Qcj Qal _) (Qao (Qcj Qaw _) (Qao (Qcj Qaf _) Qbs))))⟩
def Qep (N:Nat) (p0:Int) (p1:GStream) (p2:(List GRow)) (p3:(List GElement)) (p4:Nat) (p5:Nat) (p6:Nat) (p7:(List GStream)) (p8:Int) (p9:(List (List GStream))) (p10:(List GLost)) (p11:(List Int)):Option ((List GStream)×Int×(List GLost)×(List Int)):=
  (getI p3 p0).bind fun x5=>
  (Qim N p2 x5.Level p1).bind fun x10=>
  chk (decide (0≤p0)&&decide (p0.toNat<p5))<|
  (p10[p0.toNat]?).bind fun x12=>
  chk (decide (0≤p0)&&decide (p0.toNat<p6))<|
  (p11[p0.toNat]?).bind fun x15=>
  chk (decide (0≤p0)&&decide (p0.toNat<p6))<|
  (p11[p0.toNat]?).bind fun _=>
  bif (x5.Amount==0) then
   some ([(⟨x10.1.Steam.Mass,x10.1.Steam.Heat,x10.1.Steam.Silica,x10.1.Steam.Gas⟩:GStream),(⟨x10.1.Water.Mass,x10.1.Water.Heat,x10.1.Water.Silica,x10.1.Water.Gas⟩:GStream)],w64 (p8+x10.1.Steam.Mass),p10.set p0.toNat (⟨x12.Heat,x12.Silica,x12.Gas,x10.1.Scale⟩:GLost),p11.set p0.toNat (w64 (x15+x10.1.Scale)))
  else
   (Qeu N p0 (⟨x10.1.Water.Mass,x10.1.Water.Heat,x10.1.Water.Silica,x10.1.Water.Gas⟩:GStream) ([w64 (1000 - x5.Amount),x5.Amount]) p2 p3 p4 p5 p6 p7 (w64 (p8+x10.1.Steam.Mass)) p9 (p10.set p0.toNat (⟨x12.Heat,x12.Silica,x12.Gas,x10.1.Scale⟩:GLost)) (p11.set p0.toNat (w64 (x15+x10.1.Scale)))).bind fun x22=>
   (getI x22.1 1).bind fun x23=>
   (Qfe N ([(⟨x10.1.Steam.Mass,x10.1.Steam.Heat,x10.1.Steam.Silica,x10.1.Steam.Gas⟩:GStream),x23])).bind fun x28=>
   (getI x22.1 0).bind fun x29=>
   some ([x28,x29],w64 (p8+x10.1.Steam.Mass),x22.2,p11.set p0.toNat (w64 (x15+x10.1.Scale)))
def Zk2 (p1:GStream):AV:=.agg [(I (p1.Mass)),(I (p1.Heat)),(I (p1.Silica)),(I (p1.Gas))]
def Q3k (p2:(List GRow)):AV:=.dat 5 ((p2:List GRow).map Qa1)
def Q3j (p3:(List GElement)):AV:=.dat 7 ((p3:List GElement).map Qab)
def Q6v (p7:(List GStream)):AV:=.dat 4 ((p7:List GStream).map Qac)
def Qyw (p2:(List GRow)) (p3:(List GElement)) (p4:Nat) (p5:Nat) (p6:Nat) (p7:(List GStream)) (p8:Int):Slot:=.own 7 [[(Q3k p2),(Q3j p3),(.own 1 1 (0) (p4)),(.own 2 4 (0) (p5)),(.own 3 1 (0) (p6)),(Q6v p7),(I (p8))]]
def Qms (p9:(List (List GStream))):Slot:=.own 1 ((p9:List (List GStream)).map Qam)
def Q6w (p10:(List GLost)):Slot:=.own 4 ((p10:List GLost).map Qa7)
def Qv9 (p11:(List Int)):Slot:=.own 1 ((p11:List Int).map Qak)
def Q06 (p10:(List GLost)) (p0:Int) (x12:GLost) (x10:(GParts×Int)):Slot:=.own 4 ((p10.set p0.toNat (⟨x12.Heat,x12.Silica,x12.Gas,x10.1.Scale⟩:GLost):List GLost).map Qa7)
def Qqu (p11:(List Int)) (p0:Int) (x15:Int) (x10:(GParts×Int)):Slot:=.own 1 ((p11.set p0.toNat (w64 (x15+x10.1.Scale)):List Int).map Qak)
def Q05 (x10:(GParts×Int)):AV:=.agg [(I (x10.1.Steam.Mass)),(I (x10.1.Steam.Heat)),(I (x10.1.Steam.Silica)),(I (x10.1.Steam.Gas))]
def Q6u (x10:(GParts×Int)):AV:=.agg [(I (x10.1.Water.Mass)),(I (x10.1.Water.Heat)),(I (x10.1.Water.Silica)),(I (x10.1.Water.Gas))]
def Q04 (x10:(GParts×Int)):AV:=.dat 4 (([(⟨x10.1.Steam.Mass,x10.1.Steam.Heat,x10.1.Steam.Silica,x10.1.Steam.Gas⟩:GStream),(⟨x10.1.Water.Mass,x10.1.Water.Heat,x10.1.Water.Silica,x10.1.Water.Gas⟩:GStream)]:List GStream).map Qac)
def Qs7 (p2:(List GRow)) (p3:(List GElement)) (p4:Nat) (p5:Nat) (p6:Nat) (p7:(List GStream)) (p8:Int) (x10:(GParts×Int)):Slot:=.own 7 [[(Q3k p2),(Q3j p3),(.own 1 1 (0) (p4)),(.own 2 4 (0) (p5)),(.own 3 1 (0) (p6)),(Q6v p7),(I (w64 (p8+x10.1.Steam.Mass)))]]
def Q6t (x5:GElement):AV:=.dat 1 (([w64 (1000 - x5.Amount),x5.Amount]:List Int).map Qak)
def Q02 (x22:((List GStream)×(List GLost))):AV:=.dat 4 ((x22.1:List GStream).map Qac)
def Q03 (x22:((List GStream)×(List GLost))):Slot:=.own 4 ((x22.2:List GLost).map Qa7)
def Ze9 (x23:GStream):AV:=.agg [(I (x23.Mass)),(I (x23.Heat)),(I (x23.Silica)),(I (x23.Gas))]
def Ze8 (x10:(GParts×Int)) (x23:GStream):AV:=.dat 4 (([(⟨x10.1.Steam.Mass,x10.1.Steam.Heat,x10.1.Steam.Silica,x10.1.Steam.Gas⟩:GStream),x23]:List GStream).map Qac)
def Q6s (x28:GStream):AV:=.agg [(I (x28.Mass)),(I (x28.Heat)),(I (x28.Silica)),(I (x28.Gas))]
def Ze7 (x29:GStream):AV:=.agg [(I (x29.Mass)),(I (x29.Heat)),(I (x29.Silica)),(I (x29.Gas))]
def Q01 (x28:GStream) (x29:GStream):AV:=.dat 4 (([x28,x29]:List GStream).map Qac)
theorem Qkq (N:Nat) (p0:Int) (p1:GStream) (p2:(List GRow)) (p3:(List GElement)) (p4:Nat) (p5:Nat) (p6:Nat) (p7:(List GStream)) (p8:Int) (p9:(List (List GStream))) (p10:(List GLost)) (p11:(List Int)) (r:((List GStream)×Int×(List GLost)×(List Int))) (h:Qep N p0 p1 p2 p3 p4 p5 p6 p7 p8 p9 p10 p11=some r):Spec Tryz.prog 119 [(.ref 0 7 (0) 0),(I (p0)),(Zk2 p1)] [(Qyw p2 p3 p4 p5 p6 p7 p8),(Qms p9),(Q6w p10),(Qv9 p11)] (.dat 4 ((r.1:List GStream).map Qac)) [(.own 7 [[(Q3k p2),(Q3j p3),(.own 1 1 (0) (p4)),(.own 2 4 (0) (p5)),(.own 3 1 (0) (p6)),(Q6v p7),(I (r.2.1))]]),(Qms p9),(.own 4 ((r.2.2.1:List GLost).map Qa7)),(.own 1 ((r.2.2.2:List Int).map Qak))]:=by
  refine Qah Tryz.func119 rfl 4 (nle rfl) (fun X φ0 w0 hφ0 hd0=>?_)
  unfold Qep at h
  refine Qbx<|wxz ?_
  obtain ⟨x5,hg6,h⟩:=bno h
  obtain ⟨hi7,hj8⟩:=gsm hg6
  refine wx tbk [(1,rb [(.tmp 11,.ref 0 7 0 0)] [(0,(Qyw p2 p3 p4 p5 p6 p7 p8))] (.ref 0 7 0 0)),(6,rp [(.tmp 15,(Q3j p3)),(.tmp 16,I p0)] (.dptr (Qab (x5)) 0))] ⟨Qbb rfl,aid rfl Tryz.underlying40 Qju rfl rfl hi7 (mgt Qab hj8) rfl,tv⟩ ?_
  obtain ⟨x10,hf9,h⟩:=bno h
  refine wxd tbk [(1,rb [(.tmp 20,.ref 0 7 0 0)] [(0,(Qyw p2 p3 p4 p5 p6 p7 p8))] (.ref 0 7 0 0)),(8,rp [fu 135,(.tmp 24,(Q3k p2)),(.tmp 26,I x5.Level),(.tmp 27,(Zk2 p1))] (.tup [(.agg [I x10.1.Steam.Mass,I x10.1.Steam.Heat,I x10.1.Steam.Silica,I x10.1.Steam.Gas,I x10.1.Water.Mass,I x10.1.Water.Heat,I x10.1.Water.Silica,I x10.1.Water.Gas,I x10.1.Rest,I x10.1.Scale]),I x10.2]))] ⟨Qbb rfl,apv Zdl (Qq7 N p2 x5.Level p1 _ hf9) (nlc (nld Qai _) (nlc nll (nlc (NLt.agg _ (nlcc (nlcc nl0))) nl0))) (NLt.tup _ (nlc (NLt.agg _ (nlcc (nlcc (nlcc (nlcc (nlcc nl0)))))) (nlc nll nl0))),tv⟩ ?_
  obtain ⟨hi11,h⟩:=cko h
  obtain ⟨hi11a,hi11b⟩:=Qei hi11
  obtain ⟨x12,hg13,h⟩:=bno h
  refine wxd tbk [(1,rb [(.tmp 31,.ref 0 7 0 0)] [(0,(Qyw p2 p3 p4 p5 p6 p7 p8))] (.ref 0 7 0 0)),(8,rb [(.tmp 35,(.own 2 4 (0) (p5))),(.tmp 36,I p0)] [(2,(Q6w p10))] (.ref 2 4 (p0.toNat) 0)),(10,⟨[(.tmp 40,(.ref 2 4 (p0.toNat) 3)),(.tmp 38,I x10.1.Scale)],[(2,(Q6w p10))],.any,[(2,(Q06 p10 p0 x12 x10))],false⟩)] ⟨Qbb rfl,aio rfl Tryz.underlying32 ti82 (odt hi11a) (odt hi11b) (Nat.zero_add _),ast rfl ti3 (by rfl) (mgt Qa7 hg13) (nle rfl) (Qgr Qa7 rfl),tv⟩ ?_
  obtain ⟨hi14,h⟩:=cko h
  obtain ⟨hi14a,hi14b⟩:=Qei hi14
  obtain ⟨x15,hg16,h⟩:=bno h
  obtain ⟨hi17,h⟩:=cko h
  obtain ⟨hi17a,hi17b⟩:=Qei hi17
  obtain ⟨x18,hg19,h⟩:=bno h
  refine wxd tbk [(1,rb [(.tmp 41,.ref 0 7 0 0)] [(0,(Qyw p2 p3 p4 p5 p6 p7 p8))] (.ref 0 7 0 0)),(6,rb [(.tmp 45,(.own 3 1 (0) (p6))),(.tmp 46,I p0)] [(3,(Qv9 p11))] (.ref 3 1 (p0.toNat) 0)),(7,rb [(.tmp 47,(.ref 3 1 (p0.toNat) 0))] [(3,(Qv9 p11))] (I x15)),(11,rb [(.tmp 45,(.own 3 1 (0) (p6))),(.tmp 46,I p0)] [(3,(Qv9 p11))] (.ref 3 1 (p0.toNat) 0)),(12,⟨[(.tmp 52,(.ref 3 1 (p0.toNat) 0)),(.tmp 51,(I (w64 (x15+x10.1.Scale))))],[(3,(Qv9 p11))],.any,[(3,(Qqu p11 p0 x15 x10))],false⟩)] ⟨Qbb rfl,aio rfl Tryz.underlying27 ti3 (odt hi14a) (odt hi14b) (Nat.zero_add _),ald rfl ti3 (by decide) (mgt Qak hg16) (nle rfl) rfl,aio rfl Tryz.underlying27 ti3 (odt hi17a) (odt hi17b) (Nat.zero_add _),ast rfl ti3 (by rfl) (mgt Qak hg19) (nle rfl) (Qgr Qak rfl),tv⟩ ?_
  refine wxd tbk [(1,rb [(.tmp 53,.ref 0 7 0 0)] [(0,(Qyw p2 p3 p4 p5 p6 p7 p8))] (.ref 0 7 0 0)),(8,rb [(.tmp 53,.ref 0 7 0 0)] [(0,(Qyw p2 p3 p4 p5 p6 p7 p8))] (.ref 0 7 0 0))] ⟨Qbb rfl,Qbb rfl,tv⟩<|wsq<|wxz ?_
  refine bfe h (fun hc20 h=>?_) fun hc20 h=>?_
  ·refine wft hc20<|wx tbk [(4,rp [(.tmp 67,(Q05 x10)),(.tmp 69,(Q6u x10))] (Q04 x10))] ⟨Qbo (vs:=[(Q05 x10),(Q6u x10)]) rfl Tryz.underlying45 ti63 tz63 rfl (by decide) rfl (by decide) (by rfl) (by rfl) (by rfl) rfl,tv⟩ ?_
   refine wmr (mto (n:=93) (l':=[(6,(Q04 x10))]) (own':=[(.own 7 [[(Q3k p2),(Q3j p3),(.own 1 1 (0) (p4)),(.own 2 4 (0) (p5)),(.own 3 1 (0) (p6)),(Q6v p7),(I ((w64 (p8+x10.1.Steam.Mass))))]]),(Qms p9),(.own 4 (((p10.set p0.toNat (⟨x12.Heat,x12.Silica,x12.Gas,x10.1.Scale⟩:GLost)):List GLost).map Qa7)),(.own 1 (((p11.set p0.toNat (w64 (x15+x10.1.Scale))):List Int).map Qak))]) [(6,(Q04 x10))] [0,1,2,3] [(Qs7 p2 p3 p4 p5 p6 p7 p8 x10),(Qms p9),(Q06 p10 p0 x12 x10),(Qqu p11 p0 x15 x10)] hφ0 (pc (rnd Qad) pn) (qb (lc (rnd Qai) (lc (rnd Qaa) (lc (.rn (Qa5 rfl)) (lc (.rn (Qa5 rfl)) (lc (.rn (Qa5 rfl)) (lc (rnd Qad) (lc rwl ln))))))) (qc (spr Qal) (qc (spr Qaw) (qc (spr Qaf) qn)))))<|Qae<|Qag ?_
   obtain rfl:=osi h
   exact ⟨_,Mor.rfl,Qc8 (vs:=[(Q04 x10)]) ⟨rot,tv⟩ rfl (NLt.of0 (nld Qad _)) (by kernel_rfl) (Qao (Qbc (nlc (NLt.of0 (nld Qai _)) (nlc (NLt.of0 (nld Qaa _)) (nlc (NLt.own _ _ _ _ (by decide)) (nlc (NLt.own _ _ _ _ (by decide)) (nlc (NLt.own _ _ _ _ (by decide)) (nlc (NLt.of0 (nld Qad _)) (nlc (NLt.of0 nll) nl0)))))))) (Qao (Qcj Qal _) (Qao (Qcj Qaw _) (Qao (Qcj Qaf _) Qbs))))⟩
  ·refine wfn hc20<|Qan<|thn ?_
   obtain ⟨x22,hf21,h⟩:=bno h
   refine wx tbk [(9,rp [(.tmp 77,(I (w64 (1000 - x5.Amount)))),(.tmp 79,I x5.Amount)] (Q6t x5)),(10,⟨[fu 136,(.tmp 71,.ref 0 7 0 0),(.tmp 72,I p0),(.tmp 74,(Q6u x10)),(.tmp 80,(Q6t x5))],[(0,(Qs7 p2 p3 p4 p5 p6 p7 p8 x10)),(1,(Qms p9)),(2,(Q06 p10 p0 x12 x10)),(3,(Qqu p11 p0 x15 x10))],(Q02 x22),[(0,(Qs7 p2 p3 p4 p5 p6 p7 p8 x10)),(1,(Qms p9)),(2,(Q03 x22)),(3,(Qqu p11 p0 x15 x10))],false⟩)] ⟨Qbo (vs:=[(I (w64 (1000 - x5.Amount))),I x5.Amount]) rfl Tryz.underlying27 ti3 tz3 rfl (by decide) rfl (by decide) (by rfl) (by rfl) (by rfl) rfl,Qat (first:=[]) (cap:=[]) (vs:=[.ref 0 7 0 0,I p0,(.agg [(I ((⟨x10.1.Water.Mass,x10.1.Water.Heat,x10.1.Water.Silica,x10.1.Water.Gas⟩:GStream).Mass)),(I ((⟨x10.1.Water.Mass,x10.1.Water.Heat,x10.1.Water.Silica,x10.1.Water.Gas⟩:GStream).Heat)),(I ((⟨x10.1.Water.Mass,x10.1.Water.Heat,x10.1.Water.Silica,x10.1.Water.Gas⟩:GStream).Silica)),(I ((⟨x10.1.Water.Mass,x10.1.Water.Heat,x10.1.Water.Silica,x10.1.Water.Gas⟩:GStream).Gas))]),(Q6t x5)]) (σr:=[(Qs7 p2 p3 p4 p5 p6 p7 p8 x10),(Qms p9),(Q06 p10 p0 x12 x10),(Qqu p11 p0 x15 x10)]) (σr':=[(Qs7 p2 p3 p4 p5 p6 p7 p8 x10),(Qms p9),(Q03 x22),(Qqu p11 p0 x15 x10)]) (res':=(Q02 x22)) [0,1,2,3] rfl Q2v (Qi0 N p0 (⟨x10.1.Water.Mass,x10.1.Water.Heat,x10.1.Water.Silica,x10.1.Water.Gas⟩:GStream) ([w64 (1000 - x5.Amount),x5.Amount]) p2 p3 p4 p5 p6 p7 (w64 (p8+x10.1.Steam.Mass)) p9 (p10.set p0.toNat (⟨x12.Heat,x12.Silica,x12.Gas,x10.1.Scale⟩:GLost)) (p11.set p0.toNat (w64 (x15+x10.1.Scale))) _ hf21) rfl (Qbt (rnc (Qbj rfl) (rnc (.plain _ nll) (rnc (.plain _ (NLt.agg _ (nlcc (nlcc nl0)))) (rnc (pld Qaf) rn0))))) (slc (Qaq (rnc (pld Qai) (rnc (pld Qaa) (rnc (Qc5 rfl) (rnc (Qc5 rfl) (rnc (Qc5 rfl) (rnc (pld Qad) (rnc (.plain _ nll) rn0)))))))) (slc (Qa6 Qal) (slc (Qa6 Qaw) (slc (Qa6 Qaf) Qas)))) (slc (Qaq (rnc (pld Qai) (rnc (pld Qaa) (rnc (Qdb rfl) (rnc (Qdb rfl) (rnc (Qdb rfl) (rnc (pld Qad) (rnc (.plain _ nll) rn0)))))))) (slc (Qa6 Qal) (slc (Qa6 Qaw) (slc (Qa6 Qaf) Qas)))) (pld Qad) rfl rfl rfl,tv⟩ ?_
   obtain ⟨x23,hg24,h⟩:=bno h
   obtain ⟨hi25,hj26⟩:=gsm hg24
   obtain ⟨x28,hf27,h⟩:=bno h
   obtain ⟨x29,hg30,h⟩:=bno h
   obtain ⟨hi31,hj32⟩:=gsm hg30
   refine wxd tbk [(3,rp [(.tmp 84,(Q02 x22)),ci 1] (.dptr (Qac (x23)) 0)),(5,rp [(.tmp 83,(Q05 x10)),(.tmp 86,(Ze9 x23))] (Ze8 x10 x23)),(6,rp [fu 76,(.tmp 87,(Ze8 x10 x23))] (Q6s x28)),(8,rp [(.tmp 89,(Q02 x22)),ci 0] (.dptr (Qac (x29)) 0)),(10,rp [(.tmp 88,(Q6s x28)),(.tmp 91,(Ze7 x29))] (Q01 x28 x29))] ⟨aid rfl Tryz.underlying45 ti63 rfl rfl hi25 (mgt Qac hj26) rfl,Qbo (vs:=[(Q05 x10),(Ze9 x23)]) rfl Tryz.underlying45 ti63 tz63 rfl (by decide) rfl (by decide) (by rfl) (by rfl) (by rfl) rfl,apv Qz5 (Qki N ([(⟨x10.1.Steam.Mass,x10.1.Steam.Heat,x10.1.Steam.Silica,x10.1.Steam.Gas⟩:GStream),x23]) _ hf27) (nlc (nld Qad _) nl0) (NLt.agg _ (nlcc (nlcc nl0))),aid rfl Tryz.underlying45 ti63 rfl rfl hi31 (mgt Qac hj32) rfl,Qbo (vs:=[(Q6s x28),(Ze7 x29)]) rfl Tryz.underlying45 ti63 tz63 rfl (by decide) rfl (by decide) (by rfl) (by rfl) (by rfl) rfl,tv⟩ ?_
   refine wmr (mto (n:=93) (l':=[(6,(Q01 x28 x29))]) (own':=[(.own 7 [[(Q3k p2),(Q3j p3),(.own 1 1 (0) (p4)),(.own 2 4 (0) (p5)),(.own 3 1 (0) (p6)),(Q6v p7),(I ((w64 (p8+x10.1.Steam.Mass))))]]),(Qms p9),(Q03 x22),(.own 1 (((p11.set p0.toNat (w64 (x15+x10.1.Scale))):List Int).map Qak))]) [(6,(Q01 x28 x29))] [0,1,2,3] [(Qs7 p2 p3 p4 p5 p6 p7 p8 x10),(Qms p9),(Q03 x22),(Qqu p11 p0 x15 x10)] hφ0 (pc (rnd Qad) pn) (qb (lc (rnd Qai) (lc (rnd Qaa) (lc (.rn (Qa5 rfl)) (lc (.rn (Qa5 rfl)) (lc (.rn (Qa5 rfl)) (lc (rnd Qad) (lc rwl ln))))))) (qc (spr Qal) (qc (spr Qaw) (qc (spr Qaf) qn)))))<|Qae ?_
   obtain rfl:=osi h
   exact ⟨_,Mor.rfl,Qc8 (vs:=[(Q01 x28 x29)]) ⟨rot,tv⟩ rfl (NLt.of0 (nld Qad _)) (by kernel_rfl) (Qao (Qbc (nlc (NLt.of0 (nld Qai _)) (nlc (NLt.of0 (nld Qaa _)) (nlc (NLt.own _ _ _ _ (by decide)) (nlc (NLt.own _ _ _ _ (by decide)) (nlc (NLt.own _ _ _ _ (by decide)) (nlc (NLt.of0 (nld Qad _)) (nlc (NLt.of0 nll) nl0)))))))) (Qao (Qcj Qal _) (Qao (Qcj Qaw _) (Qao (Qcj Qaf _) Qbs))))⟩
def Qgs (N:Nat) (p0:Int) (p1:GStream) (p2:(List GRow)) (p3:(List GElement)) (p4:Nat) (p5:Nat) (p6:Nat) (p7:(List GStream)) (p8:Int) (p9:(List (List GStream))) (p10:(List GLost)) (p11:(List Int)):Option ((List GStream)×(List GLost)):=
  (getI p3 p0).bind fun x3=>
  (Qeu N p0 p1 x3.Weights p2 p3 p4 p5 p6 p7 p8 p9 p10 p11).bind fun x8=>
  some (x8.1,x8.2)
def Zgo (p1:GStream):AV:=.agg [(I (p1.Mass)),(I (p1.Heat)),(I (p1.Silica)),(I (p1.Gas))]
def Quf (p2:(List GRow)) (p3:(List GElement)) (p4:Nat) (p5:Nat) (p6:Nat) (p7:(List GStream)) (p8:Int):Slot:=.own 7 [[(.dat 5 ((p2:List GRow).map Qa1)),(.dat 7 ((p3:List GElement).map Qab)),(.own 1 1 (0) (p4)),(.own 2 4 (0) (p5)),(.own 3 1 (0) (p6)),(.dat 4 ((p7:List GStream).map Qac)),(I (p8))]]
def Qv7 (p9:(List (List GStream))):Slot:=.own 1 ((p9:List (List GStream)).map Qam)
def Zgn (p10:(List GLost)):Slot:=.own 4 ((p10:List GLost).map Qa7)
def Qv6 (p11:(List Int)):Slot:=.own 1 ((p11:List Int).map Qak)
def Qv8 (x8:((List GStream)×(List GLost))):AV:=.dat 4 ((x8.1:List GStream).map Qac)
def Q0x (x8:((List GStream)×(List GLost))):Slot:=.own 4 ((x8.2:List GLost).map Qa7)
theorem Qlx (N:Nat) (p0:Int) (p1:GStream) (p2:(List GRow)) (p3:(List GElement)) (p4:Nat) (p5:Nat) (p6:Nat) (p7:(List GStream)) (p8:Int) (p9:(List (List GStream))) (p10:(List GLost)) (p11:(List Int)) (r:((List GStream)×(List GLost))) (h:Qgs N p0 p1 p2 p3 p4 p5 p6 p7 p8 p9 p10 p11=some r):Spec Tryz.prog 120 [(.ref 0 7 (0) 0),(I (p0)),(Zgo p1)] [(Quf p2 p3 p4 p5 p6 p7 p8),(Qv7 p9),(Zgn p10),(Qv6 p11)] (.dat 4 ((r.1:List GStream).map Qac)) [(Quf p2 p3 p4 p5 p6 p7 p8),(Qv7 p9),(.own 4 ((r.2:List GLost).map Qa7)),(Qv6 p11)]:=by
  refine Qah Tryz.func120 rfl 4 (nle rfl) (fun X φ0 w0 hφ0 hd0=>?_)
  unfold Qgs at h
  refine Qbx<|wxz ?_
  obtain ⟨x3,hg4,h⟩:=bno h
  obtain ⟨hi5,hj6⟩:=gsm hg4
  obtain ⟨x8,hf7,h⟩:=bno h
  refine wxd tbk [(4,rb [(.tmp 10,.ref 0 7 0 0)] [(0,(Quf p2 p3 p4 p5 p6 p7 p8))] (.ref 0 7 0 0)),(9,rp [(.tmp 14,(.dat 7 ((p3:List GElement).map Qab))),(.tmp 15,I p0)] (.dptr (Qab (x3)) 0)),(12,⟨[fu 136,(.tmp 7,.ref 0 7 0 0),(.tmp 8,I p0),(.tmp 9,(Zgo p1)),(.tmp 18,(.dat 1 ((x3.Weights:List Int).map Qak)))],[(0,(Quf p2 p3 p4 p5 p6 p7 p8)),(1,(Qv7 p9)),(2,(Zgn p10)),(3,(Qv6 p11))],(Qv8 x8),[(0,(Quf p2 p3 p4 p5 p6 p7 p8)),(1,(Qv7 p9)),(2,(Q0x x8)),(3,(Qv6 p11))],false⟩)] ⟨Qbb rfl,aid rfl Tryz.underlying40 Qju rfl rfl hi5 (mgt Qab hj6) rfl,Qat (first:=[]) (cap:=[]) (vs:=[.ref 0 7 0 0,I p0,(Zgo p1),(.dat 1 ((x3.Weights:List Int).map Qak))]) (σr:=[(Quf p2 p3 p4 p5 p6 p7 p8),(Qv7 p9),(Zgn p10),(Qv6 p11)]) (σr':=[(Quf p2 p3 p4 p5 p6 p7 p8),(Qv7 p9),(Q0x x8),(Qv6 p11)]) (res':=(Qv8 x8)) [0,1,2,3] rfl Q2v (Qi0 N p0 p1 x3.Weights p2 p3 p4 p5 p6 p7 p8 p9 p10 p11 _ hf7) rfl (Qbt (rnc (Qbj rfl) (rnc (.plain _ nll) (rnc (.plain _ (NLt.agg _ (nlcc (nlcc nl0)))) (rnc (pld Qaf) rn0))))) (slc (Qaq (rnc (pld Qai) (rnc (pld Qaa) (rnc (Qc5 rfl) (rnc (Qc5 rfl) (rnc (Qc5 rfl) (rnc (pld Qad) (rnc (.plain _ nll) rn0)))))))) (slc (Qa6 Qal) (slc (Qa6 Qaw) (slc (Qa6 Qaf) Qas)))) (slc (Qaq (rnc (pld Qai) (rnc (pld Qaa) (rnc (Qdb rfl) (rnc (Qdb rfl) (rnc (Qdb rfl) (rnc (pld Qad) (rnc (.plain _ nll) rn0)))))))) (slc (Qa6 Qal) (slc (Qa6 Qaw) (slc (Qa6 Qaf) Qas)))) (pld Qad) rfl rfl rfl,tv⟩ ?_
  refine wmr (mto (n:=20) (l':=[(6,(Qv8 x8))]) (own':=[(Quf p2 p3 p4 p5 p6 p7 p8),(Qv7 p9),(Q0x x8),(Qv6 p11)]) [(6,(Qv8 x8))] [0,1,2,3] [(Quf p2 p3 p4 p5 p6 p7 p8),(Qv7 p9),(Q0x x8),(Qv6 p11)] hφ0 (pc (rnd Qad) pn) (qb (lc (rnd Qai) (lc (rnd Qaa) (lc (.rn (Qa5 rfl)) (lc (.rn (Qa5 rfl)) (lc (.rn (Qa5 rfl)) (lc (rnd Qad) (lc rwl ln))))))) (qc (spr Qal) (qc (spr Qaw) (qc (spr Qaf) qn)))))<|Qae ?_
  obtain rfl:=osi h
  exact ⟨_,Mor.rfl,Qc8 (vs:=[(Qv8 x8)]) ⟨rot,tv⟩ rfl (NLt.of0 (nld Qad _)) (by kernel_rfl) (Qao (Qbc (nlc (NLt.of0 (nld Qai _)) (nlc (NLt.of0 (nld Qaa _)) (nlc (NLt.own _ _ _ _ (by decide)) (nlc (NLt.own _ _ _ _ (by decide)) (nlc (NLt.own _ _ _ _ (by decide)) (nlc (NLt.of0 (nld Qad _)) (nlc (NLt.of0 nll) nl0)))))))) (Qao (Qcj Qal _) (Qao (Qcj Qaw _) (Qao (Qcj Qaf _) Qbs))))⟩
def Qcr (N:Nat) (p0:Int) (p1:Int) (p2:(List GRow)) (p3:(List GElement)) (p4:Nat) (p5:Nat) (p6:Nat) (p7:(List GStream)) (p8:Int) (p9:(List (List GStream))) (p10:(List GLost)) (p11:(List Int)):Option ((Int×(List (List GStream))×(List GLost)×(List Int))⊕Int):=
  (Qf8 N p0 p2 p3 p4 p5 p6 p7 p8 p9 p10 p11).bind fun _=>
  chk (decide (p4≤p9.length))<|
  chk (decide (p5≤p10.length))<|
  chk (decide (p6≤p11.length))<|
  (Qby N p2 p3 (p9.take p4) (p10.take p5) (p11.take p6) p7 p8 p0).bind fun x12=>
  (Qfe N x12).bind fun x14=>
  Qbp (fun _=>
    (getI p3 p0).bind fun x16=>
    bif (x16.Kind==0) then
     none
    else
     bif (x16.Kind==1) then
      (Qe8 N p0 x14 p2 p3 p4 p5 p6 p7 p8 p9 p10 p11).bind fun x23=>
      chk (decide (0≤p0)&&decide (p0.toNat<p4))<|
      (p9[p0.toNat]?).bind fun _=>
      some (.inl (p8,p9.set p0.toNat x23,p10,p11))
     else
      bif (x16.Kind==2) then
       (Qe8 N p0 x14 p2 p3 p4 p5 p6 p7 p8 p9 p10 p11).bind fun x29=>
       chk (decide (0≤p0)&&decide (p0.toNat<p4))<|
       (p9[p0.toNat]?).bind fun _=>
       some (.inl (p8,p9.set p0.toNat x29,p10,p11))
      else
       bif (x16.Kind==3) then
        (Qg3 N p0 x14 p2 p3 p4 p5 p6 p7 p8 p9 p10 p11).bind fun x35=>
        chk (decide (0≤p0)&&decide (p0.toNat<p4))<|
        (p9[p0.toNat]?).bind fun _=>
        some (.inl (p8,p9.set p0.toNat x35.1,x35.2,p11))
       else
        bif (x16.Kind==4) then
         (Qep N p0 x14 p2 p3 p4 p5 p6 p7 p8 p9 p10 p11).bind fun x41=>
         chk (decide (0≤p0)&&decide (p0.toNat<p4))<|
         (p9[p0.toNat]?).bind fun _=>
         some (.inl (x41.2.1,p9.set p0.toNat x41.1,x41.2.2.1,x41.2.2.2))
        else
         bif (x16.Kind==5) then
          (Qgs N p0 x14 p2 p3 p4 p5 p6 p7 p8 p9 p10 p11).bind fun x47=>
          chk (decide (0≤p0)&&decide (p0.toNat<p4))<|
          (p9[p0.toNat]?).bind fun _=>
          some (.inl (p8,p9.set p0.toNat x47.1,x47.2,p11))
         else
          bif (x16.Kind==6) then
           (Qe8 N p0 x14 p2 p3 p4 p5 p6 p7 p8 p9 p10 p11).bind fun x53=>
           chk (decide (0≤p0)&&decide (p0.toNat<p4))<|
           (p9[p0.toNat]?).bind fun _=>
           some (.inl (p8,p9.set p0.toNat x53,p10,p11))
          else
           none) fun k15:Unit→Option ((Int×(List (List GStream))×(List GLost)×(List Int))⊕Int)=>
  bif (decide (x14.Mass>p1)) then
   some (.inr p0)
  else
   k15 ()
def Qqw (p2:(List GRow)):AV:=.dat 5 ((p2:List GRow).map Qa1)
def Qjr (p3:(List GElement)):AV:=.dat 7 ((p3:List GElement).map Qab)
def Qqv (p7:(List GStream)):AV:=.dat 4 ((p7:List GStream).map Qac)
def Qf1 (p2:(List GRow)) (p3:(List GElement)) (p4:Nat) (p5:Nat) (p6:Nat) (p7:(List GStream)) (p8:Int):Slot:=.own 7 [[(Qqw p2),(Qjr p3),(.own 1 1 (0) (p4)),(.own 2 4 (0) (p5)),(.own 3 1 (0) (p6)),(Qqv p7),(I (p8))]]
def Qfi (p9:(List (List GStream))):Slot:=.own 1 ((p9:List (List GStream)).map Qam)
def Qg1 (p10:(List GLost)):Slot:=.own 4 ((p10:List GLost).map Qa7)
def Qf0 (p11:(List Int)):Slot:=.own 1 ((p11:List Int).map Qak)
def Zgw:AV:=.fn (.func 133) [] [(.ref 4 1 (0) 0),(.ref 5 1 (0) 0)]
def Zgx:Slot:=.own 1 [[(.ref 0 7 (0) 0)]]
def Q63 (x12:(List GStream)):AV:=.acc 6 63 4 ((x12:List GStream).map Qac)
def Qhl (x14:GStream):AV:=.agg [(I (x14.Mass)),(I (x14.Heat)),(I (x14.Silica)),(I (x14.Gas))]
def Qpr (x14:GStream):Slot:=.own 4 [[(I (x14.Mass)),(I (x14.Heat)),(I (x14.Silica)),(I (x14.Gas))]]
def Qlg:Slot:=.own 7 [[(.lit .nilFunc),(.fn (.func 117) [] []),(.fn (.func 117) [] []),(.fn (.func 118) [] []),(.fn (.func 119) [] []),(.fn (.func 120) [] []),(.fn (.func 117) [] [])]]
def Q62 (x23:(List GStream)):AV:=.dat 4 ((x23:List GStream).map Qac)
def Q61 (x29:(List GStream)):AV:=.dat 4 ((x29:List GStream).map Qac)
def Q1g (x35:((List GStream)×(List GLost))):Slot:=.own 4 ((x35.2:List GLost).map Qa7)
def Q1f (p2:(List GRow)) (p3:(List GElement)) (p4:Nat) (p5:Nat) (p6:Nat) (p7:(List GStream)) (x41:((List GStream)×Int×(List GLost)×(List Int))):Slot:=.own 7 [[(Qqw p2),(Qjr p3),(.own 1 1 (0) (p4)),(.own 2 4 (0) (p5)),(.own 3 1 (0) (p6)),(Qqv p7),(I (x41.2.1))]]
def Q1e (x41:((List GStream)×Int×(List GLost)×(List Int))):Slot:=.own 4 ((x41.2.2.1:List GLost).map Qa7)
def Q1d (x41:((List GStream)×Int×(List GLost)×(List Int))):Slot:=.own 1 ((x41.2.2.2:List Int).map Qak)
def Q1c (x47:((List GStream)×(List GLost))):Slot:=.own 4 ((x47.2:List GLost).map Qa7)
def Q60 (x53:(List GStream)):AV:=.dat 4 ((x53:List GStream).map Qac)
theorem Qhx (N:Nat) (p0:Int) (p1:Int) (p2:(List GRow)) (p3:(List GElement)) (p4:Nat) (p5:Nat) (p6:Nat) (p7:(List GStream)) (p8:Int) (p9:(List (List GStream))) (p10:(List GLost)) (p11:(List Int)) (r:((Int×(List (List GStream))×(List GLost)×(List Int))⊕Int)) (h:Qcr N p0 p1 p2 p3 p4 p5 p6 p7 p8 p9 p10 p11=some r):Zml Tryz.prog 97 [(.ref 0 7 (0) 0),(I (p0)),(I (p1))] [(Qf1 p2 p3 p4 p5 p6 p7 p8),(Qfi p9),(Qg1 p10),(Qf0 p11)]  ((Sum.elim (fun r=>.ret (.tup []) [(.own 7 [[(.dat 5 ((p2:List GRow).map Qa1)),(.dat 7 ((p3:List GElement).map Qab)),(.own 1 1 (0) (p4)),(.own 2 4 (0) (p5)),(.own 3 1 (0) (p6)),(.dat 4 ((p7:List GStream).map Qac)),(I (r.1))]]),(.own 1 ((r.2.1:List (List GStream)).map Qam)),(.own 4 ((r.2.2.1:List GLost).map Qa7)),(.own 1 ((r.2.2.2:List Int).map Qak))]) (fun r=>.pan (.iface 182 (.agg #[(.int .i64 (r))]))):((Int×(List (List GStream))×(List GLost)×(List Int))⊕Int)→Out) r):=by
  refine Qww Tryz.func97 rfl 4 (nle rfl) (fun X φ0 w0 hφ0 hd0=>?_)
  unfold Qcr at h
  obtain ⟨x7,hf6,h⟩:=bno h
  obtain ⟨hz8,h⟩:=cko h
  obtain ⟨hz9,h⟩:=cko h
  obtain ⟨hz10,h⟩:=cko h
  obtain ⟨x12,hf11,h⟩:=bno h
  obtain ⟨x14,hf13,h⟩:=bno h
  refine wx tbk [(2,⟨[fu 116,(.tmp 8,.ref 0 7 0 0),(.tmp 9,I p0)],[(0,(Qf1 p2 p3 p4 p5 p6 p7 p8)),(1,(Qfi p9)),(2,(Qg1 p10)),(3,(Qf0 p11)),(4,.unused),(5,.unused)],Zgw,[(0,(Qf1 p2 p3 p4 p5 p6 p7 p8)),(1,(Qfi p9)),(2,(Qg1 p10)),(3,(Qf0 p11)),(4,Zgx),(5,.own 1 [[I p0]])],false⟩),(3,⟨[fu 115,(.tmp 10,Zgw)],[(4,Zgx),(0,(Qf1 p2 p3 p4 p5 p6 p7 p8)),(1,(Qfi p9)),(2,(Qg1 p10)),(3,(Qf0 p11)),(5,.own 1 [[I p0]]),(6,.unused)],(Q63 x12),[(6,.tok)],false⟩),(4,rp [fu 76,(.tmp 11,(Q63 x12))] (Qhl x14))] ⟨Qat (first:=[]) (cap:=[]) (vs:=[.ref 0 7 0 0,I p0]) (σr:=[(Qf1 p2 p3 p4 p5 p6 p7 p8),(Qfi p9),(Qg1 p10),(Qf0 p11)]) (σr':=[(Qf1 p2 p3 p4 p5 p6 p7 p8),(Qfi p9),(Qg1 p10),(Qf0 p11),Zgx,(.own 1 [[I p0]])]) (res':=Zgw) [0,1,2,3,4,5] rfl Zdy (Qmm N p0 p2 p3 p4 p5 p6 p7 p8 p9 p10 p11 _ hf6) rfl (Qbt (rnc (Qbj rfl) (rnc (.plain _ nll) rn0))) (slc (Qaq (rnc (pld Qai) (rnc (pld Qaa) (rnc (Qc5 rfl) (rnc (Qc5 rfl) (rnc (Qc5 rfl) (rnc (pld Qad) (rnc (.plain _ nll) rn0)))))))) (slc (Qa6 Qal) (slc (Qa6 Qaw) (slc (Qa6 Qaf) Qas)))) (slc (Qaq (rnc (pld Qai) (rnc (pld Qaa) (rnc (Qdb rfl) (rnc (Qdb rfl) (rnc (Qdb rfl) (rnc (pld Qad) (rnc (.plain _ nll) rn0)))))))) (slc (Qa6 Qal) (slc (Qa6 Qaw) (slc (Qa6 Qaf) (slc (Qaq (rnc (Qbr rfl) rn0)) (slc (Qaq (rnc (.plain _ nll) rn0)) Qas)))))) (Qbn rn0 (rnc (Qbr rfl) (rnc (Qbr rfl) rn0))) rfl rfl rfl,Qjk (rd':=[fu 115,(.tmp 10,(.fn (.func 133) [] [(.dptr [(.dptr [(Qqw p2),(Qjr p3),(.dat 1 ((p9.take p4:List (List GStream)).map Qam)),(.dat 4 ((p10.take p5:List GLost).map Qa7)),(.dat 1 ((p11.take p6:List Int).map Qak)),(Qqv p7),I p8] 0)] 0),(.dptr [I p0] 0)]))]) [(4,1,[[.ref 0 7 0 0]]),(0,7,[[(Qqw p2),(Qjr p3),(.own 1 1 (0) (p4)),(.own 2 4 (0) (p5)),(.own 3 1 (0) (p6)),(Qqv p7),I p8]]),(1,1,(p9:List (List GStream)).map Qam),(2,4,(p10:List GLost).map Qa7),(3,1,(p11:List Int).map Qak),(5,1,[[I p0]])] ⟨rfl,.same _,rfl,(Zeb tv ⟨(Qoi 0 rfl (lc (Qoi 1 rfl (lc (.same _) (lc (.same _) (lc (Qz9 2 rfl hz8) (lc (Qz9 3 rfl hz9) (lc (Qz9 4 rfl hz10) (lc (.same _) (lc (.same _) ln)))))))) ln)),(Qoi 5 rfl (lc (.same _) ln)),tv⟩),tv⟩ (by rfl) (.acc _ _ _ _ (nin rfl) (by simp) (Zcn Qz0 _)) (Zb9 .tok Qu6) (Qat (first:=[]) (cap:=[]) (vs:=[(.fn (.func 133) [] [(.dptr [(.dptr [(Qqw p2),(Qjr p3),(.dat 1 ((p9.take p4:List (List GStream)).map Qam)),(.dat 4 ((p10.take p5:List GLost).map Qa7)),(.dat 1 ((p11.take p6:List Int).map Qak)),(Qqv p7),I p8] 0)] 0),(.dptr [I p0] 0)])]) (σr:=[]) (σr':=[.tok]) (res':=(Q63 x12)) [6] rfl Zdz (Qhv N p2 p3 (p9.take p4) (p10.take p5) (p11.take p6) p7 p8 p0 _ hf11) rfl (Qbt (rnc (.plain _ (NLt.fn _ _ _ nl0 (nlc (NLt.dptr _ _ (nlc (NLt.dptr _ _ (nlc (nld Qai _) (nlc (nld Qaa _) (nlc (nld Qal _) (nlc (nld Qaw _) (nlc (nld Qaf _) (nlc (nld Qad _) (nlc nll nl0)))))))) nl0)) (nlc (NLt.dptr _ _ (nlc nll nl0)) nl0)))) rn0)) Qas (slc .tok Qas) (Qu9 rfl (Qbk Qad _)) rfl rfl rfl),awk (rd':=(.func 76,(.fn (.func 76) [] []))::[(.tmp 11,(.dat 4 ((x12:List GStream).map Qac)))]) ⟨rfl,lrf,rfl,Less.acc,tv⟩ (apv Qz5 (Qki N x12 _ hf13) (nlc (nld Qad _) nl0) (NLt.agg _ (nlcc (nlcc nl0)))),tv⟩ ?_
  obtain ⟨k15,hk_k15,h⟩:=jko h
  refine wjn (τ:=Unit) (fun t=>k15 t=some r) (fun _=>⟨mk 43 [(0,.ref 0 7 0 0),(1,I p0),(6,.ref 4 4 0 0)],[(Qf1 p2 p3 p4 p5 p6 p7 p8),(Qfi p9),(Qg1 p10),(Qf0 p11),(Qpr x14)]⟩) (fun t h=>?_) ?_
  ·subst hk_k15
   refine wx tbk [(0,rp [fu 117,fu 117,fu 118,fu 119,fu 120,fu 117] (.agg [(.lit .nilFunc),(.fn (.func 117) [] []),(.fn (.func 117) [] []),(.fn (.func 118) [] []),(.fn (.func 119) [] []),(.fn (.func 120) [] []),(.fn (.func 117) [] [])]))] ⟨Qp1 (vs:=[(.fn (.func 117) [] []),(.fn (.func 117) [] []),(.fn (.func 118) [] []),(.fn (.func 119) [] []),(.fn (.func 120) [] []),(.fn (.func 117) [] [])]) rfl Tryz.underlying209 Qnt Zlp rfl (by rfl) rfl,tv⟩ ?_
   obtain ⟨x16,hg17,h⟩:=bno h
   obtain ⟨hi18,hj19⟩:=gsm hg17
   refine bfe h (fun hb20 h=>?_) fun hb20 h=>?_
   ·cases h
   ·refine bfe h (fun hb21 h=>?_) fun hb21 h=>?_
    ·obtain ⟨x23,hf22,h⟩:=bno h
     obtain ⟨hi24,h⟩:=cko h
     obtain ⟨hi24a,hi24b⟩:=Qei hi24
     obtain ⟨x25,hg26,h⟩:=bno h
     refine Qk1 0 (.own 7 [[(Qqw p2),(Qjr p3),(.own 1 1 (0) (p4)),(.own 2 4 (0) (p5)),(.own 3 1 (0) (p6)),(Qqv p7),I p8]]) [mv 0 (.ref 0 7 0 0),⟨[(.tmp 21,.ref 0 7 0 0)],[],.ref 0 7 0 0,[],false⟩,⟨[(.tmp 22,.ref 0 7 0 0)],[],.ref 0 7 0 2,[],false⟩,⟨[(.tmp 23,.ref 0 7 0 2)],[],.ref 0 7 0 2,[],false⟩,⟨[(.tmp 24,.ref 0 7 0 2)],[],(.own 1 1 (0) (p4)),[],false⟩,mv 1 (I p0),mv 0 (.ref 0 7 0 0),⟨[(.tmp 27,.ref 0 7 0 0)],[],.ref 0 7 0 0,[],false⟩,⟨[(.tmp 28,.ref 0 7 0 0)],[],.ref 0 7 0 0,[],false⟩,⟨[(.tmp 29,.ref 0 7 0 0)],[],.ref 0 7 0 1,[],false⟩,⟨[(.tmp 30,.ref 0 7 0 1)],[],(Qjr p3),[],false⟩,mv 1 (I p0),rp [(.tmp 31,(Qjr p3)),(.tmp 32,I p0)] (.dptr (Qab (x16)) 0),mv 33 (.dptr (Qab (x16)) 0),rp [(.tmp 34,(.dptr (Qab (x16)) 0))] (K .u8 (x16.Kind)),rb [(.tmp 7,.ref 5 7 0 0),(.tmp 35,(K .u8 (x16.Kind)))] [(5,Qlg)] (.ref 5 7 0 1),rb [(.tmp 36,.ref 5 7 0 1)] [(5,Qlg)] (.fn (.func 117) [] []),mv 0 (.ref 0 7 0 0),mv 1 (I p0),rb [(.tmp 6,.ref 4 4 0 0)] [(4,(Qpr x14))] (Qhl x14),⟨[(.tmp 37,(.fn (.func 117) [] [])),(.tmp 38,.ref 0 7 0 0),(.tmp 39,I p0),(.tmp 40,(Qhl x14))],[(0,(Qf1 p2 p3 p4 p5 p6 p7 p8)),(1,(Qfi p9)),(2,(Qg1 p10)),(3,(Qf0 p11))],(Q62 x23),[(0,(Qf1 p2 p3 p4 p5 p6 p7 p8)),(1,(Qfi p9)),(2,(Qg1 p10)),(3,(Qf0 p11))],false⟩,rb [(.tmp 25,(.own 1 1 (0) (p4))),(.tmp 26,I p0)] [(1,(Qfi p9))] (.ref 1 1 (p0.toNat) 0),⟨[(.tmp 42,(.ref 1 1 (p0.toNat) 0)),(.tmp 41,(Q62 x23))],[(1,(Qfi p9))],.any,[(1,(.own 1 ((p9.set p0.toNat x23:List (List GStream)).map Qam)))],false⟩] (SImp.box ⟨lrf,lrf,lrf,lrf,lrf,lrf,lrf,tv⟩) ⟨tv,tv,tv,tv,tv,tv,tv,tv,tv,tv,tv,tv,tv,tv,tv,tv,tv,tv,tv,tv,⟨(SImp.box ⟨lrf,lrf,lrf,lrf,lrf,lrf,lrf,tv⟩),tv,tv,tv,tv⟩,tv,⟨tv,tv⟩,tv⟩ ?_ ?_
     ·exact ⟨hr_ (amv rfl),sf_ (Qbb rfl),sf_ (afa rfl Tryz.underlying140 rfl rfl ti34 (by decide) rfl),sf_ (afa rfl Tryz.underlying34 rfl rfl ti31 (by decide) rfl),sf_ (ald rfl ti31 (by decide) rfl (nle rfl) rfl),hr_ (amv rfl),hr_ (amv rfl),sf_ (Qbb rfl),sf_ (afa rfl Tryz.underlying140 rfl rfl ti42 (by decide) rfl),sf_ (afa rfl Tryz.underlying42 rfl rfl ti40 (by decide) rfl),sf_ (ald rfl ti40 (by decide) rfl (nle rfl) rfl),hr_ (amv rfl),hr_ (aid rfl Tryz.underlying40 Qju rfl rfl hi18 (mgt Qab hj19) rfl),hr_ (afd rfl Tryz.underlying133 rfl rfl ti5 (by decide) rfl),hr_ (ald_ rfl ti5 (by decide) (nle rfl) rfl),hr_ (Qjp hb21 (Qjq rfl Tryz.underlying209 Qnt (by decide) (by decide) rfl)),hr_ (ald rfl Qnt (by decide) rfl (nle rfl) rfl),hr_ (amv rfl),hr_ (amv rfl),hr_ (ald rfl ti63 (by decide) rfl (nle rfl) rfl),hr_ (Qat (first:=[]) (cap:=[]) (vs:=[.ref 0 7 0 0,I p0,(Qhl x14)]) (σr:=[(Qf1 p2 p3 p4 p5 p6 p7 p8),(Qfi p9),(Qg1 p10),(Qf0 p11)]) (σr':=[(Qf1 p2 p3 p4 p5 p6 p7 p8),(Qfi p9),(Qg1 p10),(Qf0 p11)]) (res':=(Q62 x23)) [0,1,2,3] rfl Qvu (Qg7 N p0 x14 p2 p3 p4 p5 p6 p7 p8 p9 p10 p11 _ hf22) rfl (Qbt (rnc (Qbj rfl) (rnc (.plain _ nll) (rnc (.plain _ (NLt.agg _ (nlcc (nlcc nl0)))) rn0)))) (slc (Qaq (rnc (pld Qai) (rnc (pld Qaa) (rnc (Qc5 rfl) (rnc (Qc5 rfl) (rnc (Qc5 rfl) (rnc (pld Qad) (rnc (.plain _ nll) rn0)))))))) (slc (Qa6 Qal) (slc (Qa6 Qaw) (slc (Qa6 Qaf) Qas)))) (slc (Qaq (rnc (pld Qai) (rnc (pld Qaa) (rnc (Qdb rfl) (rnc (Qdb rfl) (rnc (Qdb rfl) (rnc (pld Qad) (rnc (.plain _ nll) rn0)))))))) (slc (Qa6 Qal) (slc (Qa6 Qaw) (slc (Qa6 Qaf) Qas)))) (pld Qad) rfl rfl rfl),hr_ (aio rfl Tryz.underlying31 ti45 (odt hi24a) (odt hi24b) (Nat.zero_add _)),hr_ (ast rfl ti45 (by rfl) (mgt Qam hg26) (nle rfl) (Qgr Qam rfl)),tv⟩
     obtain rfl:=osi h
     exact ⟨_,(mto (n:=43) (l':=[]) (own':=[(Qf1 p2 p3 p4 p5 p6 p7 p8),(.own 1 (((p9.set p0.toNat x23):List (List GStream)).map Qam)),(Qg1 p10),(Qf0 p11)]) [] [0,1,2,3] [(Qf1 p2 p3 p4 p5 p6 p7 p8),(.own 1 ((p9.set p0.toNat x23:List (List GStream)).map Qam)),(Qg1 p10),(Qf0 p11)] hφ0 pn (qb (lc (rnd Qai) (lc (rnd Qaa) (lc (.rn (Qa5 rfl)) (lc (.rn (Qa5 rfl)) (lc (.rn (Qa5 rfl)) (lc (rnd Qad) (lc rwl ln))))))) (qc (spr Qal) (qc (spr Qaw) (qc (spr Qaf) qn))))),Qkd (vs:=[]) tv rfl (NLt.tup _ nl0) (by kernel_rfl) (Qao (Qbc (nlc (NLt.of0 (nld Qai _)) (nlc (NLt.of0 (nld Qaa _)) (nlc (NLt.own _ _ _ _ (by decide)) (nlc (NLt.own _ _ _ _ (by decide)) (nlc (NLt.own _ _ _ _ (by decide)) (nlc (NLt.of0 (nld Qad _)) (nlc (NLt.of0 nll) nl0)))))))) (Qao (Qcj Qal _) (Qao (Qcj Qaw _) (Qao (Qcj Qaf _) Qbs))))⟩
    ·refine bfe h (fun hb27 h=>?_) fun hb27 h=>?_
     ·obtain ⟨x29,hf28,h⟩:=bno h
      obtain ⟨hi30,h⟩:=cko h
      obtain ⟨hi30a,hi30b⟩:=Qei hi30
      obtain ⟨x31,hg32,h⟩:=bno h
      refine Qk1 0 (.own 7 [[(Qqw p2),(Qjr p3),(.own 1 1 (0) (p4)),(.own 2 4 (0) (p5)),(.own 3 1 (0) (p6)),(Qqv p7),I p8]]) [mv 0 (.ref 0 7 0 0),⟨[(.tmp 21,.ref 0 7 0 0)],[],.ref 0 7 0 0,[],false⟩,⟨[(.tmp 22,.ref 0 7 0 0)],[],.ref 0 7 0 2,[],false⟩,⟨[(.tmp 23,.ref 0 7 0 2)],[],.ref 0 7 0 2,[],false⟩,⟨[(.tmp 24,.ref 0 7 0 2)],[],(.own 1 1 (0) (p4)),[],false⟩,mv 1 (I p0),mv 0 (.ref 0 7 0 0),⟨[(.tmp 27,.ref 0 7 0 0)],[],.ref 0 7 0 0,[],false⟩,⟨[(.tmp 28,.ref 0 7 0 0)],[],.ref 0 7 0 0,[],false⟩,⟨[(.tmp 29,.ref 0 7 0 0)],[],.ref 0 7 0 1,[],false⟩,⟨[(.tmp 30,.ref 0 7 0 1)],[],(Qjr p3),[],false⟩,mv 1 (I p0),rp [(.tmp 31,(Qjr p3)),(.tmp 32,I p0)] (.dptr (Qab (x16)) 0),mv 33 (.dptr (Qab (x16)) 0),rp [(.tmp 34,(.dptr (Qab (x16)) 0))] (K .u8 (x16.Kind)),rb [(.tmp 7,.ref 5 7 0 0),(.tmp 35,(K .u8 (x16.Kind)))] [(5,Qlg)] (.ref 5 7 0 2),rb [(.tmp 36,.ref 5 7 0 2)] [(5,Qlg)] (.fn (.func 117) [] []),mv 0 (.ref 0 7 0 0),mv 1 (I p0),rb [(.tmp 6,.ref 4 4 0 0)] [(4,(Qpr x14))] (Qhl x14),⟨[(.tmp 37,(.fn (.func 117) [] [])),(.tmp 38,.ref 0 7 0 0),(.tmp 39,I p0),(.tmp 40,(Qhl x14))],[(0,(Qf1 p2 p3 p4 p5 p6 p7 p8)),(1,(Qfi p9)),(2,(Qg1 p10)),(3,(Qf0 p11))],(Q61 x29),[(0,(Qf1 p2 p3 p4 p5 p6 p7 p8)),(1,(Qfi p9)),(2,(Qg1 p10)),(3,(Qf0 p11))],false⟩,rb [(.tmp 25,(.own 1 1 (0) (p4))),(.tmp 26,I p0)] [(1,(Qfi p9))] (.ref 1 1 (p0.toNat) 0),⟨[(.tmp 42,(.ref 1 1 (p0.toNat) 0)),(.tmp 41,(Q61 x29))],[(1,(Qfi p9))],.any,[(1,(.own 1 ((p9.set p0.toNat x29:List (List GStream)).map Qam)))],false⟩] (SImp.box ⟨lrf,lrf,lrf,lrf,lrf,lrf,lrf,tv⟩) ⟨tv,tv,tv,tv,tv,tv,tv,tv,tv,tv,tv,tv,tv,tv,tv,tv,tv,tv,tv,tv,⟨(SImp.box ⟨lrf,lrf,lrf,lrf,lrf,lrf,lrf,tv⟩),tv,tv,tv,tv⟩,tv,⟨tv,tv⟩,tv⟩ ?_ ?_
      ·exact ⟨hr_ (amv rfl),sf_ (Qbb rfl),sf_ (afa rfl Tryz.underlying140 rfl rfl ti34 (by decide) rfl),sf_ (afa rfl Tryz.underlying34 rfl rfl ti31 (by decide) rfl),sf_ (ald rfl ti31 (by decide) rfl (nle rfl) rfl),hr_ (amv rfl),hr_ (amv rfl),sf_ (Qbb rfl),sf_ (afa rfl Tryz.underlying140 rfl rfl ti42 (by decide) rfl),sf_ (afa rfl Tryz.underlying42 rfl rfl ti40 (by decide) rfl),sf_ (ald rfl ti40 (by decide) rfl (nle rfl) rfl),hr_ (amv rfl),hr_ (aid rfl Tryz.underlying40 Qju rfl rfl hi18 (mgt Qab hj19) rfl),hr_ (afd rfl Tryz.underlying133 rfl rfl ti5 (by decide) rfl),hr_ (ald_ rfl ti5 (by decide) (nle rfl) rfl),hr_ (Qjp hb27 (Qjq rfl Tryz.underlying209 Qnt (by decide) (by decide) rfl)),hr_ (ald rfl Qnt (by decide) rfl (nle rfl) rfl),hr_ (amv rfl),hr_ (amv rfl),hr_ (ald rfl ti63 (by decide) rfl (nle rfl) rfl),hr_ (Qat (first:=[]) (cap:=[]) (vs:=[.ref 0 7 0 0,I p0,(Qhl x14)]) (σr:=[(Qf1 p2 p3 p4 p5 p6 p7 p8),(Qfi p9),(Qg1 p10),(Qf0 p11)]) (σr':=[(Qf1 p2 p3 p4 p5 p6 p7 p8),(Qfi p9),(Qg1 p10),(Qf0 p11)]) (res':=(Q61 x29)) [0,1,2,3] rfl Qvu (Qg7 N p0 x14 p2 p3 p4 p5 p6 p7 p8 p9 p10 p11 _ hf28) rfl (Qbt (rnc (Qbj rfl) (rnc (.plain _ nll) (rnc (.plain _ (NLt.agg _ (nlcc (nlcc nl0)))) rn0)))) (slc (Qaq (rnc (pld Qai) (rnc (pld Qaa) (rnc (Qc5 rfl) (rnc (Qc5 rfl) (rnc (Qc5 rfl) (rnc (pld Qad) (rnc (.plain _ nll) rn0)))))))) (slc (Qa6 Qal) (slc (Qa6 Qaw) (slc (Qa6 Qaf) Qas)))) (slc (Qaq (rnc (pld Qai) (rnc (pld Qaa) (rnc (Qdb rfl) (rnc (Qdb rfl) (rnc (Qdb rfl) (rnc (pld Qad) (rnc (.plain _ nll) rn0)))))))) (slc (Qa6 Qal) (slc (Qa6 Qaw) (slc (Qa6 Qaf) Qas)))) (pld Qad) rfl rfl rfl),hr_ (aio rfl Tryz.underlying31 ti45 (odt hi30a) (odt hi30b) (Nat.zero_add _)),hr_ (ast rfl ti45 (by rfl) (mgt Qam hg32) (nle rfl) (Qgr Qam rfl)),tv⟩
      obtain rfl:=osi h
      exact ⟨_,(mto (n:=43) (l':=[]) (own':=[(Qf1 p2 p3 p4 p5 p6 p7 p8),(.own 1 (((p9.set p0.toNat x29):List (List GStream)).map Qam)),(Qg1 p10),(Qf0 p11)]) [] [0,1,2,3] [(Qf1 p2 p3 p4 p5 p6 p7 p8),(.own 1 ((p9.set p0.toNat x29:List (List GStream)).map Qam)),(Qg1 p10),(Qf0 p11)] hφ0 pn (qb (lc (rnd Qai) (lc (rnd Qaa) (lc (.rn (Qa5 rfl)) (lc (.rn (Qa5 rfl)) (lc (.rn (Qa5 rfl)) (lc (rnd Qad) (lc rwl ln))))))) (qc (spr Qal) (qc (spr Qaw) (qc (spr Qaf) qn))))),Qkd (vs:=[]) tv rfl (NLt.tup _ nl0) (by kernel_rfl) (Qao (Qbc (nlc (NLt.of0 (nld Qai _)) (nlc (NLt.of0 (nld Qaa _)) (nlc (NLt.own _ _ _ _ (by decide)) (nlc (NLt.own _ _ _ _ (by decide)) (nlc (NLt.own _ _ _ _ (by decide)) (nlc (NLt.of0 (nld Qad _)) (nlc (NLt.of0 nll) nl0)))))))) (Qao (Qcj Qal _) (Qao (Qcj Qaw _) (Qao (Qcj Qaf _) Qbs))))⟩
     ·refine bfe h (fun hb33 h=>?_) fun hb33 h=>?_
      ·obtain ⟨x35,hf34,h⟩:=bno h
       obtain ⟨hi36,h⟩:=cko h
       obtain ⟨hi36a,hi36b⟩:=Qei hi36
       obtain ⟨x37,hg38,h⟩:=bno h
       refine Qk1 0 (.own 7 [[(Qqw p2),(Qjr p3),(.own 1 1 (0) (p4)),(.own 2 4 (0) (p5)),(.own 3 1 (0) (p6)),(Qqv p7),I p8]]) [mv 0 (.ref 0 7 0 0),⟨[(.tmp 21,.ref 0 7 0 0)],[],.ref 0 7 0 0,[],false⟩,⟨[(.tmp 22,.ref 0 7 0 0)],[],.ref 0 7 0 2,[],false⟩,⟨[(.tmp 23,.ref 0 7 0 2)],[],.ref 0 7 0 2,[],false⟩,⟨[(.tmp 24,.ref 0 7 0 2)],[],(.own 1 1 (0) (p4)),[],false⟩,mv 1 (I p0),mv 0 (.ref 0 7 0 0),⟨[(.tmp 27,.ref 0 7 0 0)],[],.ref 0 7 0 0,[],false⟩,⟨[(.tmp 28,.ref 0 7 0 0)],[],.ref 0 7 0 0,[],false⟩,⟨[(.tmp 29,.ref 0 7 0 0)],[],.ref 0 7 0 1,[],false⟩,⟨[(.tmp 30,.ref 0 7 0 1)],[],(Qjr p3),[],false⟩,mv 1 (I p0),rp [(.tmp 31,(Qjr p3)),(.tmp 32,I p0)] (.dptr (Qab (x16)) 0),mv 33 (.dptr (Qab (x16)) 0),rp [(.tmp 34,(.dptr (Qab (x16)) 0))] (K .u8 (x16.Kind)),rb [(.tmp 7,.ref 5 7 0 0),(.tmp 35,(K .u8 (x16.Kind)))] [(5,Qlg)] (.ref 5 7 0 3),rb [(.tmp 36,.ref 5 7 0 3)] [(5,Qlg)] (.fn (.func 118) [] []),mv 0 (.ref 0 7 0 0),mv 1 (I p0),rb [(.tmp 6,.ref 4 4 0 0)] [(4,(Qpr x14))] (Qhl x14),⟨[(.tmp 37,(.fn (.func 118) [] [])),(.tmp 38,.ref 0 7 0 0),(.tmp 39,I p0),(.tmp 40,(Qhl x14))],[(0,(Qf1 p2 p3 p4 p5 p6 p7 p8)),(1,(Qfi p9)),(2,(Qg1 p10)),(3,(Qf0 p11))],(.dat 4 ((x35.1:List GStream).map Qac)),[(0,(Qf1 p2 p3 p4 p5 p6 p7 p8)),(1,(Qfi p9)),(2,(Q1g x35)),(3,(Qf0 p11))],false⟩,rb [(.tmp 25,(.own 1 1 (0) (p4))),(.tmp 26,I p0)] [(1,(Qfi p9))] (.ref 1 1 (p0.toNat) 0),⟨[(.tmp 42,(.ref 1 1 (p0.toNat) 0)),(.tmp 41,(.dat 4 ((x35.1:List GStream).map Qac)))],[(1,(Qfi p9))],.any,[(1,(.own 1 ((p9.set p0.toNat x35.1:List (List GStream)).map Qam)))],false⟩] (SImp.box ⟨lrf,lrf,lrf,lrf,lrf,lrf,lrf,tv⟩) ⟨tv,tv,tv,tv,tv,tv,tv,tv,tv,tv,tv,tv,tv,tv,tv,tv,tv,tv,tv,tv,⟨(SImp.box ⟨lrf,lrf,lrf,lrf,lrf,lrf,lrf,tv⟩),tv,tv,tv,tv⟩,tv,⟨tv,tv⟩,tv⟩ ?_ ?_
       ·exact ⟨hr_ (amv rfl),sf_ (Qbb rfl),sf_ (afa rfl Tryz.underlying140 rfl rfl ti34 (by decide) rfl),sf_ (afa rfl Tryz.underlying34 rfl rfl ti31 (by decide) rfl),sf_ (ald rfl ti31 (by decide) rfl (nle rfl) rfl),hr_ (amv rfl),hr_ (amv rfl),sf_ (Qbb rfl),sf_ (afa rfl Tryz.underlying140 rfl rfl ti42 (by decide) rfl),sf_ (afa rfl Tryz.underlying42 rfl rfl ti40 (by decide) rfl),sf_ (ald rfl ti40 (by decide) rfl (nle rfl) rfl),hr_ (amv rfl),hr_ (aid rfl Tryz.underlying40 Qju rfl rfl hi18 (mgt Qab hj19) rfl),hr_ (afd rfl Tryz.underlying133 rfl rfl ti5 (by decide) rfl),hr_ (ald_ rfl ti5 (by decide) (nle rfl) rfl),hr_ (Qjp hb33 (Qjq rfl Tryz.underlying209 Qnt (by decide) (by decide) rfl)),hr_ (ald rfl Qnt (by decide) rfl (nle rfl) rfl),hr_ (amv rfl),hr_ (amv rfl),hr_ (ald rfl ti63 (by decide) rfl (nle rfl) rfl),hr_ (Qat (first:=[]) (cap:=[]) (vs:=[.ref 0 7 0 0,I p0,(Qhl x14)]) (σr:=[(Qf1 p2 p3 p4 p5 p6 p7 p8),(Qfi p9),(Qg1 p10),(Qf0 p11)]) (σr':=[(Qf1 p2 p3 p4 p5 p6 p7 p8),(Qfi p9),(Q1g x35),(Qf0 p11)]) (res':=(.dat 4 ((x35.1:List GStream).map Qac))) [0,1,2,3] rfl Zdx (Qmn N p0 x14 p2 p3 p4 p5 p6 p7 p8 p9 p10 p11 _ hf34) rfl (Qbt (rnc (Qbj rfl) (rnc (.plain _ nll) (rnc (.plain _ (NLt.agg _ (nlcc (nlcc nl0)))) rn0)))) (slc (Qaq (rnc (pld Qai) (rnc (pld Qaa) (rnc (Qc5 rfl) (rnc (Qc5 rfl) (rnc (Qc5 rfl) (rnc (pld Qad) (rnc (.plain _ nll) rn0)))))))) (slc (Qa6 Qal) (slc (Qa6 Qaw) (slc (Qa6 Qaf) Qas)))) (slc (Qaq (rnc (pld Qai) (rnc (pld Qaa) (rnc (Qdb rfl) (rnc (Qdb rfl) (rnc (Qdb rfl) (rnc (pld Qad) (rnc (.plain _ nll) rn0)))))))) (slc (Qa6 Qal) (slc (Qa6 Qaw) (slc (Qa6 Qaf) Qas)))) (pld Qad) rfl rfl rfl),hr_ (aio rfl Tryz.underlying31 ti45 (odt hi36a) (odt hi36b) (Nat.zero_add _)),hr_ (ast rfl ti45 (by rfl) (mgt Qam hg38) (nle rfl) (Qgr Qam rfl)),tv⟩
       obtain rfl:=osi h
       exact ⟨_,(mto (n:=43) (l':=[]) (own':=[(Qf1 p2 p3 p4 p5 p6 p7 p8),(.own 1 (((p9.set p0.toNat x35.1):List (List GStream)).map Qam)),(Q1g x35),(Qf0 p11)]) [] [0,1,2,3] [(Qf1 p2 p3 p4 p5 p6 p7 p8),(.own 1 ((p9.set p0.toNat x35.1:List (List GStream)).map Qam)),(Q1g x35),(Qf0 p11)] hφ0 pn (qb (lc (rnd Qai) (lc (rnd Qaa) (lc (.rn (Qa5 rfl)) (lc (.rn (Qa5 rfl)) (lc (.rn (Qa5 rfl)) (lc (rnd Qad) (lc rwl ln))))))) (qc (spr Qal) (qc (spr Qaw) (qc (spr Qaf) qn))))),Qkd (vs:=[]) tv rfl (NLt.tup _ nl0) (by kernel_rfl) (Qao (Qbc (nlc (NLt.of0 (nld Qai _)) (nlc (NLt.of0 (nld Qaa _)) (nlc (NLt.own _ _ _ _ (by decide)) (nlc (NLt.own _ _ _ _ (by decide)) (nlc (NLt.own _ _ _ _ (by decide)) (nlc (NLt.of0 (nld Qad _)) (nlc (NLt.of0 nll) nl0)))))))) (Qao (Qcj Qal _) (Qao (Qcj Qaw _) (Qao (Qcj Qaf _) Qbs))))⟩
      ·refine bfe h (fun hb39 h=>?_) fun hb39 h=>?_
       ·obtain ⟨x41,hf40,h⟩:=bno h
        obtain ⟨hi42,h⟩:=cko h
        obtain ⟨hi42a,hi42b⟩:=Qei hi42
        obtain ⟨x43,hg44,h⟩:=bno h
        refine Qk1 0 (.own 7 [[(Qqw p2),(Qjr p3),(.own 1 1 (0) (p4)),(.own 2 4 (0) (p5)),(.own 3 1 (0) (p6)),(Qqv p7),.any]]) [mv 0 (.ref 0 7 0 0),⟨[(.tmp 21,.ref 0 7 0 0)],[],.ref 0 7 0 0,[],false⟩,⟨[(.tmp 22,.ref 0 7 0 0)],[],.ref 0 7 0 2,[],false⟩,⟨[(.tmp 23,.ref 0 7 0 2)],[],.ref 0 7 0 2,[],false⟩,⟨[(.tmp 24,.ref 0 7 0 2)],[],(.own 1 1 (0) (p4)),[],false⟩,mv 1 (I p0),mv 0 (.ref 0 7 0 0),⟨[(.tmp 27,.ref 0 7 0 0)],[],.ref 0 7 0 0,[],false⟩,⟨[(.tmp 28,.ref 0 7 0 0)],[],.ref 0 7 0 0,[],false⟩,⟨[(.tmp 29,.ref 0 7 0 0)],[],.ref 0 7 0 1,[],false⟩,⟨[(.tmp 30,.ref 0 7 0 1)],[],(Qjr p3),[],false⟩,mv 1 (I p0),rp [(.tmp 31,(Qjr p3)),(.tmp 32,I p0)] (.dptr (Qab (x16)) 0),mv 33 (.dptr (Qab (x16)) 0),rp [(.tmp 34,(.dptr (Qab (x16)) 0))] (K .u8 (x16.Kind)),rb [(.tmp 7,.ref 5 7 0 0),(.tmp 35,(K .u8 (x16.Kind)))] [(5,Qlg)] (.ref 5 7 0 4),rb [(.tmp 36,.ref 5 7 0 4)] [(5,Qlg)] (.fn (.func 119) [] []),mv 0 (.ref 0 7 0 0),mv 1 (I p0),rb [(.tmp 6,.ref 4 4 0 0)] [(4,(Qpr x14))] (Qhl x14),⟨[(.tmp 37,(.fn (.func 119) [] [])),(.tmp 38,.ref 0 7 0 0),(.tmp 39,I p0),(.tmp 40,(Qhl x14))],[(0,(Qf1 p2 p3 p4 p5 p6 p7 p8)),(1,(Qfi p9)),(2,(Qg1 p10)),(3,(Qf0 p11))],(.dat 4 ((x41.1:List GStream).map Qac)),[(0,(Q1f p2 p3 p4 p5 p6 p7 x41)),(1,(Qfi p9)),(2,(Q1e x41)),(3,(Q1d x41))],false⟩,rb [(.tmp 25,(.own 1 1 (0) (p4))),(.tmp 26,I p0)] [(1,(Qfi p9))] (.ref 1 1 (p0.toNat) 0),⟨[(.tmp 42,(.ref 1 1 (p0.toNat) 0)),(.tmp 41,(.dat 4 ((x41.1:List GStream).map Qac)))],[(1,(Qfi p9))],.any,[(1,(.own 1 ((p9.set p0.toNat x41.1:List (List GStream)).map Qam)))],false⟩] (SImp.box ⟨lrf,lrf,lrf,lrf,lrf,lrf,Less.any,tv⟩) ⟨tv,tv,tv,tv,tv,tv,tv,tv,tv,tv,tv,tv,tv,tv,tv,tv,tv,tv,tv,tv,⟨(SImp.box ⟨lrf,lrf,lrf,lrf,lrf,lrf,Less.any,tv⟩),tv,tv,tv,tv⟩,tv,⟨tv,tv⟩,tv⟩ ?_ ?_
        ·exact ⟨hr_ (amv rfl),sf_ (Qbb rfl),sf_ (afa rfl Tryz.underlying140 rfl rfl ti34 (by decide) rfl),sf_ (afa rfl Tryz.underlying34 rfl rfl ti31 (by decide) rfl),sf_ (ald rfl ti31 (by decide) rfl (nle rfl) rfl),hr_ (amv rfl),hr_ (amv rfl),sf_ (Qbb rfl),sf_ (afa rfl Tryz.underlying140 rfl rfl ti42 (by decide) rfl),sf_ (afa rfl Tryz.underlying42 rfl rfl ti40 (by decide) rfl),sf_ (ald rfl ti40 (by decide) rfl (nle rfl) rfl),hr_ (amv rfl),hr_ (aid rfl Tryz.underlying40 Qju rfl rfl hi18 (mgt Qab hj19) rfl),hr_ (afd rfl Tryz.underlying133 rfl rfl ti5 (by decide) rfl),hr_ (ald_ rfl ti5 (by decide) (nle rfl) rfl),hr_ (Qjp hb39 (Qjq rfl Tryz.underlying209 Qnt (by decide) (by decide) rfl)),hr_ (ald rfl Qnt (by decide) rfl (nle rfl) rfl),hr_ (amv rfl),hr_ (amv rfl),hr_ (ald rfl ti63 (by decide) rfl (nle rfl) rfl),hr_ (Qat (first:=[]) (cap:=[]) (vs:=[.ref 0 7 0 0,I p0,(Qhl x14)]) (σr:=[(Qf1 p2 p3 p4 p5 p6 p7 p8),(Qfi p9),(Qg1 p10),(Qf0 p11)]) (σr':=[(Q1f p2 p3 p4 p5 p6 p7 x41),(Qfi p9),(Q1e x41),(Q1d x41)]) (res':=(.dat 4 ((x41.1:List GStream).map Qac))) [0,1,2,3] rfl Zdw (Qkq N p0 x14 p2 p3 p4 p5 p6 p7 p8 p9 p10 p11 _ hf40) rfl (Qbt (rnc (Qbj rfl) (rnc (.plain _ nll) (rnc (.plain _ (NLt.agg _ (nlcc (nlcc nl0)))) rn0)))) (slc (Qaq (rnc (pld Qai) (rnc (pld Qaa) (rnc (Qc5 rfl) (rnc (Qc5 rfl) (rnc (Qc5 rfl) (rnc (pld Qad) (rnc (.plain _ nll) rn0)))))))) (slc (Qa6 Qal) (slc (Qa6 Qaw) (slc (Qa6 Qaf) Qas)))) (slc (Qaq (rnc (pld Qai) (rnc (pld Qaa) (rnc (Qdb rfl) (rnc (Qdb rfl) (rnc (Qdb rfl) (rnc (pld Qad) (rnc (.plain _ nll) rn0)))))))) (slc (Qa6 Qal) (slc (Qa6 Qaw) (slc (Qa6 Qaf) Qas)))) (pld Qad) rfl rfl rfl),hr_ (aio rfl Tryz.underlying31 ti45 (odt hi42a) (odt hi42b) (Nat.zero_add _)),hr_ (ast rfl ti45 (by rfl) (mgt Qam hg44) (nle rfl) (Qgr Qam rfl)),tv⟩
        obtain rfl:=osi h
        exact ⟨_,(mto (n:=43) (l':=[]) (own':=[(Q1f p2 p3 p4 p5 p6 p7 x41),(.own 1 (((p9.set p0.toNat x41.1):List (List GStream)).map Qam)),(Q1e x41),(Q1d x41)]) [] [0,1,2,3] [(Q1f p2 p3 p4 p5 p6 p7 x41),(.own 1 ((p9.set p0.toNat x41.1:List (List GStream)).map Qam)),(Q1e x41),(Q1d x41)] hφ0 pn (qb (lc (rnd Qai) (lc (rnd Qaa) (lc (.rn (Qa5 rfl)) (lc (.rn (Qa5 rfl)) (lc (.rn (Qa5 rfl)) (lc (rnd Qad) (lc rwl ln))))))) (qc (spr Qal) (qc (spr Qaw) (qc (spr Qaf) qn))))),Qkd (vs:=[]) tv rfl (NLt.tup _ nl0) (by kernel_rfl) (Qao (Qbc (nlc (NLt.of0 (nld Qai _)) (nlc (NLt.of0 (nld Qaa _)) (nlc (NLt.own _ _ _ _ (by decide)) (nlc (NLt.own _ _ _ _ (by decide)) (nlc (NLt.own _ _ _ _ (by decide)) (nlc (NLt.of0 (nld Qad _)) (nlc (NLt.of0 nll) nl0)))))))) (Qao (Qcj Qal _) (Qao (Qcj Qaw _) (Qao (Qcj Qaf _) Qbs))))⟩
       ·refine bfe h (fun hb45 h=>?_) fun hb45 h=>?_
        ·obtain ⟨x47,hf46,h⟩:=bno h
         obtain ⟨hi48,h⟩:=cko h
         obtain ⟨hi48a,hi48b⟩:=Qei hi48
         obtain ⟨x49,hg50,h⟩:=bno h
         refine Qk1 0 (.own 7 [[(Qqw p2),(Qjr p3),(.own 1 1 (0) (p4)),(.own 2 4 (0) (p5)),(.own 3 1 (0) (p6)),(Qqv p7),I p8]]) [mv 0 (.ref 0 7 0 0),⟨[(.tmp 21,.ref 0 7 0 0)],[],.ref 0 7 0 0,[],false⟩,⟨[(.tmp 22,.ref 0 7 0 0)],[],.ref 0 7 0 2,[],false⟩,⟨[(.tmp 23,.ref 0 7 0 2)],[],.ref 0 7 0 2,[],false⟩,⟨[(.tmp 24,.ref 0 7 0 2)],[],(.own 1 1 (0) (p4)),[],false⟩,mv 1 (I p0),mv 0 (.ref 0 7 0 0),⟨[(.tmp 27,.ref 0 7 0 0)],[],.ref 0 7 0 0,[],false⟩,⟨[(.tmp 28,.ref 0 7 0 0)],[],.ref 0 7 0 0,[],false⟩,⟨[(.tmp 29,.ref 0 7 0 0)],[],.ref 0 7 0 1,[],false⟩,⟨[(.tmp 30,.ref 0 7 0 1)],[],(Qjr p3),[],false⟩,mv 1 (I p0),rp [(.tmp 31,(Qjr p3)),(.tmp 32,I p0)] (.dptr (Qab (x16)) 0),mv 33 (.dptr (Qab (x16)) 0),rp [(.tmp 34,(.dptr (Qab (x16)) 0))] (K .u8 (x16.Kind)),rb [(.tmp 7,.ref 5 7 0 0),(.tmp 35,(K .u8 (x16.Kind)))] [(5,Qlg)] (.ref 5 7 0 5),rb [(.tmp 36,.ref 5 7 0 5)] [(5,Qlg)] (.fn (.func 120) [] []),mv 0 (.ref 0 7 0 0),mv 1 (I p0),rb [(.tmp 6,.ref 4 4 0 0)] [(4,(Qpr x14))] (Qhl x14),⟨[(.tmp 37,(.fn (.func 120) [] [])),(.tmp 38,.ref 0 7 0 0),(.tmp 39,I p0),(.tmp 40,(Qhl x14))],[(0,(Qf1 p2 p3 p4 p5 p6 p7 p8)),(1,(Qfi p9)),(2,(Qg1 p10)),(3,(Qf0 p11))],(.dat 4 ((x47.1:List GStream).map Qac)),[(0,(Qf1 p2 p3 p4 p5 p6 p7 p8)),(1,(Qfi p9)),(2,(Q1c x47)),(3,(Qf0 p11))],false⟩,rb [(.tmp 25,(.own 1 1 (0) (p4))),(.tmp 26,I p0)] [(1,(Qfi p9))] (.ref 1 1 (p0.toNat) 0),⟨[(.tmp 42,(.ref 1 1 (p0.toNat) 0)),(.tmp 41,(.dat 4 ((x47.1:List GStream).map Qac)))],[(1,(Qfi p9))],.any,[(1,(.own 1 ((p9.set p0.toNat x47.1:List (List GStream)).map Qam)))],false⟩] (SImp.box ⟨lrf,lrf,lrf,lrf,lrf,lrf,lrf,tv⟩) ⟨tv,tv,tv,tv,tv,tv,tv,tv,tv,tv,tv,tv,tv,tv,tv,tv,tv,tv,tv,tv,⟨(SImp.box ⟨lrf,lrf,lrf,lrf,lrf,lrf,lrf,tv⟩),tv,tv,tv,tv⟩,tv,⟨tv,tv⟩,tv⟩ ?_ ?_
         ·exact ⟨hr_ (amv rfl),sf_ (Qbb rfl),sf_ (afa rfl Tryz.underlying140 rfl rfl ti34 (by decide) rfl),sf_ (afa rfl Tryz.underlying34 rfl rfl ti31 (by decide) rfl),sf_ (ald rfl ti31 (by decide) rfl (nle rfl) rfl),hr_ (amv rfl),hr_ (amv rfl),sf_ (Qbb rfl),sf_ (afa rfl Tryz.underlying140 rfl rfl ti42 (by decide) rfl),sf_ (afa rfl Tryz.underlying42 rfl rfl ti40 (by decide) rfl),sf_ (ald rfl ti40 (by decide) rfl (nle rfl) rfl),hr_ (amv rfl),hr_ (aid rfl Tryz.underlying40 Qju rfl rfl hi18 (mgt Qab hj19) rfl),hr_ (afd rfl Tryz.underlying133 rfl rfl ti5 (by decide) rfl),hr_ (ald_ rfl ti5 (by decide) (nle rfl) rfl),hr_ (Qjp hb45 (Qjq rfl Tryz.underlying209 Qnt (by decide) (by decide) rfl)),hr_ (ald rfl Qnt (by decide) rfl (nle rfl) rfl),hr_ (amv rfl),hr_ (amv rfl),hr_ (ald rfl ti63 (by decide) rfl (nle rfl) rfl),hr_ (Qat (first:=[]) (cap:=[]) (vs:=[.ref 0 7 0 0,I p0,(Qhl x14)]) (σr:=[(Qf1 p2 p3 p4 p5 p6 p7 p8),(Qfi p9),(Qg1 p10),(Qf0 p11)]) (σr':=[(Qf1 p2 p3 p4 p5 p6 p7 p8),(Qfi p9),(Q1c x47),(Qf0 p11)]) (res':=(.dat 4 ((x47.1:List GStream).map Qac))) [0,1,2,3] rfl Zdv (Qlx N p0 x14 p2 p3 p4 p5 p6 p7 p8 p9 p10 p11 _ hf46) rfl (Qbt (rnc (Qbj rfl) (rnc (.plain _ nll) (rnc (.plain _ (NLt.agg _ (nlcc (nlcc nl0)))) rn0)))) (slc (Qaq (rnc (pld Qai) (rnc (pld Qaa) (rnc (Qc5 rfl) (rnc (Qc5 rfl) (rnc (Qc5 rfl) (rnc (pld Qad) (rnc (.plain _ nll) rn0)))))))) (slc (Qa6 Qal) (slc (Qa6 Qaw) (slc (Qa6 Qaf) Qas)))) (slc (Qaq (rnc (pld Qai) (rnc (pld Qaa) (rnc (Qdb rfl) (rnc (Qdb rfl) (rnc (Qdb rfl) (rnc (pld Qad) (rnc (.plain _ nll) rn0)))))))) (slc (Qa6 Qal) (slc (Qa6 Qaw) (slc (Qa6 Qaf) Qas)))) (pld Qad) rfl rfl rfl),hr_ (aio rfl Tryz.underlying31 ti45 (odt hi48a) (odt hi48b) (Nat.zero_add _)),hr_ (ast rfl ti45 (by rfl) (mgt Qam hg50) (nle rfl) (Qgr Qam rfl)),tv⟩
         obtain rfl:=osi h
         exact ⟨_,(mto (n:=43) (l':=[]) (own':=[(Qf1 p2 p3 p4 p5 p6 p7 p8),(.own 1 (((p9.set p0.toNat x47.1):List (List GStream)).map Qam)),(Q1c x47),(Qf0 p11)]) [] [0,1,2,3] [(Qf1 p2 p3 p4 p5 p6 p7 p8),(.own 1 ((p9.set p0.toNat x47.1:List (List GStream)).map Qam)),(Q1c x47),(Qf0 p11)] hφ0 pn (qb (lc (rnd Qai) (lc (rnd Qaa) (lc (.rn (Qa5 rfl)) (lc (.rn (Qa5 rfl)) (lc (.rn (Qa5 rfl)) (lc (rnd Qad) (lc rwl ln))))))) (qc (spr Qal) (qc (spr Qaw) (qc (spr Qaf) qn))))),Qkd (vs:=[]) tv rfl (NLt.tup _ nl0) (by kernel_rfl) (Qao (Qbc (nlc (NLt.of0 (nld Qai _)) (nlc (NLt.of0 (nld Qaa _)) (nlc (NLt.own _ _ _ _ (by decide)) (nlc (NLt.own _ _ _ _ (by decide)) (nlc (NLt.own _ _ _ _ (by decide)) (nlc (NLt.of0 (nld Qad _)) (nlc (NLt.of0 nll) nl0)))))))) (Qao (Qcj Qal _) (Qao (Qcj Qaw _) (Qao (Qcj Qaf _) Qbs))))⟩
        ·refine bfe h (fun hb51 h=>?_) fun hb51 h=>?_
         ·obtain ⟨x53,hf52,h⟩:=bno h
          obtain ⟨hi54,h⟩:=cko h
          obtain ⟨hi54a,hi54b⟩:=Qei hi54
          obtain ⟨x55,hg56,h⟩:=bno h
          refine Qk1 0 (.own 7 [[(Qqw p2),(Qjr p3),(.own 1 1 (0) (p4)),(.own 2 4 (0) (p5)),(.own 3 1 (0) (p6)),(Qqv p7),I p8]]) [mv 0 (.ref 0 7 0 0),⟨[(.tmp 21,.ref 0 7 0 0)],[],.ref 0 7 0 0,[],false⟩,⟨[(.tmp 22,.ref 0 7 0 0)],[],.ref 0 7 0 2,[],false⟩,⟨[(.tmp 23,.ref 0 7 0 2)],[],.ref 0 7 0 2,[],false⟩,⟨[(.tmp 24,.ref 0 7 0 2)],[],(.own 1 1 (0) (p4)),[],false⟩,mv 1 (I p0),mv 0 (.ref 0 7 0 0),⟨[(.tmp 27,.ref 0 7 0 0)],[],.ref 0 7 0 0,[],false⟩,⟨[(.tmp 28,.ref 0 7 0 0)],[],.ref 0 7 0 0,[],false⟩,⟨[(.tmp 29,.ref 0 7 0 0)],[],.ref 0 7 0 1,[],false⟩,⟨[(.tmp 30,.ref 0 7 0 1)],[],(Qjr p3),[],false⟩,mv 1 (I p0),rp [(.tmp 31,(Qjr p3)),(.tmp 32,I p0)] (.dptr (Qab (x16)) 0),mv 33 (.dptr (Qab (x16)) 0),rp [(.tmp 34,(.dptr (Qab (x16)) 0))] (K .u8 (x16.Kind)),rb [(.tmp 7,.ref 5 7 0 0),(.tmp 35,(K .u8 (x16.Kind)))] [(5,Qlg)] (.ref 5 7 0 6),rb [(.tmp 36,.ref 5 7 0 6)] [(5,Qlg)] (.fn (.func 117) [] []),mv 0 (.ref 0 7 0 0),mv 1 (I p0),rb [(.tmp 6,.ref 4 4 0 0)] [(4,(Qpr x14))] (Qhl x14),⟨[(.tmp 37,(.fn (.func 117) [] [])),(.tmp 38,.ref 0 7 0 0),(.tmp 39,I p0),(.tmp 40,(Qhl x14))],[(0,(Qf1 p2 p3 p4 p5 p6 p7 p8)),(1,(Qfi p9)),(2,(Qg1 p10)),(3,(Qf0 p11))],(Q60 x53),[(0,(Qf1 p2 p3 p4 p5 p6 p7 p8)),(1,(Qfi p9)),(2,(Qg1 p10)),(3,(Qf0 p11))],false⟩,rb [(.tmp 25,(.own 1 1 (0) (p4))),(.tmp 26,I p0)] [(1,(Qfi p9))] (.ref 1 1 (p0.toNat) 0),⟨[(.tmp 42,(.ref 1 1 (p0.toNat) 0)),(.tmp 41,(Q60 x53))],[(1,(Qfi p9))],.any,[(1,(.own 1 ((p9.set p0.toNat x53:List (List GStream)).map Qam)))],false⟩] (SImp.box ⟨lrf,lrf,lrf,lrf,lrf,lrf,lrf,tv⟩) ⟨tv,tv,tv,tv,tv,tv,tv,tv,tv,tv,tv,tv,tv,tv,tv,tv,tv,tv,tv,tv,⟨(SImp.box ⟨lrf,lrf,lrf,lrf,lrf,lrf,lrf,tv⟩),tv,tv,tv,tv⟩,tv,⟨tv,tv⟩,tv⟩ ?_ ?_
          ·exact ⟨hr_ (amv rfl),sf_ (Qbb rfl),sf_ (afa rfl Tryz.underlying140 rfl rfl ti34 (by decide) rfl),sf_ (afa rfl Tryz.underlying34 rfl rfl ti31 (by decide) rfl),sf_ (ald rfl ti31 (by decide) rfl (nle rfl) rfl),hr_ (amv rfl),hr_ (amv rfl),sf_ (Qbb rfl),sf_ (afa rfl Tryz.underlying140 rfl rfl ti42 (by decide) rfl),sf_ (afa rfl Tryz.underlying42 rfl rfl ti40 (by decide) rfl),sf_ (ald rfl ti40 (by decide) rfl (nle rfl) rfl),hr_ (amv rfl),hr_ (aid rfl Tryz.underlying40 Qju rfl rfl hi18 (mgt Qab hj19) rfl),hr_ (afd rfl Tryz.underlying133 rfl rfl ti5 (by decide) rfl),hr_ (ald_ rfl ti5 (by decide) (nle rfl) rfl),hr_ (Qjp hb51 (Qjq rfl Tryz.underlying209 Qnt (by decide) (by decide) rfl)),hr_ (ald rfl Qnt (by decide) rfl (nle rfl) rfl),hr_ (amv rfl),hr_ (amv rfl),hr_ (ald rfl ti63 (by decide) rfl (nle rfl) rfl),hr_ (Qat (first:=[]) (cap:=[]) (vs:=[.ref 0 7 0 0,I p0,(Qhl x14)]) (σr:=[(Qf1 p2 p3 p4 p5 p6 p7 p8),(Qfi p9),(Qg1 p10),(Qf0 p11)]) (σr':=[(Qf1 p2 p3 p4 p5 p6 p7 p8),(Qfi p9),(Qg1 p10),(Qf0 p11)]) (res':=(Q60 x53)) [0,1,2,3] rfl Qvu (Qg7 N p0 x14 p2 p3 p4 p5 p6 p7 p8 p9 p10 p11 _ hf52) rfl (Qbt (rnc (Qbj rfl) (rnc (.plain _ nll) (rnc (.plain _ (NLt.agg _ (nlcc (nlcc nl0)))) rn0)))) (slc (Qaq (rnc (pld Qai) (rnc (pld Qaa) (rnc (Qc5 rfl) (rnc (Qc5 rfl) (rnc (Qc5 rfl) (rnc (pld Qad) (rnc (.plain _ nll) rn0)))))))) (slc (Qa6 Qal) (slc (Qa6 Qaw) (slc (Qa6 Qaf) Qas)))) (slc (Qaq (rnc (pld Qai) (rnc (pld Qaa) (rnc (Qdb rfl) (rnc (Qdb rfl) (rnc (Qdb rfl) (rnc (pld Qad) (rnc (.plain _ nll) rn0)))))))) (slc (Qa6 Qal) (slc (Qa6 Qaw) (slc (Qa6 Qaf) Qas)))) (pld Qad) rfl rfl rfl),hr_ (aio rfl Tryz.underlying31 ti45 (odt hi54a) (odt hi54b) (Nat.zero_add _)),hr_ (ast rfl ti45 (by rfl) (mgt Qam hg56) (nle rfl) (Qgr Qam rfl)),tv⟩
          obtain rfl:=osi h
          exact ⟨_,(mto (n:=43) (l':=[]) (own':=[(Qf1 p2 p3 p4 p5 p6 p7 p8),(.own 1 (((p9.set p0.toNat x53):List (List GStream)).map Qam)),(Qg1 p10),(Qf0 p11)]) [] [0,1,2,3] [(Qf1 p2 p3 p4 p5 p6 p7 p8),(.own 1 ((p9.set p0.toNat x53:List (List GStream)).map Qam)),(Qg1 p10),(Qf0 p11)] hφ0 pn (qb (lc (rnd Qai) (lc (rnd Qaa) (lc (.rn (Qa5 rfl)) (lc (.rn (Qa5 rfl)) (lc (.rn (Qa5 rfl)) (lc (rnd Qad) (lc rwl ln))))))) (qc (spr Qal) (qc (spr Qaw) (qc (spr Qaf) qn))))),Qkd (vs:=[]) tv rfl (NLt.tup _ nl0) (by kernel_rfl) (Qao (Qbc (nlc (NLt.of0 (nld Qai _)) (nlc (NLt.of0 (nld Qaa _)) (nlc (NLt.own _ _ _ _ (by decide)) (nlc (NLt.own _ _ _ _ (by decide)) (nlc (NLt.own _ _ _ _ (by decide)) (nlc (NLt.of0 (nld Qad _)) (nlc (NLt.of0 nll) nl0)))))))) (Qao (Qcj Qal _) (Qao (Qcj Qaw _) (Qao (Qcj Qaf _) Qbs))))⟩
         ·cases h
  ·skip
   refine wxz ?_
   refine bfe h (fun hc57 h=>?_) fun hc57 h=>?_
   ·refine wft hc57<|Zeh 3 [mv 1 (I p0),rp [(.tmp 17,I p0)] (.agg [I p0]),rp [(.tmp 18,(.agg [I p0]))] (.lit (.iface 182 (.agg #[(.int .i64 (p0))]))),⟨[(.tmp 19,(.lit (.iface 182 (.agg #[(.int .i64 (p0))]))))],[],.any,[],false⟩] (by exact ⟨by kernel_rfl,by kernel_rfl⟩) rfl (by kernel_rfl) rfl (Qzn rfl) (⟨fun _ _=>amv rfl,fun _ _=>Qa2 (vs:=[I p0]) rfl Zm3 Zlq rfl (by rfl) rfl,fun _ _=>awk (rd':=[(.tmp 18,.lit (.agg #[(.int .i64 (p0))]))]) ⟨rfl,(Less.lits [(.int .i64 (p0))]),tv⟩ (Q0k rfl Tryz.underlying182),fun _ h=>absurd rfl h,tv⟩) ?_
    obtain rfl:=osi h
    exact rfl
   ·exact wfn hc57<|Qan<|thn<|⟨(),h,(mto (n:=43) [(0,.ref 0 7 0 0),(1,I p0),(6,.ref 7 4 0 0)] [0,1,2,3,7] [(Qf1 p2 p3 p4 p5 p6 p7 p8),(Qfi p9),(Qg1 p10),(Qf0 p11),(Qpr x14)] hφ0 (prr (pw (prr pn))) (qb (lc (rnd Qai) (lc (rnd Qaa) (lc (.rn (Qa5 rfl)) (lc (.rn (Qa5 rfl)) (lc (.rn (Qa5 rfl)) (lc (rnd Qad) (lc rwl ln))))))) (qc (spr Qal) (qc (spr Qaw) (qc (spr Qaf) (qb (lcc (lcc ln)) qn))))))⟩
theorem Qks (N:Nat) (p0:Int) (p1:Int) (p2:(List GRow)) (p3:(List GElement)) (p4:Nat) (p5:Nat) (p6:Nat) (p7:(List GStream)) (p8:Int) (p9:(List (List GStream))) (p10:(List GLost)) (p11:(List Int)) (r:(Int×(List (List GStream))×(List GLost)×(List Int))) (h:Qcr N p0 p1 p2 p3 p4 p5 p6 p7 p8 p9 p10 p11=some (.inl r)):Spec Tryz.prog 97 [.ref 0 7 0 0,I p0,I p1] [(Qf1 p2 p3 p4 p5 p6 p7 p8),(Qfi p9),(Qg1 p10),(Qf0 p11)] (.tup []) [(.own 7 [[(.dat 5 ((p2:List GRow).map Qa1)),(.dat 7 ((p3:List GElement).map Qab)),(.own 1 1 (0) (p4)),(.own 2 4 (0) (p5)),(.own 3 1 (0) (p6)),(.dat 4 ((p7:List GStream).map Qac)),I r.1]]),(.own 1 ((r.2.1:List (List GStream)).map Qam)),(.own 4 ((r.2.2.1:List GLost).map Qa7)),(.own 1 ((r.2.2.2:List Int).map Qak))]:=Qhx N p0 p1 p2 p3 p4 p5 p6 p7 p8 p9 p10 p11 _ h
theorem Qkr (N:Nat) (p0:Int) (p1:Int) (p2:(List GRow)) (p3:(List GElement)) (p4:Nat) (p5:Nat) (p6:Nat) (p7:(List GStream)) (p8:Int) (p9:(List (List GStream))) (p10:(List GLost)) (p11:(List Int)) (r:Int) (h:Qcr N p0 p1 p2 p3 p4 p5 p6 p7 p8 p9 p10 p11=some (.inr r)):Zet Tryz.prog 97 [.ref 0 7 0 0,I p0,I p1] [(Qf1 p2 p3 p4 p5 p6 p7 p8),(Qfi p9),(Qg1 p10),(Qf0 p11)] (.iface 182 (.agg #[(.int .i64 (r))])):=Qhx N p0 p1 p2 p3 p4 p5 p6 p7 p8 p9 p10 p11 _ h
def Zkw:Slot:=.own 1 [[(.lit (.pointer none))]]
theorem Qn4 (v0:Int):DPan Tryz.prog 96 [1,1] (.iface 182 (.agg #[(.int .i64 (v0))])) [[(.lit (.pointer none))],[(I (v0))]]:=by
  refine Qpy (t:=5) (args:=[.ref 0 1 0 0,.ref 1 1 0 0]) Tryz.func96 rfl (fun _ _=>rfl) (by kernel_rfl) Zir 2 (nle rfl) (fun X φ0 w0 hφ0=>?_)
  refine Qbx<|Qaj ?_
  refine wx tbk [(0,rp [(.tmp 5,(.lit (.iface 182 (.agg #[(.int .i64 (v0))])))),(.const .nilIface,(.lit .nilIface))] (B false))] ⟨Q0j rfl Tryz.underlying20,tv⟩<|wfa ?_
  exact wx tbk [(0,rp [(.tmp 5,(.lit (.iface 182 (.agg #[(.int .i64 (v0))]))))] (.tup [(.agg [I v0]),B true]))] ⟨Qsf (r:=.lit (.tuple #[(.agg #[(.int .i64 (v0))]),(.bool true)])) (Less.trans Q88 (Less.tup ⟨Q89 (l:=[(.int .i64 (v0))]),lrf,tv⟩)) (Qv2 rfl Tryz.underlying182),tv⟩<|wtr<|wxz<|wxe1<|bln<|⟨_,(mto (n:=13) (l':=[]) (own':=[Zkw,(.own 1 [[I v0]])]) [] [0,1] [Zkw,(.own 1 [[I v0]])] hφ0 pn (qb (lc rwl ln) (qb (lc rwl ln) qn))),Qc8 (vs:=[]) tv rfl (NLt.tup _ nl0) (by kernel_rfl) (Qao (Qbc (nlt0 (nlc nll nl0))) (Qao (Qbc (nlt0 (nlc nll nl0))) Qbs))⟩
end Go.Proofs.YtmbhnllcfmiajaaGreat
