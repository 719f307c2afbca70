/-
  The texts X4, X5, X6, PB6, PSa6 of the proof, one behind the other. No conditions.
-/
import Derived.Test.YtmbhnllcfmiajaaGreatG3
namespace Go.Proofs.YtmbhnllcfmiajaaGreat
open _root_.Go.Proofs.Tryz
section
set_option maxRecDepth 100000
set_option maxHeartbeats 4000000
open Go.RowKit
def Qgc (_N:Nat) (p0:(List Int)):Option Unit:=
  chk (!p0.isEmpty)<|
  chk (!p0.isEmpty)<|
  chk (decide ((0+p0.length)*8≤140737488355328))<|
  some ()
def Zpd (p0:(List Int)):AV:=.dat 1 ((p0:List Int).map Qav)
def Zi4 (p0:(List Int)):Slot:=.own 1 ((p0:List Int).map Qav)
def Ztq:AV:=.acc 0 3 1 ((([]:List Int):List Int).map Qav)
theorem Qmz (N:Nat) (p0:(List Int)) (r:Unit) (h:Qgc N p0=some r):Spec prog 95 [(Zpd p0)] [] (.own 0 1 (0) (p0.length)) [(Zi4 p0)]:=by
  refine Qal func95 rfl 1 (nle rfl) (fun X φ0 w0 hφ0 hd0=>?_)
  unfold Qgc at h
  refine Qbv<|wxz<|wsq ?_
  obtain⟨hz1,h⟩:=cko h
  refine wx tbk [(1,rp [(.tmp 3,(Zpd p0)),((.const (.slice none 0 0)),nilS)] (B false))] ⟨Q6v rfl underlying27 rfl (Qoc hz1),tv⟩<|wfa<|Qap<|thn ?_
  obtain⟨ha3,h⟩:=cko h
  obtain⟨ha2,h⟩:=cko h
  refine wx tbk [(0,⟨[],[(0,.unused)],Ztq,[(0,.tok)],false⟩),(2,⟨[(.tmp 5,Ztq),(.tmp 6,(Zpd p0))],[(0,.tok),(1,.unused)],(.own 1 1 (0) (p0.length)),[(0,.dead),(1,(Zi4 p0))],false⟩)] ⟨Qoi rfl underlying27 ti3 tz3,Zb0 rfl underlying27 te3 (Base.acc _ _) rfl rfl (Qoc ha3) (Q0j Qav Q5w _) (Zmm Qav ha2) (Zml Qav ha2 (by decide)) (List.length_map _),tv⟩ ?_
  refine wmr (mto (n:=8) (l':=[(2,(.own 0 1 (0) (p0.length)))]) (own':=[(Zi4 p0)]) [(2,(.own 1 1 (0) (p0.length)))] [1] [(Zi4 p0)] hφ0 (pc (.rn (Qa5 rfl)) pn) (qc (spr Qaj) qn))<|Qah ?_
  obtain rfl:=osi h
  exact⟨_,Mor.rfl,Qdh (vs:=[(.own 0 1 (0) (p0.length))]) ⟨rot,tv⟩ rfl (NLt.own _ _ _ _ (by decide)) (by kernel_rfl) (Qar (Qda Qaj _) Qbx)⟩
theorem Qtg:DRet prog 96 [1,1]:=by
  refine Qt9 (t:=5) (args:=[.any,.any]) func96 rfl (fun _ _=>rfl) (by kernel_rfl) Zq8 0 (nle rfl) (fun X φ0 w0 hφ0=>?_)
  exact Qao<|wx tbk [(0,rp [(.tmp 5,(.lit .nilIface)),(.const .nilIface,(.lit .nilIface))] (B true))] ⟨Q38 rfl underlying20,tv⟩<|wtr<|wxz1<|bln<|fend ⟨[],tv,rfl⟩ (.tup _ nl0)
def Qgl (_N:Nat) (p0:Qad) (p1:Int):Option Int:=
  chk (p0.Narrow != 0)<|
  (some (if (w64 (p0.Wide-(w64 (p1.tdiv p0.Narrow))))>0 then w64 (p0.Wide-(w64 (p1.tdiv p0.Narrow))) else 0)).bind fun x2=>
  some x2
theorem Qkq (N:Nat) (p0:Qad) (p1:Int) (r:Int) (h:Qgl N p0 p1=some r):Spec prog 74 [(.agg (Qai p0)),(I p1)] [] (I r) []:=by
  refine Qal func74 rfl 0 (nle rfl) (fun X φ0 w0 hφ0 hd0=>?_)
  unfold Qgl at h
  refine wxz ?_
  obtain⟨hz1,h⟩:=cko h
  obtain⟨x2,hl3,h⟩:=bno h
  refine wxd tbk [(5,rp [(.tmp 7,I p1),(.tmp 9,I p0.Narrow)] (I (w64 (p1.tdiv p0.Narrow)))),(7,rp [ci 0,(.tmp 11,(I (w64 (p0.Wide-(w64 (p1.tdiv p0.Narrow))))))] (I x2))] ⟨Qsr rfl (Qxg hz1),Qmv hl3 (Qlw rfl),tv⟩<|Qah ?_
  obtain rfl:=osi h
  exact fend ⟨[I x2],⟨rot,tv⟩,rfl⟩ nll
def Qhp (_N:Nat) (_p0:Int) (_p1:(List GRow)) (_p2:(List Qad)) (_p3:Nat) (_p4:Nat) (_p5:Nat) (_p6:(List Qaa)) (_p7:Int) (_p8:(List (List Qaa))) (_p9:(List Qa1)) (_p10:(List Int)):Option Unit:=
  some ()
def Zi3 (p1:(List GRow)) (p2:(List Qad)) (p3:Nat) (p4:Nat) (p5:Nat) (p6:(List Qaa)) (p7:Int):Slot:=.own 7 [[(.dat 5 ((p1:List GRow).map Qa7)),(.dat 7 ((p2:List Qad).map Qai)),(.own 1 1 (0) (p3)),(.own 2 4 (0) (p4)),(.own 3 1 (0) (p5)),(.dat 4 ((p6:List Qaa).map Qae)),(I (p7))]]
def Zi2 (p8:(List (List Qaa))):Slot:=.own 1 ((p8:List (List Qaa)).map Qaf)
def Zi1 (p9:(List Qa1)):Slot:=.own 4 ((p9:List Qa1).map Qbf)
def Zi0 (p10:(List Int)):Slot:=.own 1 ((p10:List Int).map Qav)
def Zdp:AV:=.fn (.func 133) [] [(.ref 4 1 (0) 0),(.ref 5 1 (0) 0)]
def Zpa:Slot:=.own 1 [[(.ref 0 7 (0) 0)]]
theorem Qqa (N:Nat) (p0:Int) (p1:(List GRow)) (p2:(List Qad)) (p3:Nat) (p4:Nat) (p5:Nat) (p6:(List Qaa)) (p7:Int) (p8:(List (List Qaa))) (p9:(List Qa1)) (p10:(List Int)) (r:Unit) (h:Qhp N p0 p1 p2 p3 p4 p5 p6 p7 p8 p9 p10=some r):Spec prog 116 [(.ref 0 7 (0) 0),(I (p0))] [(Zi3 p1 p2 p3 p4 p5 p6 p7),(Zi2 p8),(Zi1 p9),(Zi0 p10)] Zdp [(Zi3 p1 p2 p3 p4 p5 p6 p7),(Zi2 p8),(Zi1 p9),(Zi0 p10),Zpa,(.own 1 [[(I (p0))]])]:=by
  refine Qal func116 rfl 6 (nle rfl) (fun X φ0 w0 hφ0 hd0=>?_)
  unfold Qhp at h
  refine Qbv<|wxz ?_
  refine wx tbk [(0,rp [(.tmp 2,.ref 4 1 0 0),(.tmp 3,.ref 5 1 0 0)] Zdp)] ⟨Qe2 (fs:=[]) (cs:=[.ref 4 1 0 0,.ref 5 1 0 0]) rfl rfl rfl rfl,tv⟩ ?_
  refine wmr (mto (n:=6) (l':=[(4,Zdp)]) (own':=[(Zi3 p1 p2 p3 p4 p5 p6 p7),(Zi2 p8),(Zi1 p9),(Zi0 p10),Zpa,(.own 1 [[I p0]])]) [(4,Zdp)] [0,1,2,3,4,5] [(Zi3 p1 p2 p3 p4 p5 p6 p7),(Zi2 p8),(Zi1 p9),(Zi0 p10),Zpa,(.own 1 [[I p0]])] hφ0 (pc (.rn (Qbj rn0 (rnc (rqr rfl) (rnc (rqr rfl) rn0)))) pn) (qb (lc (rnd Qan) (lc (rnd Qab) (lc (.rn (Qa5 rfl)) (lc (.rn (Qa5 rfl)) (lc (.rn (Qa5 rfl)) (lc (rnd Qak) (lc rwl ln))))))) (qc (spr Qag) (qc (spr Qay) (qc (spr Qaj) (qb (lc (.rn (rqr rfl)) ln) (qb (lc rwl ln) qn)))))))<|Qah ?_
  obtain rfl:=osi h
  exact⟨_,Mor.rfl,Qdh (vs:=[Zdp]) ⟨rot,tv⟩ rfl (NLt.fn _ _ _ nl0 (nlc (NLt.ref _ _ _ _ (by decide)) (nlc (NLt.ref _ _ _ _ (by decide)) nl0))) (by kernel_rfl) (Qar (Qa4 (nlc (NLt.of0 (nld Qan _)) (nlc (NLt.of0 (nld Qab _)) (nlc (NLt.own _ _ _ _ (by decide)) (nlc (NLt.own _ _ _ _ (by decide)) (nlc (NLt.own _ _ _ _ (by decide)) (nlc (NLt.of0 (nld Qak _)) (nlc (NLt.of0 nll) nl0)))))))) (Qar (Qda Qag _) (Qar (Qda Qay _) (Qar (Qda Qaj _) (Qar (Qa4 (nlc (NLt.ref _ _ _ _ (by decide)) nl0)) (Qar (Qa4 (nlc (NLt.of0 nll) nl0)) Qbx))))))⟩
def Qc1 (N:Nat) (p0:(List Int)) (k1:Unit→Option Int) (p1:Int):Nat→Int→Option Int
  |0,_=>none
  |n4+1,y2=>
    bif (decide (y2<(p0.length:Int))) then
     (getI p0 y2).bind fun x6=>
     bif (p1==x6) then
      some y2
     else
      Qc1 N p0 k1 p1 n4 (w64 (y2+1))
    else
     k1 ()
def Qfu (N:Nat) (p0:(List Int)) (p1:Int):Option Int:=
  Qbn (fun _=>
    some (-1)) fun k1:Unit→Option Int=>
  Qc1 N p0 k1 p1 N 0
def Q97 (p0:(List Int)):AV:=.dat 1 ((p0:List Int).map Qav)
theorem Qjq (N:Nat) (p0:(List Int)) (p1:Int) (r:Int) (h:Qfu N p0 p1=some r):Spec prog 134 [(.dat 1 (p0.map Qav)),(I p1)] [] (I r) []:=by
  refine Qal func134 rfl 0 (nle rfl) (fun X φ0 w0 hφ0 hd0=>?_)
  unfold Qfu at h
  refine wxz ?_
  obtain⟨k1,hk_k1,h⟩:=jko h
  refine wjn (τ:=Unit) (fun t=>k1 t=some r) (fun _=>⟨mk 19 [],[]⟩) (fun t h=>?_) ?_
  ·subst hk_k1
   refine wxz<|Qah ?_
   obtain rfl:=osi h
   exact fend ⟨[(I ((-1)))],⟨rot,tv⟩,rfl⟩ nll
  ·skip
   refine wx tbk [(1,rp [(.tmp 6,(Q97 p0))] (I ((p0.length:Int))))] ⟨alm (c:=Qav) (l:=p0) (aln rfl underlying27 rfl),tv⟩<|Qao ?_
   refine wmr (mto (n:=19) (l':=[(0,(Q97 p0)),(1,I p1),(7,(I ((p0.length:Int)))),(8,I 0)]) (own':=[]) [(0,(Q97 p0)),(1,I p1),(7,(I ((p0.length:Int)))),(8,I 0)] [] [] hφ0 (pc (rnd Qaj) (pw (pw (pw pn)))) qn) ?_
   refine Qb3 (τ:=Int) (fun n t=>Qc1 N p0 k1 p1 n t=some r) (fun y2=>⟨mk 19 [(0,(Q97 p0)),(1,I p1),(7,(I ((p0.length:Int)))),(8,I y2)],[]⟩) (fun t h=>by rw[Qc1] at h;cases h) (fun n4 ih y2 h=>?_) N (0) h
   rw[Qc1] at h
   skip
   refine wxz<|wsq ?_
   refine bfe h (fun hc5 h=>?_) fun hc5 h=>?_
   ·refine wft hc5<|Qap<|thn<|wsq<|Qao<|wxz ?_
    obtain⟨x6,hg7,h⟩:=bno h
    obtain⟨hi8,hj9⟩:=gsm hg7
    refine wx tbk [(3,rp [(.tmp 12,(Q97 p0)),(.tmp 13,I y2)] (.dptr (Qav (x6)) 0))] ⟨aid rfl underlying27 ti3 rfl rfl hi8 (mgt Qav hj9) rfl,tv⟩ ?_
    refine bfe h (fun hc10 h=>?_) fun hc10 h=>?_
    ·refine wft hc10<|wxz<|Qah<|Qaq<|Qac<|Qac<|Qaq<|Qac ?_
     obtain rfl:=osi h
     exact fend ⟨[I y2],⟨rot,tv⟩,rfl⟩ nll
    ·exact wfn hc10<|Qap<|bln<|thn<|wxz1<|thn<|arm (mto (n:=19) [(0,(Q97 p0)),(1,I p1),(7,(I ((p0.length:Int)))),(8,(I (w64 (y2+1))))] [] [] hφ0 (pc (rnd Qaj) (pw (pw (pw pn)))) qn) (ih (w64 (y2+1)) h)
   ·exact wfn hc5<|Qbl<|Qax<|Qax<|Qbk rfl<|thn<|⟨(),h,(mto (n:=19) [] [] [] hφ0 pn qn)⟩
def Qdy (N:Nat) (x1:Qad) (p2:(List (List Qaa))):Nat→Int→Option (List Qaa)
  |0,_=>none
  |n19+1,y15=>
    bif (decide (y15<(x1.From.length:Int))) then
     (getI x1.From y15).bind fun x21=>
     (getI p2 x21.Element).bind fun x25=>
     (getI x25 x21.Outlet).bind fun x29=>
     yld x29<|
     Qdy N x1 p2 n19 (w64 (y15+1))
    else
     some ([])
def Qho (N:Nat) (p0:(List GRow)) (p1:(List Qad)) (p2:(List (List Qaa))) (_p3:(List Qa1)) (_p4:(List Int)) (p5:(List Qaa)) (_p6:Int) (p7:Int):Option (List Qaa):=
  (getI p1 p7).bind fun x1=>
  bif (x1.Kind==1) then
   (Qjt N (⟨p0,p1⟩:GNet) 1).bind fun x7=>
   (Qfu N x7 p7).bind fun x9=>
   (getI p5 x9).bind fun x10=>
   yld x10<|
   some ([])
  else
   Qdy N x1 p2 N 0
def Qhg (p0:(List GRow)):AV:=.dat 5 ((p0:List GRow).map Qa7)
def Qgw (p1:(List Qad)):AV:=.dat 7 ((p1:List Qad).map Qai)
def Qgu (p2:(List (List Qaa))):AV:=.dat 1 ((p2:List (List Qaa)).map Qaf)
def Qhk (p3:(List Qa1)):AV:=.dat 4 ((p3:List Qa1).map Qbf)
def Qhj (p4:(List Int)):AV:=.dat 1 ((p4:List Int).map Qav)
def Qgt (p5:(List Qaa)):AV:=.dat 4 ((p5:List Qaa).map Qae)
def Ziz (p0:(List GRow)) (p1:(List Qad)):AV:=.agg [(Qhg p0),(Qgw p1)]
def Ziy (x7:(List Int)):AV:=.dat 1 ((x7:List Int).map Qav)
def Zix (x10:Qaa):AV:=.agg [(I (x10.Mass)),(I (x10.Heat)),(I (x10.Silica)),(I (x10.Gas))]
def Q98 (x1:Qad):AV:=.dat 2 ((x1.From:List Qa6).map Qa3)
def Qtw (x21:Qa6):Slot:=.own 2 [[(I (x21.Element)),(I (x21.Outlet))]]
def Q7k (x25:(List Qaa)):AV:=.dat 4 ((x25:List Qaa).map Qae)
def Q7j (x29:Qaa):AV:=.agg [(I (x29.Mass)),(I (x29.Heat)),(I (x29.Silica)),(I (x29.Gas))]
theorem Qp9 (N:Nat) (p0:(List GRow)) (p1:(List Qad)) (p2:(List (List Qaa))) (p3:(List Qa1)) (p4:(List Int)) (p5:(List Qaa)) (p6:Int) (p7:Int) (r:(List Qaa)) (h:Qho N p0 p1 p2 p3 p4 p5 p6 p7=some r):Qxv prog 133 [(.dptr [(.dptr [(Qhg p0),(Qgw p1),(Qgu p2),(Qhk p3),(Qhj p4),(Qgt p5),(I (p6))] 0)] 0),(.dptr [(I (p7))] 0)] [] (fun x=>[(.agg #[(.int .i64 (x.Mass)),(.int .i64 (x.Heat)),(.int .i64 (x.Silica)),(.int .i64 (x.Gas))])]) r:=by
  refine Qyw func133 rfl rfl (fun X φ0 w0 l J hφ0 hy=>?_)
  unfold Qho at h
  refine wsq ?_
  obtain⟨x1,hg2,h⟩:=bno h
  obtain⟨hi3,hj4⟩:=gsm hg2
  refine wxd tbk [(6,rp [(.tmp 10,(Qgw p1)),(.tmp 11,I p7)] (.dptr (Qai (x1)) 0))] ⟨aid rfl underlying40 Qmi rfl rfl hi3 (mgt Qai hj4) rfl,tv⟩ ?_
  refine bfe h (fun hc5 h=>?_) fun hc5 h=>?_
  ·refine wft hc5 ?_
   obtain⟨x7,hf6,h⟩:=bno h
   obtain⟨x9,hf8,h⟩:=bno h
   obtain⟨x10,hg11,h⟩:=bno h
   obtain⟨hi12,hj13⟩:=gsm hg11
   obtain⟨q14,hy_,hq_⟩:=Q5d h
   clear h
   subst hq_
   have h:=hy_
   clear hy_
   refine Q35 14 [mv 0 (.lit (.func (.yield l) #[] #[])),rp [(.tmp 1,(.dptr [(.dptr [(Qhg p0),(Qgw p1),(Qgu p2),(Qhk p3),(Qhj p4),(Qgt p5),I p6] 0)] 0))] (.dptr [(Qhg p0),(Qgw p1),(Qgu p2),(Qhk p3),(Qhj p4),(Qgt p5),I p6] 0),mv 17 (.dptr [(Qhg p0),(Qgw p1),(Qgu p2),(Qhk p3),(Qhj p4),(Qgt p5),I p6] 0),rp [(.tmp 18,(.dptr [(Qhg p0),(Qgw p1),(Qgu p2),(Qhk p3),(Qhj p4),(Qgt p5),I p6] 0))] (.dptr [(Qhg p0),(Qgw p1),(Qgu p2),(Qhk p3),(Qhj p4),(Qgt p5),I p6] 5),rp [(.tmp 19,(.dptr [(Qhg p0),(Qgw p1),(Qgu p2),(Qhk p3),(Qhj p4),(Qgt p5),I p6] 5))] (Qgt p5),rp [(.tmp 1,(.dptr [(.dptr [(Qhg p0),(Qgw p1),(Qgu p2),(Qhk p3),(Qhj p4),(Qgt p5),I p6] 0)] 0))] (.dptr [(Qhg p0),(Qgw p1),(Qgu p2),(Qhk p3),(Qhj p4),(Qgt p5),I p6] 0),mv 21 (.dptr [(Qhg p0),(Qgw p1),(Qgu p2),(Qhk p3),(Qhj p4),(Qgt p5),I p6] 0),mv 22 (.dptr [(Qhg p0),(Qgw p1),(Qgu p2),(Qhk p3),(Qhj p4),(Qgt p5),I p6] 0),rp [(.tmp 23,(.dptr [(Qhg p0),(Qgw p1),(Qgu p2),(Qhk p3),(Qhj p4),(Qgt p5),I p6] 0))] (Ziz p0 p1),rp [fu 67,(.tmp 24,(Ziz p0 p1)),(.const (.int .u8 1),(K .u8 (1)))] (Ziy x7),rp [(.tmp 2,(.dptr [I p7] 0))] (I p7),rp [fu 134,(.tmp 25,(Ziy x7)),(.tmp 26,I p7)] (I x9),rp [(.tmp 20,(Qgt p5)),(.tmp 27,I x9)] (.dptr (Qae (x10)) 0),rp [(.tmp 28,(.dptr (Qae (x10)) 0))] (Zix x10),⟨[(.tmp 16,(.lit (.func (.yield l) #[] #[]))),(.tmp 29,(Zix x10))],[(0,(.far (J (some (x10::q14)))))],B true,[(0,(.far (J (some (q14)))))],false⟩] [mv 0 (.lit (.func (.yield l) #[] #[])),rp [(.tmp 1,(.dptr [(.dptr [(Qhg p0),(Qgw p1),(Qgu p2),(Qhk p3),(Qhj p4),(Qgt p5),I p6] 0)] 0))] (.dptr [(Qhg p0),(Qgw p1),(Qgu p2),(Qhk p3),(Qhj p4),(Qgt p5),I p6] 0),mv 17 (.dptr [(Qhg p0),(Qgw p1),(Qgu p2),(Qhk p3),(Qhj p4),(Qgt p5),I p6] 0),rp [(.tmp 18,(.dptr [(Qhg p0),(Qgw p1),(Qgu p2),(Qhk p3),(Qhj p4),(Qgt p5),I p6] 0))] (.dptr [(Qhg p0),(Qgw p1),(Qgu p2),(Qhk p3),(Qhj p4),(Qgt p5),I p6] 5),rp [(.tmp 19,(.dptr [(Qhg p0),(Qgw p1),(Qgu p2),(Qhk p3),(Qhj p4),(Qgt p5),I p6] 5))] (Qgt p5),rp [(.tmp 1,(.dptr [(.dptr [(Qhg p0),(Qgw p1),(Qgu p2),(Qhk p3),(Qhj p4),(Qgt p5),I p6] 0)] 0))] (.dptr [(Qhg p0),(Qgw p1),(Qgu p2),(Qhk p3),(Qhj p4),(Qgt p5),I p6] 0),mv 21 (.dptr [(Qhg p0),(Qgw p1),(Qgu p2),(Qhk p3),(Qhj p4),(Qgt p5),I p6] 0),mv 22 (.dptr [(Qhg p0),(Qgw p1),(Qgu p2),(Qhk p3),(Qhj p4),(Qgt p5),I p6] 0),rp [(.tmp 23,(.dptr [(Qhg p0),(Qgw p1),(Qgu p2),(Qhk p3),(Qhj p4),(Qgt p5),I p6] 0))] (Ziz p0 p1),rp [fu 67,(.tmp 24,(Ziz p0 p1)),(.const (.int .u8 1),(K .u8 (1)))] (Ziy x7),rp [(.tmp 2,(.dptr [I p7] 0))] (I p7),rp [fu 134,(.tmp 25,(Ziy x7)),(.tmp 26,I p7)] (I x9),rp [(.tmp 20,(Qgt p5)),(.tmp 27,I x9)] (.dptr (Qae (x10)) 0),rp [(.tmp 28,(.dptr (Qae (x10)) 0))] (Zix x10),⟨[(.tmp 16,(.lit (.func (.yield l) #[] #[]))),(.tmp 29,(Zix x10))],[(0,(.far (J (some (x10::q14)))))],B false,[(0,(.far (J none)))],false⟩] (by exact⟨by kernel_rfl,by kernel_rfl⟩) (by exact⟨by kernel_rfl,by kernel_rfl⟩) rfl rfl rfl rfl (Qrd (rd':=(.tmp 16,.lit (.func (.yield l) #[] #[]))::[(.tmp 29,.lit (.agg #[(.int .i64 (x10.Mass)),(.int .i64 (x10.Heat)),(.int .i64 (x10.Silica)),(.int .i64 (x10.Gas))]))]) ⟨rfl,lrf,rfl,(Less.lits [(.int .i64 (x10.Mass)),(.int .i64 (x10.Heat)),(.int .i64 (x10.Silica)),(.int .i64 (x10.Gas))]),tv⟩ (Qpo (x:=x10) (rest:=q14) rfl rfl hy rfl)) (⟨fun _ _=>amv rfl,fun _ _=>ald_ rfl Qkp (by decide) (nle rfl) rfl,fun _ _=>anc rfl rfl,fun _ _=>afd rfl underlying140 rfl rfl ti45 (by decide) rfl,fun _ _=>ald_ rfl ti45 (by decide) (nle rfl) rfl,fun _ _=>ald_ rfl Qkp (by decide) (nle rfl) rfl,fun _ _=>anc rfl rfl,fun _ _=>afd rfl underlying140 rfl rfl ti42 (by decide) rfl,fun _ _=>ald_ rfl ti42 (by decide) (nle rfl) rfl,fun _ _=>apv Q6c (Qmo N (⟨p0,p1⟩:GNet) 1 _ hf6) (nlc (NLt.agg _ (nlc (nld Qan _) (nlc (nld Qab _) nl0))) (nlc nll nl0)) (nld Qaj _),fun _ _=>ald_ rfl ti3 (by decide) (nle rfl) rfl,fun _ _=>apv Q9g (Qjq N x7 p7 _ hf8) (nlc (nld Qaj _) (nlc nll nl0)) nll,fun _ _=>aid rfl underlying45 ti63 rfl rfl hi12 (mgt Qae hj13) rfl,fun _ _=>ald_ rfl ti63 (by decide) (nle rfl) rfl,fun _ h=>absurd rfl h,tv⟩) (⟨fun _ _=>amv rfl,fun _ _=>ald_ rfl Qkp (by decide) (nle rfl) rfl,fun _ _=>anc rfl rfl,fun _ _=>afd rfl underlying140 rfl rfl ti45 (by decide) rfl,fun _ _=>ald_ rfl ti45 (by decide) (nle rfl) rfl,fun _ _=>ald_ rfl Qkp (by decide) (nle rfl) rfl,fun _ _=>anc rfl rfl,fun _ _=>afd rfl underlying140 rfl rfl ti42 (by decide) rfl,fun _ _=>ald_ rfl ti42 (by decide) (nle rfl) rfl,fun _ _=>apv Q6c (Qmo N (⟨p0,p1⟩:GNet) 1 _ hf6) (nlc (NLt.agg _ (nlc (nld Qan _) (nlc (nld Qab _) nl0))) (nlc nll nl0)) (nld Qaj _),fun _ _=>ald_ rfl ti3 (by decide) (nle rfl) rfl,fun _ _=>apv Q9g (Qjq N x7 p7 _ hf8) (nlc (nld Qaj _) (nlc nll nl0)) nll,fun _ _=>aid rfl underlying45 ti63 rfl rfl hi12 (mgt Qae hj13) rfl,fun _ _=>ald_ rfl ti63 (by decide) (nle rfl) rfl,fun _ h=>absurd rfl h,tv⟩) ?_ ?_
   ·skip
    refine Qah<|Qac ?_
    obtain rfl:=osi h
    exact Or.inl rfl
   ·clear h
    exact Qah<|Qac<|Or.inr (by kernel_rfl)
  ·refine wfn hc5<|Qap<|thn ?_
   refine wxd tbk [(6,rp [(.tmp 35,(Qgw p1)),(.tmp 36,I p7)] (.dptr (Qai (x1)) 0)),(9,rp [(.tmp 39,(Q98 x1))] (I ((x1.From.length:Int))))] ⟨aid rfl underlying40 Qmi rfl rfl hi3 (mgt Qai hj4) rfl,alm (c:=Qa3) (l:=x1.From) (aln rfl underlying116 rfl),tv⟩<|Qao ?_
   refine wmr (mto (n:=62) (l':=[(0,(.lit (.func (.yield l) #[] #[]))),(1,(.dptr [(.dptr [(Qhg p0),(Qgw p1),(Qgu p2),(Qhk p3),(Qhj p4),(Qgt p5),I p6] 0)] 0)),(39,(Q98 x1)),(40,(I ((x1.From.length:Int)))),(41,I 0)]) (own':=[(.far (J (some (r))))]) [(0,(.lit (.func (.yield l) #[] #[]))),(1,(.dptr [(.dptr [(Qhg p0),(Qgw p1),(Qgu p2),(Qhk p3),(Qhj p4),(Qgt p5),I p6] 0)] 0)),(39,(Q98 x1)),(40,(I ((x1.From.length:Int)))),(41,I 0)] [0] [(.far (J (some (r))))] hφ0 (pw (pc (.rn (.plain _ (NLt.dptr _ _ (nlc (NLt.dptr _ _ (nlc (nld Qan _) (nlc (nld Qab _) (nlc (nld Qag _) (nlc (nld Qay _) (nlc (nld Qaj _) (nlc (nld Qak _) (nlc nll nl0)))))))) nl0)))) (pc (rnd Qaz) (pw (pw pn))))) (qc (.far _) qn)) ?_
   refine Qb3 (τ:=(Int)×List Qaa) (fun n t=>Qdy N x1 p2 n t.1=some t.2) (fun ⟨y15,q16⟩=>⟨mk 62 [(0,(.lit (.func (.yield l) #[] #[]))),(1,(.dptr [(.dptr [(Qhg p0),(Qgw p1),(Qgu p2),(Qhk p3),(Qhj p4),(Qgt p5),I p6] 0)] 0)),(39,(Q98 x1)),(40,(I ((x1.From.length:Int)))),(41,I y15)],[(.far (J (some (q16))))]⟩) (fun t h=>by rw[Qdy] at h;cases h) (fun n19 ih t h=>?_) N ((0),r) h
   obtain⟨y15,q16⟩:=t
   rw[Qdy] at h
   try dsimp only at h
   refine wxz<|wsq ?_
   refine bfe h (fun hc20 h=>?_) fun hc20 h=>?_
   ·refine wft hc20<|Qap<|thn<|wsq<|Qao ?_
    obtain⟨x21,hg22,h⟩:=bno h
    obtain⟨hi23,hj24⟩:=gsm hg22
    refine wx tbk [(0,rp [(.tmp 39,(Q98 x1)),(.tmp 41,I y15)] (.dptr (Qa3 (x21)) 0))] ⟨aid rfl underlying116 Qry rfl rfl hi23 (mgt Qa3 hj24) rfl,tv⟩ ?_
    obtain⟨x25,hg26,h⟩:=bno h
    obtain⟨hi27,hj28⟩:=gsm hg26
    obtain⟨x29,hg30,h⟩:=bno h
    obtain⟨hi31,hj32⟩:=gsm hg30
    obtain⟨q33,hy_,hq_⟩:=Q5d h
    clear h
    subst hq_
    have h:=hy_
    clear hy_
    refine Q35 14 [mv 0 (.lit (.func (.yield l) #[] #[])),rp [(.tmp 1,(.dptr [(.dptr [(Qhg p0),(Qgw p1),(Qgu p2),(Qhk p3),(Qhj p4),(Qgt p5),I p6] 0)] 0))] (.dptr [(Qhg p0),(Qgw p1),(Qgu p2),(Qhk p3),(Qhj p4),(Qgt p5),I p6] 0),mv 46 (.dptr [(Qhg p0),(Qgw p1),(Qgu p2),(Qhk p3),(Qhj p4),(Qgt p5),I p6] 0),rp [(.tmp 47,(.dptr [(Qhg p0),(Qgw p1),(Qgu p2),(Qhk p3),(Qhj p4),(Qgt p5),I p6] 0))] (.dptr [(Qhg p0),(Qgw p1),(Qgu p2),(Qhk p3),(Qhj p4),(Qgt p5),I p6] 2),mv 48 (.dptr [(Qhg p0),(Qgw p1),(Qgu p2),(Qhk p3),(Qhj p4),(Qgt p5),I p6] 2),rp [(.tmp 49,(.dptr [(Qhg p0),(Qgw p1),(Qgu p2),(Qhk p3),(Qhj p4),(Qgt p5),I p6] 2))] (Qgu p2),rb [(.tmp 5,.ref 1 2 0 0)] [(1,(Qtw x21))] (.ref 1 2 0 0),rb [(.tmp 51,.ref 1 2 0 0)] [(1,(Qtw x21))] (I x21.Element),rp [(.tmp 50,(Qgu p2)),(.tmp 52,I x21.Element)] (.dptr (Qaf (x25)) 0),rp [(.tmp 53,(.dptr (Qaf (x25)) 0))] (Q7k x25),rb [(.tmp 5,.ref 1 2 0 0)] [(1,(Qtw x21))] (.ref 1 2 0 1),rb [(.tmp 55,.ref 1 2 0 1)] [(1,(Qtw x21))] (I x21.Outlet),rp [(.tmp 54,(Q7k x25)),(.tmp 56,I x21.Outlet)] (.dptr (Qae (x29)) 0),rp [(.tmp 57,(.dptr (Qae (x29)) 0))] (Q7j x29),⟨[(.tmp 45,(.lit (.func (.yield l) #[] #[]))),(.tmp 58,(Q7j x29))],[(0,(.far (J (some (x29::q33)))))],B true,[(0,(.far (J (some (q33)))))],false⟩,rp [(.tmp 59,B true)] (B false)] [mv 0 (.lit (.func (.yield l) #[] #[])),rp [(.tmp 1,(.dptr [(.dptr [(Qhg p0),(Qgw p1),(Qgu p2),(Qhk p3),(Qhj p4),(Qgt p5),I p6] 0)] 0))] (.dptr [(Qhg p0),(Qgw p1),(Qgu p2),(Qhk p3),(Qhj p4),(Qgt p5),I p6] 0),mv 46 (.dptr [(Qhg p0),(Qgw p1),(Qgu p2),(Qhk p3),(Qhj p4),(Qgt p5),I p6] 0),rp [(.tmp 47,(.dptr [(Qhg p0),(Qgw p1),(Qgu p2),(Qhk p3),(Qhj p4),(Qgt p5),I p6] 0))] (.dptr [(Qhg p0),(Qgw p1),(Qgu p2),(Qhk p3),(Qhj p4),(Qgt p5),I p6] 2),mv 48 (.dptr [(Qhg p0),(Qgw p1),(Qgu p2),(Qhk p3),(Qhj p4),(Qgt p5),I p6] 2),rp [(.tmp 49,(.dptr [(Qhg p0),(Qgw p1),(Qgu p2),(Qhk p3),(Qhj p4),(Qgt p5),I p6] 2))] (Qgu p2),rb [(.tmp 5,.ref 1 2 0 0)] [(1,(Qtw x21))] (.ref 1 2 0 0),rb [(.tmp 51,.ref 1 2 0 0)] [(1,(Qtw x21))] (I x21.Element),rp [(.tmp 50,(Qgu p2)),(.tmp 52,I x21.Element)] (.dptr (Qaf (x25)) 0),rp [(.tmp 53,(.dptr (Qaf (x25)) 0))] (Q7k x25),rb [(.tmp 5,.ref 1 2 0 0)] [(1,(Qtw x21))] (.ref 1 2 0 1),rb [(.tmp 55,.ref 1 2 0 1)] [(1,(Qtw x21))] (I x21.Outlet),rp [(.tmp 54,(Q7k x25)),(.tmp 56,I x21.Outlet)] (.dptr (Qae (x29)) 0),rp [(.tmp 57,(.dptr (Qae (x29)) 0))] (Q7j x29),⟨[(.tmp 45,(.lit (.func (.yield l) #[] #[]))),(.tmp 58,(Q7j x29))],[(0,(.far (J (some (x29::q33)))))],B false,[(0,(.far (J none)))],false⟩,rp [(.tmp 59,B false)] (B true)] (by exact⟨by kernel_rfl,by kernel_rfl⟩) (by exact⟨by kernel_rfl,by kernel_rfl⟩) rfl rfl rfl rfl (Qrd (rd':=(.tmp 45,.lit (.func (.yield l) #[] #[]))::[(.tmp 58,.lit (.agg #[(.int .i64 (x29.Mass)),(.int .i64 (x29.Heat)),(.int .i64 (x29.Silica)),(.int .i64 (x29.Gas))]))]) ⟨rfl,lrf,rfl,(Less.lits [(.int .i64 (x29.Mass)),(.int .i64 (x29.Heat)),(.int .i64 (x29.Silica)),(.int .i64 (x29.Gas))]),tv⟩ (Qpo (x:=x29) (rest:=q33) rfl rfl hy rfl)) (⟨fun _ _=>amv rfl,fun _ _=>ald_ rfl Qkp (by decide) (nle rfl) rfl,fun _ _=>anc rfl rfl,fun _ _=>afd rfl underlying140 rfl rfl ti34 (by decide) rfl,fun _ _=>afd rfl underlying34 rfl rfl ti31 (by decide) rfl,fun _ _=>ald_ rfl ti31 (by decide) (nle rfl) rfl,fun _ _=>afa rfl underlying120 rfl rfl ti3 (by decide) rfl,fun _ _=>ald rfl ti3 (by decide) rfl (nle rfl) rfl,fun _ _=>aid rfl underlying31 ti45 rfl rfl hi27 (mgt Qaf hj28) rfl,fun _ _=>ald_ rfl ti45 (by decide) (nle rfl) rfl,fun _ _=>afa rfl underlying120 rfl rfl ti3 (by decide) rfl,fun _ _=>ald rfl ti3 (by decide) rfl (nle rfl) rfl,fun _ _=>aid rfl underlying45 ti63 rfl rfl hi31 (mgt Qae hj32) rfl,fun _ _=>ald_ rfl ti63 (by decide) (nle rfl) rfl,fun _ h=>absurd rfl h,fun _ _=>Qmt rfl,tv⟩) (⟨fun _ _=>amv rfl,fun _ _=>ald_ rfl Qkp (by decide) (nle rfl) rfl,fun _ _=>anc rfl rfl,fun _ _=>afd rfl underlying140 rfl rfl ti34 (by decide) rfl,fun _ _=>afd rfl underlying34 rfl rfl ti31 (by decide) rfl,fun _ _=>ald_ rfl ti31 (by decide) (nle rfl) rfl,fun _ _=>afa rfl underlying120 rfl rfl ti3 (by decide) rfl,fun _ _=>ald rfl ti3 (by decide) rfl (nle rfl) rfl,fun _ _=>aid rfl underlying31 ti45 rfl rfl hi27 (mgt Qaf hj28) rfl,fun _ _=>ald_ rfl ti45 (by decide) (nle rfl) rfl,fun _ _=>afa rfl underlying120 rfl rfl ti3 (by decide) rfl,fun _ _=>ald rfl ti3 (by decide) rfl (nle rfl) rfl,fun _ _=>aid rfl underlying45 ti63 rfl rfl hi31 (mgt Qae hj32) rfl,fun _ _=>ald_ rfl ti63 (by decide) (nle rfl) rfl,fun _ h=>absurd rfl h,fun _ _=>Qmt rfl,tv⟩) ?_ ?_
    ·skip
     exact wfa<|Qap<|bln<|thn<|wxz1<|thn<|arm (mto (n:=62) [(0,(.lit (.func (.yield l) #[] #[]))),(1,(.dptr [(.dptr [(Qhg p0),(Qgw p1),(Qgu p2),(Qhk p3),(Qhj p4),(Qgt p5),I p6] 0)] 0)),(39,(Q98 x1)),(40,(I ((x1.From.length:Int)))),(41,(I (w64 (y15+1))))] [0] [(.far (J (some (q33))))] hφ0 (pw (pc (.rn (.plain _ (NLt.dptr _ _ (nlc (NLt.dptr _ _ (nlc (nld Qan _) (nlc (nld Qab _) (nlc (nld Qag _) (nlc (nld Qay _) (nlc (nld Qaj _) (nlc (nld Qak _) (nlc nll nl0)))))))) nl0)))) (pc (rnd Qaz) (pw (pw pn))))) (qc (.far _) qn)) (ih ((w64 (y15+1)),q33) h)
    ·clear h
     exact wtr<|Qah<|Qaq<|Qac<|Qac<|Qaq<|Or.inr (by kernel_rfl)
   ·refine wfn hc20<|Qbl<|Qax<|Qax<|Qbk rfl ?_
    obtain rfl:=osi h
    exact Or.inl rfl
def Qa2 (N:Nat) (k3:(List Qaa)→Option (List Qaa)):(List Qaa)→(List Qaa)→Option (List Qaa)
  |[],y6=>
    k3 (y6)
  |x9::q10,y6=>
    chk (decide ((y6.length+([x9]).length)*32≤140737488355328))<|
    Qa2 N k3 q10 (y6++([x9]))
def Qcm (N:Nat) (p0:(List GRow)) (p1:(List Qad)) (p2:(List (List Qaa))) (p3:(List Qa1)) (p4:(List Int)) (p5:(List Qaa)) (p6:Int) (p7:Int):Option (List Qaa):=
  Qbn (fun y2=>
    some y2) fun k3:(List Qaa)→Option (List Qaa)=>
  (Qho N p0 p1 p2 p3 p4 p5 p6 p7).bind fun q4=>
  Qa2 N k3 q4 ([])
def Zo8 (p0:(List GRow)) (p1:(List Qad)) (p2:(List (List Qaa))) (p3:(List Qa1)) (p4:(List Int)) (p5:(List Qaa)) (p6:Int) (p7:Int):AV:=.fn (.func 133) [] [(.dptr [(.dptr [(.dat 5 ((p0:List GRow).map Qa7)),(.dat 7 ((p1:List Qad).map Qai)),(.dat 1 ((p2:List (List Qaa)).map Qaf)),(.dat 4 ((p3:List Qa1).map Qbf)),(.dat 1 ((p4:List Int).map Qav)),(.dat 4 ((p5:List Qaa).map Qae)),(I (p6))] 0)] 0),(.dptr [(I (p7))] 0)]
def Zdn (y6:(List Qaa)):AV:=.acc 1 63 4 ((y6:List Qaa).map Qae)
def Znb (x9:Qaa):AV:=.agg [(I (x9.Mass)),(I (x9.Heat)),(I (x9.Silica)),(I (x9.Gas))]
theorem Qg2 (N:Nat) (p0:(List GRow)) (p1:(List Qad)) (p2:(List (List Qaa))) (p3:(List Qa1)) (p4:(List Int)) (p5:(List Qaa)) (p6:Int) (p7:Int) (r:(List Qaa)) (h:Qcm N p0 p1 p2 p3 p4 p5 p6 p7=some r):Spec prog 132 [nilS,(Zo8 p0 p1 p2 p3 p4 p5 p6 p7)] [] (.acc 0 63 4 ((r:List Qaa).map Qae)) [.tok]:=by
  refine Qal func132 rfl 1 (nle rfl) (fun X φ0 w0 hφ0 hd0=>?_)
  unfold Qcm at h
  refine Qbv<|wxz ?_
  obtain⟨k3,hk_k3,h⟩:=jko h
  refine wjn (τ:=(List Qaa)) (fun t=>k3 t=some r) (fun y2=>⟨mk 13 [(2,.ref 0 1 0 0)],[(.own 1 [[(.acc 1 63 4 ((y2:List Qaa).map Qae))]]),.tok]⟩) (fun y2 h=>?_) ?_
  ·subst hk_k3
   refine wxz<|wmr (mto (n:=13) (l':=[(4,(.acc 0 63 4 ((y2:List Qaa).map Qae)))]) (own':=[.tok]) [(4,(.acc 1 63 4 ((y2:List Qaa).map Qae)))] [1] [.tok] hφ0 (pc (.rn (Qdb rfl (Qcb Qak _))) pn) (qc .tok qn))<|Qah ?_
   obtain rfl:=osi h
   exact⟨_,Mor.rfl,Qdh (vs:=[(.acc 0 63 4 ((y2:List Qaa).map Qae))]) ⟨rot,tv⟩ rfl (NLt.acc _ _ _ _ (by decide) (Q0k Qak _)) (by kernel_rfl) (Qar .tok Qbx)⟩
  ·skip
   refine wxz<|Qao ?_
   obtain⟨q4,hL5,h⟩:=bno h
   refine wmr (mto (n:=13) (l':=[(2,.ref 0 1 0 0),(6,(Zo8 p0 p1 p2 p3 p4 p5 p6 p7))]) (own':=[(.own 1 [[nilS]])]) [(2,.ref 0 1 0 0),(6,(Zo8 p0 p1 p2 p3 p4 p5 p6 p7))] [0] [(.own 1 [[nilS]])] hφ0 (prr (pc (.rn (Qbj rn0 (rnc (.plain _ (NLt.dptr _ _ (nlc (NLt.dptr _ _ (nlc (nld Qan _) (nlc (nld Qab _) (nlc (nld Qag _) (nlc (nld Qay _) (nlc (nld Qaj _) (nlc (nld Qak _) (nlc nll nl0)))))))) nl0))) (rnc (.plain _ (NLt.dptr _ _ (nlc nll nl0))) rn0)))) pn)) (qb (lc rwl ln) qn)) ?_
   refine wmr (Qsa (n:=1) (ty:=63) (m:=4) (q:=0) (mq:=1) (c:=[nilS]) 0 (by kernel_rfl) (by kernel_rfl) (by kernel_rfl) (by decide)) ?_
   refine Qtt (τ:=((List Qaa))) (kb:=1) (caps:=[(.dptr [(.dptr [(.dat 5 ((p0:List GRow).map Qa7)),(.dat 7 ((p1:List Qad).map Qai)),(.dat 1 ((p2:List (List Qaa)).map Qaf)),(.dat 4 ((p3:List Qa1).map Qbf)),(.dat 1 ((p4:List Int).map Qav)),(.dat 4 ((p5:List Qaa).map Qae)),I p6] 0)] 0),(.dptr [I p7] 0)]) (σr:=[]) (encs:=fun x=>[(.agg #[(.int .i64 (x.Mass)),(.int .i64 (x.Heat)),(.int .i64 (x.Silica)),(.int .i64 (x.Gas))])]) (fun x=>[(.agg [I x.Mass,I x.Heat,I x.Silica,I x.Gas])]) [] (fun n hn=>hφ0 n (Nat.le_trans (nle rfl) hn)) hd0 (Qp9 N p0 p1 p2 p3 p4 p5 p6 p7 _ hL5) Zlk (by kernel_rfl) (by kernel_rfl) (Qbp (rnc (.plain _ (NLt.dptr _ _ (nlc (NLt.dptr _ _ (nlc (nld Qan _) (nlc (nld Qab _) (nlc (nld Qag _) (nlc (nld Qay _) (nlc (nld Qaj _) (nlc (nld Qak _) (nlc nll nl0)))))))) nl0))) (rnc (.plain _ (NLt.dptr _ _ (nlc nll nl0))) rn0))) Qat (by kernel_rfl) (fun _=>rfl) (fun x=>⟨(Less.unlits [(.int .i64 (x.Mass)),(.int .i64 (x.Heat)),(.int .i64 (x.Silica)),(.int .i64 (x.Gas))]),tv⟩) (Zgg (Qob (NLt.ref _ _ _ _ (by decide)) (Qob (NLt.of0 (NLt.fn _ _ _ nl0 (nlc (NLt.dptr _ _ (nlc (NLt.dptr _ _ (nlc (nld Qan _) (nlc (nld Qab _) (nlc (nld Qag _) (nlc (nld Qay _) (nlc (nld Qaj _) (nlc (nld Qak _) (nlc nll nl0)))))))) nl0)) (nlc (NLt.dptr _ _ (nlc nll nl0)) nl0)))) Q5y))) (fun y6=>[(.own 1 [[(Zdn y6)]]),.tok]) (fun _=>rfl) (fun _=>rfl) (fun l t=>Qa2 N k3 l t=some r) ([]) h (by kernel_rfl) ?_ ?_
   ·intro l11 o12 X15 φ16 w17 hφ14 x9 q10 y6 h
    rw[Qa2] at h
    refine wxz1 ?_
    refine⟨by kernel_rfl,fun o13=>?_⟩
    refine Qao ?_
    obtain⟨ha18,h⟩:=cko h
    refine wx1 tbk [(2,rp [(.tmp 9,(Znb x9))] (.dat 4 (([x9]:List Qaa).map Qae))),(3,⟨[(.tmp 8,(Zdn y6)),(.tmp 10,(.dat 4 (([x9]:List Qaa).map Qae)))],[(1,.tok),(4,.unused)],(.acc 4 63 4 ((y6++([x9]):List Qaa).map Qae)),[(1,.dead),(4,.tok)],false⟩)] ⟨Qb7 (vs:=[(Znb x9)]) rfl underlying45 ti63 tz63 rfl (by decide) rfl (by decide) (by rfl) (by rfl) (by rfl) rfl,Qhc rfl underlying45 te63 (Base.acc _ _) rfl rfl (by rfl) (Qko Qae ha18) (Qkn Qae ha18 (by decide)) (Qkm Qae) rfl rfl,tv⟩<|bln ?_
    exact⟨(y6++([x9])),h,Zf4 (own':=[(.own 1 [[(.acc 1 63 4 (((y6++([x9])):List Qaa).map Qae))]]),.tok,(.far (farL l11 o13))]) [0,4,2] [(.own 1 [[(.acc 4 63 4 ((y6++([x9]):List Qaa).map Qae))]]),.tok,(.far (farL l11 o13))] (by kernel_rfl) (by kernel_rfl) ⟨(spb (lc (.rn (Qdb rfl (Qcb Qak _))) ln)),.tok,.far _,tv⟩⟩
   ·intro y6 h
    rw[Qa2] at h
    exact bln<|thn<|⟨(y6),h,(mto (n:=13) [(2,.ref 0 1 0 0)] [0,1] [(.own 1 [[(Zdn y6)]]),.tok] hφ0 (prr pn) (qb (lc (.rn (Qdb rfl (Qcb Qak _))) ln) (qc .tok qn)))⟩
def Qcc (N:Nat) (p0:(List GRow)) (p1:(List Qad)) (p2:(List (List Qaa))) (p3:(List Qa1)) (p4:(List Int)) (p5:(List Qaa)) (p6:Int) (p7:Int):Option (List Qaa):=
  (Qcm N p0 p1 p2 p3 p4 p5 p6 p7).bind fun x3=>
  some x3
def Zo9 (p0:(List GRow)) (p1:(List Qad)) (p2:(List (List Qaa))) (p3:(List Qa1)) (p4:(List Int)) (p5:(List Qaa)) (p6:Int) (p7:Int):AV:=.fn (.func 133) [] [(.dptr [(.dptr [(.dat 5 ((p0:List GRow).map Qa7)),(.dat 7 ((p1:List Qad).map Qai)),(.dat 1 ((p2:List (List Qaa)).map Qaf)),(.dat 4 ((p3:List Qa1).map Qbf)),(.dat 1 ((p4:List Int).map Qav)),(.dat 4 ((p5:List Qaa).map Qae)),(I (p6))] 0)] 0),(.dptr [(I (p7))] 0)]
def Zdo (x3:(List Qaa)):AV:=.acc 0 63 4 ((x3:List Qaa).map Qae)
theorem Qj7 (N:Nat) (p0:(List GRow)) (p1:(List Qad)) (p2:(List (List Qaa))) (p3:(List Qa1)) (p4:(List Int)) (p5:(List Qaa)) (p6:Int) (p7:Int) (r:(List Qaa)) (h:Qcc N p0 p1 p2 p3 p4 p5 p6 p7=some r):Spec prog 115 [(Zo9 p0 p1 p2 p3 p4 p5 p6 p7)] [] (.acc 0 63 4 ((r:List Qaa).map Qae)) [.tok]:=by
  refine Qal func115 rfl 1 (nle rfl) (fun X φ0 w0 hφ0 hd0=>?_)
  unfold Qcc at h
  refine Qbv<|wxz ?_
  obtain⟨x3,hf2,h⟩:=bno h
  refine wx tbk [(1,⟨[fu 132,((.const (.slice none 0 0)),nilS),(.tmp 3,(Zo9 p0 p1 p2 p3 p4 p5 p6 p7))],[(0,.unused)],(Zdo x3),[(0,.tok)],false⟩)] ⟨Qau (first:=[]) (cap:=[]) (vs:=[nilS,(Zo9 p0 p1 p2 p3 p4 p5 p6 p7)]) (σr:=[]) (σr':=[.tok]) (res':=(Zdo x3)) [0] rfl Zll (Qg2 N p0 p1 p2 p3 p4 p5 p6 p7 _ hf2) rfl (Qbp (rnc (.plain _ nll) (rnc (.plain _ (NLt.fn _ _ _ nl0 (nlc (NLt.dptr _ _ (nlc (NLt.dptr _ _ (nlc (nld Qan _) (nlc (nld Qab _) (nlc (nld Qag _) (nlc (nld Qay _) (nlc (nld Qaj _) (nlc (nld Qak _) (nlc nll nl0)))))))) nl0)) (nlc (NLt.dptr _ _ (nlc nll nl0)) nl0)))) rn0))) Qat (slc .tok Qat) (Zfw rfl (Qcb Qak _)) rfl rfl rfl,tv⟩ ?_
  refine wmr (mto (n:=5) (l':=[(2,(Zdo x3))]) (own':=[.tok]) [(2,(Zdo x3))] [0] [.tok] hφ0 (pc (.rn (Qdb rfl (Qcb Qak _))) pn) (qc .tok qn))<|Qah ?_
  obtain rfl:=osi h
  exact⟨_,Mor.rfl,Qdh (vs:=[(Zdo x3)]) ⟨rot,tv⟩ rfl (NLt.acc _ _ _ _ (by decide) (Q0k Qak _)) (by kernel_rfl) (Qar .tok Qbx)⟩
def Qgf (_N:Nat) (_p0:Int) (p1:Qaa) (_p2:(List GRow)) (_p3:(List Qad)) (_p4:Nat) (_p5:Nat) (_p6:Nat) (_p7:(List Qaa)) (_p8:Int) (_p9:(List (List Qaa))) (_p10:(List Qa1)) (_p11:(List Int)):Option (List Qaa):=
  some ([p1])
def Zo7 (p1:Qaa):AV:=.agg [(I (p1.Mass)),(I (p1.Heat)),(I (p1.Silica)),(I (p1.Gas))]
def Ziv (p2:(List GRow)) (p3:(List Qad)) (p4:Nat) (p5:Nat) (p6:Nat) (p7:(List Qaa)) (p8:Int):Slot:=.own 7 [[(.dat 5 ((p2:List GRow).map Qa7)),(.dat 7 ((p3:List Qad).map Qai)),(.own 1 1 (0) (p4)),(.own 2 4 (0) (p5)),(.own 3 1 (0) (p6)),(.dat 4 ((p7:List Qaa).map Qae)),(I (p8))]]
def Ziu (p9:(List (List Qaa))):Slot:=.own 1 ((p9:List (List Qaa)).map Qaf)
def Zit (p10:(List Qa1)):Slot:=.own 4 ((p10:List Qa1).map Qbf)
def Zis (p11:(List Int)):Slot:=.own 1 ((p11:List Int).map Qav)
def Ziw (p1:Qaa):AV:=.dat 4 (([p1]:List Qaa).map Qae)
theorem Qi8 (N:Nat) (p0:Int) (p1:Qaa) (p2:(List GRow)) (p3:(List Qad)) (p4:Nat) (p5:Nat) (p6:Nat) (p7:(List Qaa)) (p8:Int) (p9:(List (List Qaa))) (p10:(List Qa1)) (p11:(List Int)) (r:(List Qaa)) (h:Qgf N p0 p1 p2 p3 p4 p5 p6 p7 p8 p9 p10 p11=some r):Spec prog 117 [(.ref 0 7 (0) 0),(I (p0)),(Zo7 p1)] [(Ziv p2 p3 p4 p5 p6 p7 p8),(Ziu p9),(Zit p10),(Zis p11)] (.dat 4 ((r:List Qaa).map Qae)) [(Ziv p2 p3 p4 p5 p6 p7 p8),(Ziu p9),(Zit p10),(Zis p11)]:=by
  refine Qal func117 rfl 4 (nle rfl) (fun X φ0 w0 hφ0 hd0=>?_)
  unfold Qgf at h
  refine Qbv<|wxz ?_
  refine wx tbk [(1,rp [(.tmp 7,(Zo7 p1))] (Ziw p1))] ⟨Qb7 (vs:=[(Zo7 p1)]) rfl underlying45 ti63 tz63 rfl (by decide) rfl (by decide) (by rfl) (by rfl) (by rfl) rfl,tv⟩ ?_
  refine wmr (mto (n:=9) (l':=[(6,(Ziw p1))]) (own':=[(Ziv p2 p3 p4 p5 p6 p7 p8),(Ziu p9),(Zit p10),(Zis p11)]) [(6,(Ziw p1))] [0,1,2,3] [(Ziv p2 p3 p4 p5 p6 p7 p8),(Ziu p9),(Zit p10),(Zis p11)] hφ0 (pc (rnd Qak) pn) (qb (lc (rnd Qan) (lc (rnd Qab) (lc (.rn (Qa5 rfl)) (lc (.rn (Qa5 rfl)) (lc (.rn (Qa5 rfl)) (lc (rnd Qak) (lc rwl ln))))))) (qc (spr Qag) (qc (spr Qay) (qc (spr Qaj) qn)))))<|Qah ?_
  obtain rfl:=osi h
  exact⟨_,Mor.rfl,Qdh (vs:=[(Ziw p1)]) ⟨rot,tv⟩ rfl (NLt.of0 (nld Qak _)) (by kernel_rfl) (Qar (Qa4 (nlc (NLt.of0 (nld Qan _)) (nlc (NLt.of0 (nld Qab _)) (nlc (NLt.own _ _ _ _ (by decide)) (nlc (NLt.own _ _ _ _ (by decide)) (nlc (NLt.own _ _ _ _ (by decide)) (nlc (NLt.of0 (nld Qak _)) (nlc (NLt.of0 nll) nl0)))))))) (Qar (Qda Qag _) (Qar (Qda Qay _) (Qar (Qda Qaj _) Qbx))))⟩
def Qi3 (_N:Nat) (p0:Int) (p1:Qaa) (_p2:(List GRow)) (p3:(List Qad)) (_p4:Nat) (p5:Nat) (_p6:Nat) (_p7:(List Qaa)) (_p8:Int) (_p9:(List (List Qaa))) (p10:(List Qa1)) (_p11:(List Int)):Option ((List Qaa)×(List Qa1)):=
  (getI p3 p0).bind fun x3=>
  (some (if p1.Heat<x3.Amount then p1.Heat else x3.Amount)).bind fun x7=>
  chk (decide (0≤p0)&&decide (p0.toNat<p5))<|
  (p10[p0.toNat]?).bind fun x10=>
  some ([(⟨p1.Mass,w64 (p1.Heat-x7),p1.Silica,p1.Gas⟩:Qaa)],p10.set p0.toNat (⟨x7,x10.Silica,x10.Gas,x10.Scale⟩:Qa1))
def Q96 (p2:(List GRow)) (p3:(List Qad)) (p4:Nat) (p5:Nat) (p6:Nat) (p7:(List Qaa)) (p8:Int):Slot:=.own 7 [[(.dat 5 ((p2:List GRow).map Qa7)),(.dat 7 ((p3:List Qad).map Qai)),(.own 1 1 (0) (p4)),(.own 2 4 (0) (p5)),(.own 3 1 (0) (p6)),(.dat 4 ((p7:List Qaa).map Qae)),(I (p8))]]
def Q7h (p9:(List (List Qaa))):Slot:=.own 1 ((p9:List (List Qaa)).map Qaf)
def Zo6 (p10:(List Qa1)):Slot:=.own 4 ((p10:List Qa1).map Qbf)
def Q7g (p11:(List Int)):Slot:=.own 1 ((p11:List Int).map Qav)
def Zna (p1:Qaa) (x7:Int):AV:=.agg [(I (p1.Mass)),(I (w64 (p1.Heat-x7))),(I (p1.Silica)),(I (p1.Gas))]
def Q7i (p1:Qaa) (x7:Int):AV:=.dat 4 (([(⟨p1.Mass,w64 (p1.Heat-x7),p1.Silica,p1.Gas⟩:Qaa)]:List Qaa).map Qae)
theorem Qqb (N:Nat) (p0:Int) (p1:Qaa) (p2:(List GRow)) (p3:(List Qad)) (p4:Nat) (p5:Nat) (p6:Nat) (p7:(List Qaa)) (p8:Int) (p9:(List (List Qaa))) (p10:(List Qa1)) (p11:(List Int)) (r:((List Qaa)×(List Qa1))) (h:Qi3 N p0 p1 p2 p3 p4 p5 p6 p7 p8 p9 p10 p11=some r):Spec prog 118 [(.ref 0 7 (0) 0),(I (p0)),(.agg [(I (p1.Mass)),(I (p1.Heat)),(I (p1.Silica)),(I (p1.Gas))])] [(Q96 p2 p3 p4 p5 p6 p7 p8),(Q7h p9),(Zo6 p10),(Q7g p11)] (.dat 4 ((r.1:List Qaa).map Qae)) [(Q96 p2 p3 p4 p5 p6 p7 p8),(Q7h p9),(.own 4 ((r.2:List Qa1).map Qbf)),(Q7g p11)]:=by
  refine Qal func118 rfl 4 (nle rfl) (fun X φ0 w0 hφ0 hd0=>?_)
  unfold Qi3 at h
  refine Qbv<|wxz ?_
  obtain⟨x3,hg4,h⟩:=bno h
  obtain⟨hi5,hj6⟩:=gsm hg4
  obtain⟨x7,hl8,h⟩:=bno h
  refine wxd tbk [(1,rb [(.tmp 8,.ref 0 7 0 0)] [(0,(Q96 p2 p3 p4 p5 p6 p7 p8))] (.ref 0 7 0 0)),(6,rp [(.tmp 12,(.dat 7 ((p3:List Qad).map Qai))),(.tmp 13,I p0)] (.dptr (Qai (x3)) 0)),(11,rp [(.tmp 16,I x3.Amount),(.tmp 18,I p1.Heat)] (I ((if p1.Heat<x3.Amount then p1.Heat else x3.Amount)))),(12,rp [(.tmp 19,(I ((if p1.Heat<x3.Amount then p1.Heat else x3.Amount))))] (I x7))] ⟨Qbq rfl,aid rfl underlying40 Qmi rfl rfl hi5 (mgt Qai hj6) rfl,Qmu rfl,Qmv hl8 (aas rfl),tv⟩ ?_
  obtain⟨hi9,h⟩:=cko h
  obtain⟨hi9a,hi9b⟩:=Qcy hi9
  obtain⟨x10,hg11,h⟩:=bno h
  refine wx tbk [(1,rb [(.tmp 20,.ref 0 7 0 0)] [(0,(Q96 p2 p3 p4 p5 p6 p7 p8))] (.ref 0 7 0 0)),(7,rb [(.tmp 24,(.own 2 4 (0) (p5))),(.tmp 25,I p0)] [(2,(Zo6 p10))] (.ref 2 4 (p0.toNat) 0)),(9,⟨[(.tmp 28,(.ref 2 4 (p0.toNat) 0)),(.tmp 26,I x7)],[(2,(Zo6 p10))],.any,[(2,(.own 4 ((p10.set p0.toNat (⟨x7,x10.Silica,x10.Gas,x10.Scale⟩:Qa1):List Qa1).map Qbf)))],false⟩)] ⟨Qbq rfl,aio rfl underlying32 ti82 (odt hi9a) (odt hi9b) (Nat.zero_add _),ast rfl ti3 (by rfl) (mgt Qbf hg11) (nle rfl) (Qeq Qbf rfl),tv⟩<|wxz ?_
  refine wx tbk [(1,rp [(.tmp 34,(Zna p1 x7))] (Q7i p1 x7))] ⟨Qb7 (vs:=[(Zna p1 x7)]) rfl underlying45 ti63 tz63 rfl (by decide) rfl (by decide) (by rfl) (by rfl) (by rfl) rfl,tv⟩ ?_
  refine wmr (mto (n:=36) (l':=[(6,(Q7i p1 x7))]) (own':=[(Q96 p2 p3 p4 p5 p6 p7 p8),(Q7h p9),(.own 4 (((p10.set p0.toNat (⟨x7,x10.Silica,x10.Gas,x10.Scale⟩:Qa1)):List Qa1).map Qbf)),(Q7g p11)]) [(6,(Q7i p1 x7))] [0,1,2,3] [(Q96 p2 p3 p4 p5 p6 p7 p8),(Q7h p9),(.own 4 ((p10.set p0.toNat (⟨x7,x10.Silica,x10.Gas,x10.Scale⟩:Qa1):List Qa1).map Qbf)),(Q7g p11)] hφ0 (pc (rnd Qak) pn) (qb (lc (rnd Qan) (lc (rnd Qab) (lc (.rn (Qa5 rfl)) (lc (.rn (Qa5 rfl)) (lc (.rn (Qa5 rfl)) (lc (rnd Qak) (lc rwl ln))))))) (qc (spr Qag) (qc (spr Qay) (qc (spr Qaj) qn)))))<|Qah ?_
  obtain rfl:=osi h
  exact⟨_,Mor.rfl,Qdh (vs:=[(Q7i p1 x7)]) ⟨rot,tv⟩ rfl (NLt.of0 (nld Qak _)) (by kernel_rfl) (Qar (Qa4 (nlc (NLt.of0 (nld Qan _)) (nlc (NLt.of0 (nld Qab _)) (nlc (NLt.own _ _ _ _ (by decide)) (nlc (NLt.own _ _ _ _ (by decide)) (nlc (NLt.own _ _ _ _ (by decide)) (nlc (NLt.of0 (nld Qak _)) (nlc (NLt.of0 nll) nl0)))))))) (Qar (Qda Qag _) (Qar (Qda Qay _) (Qar (Qda Qaj _) Qbx))))⟩
def Qjk (N:Nat) (p0:(List GRow)) (p1:Int):Option Bool:=
  (Qdv N p1 0 (w64 ((p0.length:Int)-1))).bind fun x2=>
  some x2
theorem Qqx (N:Nat) (p0:(List GRow)) (p1:Int) (r:Bool) (h:Qjk N p0 p1=some r):Spec prog 143 [(.dat 5 (p0.map Qa7)),(I p1)] [] (B r) []:=by
  refine Qal func143 rfl 0 (nle rfl) (fun X φ0 w0 hφ0 hd0=>?_)
  unfold Qjk at h
  refine wxz ?_
  obtain⟨x2,hf1,h⟩:=bno h
  exact wx tbk [(2,rp [(.tmp 6,(.dat 5 ((p0:List GRow).map Qa7)))] (I ((p0.length:Int)))),(4,rp [fu 137,(.tmp 5,I p1),ci 0,(.tmp 8,(I (w64 ((p0.length:Int)-1))))] (B x2))] ⟨alm (c:=Qa7) (l:=p0) (aln rfl underlying39 rfl),apv Qkl (Qd1 N p1 0 (w64 ((p0.length:Int)-1)) _ hf1) (nlcc (nlc nll nl0)) nll,tv⟩<|Qah<|frb h
def Qj1 (_N:Nat) (p0:(List GRow)) (p1:Int):Option Ql5:=
  (getI p0 p1).bind fun x1=>
  some (⟨x1⟩:Ql5)
def Zo4 (x1:GRow):AV:=.agg [(I (x1.T)),(I (x1.P)),(I (x1.Liquid)),(I (x1.Vapour)),(I (x1.Silica))]
theorem Qr1 (N:Nat) (p0:(List GRow)) (p1:Int) (r:Ql5) (h:Qj1 N p0 p1=some r):Spec prog 144 [(.dat 5 (p0.map Qa7)),(I p1)] [] (.agg (Q05 r)) []:=by
  refine Qal func144 rfl 0 (nle rfl) (fun X φ0 w0 hφ0 hd0=>?_)
  unfold Qj1 at h
  refine wxz ?_
  obtain⟨x1,hg2,h⟩:=bno h
  obtain⟨hi3,hj4⟩:=gsm hg2
  refine wx tbk [(2,rp [(.tmp 5,(.dat 5 ((p0:List GRow).map Qa7))),(.tmp 6,I p1)] (.dptr (Qa7 (x1)) 0)),(4,mv 8 (Zo4 x1))] ⟨aid rfl underlying39 Qxz rfl rfl hi3 (mgt Qa7 hj4) rfl,Qa8 (vs:=[(Zo4 x1)]) rfl Zvw Zuh rfl (by rfl) rfl,tv⟩<|Qah ?_
  obtain rfl:=osi h
  exact fend ⟨[(Zo4 x1)],⟨Qb2 (n:=0) (m:=5) (j:=0) (i:=0) (xs:=[[I x1.T,I x1.P,I x1.Liquid,I x1.Vapour,I x1.Silica]]) (by kernel_rfl) (by kernel_rfl) Zuo (by decide) rfl (nle rfl) rfl,tv⟩,rfl⟩ (NLt.agg _ (nlcc (nlcc (nlc nll nl0))))
def Qgx (_N:Nat) (p0:Ql5) (p1:Qaa):Option Int:=
  (some (w64 (p1.Heat-(w64 (p1.Mass*p0.Row.Liquid))))).bind fun x1=>
  bif (decide (x1≤0)) then
   some 0
  else
   bif (decide (p1.Heat≥(w64 (p1.Mass*p0.Row.Vapour)))) then
    some p1.Mass
   else
    chk ((w64 (p0.Row.Vapour-p0.Row.Liquid)) != 0)<|
    (some (w64 (x1.tdiv (w64 (p0.Row.Vapour-p0.Row.Liquid))))).bind fun x6=>
    some x6
theorem Qo8 (N:Nat) (p0:Ql5) (p1:Qaa) (r:Int) (h:Qgx N p0 p1=some r):Spec prog 149 [(.agg (Q05 p0)),(.agg (Qae p1))] [] (I r) []:=by
  refine Qal func149 rfl 0 (nle rfl) (fun X φ0 w0 hφ0 hd0=>?_)
  unfold Qgx at h
  refine wxz ?_
  obtain⟨x1,hl2,h⟩:=bno h
  refine wx tbk [(9,rp [(.tmp 14,(I (w64 (p1.Heat-(w64 (p1.Mass*p0.Row.Liquid))))))] (I x1))] ⟨Qmv hl2 (aas rfl),tv⟩<|wsq<|Qao<|wxz ?_
  refine bfe h (fun hc3 h=>?_) fun hc3 h=>?_
  ·refine wft hc3<|wxz<|Qah<|Qaq<|Qac ?_
   obtain rfl:=osi h
   exact fend ⟨[I 0],⟨rot,tv⟩,rfl⟩ nll
  ·refine wfn hc3<|wxz ?_
   refine bfe h (fun hc4 h=>?_) fun hc4 h=>?_
   ·refine wft hc4<|wxz<|Qah<|Qaq<|Qac ?_
    obtain rfl:=osi h
    exact fend ⟨[I p1.Mass],⟨rot,tv⟩,rfl⟩ nll
   ·refine wfn hc4<|Qap<|bln<|thn ?_
    obtain⟨hz5,h⟩:=cko h
    obtain⟨x6,hl7,h⟩:=bno h
    refine wx tbk [(8,rp [(.tmp 30,I x1),(.tmp 37,(I (w64 (p0.Row.Vapour-p0.Row.Liquid))))] (I (w64 (x1.tdiv (w64 (p0.Row.Vapour-p0.Row.Liquid)))))),(9,rp [(.tmp 38,(I (w64 (x1.tdiv (w64 (p0.Row.Vapour-p0.Row.Liquid))))))] (I x6))] ⟨Qsr rfl (Qxg hz5),Qmv hl7 (aas rfl),tv⟩<|Qah ?_
    obtain rfl:=osi h
    exact fend ⟨[I x6],⟨rot,tv⟩,rfl⟩ nll
def Qhl (N:Nat) (p0:Ql5) (p1:Qaa):Option Qir:=
  (Qgx N (⟨(⟨p0.Row.T,p0.Row.P,p0.Row.Liquid,p0.Row.Vapour,p0.Row.Silica⟩:GRow)⟩:Ql5) p1).bind fun x2=>
  Qbn (fun ⟨y3,y4,y5,y6,y7,_,y9⟩=>
    (some (if (w64 (y6*p0.Row.Silica))<p1.Silica then w64 (y6*p0.Row.Silica) else p1.Silica)).bind fun x11=>
    bif (decide (y6>0)) then
     (some (if (w64 (y7-(w64 (y6*p0.Row.Liquid))))>0 then w64 (y7-(w64 (y6*p0.Row.Liquid))) else 0)).bind fun x14=>
     some (⟨(⟨y3,y4,0,y5⟩:Qaa),(⟨y6,y7,x11,y9⟩:Qaa),x14,w64 (p1.Silica-x11)⟩:Qir)
    else
     some (⟨(⟨y3,y4,0,y5⟩:Qaa),(⟨y6,y7,x11,y9⟩:Qaa),0,w64 (p1.Silica-x11)⟩:Qir)) fun k10:Int×Int×Int×Int×Int×Int×Int→Option Qir=>
  bif (x2==0) then
   k10 (0,0,0,p1.Mass,p1.Heat,p1.Silica,p1.Gas)
  else
   bif (x2==p1.Mass) then
    k10 (x2,p1.Heat,p1.Gas,0,0,0,0)
   else
    k10 (x2,w64 (x2*p0.Row.Vapour),p1.Gas,w64 (p1.Mass-x2),w64 (p1.Heat-(w64 (x2*p0.Row.Vapour))),0,0)
def Zvf (p0:Ql5):AV:=.agg [(I (p0.Row.T)),(I (p0.Row.P)),(I (p0.Row.Liquid)),(I (p0.Row.Vapour)),(I (p0.Row.Silica))]
def Zve (p1:Qaa):AV:=.agg [(I (p1.Mass)),(I (p1.Heat)),(I (p1.Silica)),(I (p1.Gas))]
def Zir (p0:Ql5):Slot:=.own 5 [[(I (p0.Row.T)),(I (p0.Row.P)),(I (p0.Row.Liquid)),(I (p0.Row.Vapour)),(I (p0.Row.Silica))]]
def Ziq (p1:Qaa):Slot:=.own 4 [[(I (p1.Mass)),(I (p1.Heat)),(I (p1.Silica)),(I (p1.Gas))]]
theorem Qr0 (N:Nat) (p0:Ql5) (p1:Qaa) (r:Qir) (h:Qhl N p0 p1=some r):Spec prog 145 [(.agg (Q05 p0)),(.agg (Qae p1))] [] (.agg (Q9p r)) []:=by
  refine Qal func145 rfl 0 (nle rfl) (fun X φ0 w0 hφ0 hd0=>?_)
  unfold Qhl at h
  refine wxz ?_
  obtain⟨x2,hf1,h⟩:=bno h
  refine wx tbk [(2,rp [fu 149,(.tmp 7,(Zvf p0)),(.tmp 8,(Zve p1))] (I x2))] ⟨apv Zk8 (Qo8 N (⟨(⟨p0.Row.T,p0.Row.P,p0.Row.Liquid,p0.Row.Vapour,p0.Row.Silica⟩:GRow)⟩:Ql5) p1 _ hf1) (nlc (NLt.agg _ (nlcc (nlcc (nlc nll nl0)))) (nlc (NLt.agg _ (nlcc (nlcc nl0))) nl0)) nll,tv⟩ ?_
  obtain⟨k10,hk_k10,h⟩:=jko h
  refine wjn (τ:=Int×Int×Int×Int×Int×Int×Int) (fun t=>k10 t=some r) (fun ⟨y3,y4,y5,y6,y7,y8,y9⟩=>⟨mk 87 [(2,.ref 0 5 0 0),(3,.ref 1 4 0 0),(4,.ref 2 10 0 0)],[(Zir p0),(Ziq p1),(.own 10 [[I y3,I y4,I 0,I y5,I y6,I y7,I y8,I y9,I 0,I 0]])]⟩) (fun t h=>?_) ?_
  ·subst hk_k10
   obtain⟨y3,y4,y5,y6,y7,y8,y9⟩:=t
   obtain⟨x11,hl12,h⟩:=bno h
   refine wx tbk [(9,rp [(.tmp 52,I p1.Silica),(.tmp 59,(I (w64 (y6*p0.Row.Silica))))] (I x11))] ⟨Qmv hl12 (Qmu rfl),tv⟩<|wxe<|wsq<|wxz ?_
   refine bfe h (fun hc13 h=>?_) fun hc13 h=>?_
   ·refine wft hc13 ?_
    obtain⟨x14,hl15,h⟩:=bno h
    refine wx1 tbk [(11,rp [ci 0,(.tmp 83,(I (w64 (y7-(w64 (y6*p0.Row.Liquid))))))] (I x14))] ⟨Qmv hl15 (Qlw rfl),tv⟩<|thn<|wxz<|Qah ?_
    obtain rfl:=osi h
    exact fend ⟨[(.agg [I y3,I y4,I 0,I y5,I y6,I y7,I x11,I y9,I x14,(I (w64 (p1.Silica-x11)))])],⟨Qb2 (n:=2) (m:=10) (j:=0) (i:=0) (xs:=[[I y3,I y4,I 0,I y5,I y6,I y7,I x11,I y9,I x14,(I (w64 (p1.Silica-x11)))]]) (by kernel_rfl) (by kernel_rfl) Q5k (by decide) rfl (nle rfl) rfl,tv⟩,rfl⟩ (NLt.agg _ (nlcc (nlcc (nlcc (nlcc (nlcc nl0))))))
   ·refine wfn hc13<|Qap<|thn<|wxz<|Qah ?_
    obtain rfl:=osi h
    exact fend ⟨[(.agg [I y3,I y4,I 0,I y5,I y6,I y7,I x11,I y9,I 0,(I (w64 (p1.Silica-x11)))])],⟨Qb2 (n:=2) (m:=10) (j:=0) (i:=0) (xs:=[[I y3,I y4,I 0,I y5,I y6,I y7,I x11,I y9,I 0,(I (w64 (p1.Silica-x11)))]]) (by kernel_rfl) (by kernel_rfl) Q5k (by decide) rfl (nle rfl) rfl,tv⟩,rfl⟩ (NLt.agg _ (nlcc (nlcc (nlcc (nlcc (nlcc nl0))))))
  ·skip
   refine Qao<|wxz ?_
   refine bfe h (fun hc16 h=>?_) fun hc16 h=>?_
   ·exact wft hc16<|wxz1<|bln<|thn<|⟨(0,0,0,p1.Mass,p1.Heat,p1.Silica,p1.Gas),h,(mto (n:=87) [(2,.ref 0 5 0 0),(3,.ref 1 4 0 0),(4,.ref 2 10 0 0)] [0,1,2] [(Zir p0),(Ziq p1),(.own 10 [[I 0,I 0,I 0,I 0,I p1.Mass,I p1.Heat,I p1.Silica,I p1.Gas,I 0,I 0]])] hφ0 (prr (prr (prr pn))) (qb (lcc (lcc (lc rwl ln))) (qb (lcc (lcc ln)) (qb (lcc (lcc (lcc (lcc (lcc ln))))) qn))))⟩
   ·refine wfn hc16<|wxz ?_
    refine bfe h (fun hc17 h=>?_) fun hc17 h=>?_
    ·exact wft hc17<|wx1 tbk [(5,rp [(.tmp 44,I x2),(.tmp 46,I p1.Heat),(.tmp 48,I p1.Gas)] (.agg [I x2,I p1.Heat,I 0,I p1.Gas]))] ⟨Qa8 (vs:=[I x2,I p1.Heat,I p1.Gas]) rfl ts63 tz63 rfl (by rfl) rfl,tv⟩<|bln<|thn<|⟨(x2,p1.Heat,p1.Gas,0,0,0,0),h,(mto (n:=87) [(2,.ref 0 5 0 0),(3,.ref 1 4 0 0),(4,.ref 2 10 0 0)] [0,1,2] [(Zir p0),(Ziq p1),(.own 10 [[I x2,I p1.Heat,I 0,I p1.Gas,I 0,I 0,I 0,I 0,I 0,I 0]])] hφ0 (prr (prr (prr pn))) (qb (lcc (lcc (lc rwl ln))) (qb (lcc (lcc ln)) (qb (lcc (lcc (lcc (lcc (lcc ln))))) qn))))⟩
    ·refine wfn hc17<|wx tbk [(8,rp [(.tmp 10,I x2),(.tmp 15,(I (w64 (x2*p0.Row.Vapour)))),(.tmp 17,I p1.Gas)] (.agg [I x2,(I (w64 (x2*p0.Row.Vapour))),I 0,I p1.Gas]))] ⟨Qa8 (vs:=[I x2,(I (w64 (x2*p0.Row.Vapour))),I p1.Gas]) rfl ts63 tz63 rfl (by rfl) rfl,tv⟩ ?_
     exact wx1 tbk [(12,rp [(.tmp 23,(I (w64 (p1.Mass-x2)))),(.tmp 31,(I (w64 (p1.Heat-(w64 (x2*p0.Row.Vapour))))))] (.agg [(I (w64 (p1.Mass-x2))),(I (w64 (p1.Heat-(w64 (x2*p0.Row.Vapour))))),I 0,I 0]))] ⟨Qa8 (vs:=[(I (w64 (p1.Mass-x2))),(I (w64 (p1.Heat-(w64 (x2*p0.Row.Vapour)))))]) rfl ts63 tz63 rfl (by rfl) rfl,tv⟩<|bln<|thn<|⟨(x2,w64 (x2*p0.Row.Vapour),p1.Gas,w64 (p1.Mass-x2),w64 (p1.Heat-(w64 (x2*p0.Row.Vapour))),0,0),h,(mto (n:=87) [(2,.ref 0 5 0 0),(3,.ref 1 4 0 0),(4,.ref 2 10 0 0)] [0,1,2] [(Zir p0),(Ziq p1),(.own 10 [[I x2,(I (w64 (x2*p0.Row.Vapour))),I 0,I p1.Gas,(I (w64 (p1.Mass-x2))),(I (w64 (p1.Heat-(w64 (x2*p0.Row.Vapour))))),I 0,I 0,I 0,I 0]])] hφ0 (prr (prr (prr pn))) (qb (lcc (lcc (lc rwl ln))) (qb (lcc (lcc ln)) (qb (lcc (lcc (lcc (lcc (lcc ln))))) qn))))⟩
def Qla (N:Nat) (p0:(List GRow)) (p1:Int) (p2:Qaa):Option (Qir×Int):=
  (Qfx N p0).bind fun x2=>
  bif (!x2) then
   some ((⟨(⟨0,0,0,0⟩:Qaa),(⟨0,0,0,0⟩:Qaa),0,0⟩:Qir),1)
  else
   (Qjk N p0 p1).bind fun x5=>
   bif (!x5) then
    some ((⟨(⟨0,0,0,0⟩:Qaa),(⟨0,0,0,0⟩:Qaa),0,0⟩:Qir),2)
   else
    (Qex N p2).bind fun x8=>
    bif (!x8) then
     some ((⟨(⟨0,0,0,0⟩:Qaa),(⟨0,0,0,0⟩:Qaa),0,0⟩:Qir),1)
    else
     (Qj1 N p0 p1).bind fun x11=>
     (Qhl N (⟨(⟨x11.Row.T,x11.Row.P,x11.Row.Liquid,x11.Row.Vapour,x11.Row.Silica⟩:GRow)⟩:Ql5) p2).bind fun x13=>
     some ((⟨(⟨x13.Steam.Mass,x13.Steam.Heat,x13.Steam.Silica,x13.Steam.Gas⟩:Qaa),(⟨x13.Water.Mass,x13.Water.Heat,x13.Water.Silica,x13.Water.Gas⟩:Qaa),x13.Rest,x13.Scale⟩:Qir),0)
def Zo5 (p0:(List GRow)):AV:=.dat 5 ((p0:List GRow).map Qa7)
def Q93:AV:=.agg [(I (0)),(I (0)),(I (0)),(I (0)),(I (0)),(I (0)),(I (0)),(I (0)),(I (0)),(I (0))]
def Zto (p2:Qaa):AV:=.agg [(I (p2.Mass)),(I (p2.Heat)),(I (p2.Silica)),(I (p2.Gas))]
def Ztn (x11:Ql5):AV:=.agg [(I (x11.Row.T)),(I (x11.Row.P)),(I (x11.Row.Liquid)),(I (x11.Row.Vapour)),(I (x11.Row.Silica))]
def Ztm (x13:Qir):AV:=.agg [(I (x13.Steam.Mass)),(I (x13.Steam.Heat)),(I (x13.Steam.Silica)),(I (x13.Steam.Gas)),(I (x13.Water.Mass)),(I (x13.Water.Heat)),(I (x13.Water.Silica)),(I (x13.Water.Gas)),(I (x13.Rest)),(I (x13.Scale))]
theorem Qv6 (N:Nat) (p0:(List GRow)) (p1:Int) (p2:Qaa) (r:(Qir×Int)) (h:Qla N p0 p1 p2=some r):Spec prog 135 [(.dat 5 (p0.map Qa7)),(I p1),(.agg (Qae p2))] [] (.tup [(.agg (Q9p r.1)),(I r.2)]) []:=by
  refine Qal func135 rfl 0 (nle rfl) (fun X φ0 w0 hφ0 hd0=>?_)
  unfold Qla at h
  refine wxz<|wsq<|Qao ?_
  obtain⟨x2,hf1,h⟩:=bno h
  refine wx tbk [(1,rp [fu 122,(.tmp 9,(Zo5 p0))] (B x2))] ⟨apv Q9i (Qk8 N p0 _ hf1) (nlc (nld Qan _) nl0) nll,tv⟩ ?_
  refine bfe h (fun hc3 h=>?_) fun hc3 h=>?_
  ·refine wft hc3<|wx tbk [(0,rp [] Q93)] ⟨Qa8 (vs:=[]) rfl Zqw Zjm rfl (by rfl) rfl,tv⟩<|Qah<|Qaq<|Qac ?_
   obtain rfl:=osi h
   exact fend ⟨[Q93,I 1],⟨Qb2 (n:=1) (m:=10) (j:=0) (i:=0) (xs:=[[I 0,I 0,I 0,I 0,I 0,I 0,I 0,I 0,I 0,I 0]]) (by kernel_rfl) (by kernel_rfl) Q5k (by decide) rfl (nle rfl) rfl,rot,tv⟩,rfl⟩ (NLt.tup _ (nlc (NLt.agg _ (nlcc (nlcc (nlcc (nlcc (nlcc nl0)))))) (nlc nll nl0)))
  ·refine wfn hc3 ?_
   obtain⟨x5,hf4,h⟩:=bno h
   refine wx tbk [(2,rp [fu 143,(.tmp 14,(Zo5 p0)),(.tmp 15,I p1)] (B x5))] ⟨apv Zle (Qqx N p0 p1 _ hf4) (nlc (nld Qan _) (nlc nll nl0)) nll,tv⟩ ?_
   refine bfe h (fun hc6 h=>?_) fun hc6 h=>?_
   ·refine wft hc6<|wx tbk [(0,rp [] Q93)] ⟨Qa8 (vs:=[]) rfl Zqw Zjm rfl (by rfl) rfl,tv⟩<|Qah<|Qaq<|Qac ?_
    obtain rfl:=osi h
    exact fend ⟨[Q93,I 2],⟨Qb2 (n:=1) (m:=10) (j:=0) (i:=0) (xs:=[[I 0,I 0,I 0,I 0,I 0,I 0,I 0,I 0,I 0,I 0]]) (by kernel_rfl) (by kernel_rfl) Q5k (by decide) rfl (nle rfl) rfl,rot,tv⟩,rfl⟩ (NLt.tup _ (nlc (NLt.agg _ (nlcc (nlcc (nlcc (nlcc (nlcc nl0)))))) (nlc nll nl0)))
   ·refine wfn hc6 ?_
    obtain⟨x8,hf7,h⟩:=bno h
    refine wx tbk [(1,rp [fu 131,(.tmp 20,(Zto p2))] (B x8))] ⟨apv Q01 (Qim N p2 _ hf7) (nlc (NLt.agg _ (nlcc (nlcc nl0))) nl0) nll,tv⟩ ?_
    refine bfe h (fun hc9 h=>?_) fun hc9 h=>?_
    ·refine wft hc9<|wx tbk [(0,rp [] Q93)] ⟨Qa8 (vs:=[]) rfl Zqw Zjm rfl (by rfl) rfl,tv⟩<|Qah<|Qaq<|Qac ?_
     obtain rfl:=osi h
     exact fend ⟨[Q93,I 1],⟨Qb2 (n:=1) (m:=10) (j:=0) (i:=0) (xs:=[[I 0,I 0,I 0,I 0,I 0,I 0,I 0,I 0,I 0,I 0]]) (by kernel_rfl) (by kernel_rfl) Q5k (by decide) rfl (nle rfl) rfl,rot,tv⟩,rfl⟩ (NLt.tup _ (nlc (NLt.agg _ (nlcc (nlcc (nlcc (nlcc (nlcc nl0)))))) (nlc nll nl0)))
    ·refine wfn hc9<|Qap<|bln<|thn ?_
     obtain⟨x11,hf10,h⟩:=bno h
     obtain⟨x13,hf12,h⟩:=bno h
     refine wxd tbk [(2,rp [fu 144,(.tmp 24,(Zo5 p0)),(.tmp 25,I p1)] (Ztn x11)),(4,rp [fu 145,(.tmp 26,(Ztn x11)),(.tmp 27,(Zto p2))] (Ztm x13))] ⟨apv Zld (Qr1 N p0 p1 _ hf10) (nlc (nld Qan _) (nlc nll nl0)) (NLt.agg _ (nlcc (nlcc (nlc nll nl0)))),apv Zlc (Qr0 N (⟨(⟨x11.Row.T,x11.Row.P,x11.Row.Liquid,x11.Row.Vapour,x11.Row.Silica⟩:GRow)⟩:Ql5) p2 _ hf12) (nlc (NLt.agg _ (nlcc (nlcc (nlc nll nl0)))) (nlc (NLt.agg _ (nlcc (nlcc nl0))) nl0)) (NLt.agg _ (nlcc (nlcc (nlcc (nlcc (nlcc nl0)))))),tv⟩<|Qah ?_
     obtain rfl:=osi h
     exact fend ⟨[(Ztm x13),I 0],⟨Qb2 (n:=1) (m:=10) (j:=0) (i:=0) (xs:=[[I x13.Steam.Mass,I x13.Steam.Heat,I x13.Steam.Silica,I x13.Steam.Gas,I x13.Water.Mass,I x13.Water.Heat,I x13.Water.Silica,I x13.Water.Gas,I x13.Rest,I x13.Scale]]) (by kernel_rfl) (by kernel_rfl) Q5k (by decide) rfl (nle rfl) rfl,rot,tv⟩,rfl⟩ (NLt.tup _ (nlc (NLt.agg _ (nlcc (nlcc (nlcc (nlcc (nlcc nl0)))))) (nlc nll nl0)))
def Qfz (N:Nat) (p0:Int) (p1:Qaa) (p2:(List Int)) (_p3:(List GRow)) (_p4:(List Qad)) (_p5:Nat) (p6:Nat) (_p7:Nat) (_p8:(List Qaa)) (_p9:Int) (_p10:(List (List Qaa))) (p11:(List Qa1)) (_p12:(List Int)):Option ((List Qaa)×(List Qa1)):=
  (Qk9 N p1 p2).bind fun x4=>
  chk (decide (0≤p0)&&decide (p0.toNat<p6))<|
  (p11[p0.toNat]?).bind fun x6=>
  chk (decide (0≤p0)&&decide (p0.toNat<p6))<|
  ((p11.set p0.toNat (⟨x4.2.1.Heat,x6.Silica,x6.Gas,x6.Scale⟩:Qa1))[p0.toNat]?).bind fun x9=>
  chk (decide (0≤p0)&&decide (p0.toNat<p6))<|
  (((p11.set p0.toNat (⟨x4.2.1.Heat,x6.Silica,x6.Gas,x6.Scale⟩:Qa1)).set p0.toNat (⟨x9.Heat,x4.2.1.Silica,x9.Gas,x9.Scale⟩:Qa1))[p0.toNat]?).bind fun x12=>
  some (x4.1,((p11.set p0.toNat (⟨x4.2.1.Heat,x6.Silica,x6.Gas,x6.Scale⟩:Qa1)).set p0.toNat (⟨x9.Heat,x4.2.1.Silica,x9.Gas,x9.Scale⟩:Qa1)).set p0.toNat (⟨x12.Heat,x12.Silica,x4.2.1.Gas,x12.Scale⟩:Qa1))
def Ztl (p1:Qaa):AV:=.agg [(I (p1.Mass)),(I (p1.Heat)),(I (p1.Silica)),(I (p1.Gas))]
def Ztk (p2:(List Int)):AV:=.dat 1 ((p2:List Int).map Qav)
def Quy (p3:(List GRow)) (p4:(List Qad)) (p5:Nat) (p6:Nat) (p7:Nat) (p8:(List Qaa)) (p9:Int):Slot:=.own 7 [[(.dat 5 ((p3:List GRow).map Qa7)),(.dat 7 ((p4:List Qad).map Qai)),(.own 1 1 (0) (p5)),(.own 2 4 (0) (p6)),(.own 3 1 (0) (p7)),(.dat 4 ((p8:List Qaa).map Qae)),(I (p9))]]
def Q68 (p10:(List (List Qaa))):Slot:=.own 1 ((p10:List (List Qaa)).map Qaf)
def Zdh (p11:(List Qa1)):Slot:=.own 4 ((p11:List Qa1).map Qbf)
def Q67 (p12:(List Int)):Slot:=.own 1 ((p12:List Int).map Qav)
def Q69 (x4:((List Qaa)×Qok×Int)):AV:=.dat 4 ((x4.1:List Qaa).map Qae)
def Zdg (p11:(List Qa1)) (p0:Int) (x4:((List Qaa)×Qok×Int)) (x6:Qa1):Slot:=.own 4 ((p11.set p0.toNat (⟨x4.2.1.Heat,x6.Silica,x6.Gas,x6.Scale⟩:Qa1):List Qa1).map Qbf)
def Zdf (p11:(List Qa1)) (p0:Int) (x4:((List Qaa)×Qok×Int)) (x6:Qa1) (x9:Qa1):Slot:=.own 4 (((p11.set p0.toNat (⟨x4.2.1.Heat,x6.Silica,x6.Gas,x6.Scale⟩:Qa1)).set p0.toNat (⟨x9.Heat,x4.2.1.Silica,x9.Gas,x9.Scale⟩:Qa1):List Qa1).map Qbf)
def Zm6 (p11:(List Qa1)) (p0:Int) (x4:((List Qaa)×Qok×Int)) (x6:Qa1) (x9:Qa1) (x12:Qa1):Slot:=.own 4 ((((p11.set p0.toNat (⟨x4.2.1.Heat,x6.Silica,x6.Gas,x6.Scale⟩:Qa1)).set p0.toNat (⟨x9.Heat,x4.2.1.Silica,x9.Gas,x9.Scale⟩:Qa1)).set p0.toNat (⟨x12.Heat,x12.Silica,x4.2.1.Gas,x12.Scale⟩:Qa1):List Qa1).map Qbf)
theorem Qlo (N:Nat) (p0:Int) (p1:Qaa) (p2:(List Int)) (p3:(List GRow)) (p4:(List Qad)) (p5:Nat) (p6:Nat) (p7:Nat) (p8:(List Qaa)) (p9:Int) (p10:(List (List Qaa))) (p11:(List Qa1)) (p12:(List Int)) (r:((List Qaa)×(List Qa1))) (h:Qfz N p0 p1 p2 p3 p4 p5 p6 p7 p8 p9 p10 p11 p12=some r):Spec prog 136 [(.ref 0 7 (0) 0),(I (p0)),(Ztl p1),(Ztk p2)] [(Quy p3 p4 p5 p6 p7 p8 p9),(Q68 p10),(Zdh p11),(Q67 p12)] (.dat 4 ((r.1:List Qaa).map Qae)) [(Quy p3 p4 p5 p6 p7 p8 p9),(Q68 p10),(.own 4 ((r.2:List Qa1).map Qbf)),(Q67 p12)]:=by
  refine Qal func136 rfl 4 (nle rfl) (fun X φ0 w0 hφ0 hd0=>?_)
  unfold Qfz at h
  refine Qbv<|wxz ?_
  obtain⟨x4,hf3,h⟩:=bno h
  refine wx tbk [(2,rp [fu 146,(.tmp 13,(Ztl p1)),(.tmp 14,(Ztk p2))] (.tup [(Q69 x4),(.agg [I x4.2.1.Heat,I x4.2.1.Silica,I x4.2.1.Gas]),I x4.2.2]))] ⟨apv Zlb (Qv5 N p1 p2 _ hf3) (nlc (NLt.agg _ (nlcc (nlcc nl0))) (nlc (nld Qaj _) nl0)) (NLt.tup _ (nlc (nld Qak _) (nlc (NLt.agg _ (nlcc (nlc nll nl0))) (nlc nll nl0)))),tv⟩ ?_
  obtain⟨hi5,h⟩:=cko h
  obtain⟨hi5a,hi5b⟩:=Qcy hi5
  obtain⟨x6,hg7,h⟩:=bno h
  obtain⟨hi8,h⟩:=cko h
  obtain⟨hi8a,hi8b⟩:=Qcy hi8
  obtain⟨x9,hg10,h⟩:=bno h
  obtain⟨hi11,h⟩:=cko h
  obtain⟨hi11a,hi11b⟩:=Qcy hi11
  obtain⟨x12,hg13,h⟩:=bno h
  refine wxd tbk [(1,rb [(.tmp 19,.ref 0 7 0 0)] [(0,(Quy p3 p4 p5 p6 p7 p8 p9))] (.ref 0 7 0 0)),(7,rb [(.tmp 25,.ref 0 7 0 0)] [(0,(Quy p3 p4 p5 p6 p7 p8 p9))] (.ref 0 7 0 0)),(13,rb [(.tmp 31,.ref 0 7 0 0)] [(0,(Quy p3 p4 p5 p6 p7 p8 p9))] (.ref 0 7 0 0)),(24,rb [(.tmp 23,(.own 2 4 (0) (p6))),(.tmp 24,I p0)] [(2,(Zdh p11))] (.ref 2 4 (p0.toNat) 0)),(26,⟨[(.tmp 44,(.ref 2 4 (p0.toNat) 0)),(.tmp 38,I x4.2.1.Heat)],[(2,(Zdh p11))],.any,[(2,(Zdg p11 p0 x4 x6))],false⟩),(27,rb [(.tmp 29,(.own 2 4 (0) (p6))),(.tmp 30,I p0)] [(2,(Zdg p11 p0 x4 x6))] (.ref 2 4 (p0.toNat) 0)),(29,⟨[(.tmp 46,(.ref 2 4 (p0.toNat) 1)),(.tmp 40,I x4.2.1.Silica)],[(2,(Zdg p11 p0 x4 x6))],.any,[(2,(Zdf p11 p0 x4 x6 x9))],false⟩),(30,rb [(.tmp 35,(.own 2 4 (0) (p6))),(.tmp 36,I p0)] [(2,(Zdf p11 p0 x4 x6 x9))] (.ref 2 4 (p0.toNat) 0)),(32,⟨[(.tmp 48,(.ref 2 4 (p0.toNat) 2)),(.tmp 42,I x4.2.1.Gas)],[(2,(Zdf p11 p0 x4 x6 x9))],.any,[(2,(Zm6 p11 p0 x4 x6 x9 x12))],false⟩)] ⟨Qbq rfl,Qbq rfl,Qbq rfl,aio rfl underlying32 ti82 (odt hi5a) (odt hi5b) (Nat.zero_add _),ast rfl ti3 (by rfl) (mgt Qbf hg7) (nle rfl) (Qeq Qbf rfl),aio rfl underlying32 ti82 (odt hi8a) (odt hi8b) (Nat.zero_add _),ast rfl ti3 (by rfl) (mgt Qbf hg10) (nle rfl) (Qeq Qbf rfl),aio rfl underlying32 ti82 (odt hi11a) (odt hi11b) (Nat.zero_add _),ast rfl ti3 (by rfl) (mgt Qbf hg13) (nle rfl) (Qeq Qbf rfl),tv⟩<|wxz ?_
  refine wmr (mto (n:=50) (l':=[(8,(Q69 x4))]) (own':=[(Quy p3 p4 p5 p6 p7 p8 p9),(Q68 p10),(.own 4 (((((p11.set p0.toNat (⟨x4.2.1.Heat,x6.Silica,x6.Gas,x6.Scale⟩:Qa1)).set p0.toNat (⟨x9.Heat,x4.2.1.Silica,x9.Gas,x9.Scale⟩:Qa1)).set p0.toNat (⟨x12.Heat,x12.Silica,x4.2.1.Gas,x12.Scale⟩:Qa1)):List Qa1).map Qbf)),(Q67 p12)]) [(8,(Q69 x4))] [0,1,2,3] [(Quy p3 p4 p5 p6 p7 p8 p9),(Q68 p10),(Zm6 p11 p0 x4 x6 x9 x12),(Q67 p12)] hφ0 (pc (rnd Qak) pn) (qb (lc (rnd Qan) (lc (rnd Qab) (lc (.rn (Qa5 rfl)) (lc (.rn (Qa5 rfl)) (lc (.rn (Qa5 rfl)) (lc (rnd Qak) (lc rwl ln))))))) (qc (spr Qag) (qc (spr Qay) (qc (spr Qaj) qn)))))<|Qah ?_
  obtain rfl:=osi h
  exact⟨_,Mor.rfl,Qdh (vs:=[(Q69 x4)]) ⟨rot,tv⟩ rfl (NLt.of0 (nld Qak _)) (by kernel_rfl) (Qar (Qa4 (nlc (NLt.of0 (nld Qan _)) (nlc (NLt.of0 (nld Qab _)) (nlc (NLt.own _ _ _ _ (by decide)) (nlc (NLt.own _ _ _ _ (by decide)) (nlc (NLt.own _ _ _ _ (by decide)) (nlc (NLt.of0 (nld Qak _)) (nlc (NLt.of0 nll) nl0)))))))) (Qar (Qda Qag _) (Qar (Qda Qay _) (Qar (Qda Qaj _) Qbx))))⟩
def Qfv (N:Nat) (p0:Int) (p1:Qaa) (p2:(List GRow)) (p3:(List Qad)) (p4:Nat) (p5:Nat) (p6:Nat) (p7:(List Qaa)) (p8:Int) (p9:(List (List Qaa))) (p10:(List Qa1)) (p11:(List Int)):Option ((List Qaa)×Int×(List Qa1)×(List Int)):=
  (getI p3 p0).bind fun x5=>
  (Qla N p2 x5.Level p1).bind fun x10=>
  chk (decide (0≤p0)&&decide (p0.toNat<p5))<|
  (p10[p0.toNat]?).bind fun x12=>
  chk (decide (0≤p0)&&decide (p0.toNat<p6))<|
  (p11[p0.toNat]?).bind fun x15=>
  chk (decide (0≤p0)&&decide (p0.toNat<p6))<|
  (p11[p0.toNat]?).bind fun _=>
  bif (x5.Amount==0) then
   some ([(⟨x10.1.Steam.Mass,x10.1.Steam.Heat,x10.1.Steam.Silica,x10.1.Steam.Gas⟩:Qaa),(⟨x10.1.Water.Mass,x10.1.Water.Heat,x10.1.Water.Silica,x10.1.Water.Gas⟩:Qaa)],w64 (p8+x10.1.Steam.Mass),p10.set p0.toNat (⟨x12.Heat,x12.Silica,x12.Gas,x10.1.Scale⟩:Qa1),p11.set p0.toNat (w64 (x15+x10.1.Scale)))
  else
   (Qfz N p0 (⟨x10.1.Water.Mass,x10.1.Water.Heat,x10.1.Water.Silica,x10.1.Water.Gas⟩:Qaa) ([w64 (1000-x5.Amount),x5.Amount]) p2 p3 p4 p5 p6 p7 (w64 (p8+x10.1.Steam.Mass)) p9 (p10.set p0.toNat (⟨x12.Heat,x12.Silica,x12.Gas,x10.1.Scale⟩:Qa1)) (p11.set p0.toNat (w64 (x15+x10.1.Scale)))).bind fun x22=>
   (getI x22.1 1).bind fun x23=>
   (Qgk N ([(⟨x10.1.Steam.Mass,x10.1.Steam.Heat,x10.1.Steam.Silica,x10.1.Steam.Gas⟩:Qaa),x23])).bind fun x28=>
   (getI x22.1 0).bind fun x29=>
   some ([x28,x29],w64 (p8+x10.1.Steam.Mass),x22.2,p11.set p0.toNat (w64 (x15+x10.1.Scale)))
def Ztp (p1:Qaa):AV:=.agg [(I (p1.Mass)),(I (p1.Heat)),(I (p1.Silica)),(I (p1.Gas))]
def Q95 (p2:(List GRow)):AV:=.dat 5 ((p2:List GRow).map Qa7)
def Q94 (p3:(List Qad)):AV:=.dat 7 ((p3:List Qad).map Qai)
def Zdl (p7:(List Qaa)):AV:=.dat 4 ((p7:List Qaa).map Qae)
def Q4u (p2:(List GRow)) (p3:(List Qad)) (p4:Nat) (p5:Nat) (p6:Nat) (p7:(List Qaa)) (p8:Int):Slot:=.own 7 [[(Q95 p2),(Q94 p3),(.own 1 1 (0) (p4)),(.own 2 4 (0) (p5)),(.own 3 1 (0) (p6)),(Zdl p7),(I (p8))]]
def Qqf (p9:(List (List Qaa))):Slot:=.own 1 ((p9:List (List Qaa)).map Qaf)
def Zdm (p10:(List Qa1)):Slot:=.own 4 ((p10:List Qa1).map Qbf)
def Q1g (p11:(List Int)):Slot:=.own 1 ((p11:List Int).map Qav)
def Q7f (p10:(List Qa1)) (p0:Int) (x12:Qa1) (x10:(Qir×Int)):Slot:=.own 4 ((p10.set p0.toNat (⟨x12.Heat,x12.Silica,x12.Gas,x10.1.Scale⟩:Qa1):List Qa1).map Qbf)
def Quz (p11:(List Int)) (p0:Int) (x15:Int) (x10:(Qir×Int)):Slot:=.own 1 ((p11.set p0.toNat (w64 (x15+x10.1.Scale)):List Int).map Qav)
def Q7e (x10:(Qir×Int)):AV:=.agg [(I (x10.1.Steam.Mass)),(I (x10.1.Steam.Heat)),(I (x10.1.Steam.Silica)),(I (x10.1.Steam.Gas))]
def Zdk (x10:(Qir×Int)):AV:=.agg [(I (x10.1.Water.Mass)),(I (x10.1.Water.Heat)),(I (x10.1.Water.Silica)),(I (x10.1.Water.Gas))]
def Q7d (x10:(Qir×Int)):AV:=.dat 4 (([(⟨x10.1.Steam.Mass,x10.1.Steam.Heat,x10.1.Steam.Silica,x10.1.Steam.Gas⟩:Qaa),(⟨x10.1.Water.Mass,x10.1.Water.Heat,x10.1.Water.Silica,x10.1.Water.Gas⟩:Qaa)]:List Qaa).map Qae)
def Qyb (p2:(List GRow)) (p3:(List Qad)) (p4:Nat) (p5:Nat) (p6:Nat) (p7:(List Qaa)) (p8:Int) (x10:(Qir×Int)):Slot:=.own 7 [[(Q95 p2),(Q94 p3),(.own 1 1 (0) (p4)),(.own 2 4 (0) (p5)),(.own 3 1 (0) (p6)),(Zdl p7),(I (w64 (p8+x10.1.Steam.Mass)))]]
def Zdj (x5:Qad):AV:=.dat 1 (([w64 (1000-x5.Amount),x5.Amount]:List Int).map Qav)
def Q7b (x22:((List Qaa)×(List Qa1))):AV:=.dat 4 ((x22.1:List Qaa).map Qae)
def Q7c (x22:((List Qaa)×(List Qa1))):Slot:=.own 4 ((x22.2:List Qa1).map Qbf)
def Zm9 (x23:Qaa):AV:=.agg [(I (x23.Mass)),(I (x23.Heat)),(I (x23.Silica)),(I (x23.Gas))]
def Zm8 (x10:(Qir×Int)) (x23:Qaa):AV:=.dat 4 (([(⟨x10.1.Steam.Mass,x10.1.Steam.Heat,x10.1.Steam.Silica,x10.1.Steam.Gas⟩:Qaa),x23]:List Qaa).map Qae)
def Zdi (x28:Qaa):AV:=.agg [(I (x28.Mass)),(I (x28.Heat)),(I (x28.Silica)),(I (x28.Gas))]
def Zm7 (x29:Qaa):AV:=.agg [(I (x29.Mass)),(I (x29.Heat)),(I (x29.Silica)),(I (x29.Gas))]
def Q7a (x28:Qaa) (x29:Qaa):AV:=.dat 4 (([x28,x29]:List Qaa).map Qae)
theorem Qnq (N:Nat) (p0:Int) (p1:Qaa) (p2:(List GRow)) (p3:(List Qad)) (p4:Nat) (p5:Nat) (p6:Nat) (p7:(List Qaa)) (p8:Int) (p9:(List (List Qaa))) (p10:(List Qa1)) (p11:(List Int)) (r:((List Qaa)×Int×(List Qa1)×(List Int))) (h:Qfv N p0 p1 p2 p3 p4 p5 p6 p7 p8 p9 p10 p11=some r):Spec prog 119 [(.ref 0 7 (0) 0),(I (p0)),(Ztp p1)] [(Q4u p2 p3 p4 p5 p6 p7 p8),(Qqf p9),(Zdm p10),(Q1g p11)] (.dat 4 ((r.1:List Qaa).map Qae)) [(.own 7 [[(Q95 p2),(Q94 p3),(.own 1 1 (0) (p4)),(.own 2 4 (0) (p5)),(.own 3 1 (0) (p6)),(Zdl p7),(I (r.2.1))]]),(Qqf p9),(.own 4 ((r.2.2.1:List Qa1).map Qbf)),(.own 1 ((r.2.2.2:List Int).map Qav))]:=by
  refine Qal func119 rfl 4 (nle rfl) (fun X φ0 w0 hφ0 hd0=>?_)
  unfold Qfv at h
  refine Qbv<|wxz ?_
  obtain⟨x5,hg6,h⟩:=bno h
  obtain⟨hi7,hj8⟩:=gsm hg6
  refine wx tbk [(1,rb [(.tmp 11,.ref 0 7 0 0)] [(0,(Q4u p2 p3 p4 p5 p6 p7 p8))] (.ref 0 7 0 0)),(6,rp [(.tmp 15,(Q94 p3)),(.tmp 16,I p0)] (.dptr (Qai (x5)) 0))] ⟨Qbq rfl,aid rfl underlying40 Qmi rfl rfl hi7 (mgt Qai hj8) rfl,tv⟩ ?_
  obtain⟨x10,hf9,h⟩:=bno h
  refine wxd tbk [(1,rb [(.tmp 20,.ref 0 7 0 0)] [(0,(Q4u p2 p3 p4 p5 p6 p7 p8))] (.ref 0 7 0 0)),(8,rp [fu 135,(.tmp 24,(Q95 p2)),(.tmp 26,I x5.Level),(.tmp 27,(Ztp p1))] (.tup [(.agg [I x10.1.Steam.Mass,I x10.1.Steam.Heat,I x10.1.Steam.Silica,I x10.1.Steam.Gas,I x10.1.Water.Mass,I x10.1.Water.Heat,I x10.1.Water.Silica,I x10.1.Water.Gas,I x10.1.Rest,I x10.1.Scale]),I x10.2]))] ⟨Qbq rfl,apv Zlj (Qv6 N p2 x5.Level p1 _ hf9) (nlc (nld Qan _) (nlc nll (nlc (NLt.agg _ (nlcc (nlcc nl0))) nl0))) (NLt.tup _ (nlc (NLt.agg _ (nlcc (nlcc (nlcc (nlcc (nlcc nl0)))))) (nlc nll nl0))),tv⟩ ?_
  obtain⟨hi11,h⟩:=cko h
  obtain⟨hi11a,hi11b⟩:=Qcy hi11
  obtain⟨x12,hg13,h⟩:=bno h
  refine wxd tbk [(1,rb [(.tmp 31,.ref 0 7 0 0)] [(0,(Q4u p2 p3 p4 p5 p6 p7 p8))] (.ref 0 7 0 0)),(8,rb [(.tmp 35,(.own 2 4 (0) (p5))),(.tmp 36,I p0)] [(2,(Zdm p10))] (.ref 2 4 (p0.toNat) 0)),(10,⟨[(.tmp 40,(.ref 2 4 (p0.toNat) 3)),(.tmp 38,I x10.1.Scale)],[(2,(Zdm p10))],.any,[(2,(Q7f p10 p0 x12 x10))],false⟩)] ⟨Qbq rfl,aio rfl underlying32 ti82 (odt hi11a) (odt hi11b) (Nat.zero_add _),ast rfl ti3 (by rfl) (mgt Qbf hg13) (nle rfl) (Qeq Qbf rfl),tv⟩ ?_
  obtain⟨hi14,h⟩:=cko h
  obtain⟨hi14a,hi14b⟩:=Qcy hi14
  obtain⟨x15,hg16,h⟩:=bno h
  obtain⟨hi17,h⟩:=cko h
  obtain⟨hi17a,hi17b⟩:=Qcy hi17
  obtain⟨x18,hg19,h⟩:=bno h
  refine wxd tbk [(1,rb [(.tmp 41,.ref 0 7 0 0)] [(0,(Q4u p2 p3 p4 p5 p6 p7 p8))] (.ref 0 7 0 0)),(6,rb [(.tmp 45,(.own 3 1 (0) (p6))),(.tmp 46,I p0)] [(3,(Q1g p11))] (.ref 3 1 (p0.toNat) 0)),(7,rb [(.tmp 47,(.ref 3 1 (p0.toNat) 0))] [(3,(Q1g p11))] (I x15)),(11,rb [(.tmp 45,(.own 3 1 (0) (p6))),(.tmp 46,I p0)] [(3,(Q1g p11))] (.ref 3 1 (p0.toNat) 0)),(12,⟨[(.tmp 52,(.ref 3 1 (p0.toNat) 0)),(.tmp 51,(I (w64 (x15+x10.1.Scale))))],[(3,(Q1g p11))],.any,[(3,(Quz p11 p0 x15 x10))],false⟩)] ⟨Qbq rfl,aio rfl underlying27 ti3 (odt hi14a) (odt hi14b) (Nat.zero_add _),ald rfl ti3 (by decide) (mgt Qav hg16) (nle rfl) rfl,aio rfl underlying27 ti3 (odt hi17a) (odt hi17b) (Nat.zero_add _),ast rfl ti3 (by rfl) (mgt Qav hg19) (nle rfl) (Qeq Qav rfl),tv⟩ ?_
  refine wxd tbk [(1,rb [(.tmp 53,.ref 0 7 0 0)] [(0,(Q4u p2 p3 p4 p5 p6 p7 p8))] (.ref 0 7 0 0)),(8,rb [(.tmp 53,.ref 0 7 0 0)] [(0,(Q4u p2 p3 p4 p5 p6 p7 p8))] (.ref 0 7 0 0))] ⟨Qbq rfl,Qbq rfl,tv⟩<|wsq<|wxz ?_
  refine bfe h (fun hc20 h=>?_) fun hc20 h=>?_
  ·refine wft hc20<|wx tbk [(4,rp [(.tmp 67,(Q7e x10)),(.tmp 69,(Zdk x10))] (Q7d x10))] ⟨Qb7 (vs:=[(Q7e x10),(Zdk x10)]) rfl underlying45 ti63 tz63 rfl (by decide) rfl (by decide) (by rfl) (by rfl) (by rfl) rfl,tv⟩ ?_
   refine wmr (mto (n:=93) (l':=[(6,(Q7d x10))]) (own':=[(.own 7 [[(Q95 p2),(Q94 p3),(.own 1 1 (0) (p4)),(.own 2 4 (0) (p5)),(.own 3 1 (0) (p6)),(Zdl p7),(I ((w64 (p8+x10.1.Steam.Mass))))]]),(Qqf p9),(.own 4 (((p10.set p0.toNat (⟨x12.Heat,x12.Silica,x12.Gas,x10.1.Scale⟩:Qa1)):List Qa1).map Qbf)),(.own 1 (((p11.set p0.toNat (w64 (x15+x10.1.Scale))):List Int).map Qav))]) [(6,(Q7d x10))] [0,1,2,3] [(Qyb p2 p3 p4 p5 p6 p7 p8 x10),(Qqf p9),(Q7f p10 p0 x12 x10),(Quz p11 p0 x15 x10)] hφ0 (pc (rnd Qak) pn) (qb (lc (rnd Qan) (lc (rnd Qab) (lc (.rn (Qa5 rfl)) (lc (.rn (Qa5 rfl)) (lc (.rn (Qa5 rfl)) (lc (rnd Qak) (lc rwl ln))))))) (qc (spr Qag) (qc (spr Qay) (qc (spr Qaj) qn)))))<|Qah<|Qac ?_
   obtain rfl:=osi h
   exact⟨_,Mor.rfl,Qdh (vs:=[(Q7d x10)]) ⟨rot,tv⟩ rfl (NLt.of0 (nld Qak _)) (by kernel_rfl) (Qar (Qa4 (nlc (NLt.of0 (nld Qan _)) (nlc (NLt.of0 (nld Qab _)) (nlc (NLt.own _ _ _ _ (by decide)) (nlc (NLt.own _ _ _ _ (by decide)) (nlc (NLt.own _ _ _ _ (by decide)) (nlc (NLt.of0 (nld Qak _)) (nlc (NLt.of0 nll) nl0)))))))) (Qar (Qda Qag _) (Qar (Qda Qay _) (Qar (Qda Qaj _) Qbx))))⟩
  ·refine wfn hc20<|Qap<|thn ?_
   obtain⟨x22,hf21,h⟩:=bno h
   refine wx tbk [(9,rp [(.tmp 77,(I (w64 (1000-x5.Amount)))),(.tmp 79,I x5.Amount)] (Zdj x5)),(10,⟨[fu 136,(.tmp 71,.ref 0 7 0 0),(.tmp 72,I p0),(.tmp 74,(Zdk x10)),(.tmp 80,(Zdj x5))],[(0,(Qyb p2 p3 p4 p5 p6 p7 p8 x10)),(1,(Qqf p9)),(2,(Q7f p10 p0 x12 x10)),(3,(Quz p11 p0 x15 x10))],(Q7b x22),[(0,(Qyb p2 p3 p4 p5 p6 p7 p8 x10)),(1,(Qqf p9)),(2,(Q7c x22)),(3,(Quz p11 p0 x15 x10))],false⟩)] ⟨Qb7 (vs:=[(I (w64 (1000-x5.Amount))),I x5.Amount]) rfl underlying27 ti3 tz3 rfl (by decide) rfl (by decide) (by rfl) (by rfl) (by rfl) rfl,Qau (first:=[]) (cap:=[]) (vs:=[.ref 0 7 0 0,I p0,(.agg [(I ((⟨x10.1.Water.Mass,x10.1.Water.Heat,x10.1.Water.Silica,x10.1.Water.Gas⟩:Qaa).Mass)),(I ((⟨x10.1.Water.Mass,x10.1.Water.Heat,x10.1.Water.Silica,x10.1.Water.Gas⟩:Qaa).Heat)),(I ((⟨x10.1.Water.Mass,x10.1.Water.Heat,x10.1.Water.Silica,x10.1.Water.Gas⟩:Qaa).Silica)),(I ((⟨x10.1.Water.Mass,x10.1.Water.Heat,x10.1.Water.Silica,x10.1.Water.Gas⟩:Qaa).Gas))]),(Zdj x5)]) (σr:=[(Qyb p2 p3 p4 p5 p6 p7 p8 x10),(Qqf p9),(Q7f p10 p0 x12 x10),(Quz p11 p0 x15 x10)]) (σr':=[(Qyb p2 p3 p4 p5 p6 p7 p8 x10),(Qqf p9),(Q7c x22),(Quz p11 p0 x15 x10)]) (res':=(Q7b x22)) [0,1,2,3] rfl Q9f (Qlo N p0 (⟨x10.1.Water.Mass,x10.1.Water.Heat,x10.1.Water.Silica,x10.1.Water.Gas⟩:Qaa) ([w64 (1000-x5.Amount),x5.Amount]) p2 p3 p4 p5 p6 p7 (w64 (p8+x10.1.Steam.Mass)) p9 (p10.set p0.toNat (⟨x12.Heat,x12.Silica,x12.Gas,x10.1.Scale⟩:Qa1)) (p11.set p0.toNat (w64 (x15+x10.1.Scale))) _ hf21) rfl (Qbp (rnc (Qa0 rfl) (rnc (.plain _ nll) (rnc (.plain _ (NLt.agg _ (nlcc (nlcc nl0)))) (rnc (pld Qaj) rn0))))) (slc (Qam (rnc (pld Qan) (rnc (pld Qab) (rnc (Qd4 rfl) (rnc (Qd4 rfl) (rnc (Qd4 rfl) (rnc (pld Qak) (rnc (.plain _ nll) rn0)))))))) (slc (Qbi Qag) (slc (Qbi Qay) (slc (Qbi Qaj) Qat)))) (slc (Qam (rnc (pld Qan) (rnc (pld Qab) (rnc (Qdp rfl) (rnc (Qdp rfl) (rnc (Qdp rfl) (rnc (pld Qak) (rnc (.plain _ nll) rn0)))))))) (slc (Qbi Qag) (slc (Qbi Qay) (slc (Qbi Qaj) Qat)))) (pld Qak) rfl rfl rfl,tv⟩ ?_
   obtain⟨x23,hg24,h⟩:=bno h
   obtain⟨hi25,hj26⟩:=gsm hg24
   obtain⟨x28,hf27,h⟩:=bno h
   obtain⟨x29,hg30,h⟩:=bno h
   obtain⟨hi31,hj32⟩:=gsm hg30
   refine wxd tbk [(3,rp [(.tmp 84,(Q7b x22)),ci 1] (.dptr (Qae (x23)) 0)),(5,rp [(.tmp 83,(Q7e x10)),(.tmp 86,(Zm9 x23))] (Zm8 x10 x23)),(6,rp [fu 76,(.tmp 87,(Zm8 x10 x23))] (Zdi x28)),(8,rp [(.tmp 89,(Q7b x22)),ci 0] (.dptr (Qae (x29)) 0)),(10,rp [(.tmp 88,(Zdi x28)),(.tmp 91,(Zm7 x29))] (Q7a x28 x29))] ⟨aid rfl underlying45 ti63 rfl rfl hi25 (mgt Qae hj26) rfl,Qb7 (vs:=[(Q7e x10),(Zm9 x23)]) rfl underlying45 ti63 tz63 rfl (by decide) rfl (by decide) (by rfl) (by rfl) (by rfl) rfl,apv Q6b (Qnb N ([(⟨x10.1.Steam.Mass,x10.1.Steam.Heat,x10.1.Steam.Silica,x10.1.Steam.Gas⟩:Qaa),x23]) _ hf27) (nlc (nld Qak _) nl0) (NLt.agg _ (nlcc (nlcc nl0))),aid rfl underlying45 ti63 rfl rfl hi31 (mgt Qae hj32) rfl,Qb7 (vs:=[(Zdi x28),(Zm7 x29)]) rfl underlying45 ti63 tz63 rfl (by decide) rfl (by decide) (by rfl) (by rfl) (by rfl) rfl,tv⟩ ?_
   refine wmr (mto (n:=93) (l':=[(6,(Q7a x28 x29))]) (own':=[(.own 7 [[(Q95 p2),(Q94 p3),(.own 1 1 (0) (p4)),(.own 2 4 (0) (p5)),(.own 3 1 (0) (p6)),(Zdl p7),(I ((w64 (p8+x10.1.Steam.Mass))))]]),(Qqf p9),(Q7c x22),(.own 1 (((p11.set p0.toNat (w64 (x15+x10.1.Scale))):List Int).map Qav))]) [(6,(Q7a x28 x29))] [0,1,2,3] [(Qyb p2 p3 p4 p5 p6 p7 p8 x10),(Qqf p9),(Q7c x22),(Quz p11 p0 x15 x10)] hφ0 (pc (rnd Qak) pn) (qb (lc (rnd Qan) (lc (rnd Qab) (lc (.rn (Qa5 rfl)) (lc (.rn (Qa5 rfl)) (lc (.rn (Qa5 rfl)) (lc (rnd Qak) (lc rwl ln))))))) (qc (spr Qag) (qc (spr Qay) (qc (spr Qaj) qn)))))<|Qah ?_
   obtain rfl:=osi h
   exact⟨_,Mor.rfl,Qdh (vs:=[(Q7a x28 x29)]) ⟨rot,tv⟩ rfl (NLt.of0 (nld Qak _)) (by kernel_rfl) (Qar (Qa4 (nlc (NLt.of0 (nld Qan _)) (nlc (NLt.of0 (nld Qab _)) (nlc (NLt.own _ _ _ _ (by decide)) (nlc (NLt.own _ _ _ _ (by decide)) (nlc (NLt.own _ _ _ _ (by decide)) (nlc (NLt.of0 (nld Qak _)) (nlc (NLt.of0 nll) nl0)))))))) (Qar (Qda Qag _) (Qar (Qda Qay _) (Qar (Qda Qaj _) Qbx))))⟩
def Qip (N:Nat) (p0:Int) (p1:Qaa) (p2:(List GRow)) (p3:(List Qad)) (p4:Nat) (p5:Nat) (p6:Nat) (p7:(List Qaa)) (p8:Int) (p9:(List (List Qaa))) (p10:(List Qa1)) (p11:(List Int)):Option ((List Qaa)×(List Qa1)):=
  (getI p3 p0).bind fun x3=>
  (Qfz N p0 p1 x3.Weights p2 p3 p4 p5 p6 p7 p8 p9 p10 p11).bind fun x8=>
  some (x8.1,x8.2)
def Zo3 (p1:Qaa):AV:=.agg [(I (p1.Mass)),(I (p1.Heat)),(I (p1.Silica)),(I (p1.Gas))]
def Qzr (p2:(List GRow)) (p3:(List Qad)) (p4:Nat) (p5:Nat) (p6:Nat) (p7:(List Qaa)) (p8:Int):Slot:=.own 7 [[(.dat 5 ((p2:List GRow).map Qa7)),(.dat 7 ((p3:List Qad).map Qai)),(.own 1 1 (0) (p4)),(.own 2 4 (0) (p5)),(.own 3 1 (0) (p6)),(.dat 4 ((p7:List Qaa).map Qae)),(I (p8))]]
def Q1e (p9:(List (List Qaa))):Slot:=.own 1 ((p9:List (List Qaa)).map Qaf)
def Zo2 (p10:(List Qa1)):Slot:=.own 4 ((p10:List Qa1).map Qbf)
def Q1d (p11:(List Int)):Slot:=.own 1 ((p11:List Int).map Qav)
def Q1f (x8:((List Qaa)×(List Qa1))):AV:=.dat 4 ((x8.1:List Qaa).map Qae)
def Q66 (x8:((List Qaa)×(List Qa1))):Slot:=.own 4 ((x8.2:List Qa1).map Qbf)
theorem Qpf (N:Nat) (p0:Int) (p1:Qaa) (p2:(List GRow)) (p3:(List Qad)) (p4:Nat) (p5:Nat) (p6:Nat) (p7:(List Qaa)) (p8:Int) (p9:(List (List Qaa))) (p10:(List Qa1)) (p11:(List Int)) (r:((List Qaa)×(List Qa1))) (h:Qip N p0 p1 p2 p3 p4 p5 p6 p7 p8 p9 p10 p11=some r):Spec prog 120 [(.ref 0 7 (0) 0),(I (p0)),(Zo3 p1)] [(Qzr p2 p3 p4 p5 p6 p7 p8),(Q1e p9),(Zo2 p10),(Q1d p11)] (.dat 4 ((r.1:List Qaa).map Qae)) [(Qzr p2 p3 p4 p5 p6 p7 p8),(Q1e p9),(.own 4 ((r.2:List Qa1).map Qbf)),(Q1d p11)]:=by
  refine Qal func120 rfl 4 (nle rfl) (fun X φ0 w0 hφ0 hd0=>?_)
  unfold Qip at h
  refine Qbv<|wxz ?_
  obtain⟨x3,hg4,h⟩:=bno h
  obtain⟨hi5,hj6⟩:=gsm hg4
  obtain⟨x8,hf7,h⟩:=bno h
  refine wxd tbk [(4,rb [(.tmp 10,.ref 0 7 0 0)] [(0,(Qzr p2 p3 p4 p5 p6 p7 p8))] (.ref 0 7 0 0)),(9,rp [(.tmp 14,(.dat 7 ((p3:List Qad).map Qai))),(.tmp 15,I p0)] (.dptr (Qai (x3)) 0)),(12,⟨[fu 136,(.tmp 7,.ref 0 7 0 0),(.tmp 8,I p0),(.tmp 9,(Zo3 p1)),(.tmp 18,(.dat 1 ((x3.Weights:List Int).map Qav)))],[(0,(Qzr p2 p3 p4 p5 p6 p7 p8)),(1,(Q1e p9)),(2,(Zo2 p10)),(3,(Q1d p11))],(Q1f x8),[(0,(Qzr p2 p3 p4 p5 p6 p7 p8)),(1,(Q1e p9)),(2,(Q66 x8)),(3,(Q1d p11))],false⟩)] ⟨Qbq rfl,aid rfl underlying40 Qmi rfl rfl hi5 (mgt Qai hj6) rfl,Qau (first:=[]) (cap:=[]) (vs:=[.ref 0 7 0 0,I p0,(Zo3 p1),(.dat 1 ((x3.Weights:List Int).map Qav))]) (σr:=[(Qzr p2 p3 p4 p5 p6 p7 p8),(Q1e p9),(Zo2 p10),(Q1d p11)]) (σr':=[(Qzr p2 p3 p4 p5 p6 p7 p8),(Q1e p9),(Q66 x8),(Q1d p11)]) (res':=(Q1f x8)) [0,1,2,3] rfl Q9f (Qlo N p0 p1 x3.Weights p2 p3 p4 p5 p6 p7 p8 p9 p10 p11 _ hf7) rfl (Qbp (rnc (Qa0 rfl) (rnc (.plain _ nll) (rnc (.plain _ (NLt.agg _ (nlcc (nlcc nl0)))) (rnc (pld Qaj) rn0))))) (slc (Qam (rnc (pld Qan) (rnc (pld Qab) (rnc (Qd4 rfl) (rnc (Qd4 rfl) (rnc (Qd4 rfl) (rnc (pld Qak) (rnc (.plain _ nll) rn0)))))))) (slc (Qbi Qag) (slc (Qbi Qay) (slc (Qbi Qaj) Qat)))) (slc (Qam (rnc (pld Qan) (rnc (pld Qab) (rnc (Qdp rfl) (rnc (Qdp rfl) (rnc (Qdp rfl) (rnc (pld Qak) (rnc (.plain _ nll) rn0)))))))) (slc (Qbi Qag) (slc (Qbi Qay) (slc (Qbi Qaj) Qat)))) (pld Qak) rfl rfl rfl,tv⟩ ?_
  refine wmr (mto (n:=20) (l':=[(6,(Q1f x8))]) (own':=[(Qzr p2 p3 p4 p5 p6 p7 p8),(Q1e p9),(Q66 x8),(Q1d p11)]) [(6,(Q1f x8))] [0,1,2,3] [(Qzr p2 p3 p4 p5 p6 p7 p8),(Q1e p9),(Q66 x8),(Q1d p11)] hφ0 (pc (rnd Qak) pn) (qb (lc (rnd Qan) (lc (rnd Qab) (lc (.rn (Qa5 rfl)) (lc (.rn (Qa5 rfl)) (lc (.rn (Qa5 rfl)) (lc (rnd Qak) (lc rwl ln))))))) (qc (spr Qag) (qc (spr Qay) (qc (spr Qaj) qn)))))<|Qah ?_
  obtain rfl:=osi h
  exact⟨_,Mor.rfl,Qdh (vs:=[(Q1f x8)]) ⟨rot,tv⟩ rfl (NLt.of0 (nld Qak _)) (by kernel_rfl) (Qar (Qa4 (nlc (NLt.of0 (nld Qan _)) (nlc (NLt.of0 (nld Qab _)) (nlc (NLt.own _ _ _ _ (by decide)) (nlc (NLt.own _ _ _ _ (by decide)) (nlc (NLt.own _ _ _ _ (by decide)) (nlc (NLt.of0 (nld Qak _)) (nlc (NLt.of0 nll) nl0)))))))) (Qar (Qda Qag _) (Qar (Qda Qay _) (Qar (Qda Qaj _) Qbx))))⟩
def Qdm (N:Nat) (p0:Int) (p1:Int) (p2:(List GRow)) (p3:(List Qad)) (p4:Nat) (p5:Nat) (p6:Nat) (p7:(List Qaa)) (p8:Int) (p9:(List (List Qaa))) (p10:(List Qa1)) (p11:(List Int)):Option ((Int×(List (List Qaa))×(List Qa1)×(List Int))⊕Int):=
  (Qhp N p0 p2 p3 p4 p5 p6 p7 p8 p9 p10 p11).bind fun _=>
  chk (decide (p4≤p9.length))<|
  chk (decide (p5≤p10.length))<|
  chk (decide (p6≤p11.length))<|
  (Qcc N p2 p3 (p9.take p4) (p10.take p5) (p11.take p6) p7 p8 p0).bind fun x12=>
  (Qgk N x12).bind fun x14=>
  Qbn (fun _=>
    (getI p3 p0).bind fun x16=>
    bif (x16.Kind==0) then
     none
    else
     bif (x16.Kind==1) then
      (Qgf N p0 x14 p2 p3 p4 p5 p6 p7 p8 p9 p10 p11).bind fun x23=>
      chk (decide (0≤p0)&&decide (p0.toNat<p4))<|
      (p9[p0.toNat]?).bind fun _=>
      some (.inl (p8,p9.set p0.toNat x23,p10,p11))
     else
      bif (x16.Kind==2) then
       (Qgf N p0 x14 p2 p3 p4 p5 p6 p7 p8 p9 p10 p11).bind fun x29=>
       chk (decide (0≤p0)&&decide (p0.toNat<p4))<|
       (p9[p0.toNat]?).bind fun _=>
       some (.inl (p8,p9.set p0.toNat x29,p10,p11))
      else
       bif (x16.Kind==3) then
        (Qi3 N p0 x14 p2 p3 p4 p5 p6 p7 p8 p9 p10 p11).bind fun x35=>
        chk (decide (0≤p0)&&decide (p0.toNat<p4))<|
        (p9[p0.toNat]?).bind fun _=>
        some (.inl (p8,p9.set p0.toNat x35.1,x35.2,p11))
       else
        bif (x16.Kind==4) then
         (Qfv N p0 x14 p2 p3 p4 p5 p6 p7 p8 p9 p10 p11).bind fun x41=>
         chk (decide (0≤p0)&&decide (p0.toNat<p4))<|
         (p9[p0.toNat]?).bind fun _=>
         some (.inl (x41.2.1,p9.set p0.toNat x41.1,x41.2.2.1,x41.2.2.2))
        else
         bif (x16.Kind==5) then
          (Qip N p0 x14 p2 p3 p4 p5 p6 p7 p8 p9 p10 p11).bind fun x47=>
          chk (decide (0≤p0)&&decide (p0.toNat<p4))<|
          (p9[p0.toNat]?).bind fun _=>
          some (.inl (p8,p9.set p0.toNat x47.1,x47.2,p11))
         else
          bif (x16.Kind==6) then
           (Qgf N p0 x14 p2 p3 p4 p5 p6 p7 p8 p9 p10 p11).bind fun x53=>
           chk (decide (0≤p0)&&decide (p0.toNat<p4))<|
           (p9[p0.toNat]?).bind fun _=>
           some (.inl (p8,p9.set p0.toNat x53,p10,p11))
          else
           none) fun k15:Unit→Option ((Int×(List (List Qaa))×(List Qa1)×(List Int))⊕Int)=>
  bif (decide (x14.Mass>p1)) then
   some (.inr p0)
  else
   k15 ()
def Qu1 (p2:(List GRow)):AV:=.dat 5 ((p2:List GRow).map Qa7)
def Qmd (p3:(List Qad)):AV:=.dat 7 ((p3:List Qad).map Qai)
def Qu0 (p7:(List Qaa)):AV:=.dat 4 ((p7:List Qaa).map Qae)
def Qhi (p2:(List GRow)) (p3:(List Qad)) (p4:Nat) (p5:Nat) (p6:Nat) (p7:(List Qaa)) (p8:Int):Slot:=.own 7 [[(Qu1 p2),(Qmd p3),(.own 1 1 (0) (p4)),(.own 2 4 (0) (p5)),(.own 3 1 (0) (p6)),(Qu0 p7),(I (p8))]]
def Qgs (p9:(List (List Qaa))):Slot:=.own 1 ((p9:List (List Qaa)).map Qaf)
def Qi0 (p10:(List Qa1)):Slot:=.own 4 ((p10:List Qa1).map Qbf)
def Qhh (p11:(List Int)):Slot:=.own 1 ((p11:List Int).map Qav)
def Zpb:AV:=.fn (.func 133) [] [(.ref 4 1 (0) 0),(.ref 5 1 (0) 0)]
def Zpc:Slot:=.own 1 [[(.ref 0 7 (0) 0)]]
def Zdt (x12:(List Qaa)):AV:=.acc 6 63 4 ((x12:List Qaa).map Qae)
def Qjz (x14:Qaa):AV:=.agg [(I (x14.Mass)),(I (x14.Heat)),(I (x14.Silica)),(I (x14.Gas))]
def Qtx (x14:Qaa):Slot:=.own 4 [[(I (x14.Mass)),(I (x14.Heat)),(I (x14.Silica)),(I (x14.Gas))]]
def Qom:Slot:=.own 7 [[(.lit .nilFunc),(.fn (.func 117) [] []),(.fn (.func 117) [] []),(.fn (.func 118) [] []),(.fn (.func 119) [] []),(.fn (.func 120) [] []),(.fn (.func 117) [] [])]]
def Zds (x23:(List Qaa)):AV:=.dat 4 ((x23:List Qaa).map Qae)
def Zdr (x29:(List Qaa)):AV:=.dat 4 ((x29:List Qaa).map Qae)
def Q7p (x35:((List Qaa)×(List Qa1))):Slot:=.own 4 ((x35.2:List Qa1).map Qbf)
def Q7o (p2:(List GRow)) (p3:(List Qad)) (p4:Nat) (p5:Nat) (p6:Nat) (p7:(List Qaa)) (x41:((List Qaa)×Int×(List Qa1)×(List Int))):Slot:=.own 7 [[(Qu1 p2),(Qmd p3),(.own 1 1 (0) (p4)),(.own 2 4 (0) (p5)),(.own 3 1 (0) (p6)),(Qu0 p7),(I (x41.2.1))]]
def Q7n (x41:((List Qaa)×Int×(List Qa1)×(List Int))):Slot:=.own 4 ((x41.2.2.1:List Qa1).map Qbf)
def Q7m (x41:((List Qaa)×Int×(List Qa1)×(List Int))):Slot:=.own 1 ((x41.2.2.2:List Int).map Qav)
def Q7l (x47:((List Qaa)×(List Qa1))):Slot:=.own 4 ((x47.2:List Qa1).map Qbf)
def Zdq (x53:(List Qaa)):AV:=.dat 4 ((x53:List Qaa).map Qae)
theorem Qj9 (N:Nat) (p0:Int) (p1:Int) (p2:(List GRow)) (p3:(List Qad)) (p4:Nat) (p5:Nat) (p6:Nat) (p7:(List Qaa)) (p8:Int) (p9:(List (List Qaa))) (p10:(List Qa1)) (p11:(List Int)) (r:((Int×(List (List Qaa))×(List Qa1)×(List Int))⊕Int)) (h:Qdm N p0 p1 p2 p3 p4 p5 p6 p7 p8 p9 p10 p11=some r):Zvc prog 97 [(.ref 0 7 (0) 0),(I (p0)),(I (p1))] [(Qhi p2 p3 p4 p5 p6 p7 p8),(Qgs p9),(Qi0 p10),(Qhh p11)]  ((Sum.elim (fun r=>.ret (.tup []) [(.own 7 [[(.dat 5 ((p2:List GRow).map Qa7)),(.dat 7 ((p3:List Qad).map Qai)),(.own 1 1 (0) (p4)),(.own 2 4 (0) (p5)),(.own 3 1 (0) (p6)),(.dat 4 ((p7:List Qaa).map Qae)),(I (r.1))]]),(.own 1 ((r.2.1:List (List Qaa)).map Qaf)),(.own 4 ((r.2.2.1:List Qa1).map Qbf)),(.own 1 ((r.2.2.2:List Int).map Qav))]) (fun r=>.pan (.iface 182 (.agg #[(.int .i64 (r))]))):((Int×(List (List Qaa))×(List Qa1)×(List Int))⊕Int)→Out) r):=by
  refine Q2o func97 rfl 4 (nle rfl) (fun X φ0 w0 hφ0 hd0=>?_)
  unfold Qdm at h
  obtain⟨x7,hf6,h⟩:=bno h
  obtain⟨hz8,h⟩:=cko h
  obtain⟨hz9,h⟩:=cko h
  obtain⟨hz10,h⟩:=cko h
  obtain⟨x12,hf11,h⟩:=bno h
  obtain⟨x14,hf13,h⟩:=bno h
  refine wx tbk [(2,⟨[fu 116,(.tmp 8,.ref 0 7 0 0),(.tmp 9,I p0)],[(0,(Qhi p2 p3 p4 p5 p6 p7 p8)),(1,(Qgs p9)),(2,(Qi0 p10)),(3,(Qhh p11)),(4,.unused),(5,.unused)],Zpb,[(0,(Qhi p2 p3 p4 p5 p6 p7 p8)),(1,(Qgs p9)),(2,(Qi0 p10)),(3,(Qhh p11)),(4,Zpc),(5,.own 1 [[I p0]])],false⟩),(3,⟨[fu 115,(.tmp 10,Zpb)],[(4,Zpc),(0,(Qhi p2 p3 p4 p5 p6 p7 p8)),(1,(Qgs p9)),(2,(Qi0 p10)),(3,(Qhh p11)),(5,.own 1 [[I p0]]),(6,.unused)],(Zdt x12),[(6,.tok)],false⟩),(4,rp [fu 76,(.tmp 11,(Zdt x12))] (Qjz x14))] ⟨Qau (first:=[]) (cap:=[]) (vs:=[.ref 0 7 0 0,I p0]) (σr:=[(Qhi p2 p3 p4 p5 p6 p7 p8),(Qgs p9),(Qi0 p10),(Qhh p11)]) (σr':=[(Qhi p2 p3 p4 p5 p6 p7 p8),(Qgs p9),(Qi0 p10),(Qhh p11),Zpc,(.own 1 [[I p0]])]) (res':=Zpb) [0,1,2,3,4,5] rfl Zlw (Qqa N p0 p2 p3 p4 p5 p6 p7 p8 p9 p10 p11 _ hf6) rfl (Qbp (rnc (Qa0 rfl) (rnc (.plain _ nll) rn0))) (slc (Qam (rnc (pld Qan) (rnc (pld Qab) (rnc (Qd4 rfl) (rnc (Qd4 rfl) (rnc (Qd4 rfl) (rnc (pld Qak) (rnc (.plain _ nll) rn0)))))))) (slc (Qbi Qag) (slc (Qbi Qay) (slc (Qbi Qaj) Qat)))) (slc (Qam (rnc (pld Qan) (rnc (pld Qab) (rnc (Qdp rfl) (rnc (Qdp rfl) (rnc (Qdp rfl) (rnc (pld Qak) (rnc (.plain _ nll) rn0)))))))) (slc (Qbi Qag) (slc (Qbi Qay) (slc (Qbi Qaj) (slc (Qam (rnc (Qby rfl) rn0)) (slc (Qam (rnc (.plain _ nll) rn0)) Qat)))))) (Qbj rn0 (rnc (Qby rfl) (rnc (Qby rfl) rn0))) rfl rfl rfl,Ql8 (rd':=[fu 115,(.tmp 10,(.fn (.func 133) [] [(.dptr [(.dptr [(Qu1 p2),(Qmd p3),(.dat 1 ((p9.take p4:List (List Qaa)).map Qaf)),(.dat 4 ((p10.take p5:List Qa1).map Qbf)),(.dat 1 ((p11.take p6:List Int).map Qav)),(Qu0 p7),I p8] 0)] 0),(.dptr [I p0] 0)]))]) [(4,1,[[.ref 0 7 0 0]]),(0,7,[[(Qu1 p2),(Qmd p3),(.own 1 1 (0) (p4)),(.own 2 4 (0) (p5)),(.own 3 1 (0) (p6)),(Qu0 p7),I p8]]),(1,1,(p9:List (List Qaa)).map Qaf),(2,4,(p10:List Qa1).map Qbf),(3,1,(p11:List Int).map Qav),(5,1,[[I p0]])] ⟨rfl,.same _,rfl,(Zl9 tv ⟨(Qsl 0 rfl (lc (Qsl 1 rfl (lc (.same _) (lc (.same _) (lc (Q6f 2 rfl hz8) (lc (Q6f 3 rfl hz9) (lc (Q6f 4 rfl hz10) (lc (.same _) (lc (.same _) ln)))))))) ln)),(Qsl 5 rfl (lc (.same _) ln)),tv⟩),tv⟩ (by rfl) (.acc _ _ _ _ (nin rfl) (by simp) (Zkn Q55 _)) (Zj5 .tok Qz7) (Qau (first:=[]) (cap:=[]) (vs:=[(.fn (.func 133) [] [(.dptr [(.dptr [(Qu1 p2),(Qmd p3),(.dat 1 ((p9.take p4:List (List Qaa)).map Qaf)),(.dat 4 ((p10.take p5:List Qa1).map Qbf)),(.dat 1 ((p11.take p6:List Int).map Qav)),(Qu0 p7),I p8] 0)] 0),(.dptr [I p0] 0)])]) (σr:=[]) (σr':=[.tok]) (res':=(Zdt x12)) [6] rfl Zlx (Qj7 N p2 p3 (p9.take p4) (p10.take p5) (p11.take p6) p7 p8 p0 _ hf11) rfl (Qbp (rnc (.plain _ (NLt.fn _ _ _ nl0 (nlc (NLt.dptr _ _ (nlc (NLt.dptr _ _ (nlc (nld Qan _) (nlc (nld Qab _) (nlc (nld Qag _) (nlc (nld Qay _) (nlc (nld Qaj _) (nlc (nld Qak _) (nlc nll nl0)))))))) nl0)) (nlc (NLt.dptr _ _ (nlc nll nl0)) nl0)))) rn0)) Qat (slc .tok Qat) (Zfw rfl (Qcb Qak _)) rfl rfl rfl),awk (rd':=(.func 76,(.fn (.func 76) [] []))::[(.tmp 11,(.dat 4 ((x12:List Qaa).map Qae)))]) ⟨rfl,lrf,rfl,Less.acc,tv⟩ (apv Q6b (Qnb N x12 _ hf13) (nlc (nld Qak _) nl0) (NLt.agg _ (nlcc (nlcc nl0)))),tv⟩ ?_
  obtain⟨k15,hk_k15,h⟩:=jko h
  refine wjn (τ:=Unit) (fun t=>k15 t=some r) (fun _=>⟨mk 43 [(0,.ref 0 7 0 0),(1,I p0),(6,.ref 4 4 0 0)],[(Qhi p2 p3 p4 p5 p6 p7 p8),(Qgs p9),(Qi0 p10),(Qhh p11),(Qtx x14)]⟩) (fun t h=>?_) ?_
  ·subst hk_k15
   refine wx tbk [(0,rp [fu 117,fu 117,fu 118,fu 119,fu 120,fu 117] (.agg [(.lit .nilFunc),(.fn (.func 117) [] []),(.fn (.func 117) [] []),(.fn (.func 118) [] []),(.fn (.func 119) [] []),(.fn (.func 120) [] []),(.fn (.func 117) [] [])]))] ⟨Qm7 (vs:=[(.fn (.func 117) [] []),(.fn (.func 117) [] []),(.fn (.func 118) [] []),(.fn (.func 119) [] []),(.fn (.func 120) [] []),(.fn (.func 117) [] [])]) rfl underlying209 Qrx Zui rfl (by rfl) rfl,tv⟩ ?_
   obtain⟨x16,hg17,h⟩:=bno h
   obtain⟨hi18,hj19⟩:=gsm hg17
   refine bfe h (fun hb20 h=>?_) fun hb20 h=>?_
   ·cases h
   ·refine bfe h (fun hb21 h=>?_) fun hb21 h=>?_
    ·obtain⟨x23,hf22,h⟩:=bno h
     obtain⟨hi24,h⟩:=cko h
     obtain⟨hi24a,hi24b⟩:=Qcy hi24
     obtain⟨x25,hg26,h⟩:=bno h
     refine Qn3 0 (.own 7 [[(Qu1 p2),(Qmd p3),(.own 1 1 (0) (p4)),(.own 2 4 (0) (p5)),(.own 3 1 (0) (p6)),(Qu0 p7),I p8]]) [mv 0 (.ref 0 7 0 0),⟨[(.tmp 21,.ref 0 7 0 0)],[],.ref 0 7 0 0,[],false⟩,⟨[(.tmp 22,.ref 0 7 0 0)],[],.ref 0 7 0 2,[],false⟩,⟨[(.tmp 23,.ref 0 7 0 2)],[],.ref 0 7 0 2,[],false⟩,⟨[(.tmp 24,.ref 0 7 0 2)],[],(.own 1 1 (0) (p4)),[],false⟩,mv 1 (I p0),mv 0 (.ref 0 7 0 0),⟨[(.tmp 27,.ref 0 7 0 0)],[],.ref 0 7 0 0,[],false⟩,⟨[(.tmp 28,.ref 0 7 0 0)],[],.ref 0 7 0 0,[],false⟩,⟨[(.tmp 29,.ref 0 7 0 0)],[],.ref 0 7 0 1,[],false⟩,⟨[(.tmp 30,.ref 0 7 0 1)],[],(Qmd p3),[],false⟩,mv 1 (I p0),rp [(.tmp 31,(Qmd p3)),(.tmp 32,I p0)] (.dptr (Qai (x16)) 0),mv 33 (.dptr (Qai (x16)) 0),rp [(.tmp 34,(.dptr (Qai (x16)) 0))] (K .u8 (x16.Kind)),rb [(.tmp 7,.ref 5 7 0 0),(.tmp 35,(K .u8 (x16.Kind)))] [(5,Qom)] (.ref 5 7 0 1),rb [(.tmp 36,.ref 5 7 0 1)] [(5,Qom)] (.fn (.func 117) [] []),mv 0 (.ref 0 7 0 0),mv 1 (I p0),rb [(.tmp 6,.ref 4 4 0 0)] [(4,(Qtx x14))] (Qjz x14),⟨[(.tmp 37,(.fn (.func 117) [] [])),(.tmp 38,.ref 0 7 0 0),(.tmp 39,I p0),(.tmp 40,(Qjz x14))],[(0,(Qhi p2 p3 p4 p5 p6 p7 p8)),(1,(Qgs p9)),(2,(Qi0 p10)),(3,(Qhh p11))],(Zds x23),[(0,(Qhi p2 p3 p4 p5 p6 p7 p8)),(1,(Qgs p9)),(2,(Qi0 p10)),(3,(Qhh p11))],false⟩,rb [(.tmp 25,(.own 1 1 (0) (p4))),(.tmp 26,I p0)] [(1,(Qgs p9))] (.ref 1 1 (p0.toNat) 0),⟨[(.tmp 42,(.ref 1 1 (p0.toNat) 0)),(.tmp 41,(Zds x23))],[(1,(Qgs p9))],.any,[(1,(.own 1 ((p9.set p0.toNat x23:List (List Qaa)).map Qaf)))],false⟩] (SImp.box ⟨lrf,lrf,lrf,lrf,lrf,lrf,lrf,tv⟩) ⟨tv,tv,tv,tv,tv,tv,tv,tv,tv,tv,tv,tv,tv,tv,tv,tv,tv,tv,tv,tv,⟨(SImp.box ⟨lrf,lrf,lrf,lrf,lrf,lrf,lrf,tv⟩),tv,tv,tv,tv⟩,tv,⟨tv,tv⟩,tv⟩ ?_ ?_
     ·exact⟨hr_ (amv rfl),sf_ (Qbq rfl),sf_ (afa rfl underlying140 rfl rfl ti34 (by decide) rfl),sf_ (afa rfl underlying34 rfl rfl ti31 (by decide) rfl),sf_ (ald rfl ti31 (by decide) rfl (nle rfl) rfl),hr_ (amv rfl),hr_ (amv rfl),sf_ (Qbq rfl),sf_ (afa rfl underlying140 rfl rfl ti42 (by decide) rfl),sf_ (afa rfl underlying42 rfl rfl ti40 (by decide) rfl),sf_ (ald rfl ti40 (by decide) rfl (nle rfl) rfl),hr_ (amv rfl),hr_ (aid rfl underlying40 Qmi rfl rfl hi18 (mgt Qai hj19) rfl),hr_ (afd rfl underlying133 rfl rfl ti5 (by decide) rfl),hr_ (ald_ rfl ti5 (by decide) (nle rfl) rfl),hr_ (Qmc hb21 (Qbw rfl underlying209 Qrx (by decide) (by decide) rfl)),hr_ (ald rfl Qrx (by decide) rfl (nle rfl) rfl),hr_ (amv rfl),hr_ (amv rfl),hr_ (ald rfl ti63 (by decide) rfl (nle rfl) rfl),hr_ (Qau (first:=[]) (cap:=[]) (vs:=[.ref 0 7 0 0,I p0,(Qjz x14)]) (σr:=[(Qhi p2 p3 p4 p5 p6 p7 p8),(Qgs p9),(Qi0 p10),(Qhh p11)]) (σr':=[(Qhi p2 p3 p4 p5 p6 p7 p8),(Qgs p9),(Qi0 p10),(Qhh p11)]) (res':=(Zds x23)) [0,1,2,3] rfl Q02 (Qi8 N p0 x14 p2 p3 p4 p5 p6 p7 p8 p9 p10 p11 _ hf22) rfl (Qbp (rnc (Qa0 rfl) (rnc (.plain _ nll) (rnc (.plain _ (NLt.agg _ (nlcc (nlcc nl0)))) rn0)))) (slc (Qam (rnc (pld Qan) (rnc (pld Qab) (rnc (Qd4 rfl) (rnc (Qd4 rfl) (rnc (Qd4 rfl) (rnc (pld Qak) (rnc (.plain _ nll) rn0)))))))) (slc (Qbi Qag) (slc (Qbi Qay) (slc (Qbi Qaj) Qat)))) (slc (Qam (rnc (pld Qan) (rnc (pld Qab) (rnc (Qdp rfl) (rnc (Qdp rfl) (rnc (Qdp rfl) (rnc (pld Qak) (rnc (.plain _ nll) rn0)))))))) (slc (Qbi Qag) (slc (Qbi Qay) (slc (Qbi Qaj) Qat)))) (pld Qak) rfl rfl rfl),hr_ (aio rfl underlying31 ti45 (odt hi24a) (odt hi24b) (Nat.zero_add _)),hr_ (ast rfl ti45 (by rfl) (mgt Qaf hg26) (nle rfl) (Qeq Qaf rfl)),tv⟩
     obtain rfl:=osi h
     exact⟨_,(mto (n:=43) (l':=[]) (own':=[(Qhi p2 p3 p4 p5 p6 p7 p8),(.own 1 (((p9.set p0.toNat x23):List (List Qaa)).map Qaf)),(Qi0 p10),(Qhh p11)]) [] [0,1,2,3] [(Qhi p2 p3 p4 p5 p6 p7 p8),(.own 1 ((p9.set p0.toNat x23:List (List Qaa)).map Qaf)),(Qi0 p10),(Qhh p11)] hφ0 pn (qb (lc (rnd Qan) (lc (rnd Qab) (lc (.rn (Qa5 rfl)) (lc (.rn (Qa5 rfl)) (lc (.rn (Qa5 rfl)) (lc (rnd Qak) (lc rwl ln))))))) (qc (spr Qag) (qc (spr Qay) (qc (spr Qaj) qn))))),Qm6 (vs:=[]) tv rfl (NLt.tup _ nl0) (by kernel_rfl) (Qar (Qa4 (nlc (NLt.of0 (nld Qan _)) (nlc (NLt.of0 (nld Qab _)) (nlc (NLt.own _ _ _ _ (by decide)) (nlc (NLt.own _ _ _ _ (by decide)) (nlc (NLt.own _ _ _ _ (by decide)) (nlc (NLt.of0 (nld Qak _)) (nlc (NLt.of0 nll) nl0)))))))) (Qar (Qda Qag _) (Qar (Qda Qay _) (Qar (Qda Qaj _) Qbx))))⟩
    ·refine bfe h (fun hb27 h=>?_) fun hb27 h=>?_
     ·obtain⟨x29,hf28,h⟩:=bno h
      obtain⟨hi30,h⟩:=cko h
      obtain⟨hi30a,hi30b⟩:=Qcy hi30
      obtain⟨x31,hg32,h⟩:=bno h
      refine Qn3 0 (.own 7 [[(Qu1 p2),(Qmd p3),(.own 1 1 (0) (p4)),(.own 2 4 (0) (p5)),(.own 3 1 (0) (p6)),(Qu0 p7),I p8]]) [mv 0 (.ref 0 7 0 0),⟨[(.tmp 21,.ref 0 7 0 0)],[],.ref 0 7 0 0,[],false⟩,⟨[(.tmp 22,.ref 0 7 0 0)],[],.ref 0 7 0 2,[],false⟩,⟨[(.tmp 23,.ref 0 7 0 2)],[],.ref 0 7 0 2,[],false⟩,⟨[(.tmp 24,.ref 0 7 0 2)],[],(.own 1 1 (0) (p4)),[],false⟩,mv 1 (I p0),mv 0 (.ref 0 7 0 0),⟨[(.tmp 27,.ref 0 7 0 0)],[],.ref 0 7 0 0,[],false⟩,⟨[(.tmp 28,.ref 0 7 0 0)],[],.ref 0 7 0 0,[],false⟩,⟨[(.tmp 29,.ref 0 7 0 0)],[],.ref 0 7 0 1,[],false⟩,⟨[(.tmp 30,.ref 0 7 0 1)],[],(Qmd p3),[],false⟩,mv 1 (I p0),rp [(.tmp 31,(Qmd p3)),(.tmp 32,I p0)] (.dptr (Qai (x16)) 0),mv 33 (.dptr (Qai (x16)) 0),rp [(.tmp 34,(.dptr (Qai (x16)) 0))] (K .u8 (x16.Kind)),rb [(.tmp 7,.ref 5 7 0 0),(.tmp 35,(K .u8 (x16.Kind)))] [(5,Qom)] (.ref 5 7 0 2),rb [(.tmp 36,.ref 5 7 0 2)] [(5,Qom)] (.fn (.func 117) [] []),mv 0 (.ref 0 7 0 0),mv 1 (I p0),rb [(.tmp 6,.ref 4 4 0 0)] [(4,(Qtx x14))] (Qjz x14),⟨[(.tmp 37,(.fn (.func 117) [] [])),(.tmp 38,.ref 0 7 0 0),(.tmp 39,I p0),(.tmp 40,(Qjz x14))],[(0,(Qhi p2 p3 p4 p5 p6 p7 p8)),(1,(Qgs p9)),(2,(Qi0 p10)),(3,(Qhh p11))],(Zdr x29),[(0,(Qhi p2 p3 p4 p5 p6 p7 p8)),(1,(Qgs p9)),(2,(Qi0 p10)),(3,(Qhh p11))],false⟩,rb [(.tmp 25,(.own 1 1 (0) (p4))),(.tmp 26,I p0)] [(1,(Qgs p9))] (.ref 1 1 (p0.toNat) 0),⟨[(.tmp 42,(.ref 1 1 (p0.toNat) 0)),(.tmp 41,(Zdr x29))],[(1,(Qgs p9))],.any,[(1,(.own 1 ((p9.set p0.toNat x29:List (List Qaa)).map Qaf)))],false⟩] (SImp.box ⟨lrf,lrf,lrf,lrf,lrf,lrf,lrf,tv⟩) ⟨tv,tv,tv,tv,tv,tv,tv,tv,tv,tv,tv,tv,tv,tv,tv,tv,tv,tv,tv,tv,⟨(SImp.box ⟨lrf,lrf,lrf,lrf,lrf,lrf,lrf,tv⟩),tv,tv,tv,tv⟩,tv,⟨tv,tv⟩,tv⟩ ?_ ?_
      ·exact⟨hr_ (amv rfl),sf_ (Qbq rfl),sf_ (afa rfl underlying140 rfl rfl ti34 (by decide) rfl),sf_ (afa rfl underlying34 rfl rfl ti31 (by decide) rfl),sf_ (ald rfl ti31 (by decide) rfl (nle rfl) rfl),hr_ (amv rfl),hr_ (amv rfl),sf_ (Qbq rfl),sf_ (afa rfl underlying140 rfl rfl ti42 (by decide) rfl),sf_ (afa rfl underlying42 rfl rfl ti40 (by decide) rfl),sf_ (ald rfl ti40 (by decide) rfl (nle rfl) rfl),hr_ (amv rfl),hr_ (aid rfl underlying40 Qmi rfl rfl hi18 (mgt Qai hj19) rfl),hr_ (afd rfl underlying133 rfl rfl ti5 (by decide) rfl),hr_ (ald_ rfl ti5 (by decide) (nle rfl) rfl),hr_ (Qmc hb27 (Qbw rfl underlying209 Qrx (by decide) (by decide) rfl)),hr_ (ald rfl Qrx (by decide) rfl (nle rfl) rfl),hr_ (amv rfl),hr_ (amv rfl),hr_ (ald rfl ti63 (by decide) rfl (nle rfl) rfl),hr_ (Qau (first:=[]) (cap:=[]) (vs:=[.ref 0 7 0 0,I p0,(Qjz x14)]) (σr:=[(Qhi p2 p3 p4 p5 p6 p7 p8),(Qgs p9),(Qi0 p10),(Qhh p11)]) (σr':=[(Qhi p2 p3 p4 p5 p6 p7 p8),(Qgs p9),(Qi0 p10),(Qhh p11)]) (res':=(Zdr x29)) [0,1,2,3] rfl Q02 (Qi8 N p0 x14 p2 p3 p4 p5 p6 p7 p8 p9 p10 p11 _ hf28) rfl (Qbp (rnc (Qa0 rfl) (rnc (.plain _ nll) (rnc (.plain _ (NLt.agg _ (nlcc (nlcc nl0)))) rn0)))) (slc (Qam (rnc (pld Qan) (rnc (pld Qab) (rnc (Qd4 rfl) (rnc (Qd4 rfl) (rnc (Qd4 rfl) (rnc (pld Qak) (rnc (.plain _ nll) rn0)))))))) (slc (Qbi Qag) (slc (Qbi Qay) (slc (Qbi Qaj) Qat)))) (slc (Qam (rnc (pld Qan) (rnc (pld Qab) (rnc (Qdp rfl) (rnc (Qdp rfl) (rnc (Qdp rfl) (rnc (pld Qak) (rnc (.plain _ nll) rn0)))))))) (slc (Qbi Qag) (slc (Qbi Qay) (slc (Qbi Qaj) Qat)))) (pld Qak) rfl rfl rfl),hr_ (aio rfl underlying31 ti45 (odt hi30a) (odt hi30b) (Nat.zero_add _)),hr_ (ast rfl ti45 (by rfl) (mgt Qaf hg32) (nle rfl) (Qeq Qaf rfl)),tv⟩
      obtain rfl:=osi h
      exact⟨_,(mto (n:=43) (l':=[]) (own':=[(Qhi p2 p3 p4 p5 p6 p7 p8),(.own 1 (((p9.set p0.toNat x29):List (List Qaa)).map Qaf)),(Qi0 p10),(Qhh p11)]) [] [0,1,2,3] [(Qhi p2 p3 p4 p5 p6 p7 p8),(.own 1 ((p9.set p0.toNat x29:List (List Qaa)).map Qaf)),(Qi0 p10),(Qhh p11)] hφ0 pn (qb (lc (rnd Qan) (lc (rnd Qab) (lc (.rn (Qa5 rfl)) (lc (.rn (Qa5 rfl)) (lc (.rn (Qa5 rfl)) (lc (rnd Qak) (lc rwl ln))))))) (qc (spr Qag) (qc (spr Qay) (qc (spr Qaj) qn))))),Qm6 (vs:=[]) tv rfl (NLt.tup _ nl0) (by kernel_rfl) (Qar (Qa4 (nlc (NLt.of0 (nld Qan _)) (nlc (NLt.of0 (nld Qab _)) (nlc (NLt.own _ _ _ _ (by decide)) (nlc (NLt.own _ _ _ _ (by decide)) (nlc (NLt.own _ _ _ _ (by decide)) (nlc (NLt.of0 (nld Qak _)) (nlc (NLt.of0 nll) nl0)))))))) (Qar (Qda Qag _) (Qar (Qda Qay _) (Qar (Qda Qaj _) Qbx))))⟩
     ·refine bfe h (fun hb33 h=>?_) fun hb33 h=>?_
      ·obtain⟨x35,hf34,h⟩:=bno h
       obtain⟨hi36,h⟩:=cko h
       obtain⟨hi36a,hi36b⟩:=Qcy hi36
       obtain⟨x37,hg38,h⟩:=bno h
       refine Qn3 0 (.own 7 [[(Qu1 p2),(Qmd p3),(.own 1 1 (0) (p4)),(.own 2 4 (0) (p5)),(.own 3 1 (0) (p6)),(Qu0 p7),I p8]]) [mv 0 (.ref 0 7 0 0),⟨[(.tmp 21,.ref 0 7 0 0)],[],.ref 0 7 0 0,[],false⟩,⟨[(.tmp 22,.ref 0 7 0 0)],[],.ref 0 7 0 2,[],false⟩,⟨[(.tmp 23,.ref 0 7 0 2)],[],.ref 0 7 0 2,[],false⟩,⟨[(.tmp 24,.ref 0 7 0 2)],[],(.own 1 1 (0) (p4)),[],false⟩,mv 1 (I p0),mv 0 (.ref 0 7 0 0),⟨[(.tmp 27,.ref 0 7 0 0)],[],.ref 0 7 0 0,[],false⟩,⟨[(.tmp 28,.ref 0 7 0 0)],[],.ref 0 7 0 0,[],false⟩,⟨[(.tmp 29,.ref 0 7 0 0)],[],.ref 0 7 0 1,[],false⟩,⟨[(.tmp 30,.ref 0 7 0 1)],[],(Qmd p3),[],false⟩,mv 1 (I p0),rp [(.tmp 31,(Qmd p3)),(.tmp 32,I p0)] (.dptr (Qai (x16)) 0),mv 33 (.dptr (Qai (x16)) 0),rp [(.tmp 34,(.dptr (Qai (x16)) 0))] (K .u8 (x16.Kind)),rb [(.tmp 7,.ref 5 7 0 0),(.tmp 35,(K .u8 (x16.Kind)))] [(5,Qom)] (.ref 5 7 0 3),rb [(.tmp 36,.ref 5 7 0 3)] [(5,Qom)] (.fn (.func 118) [] []),mv 0 (.ref 0 7 0 0),mv 1 (I p0),rb [(.tmp 6,.ref 4 4 0 0)] [(4,(Qtx x14))] (Qjz x14),⟨[(.tmp 37,(.fn (.func 118) [] [])),(.tmp 38,.ref 0 7 0 0),(.tmp 39,I p0),(.tmp 40,(Qjz x14))],[(0,(Qhi p2 p3 p4 p5 p6 p7 p8)),(1,(Qgs p9)),(2,(Qi0 p10)),(3,(Qhh p11))],(.dat 4 ((x35.1:List Qaa).map Qae)),[(0,(Qhi p2 p3 p4 p5 p6 p7 p8)),(1,(Qgs p9)),(2,(Q7p x35)),(3,(Qhh p11))],false⟩,rb [(.tmp 25,(.own 1 1 (0) (p4))),(.tmp 26,I p0)] [(1,(Qgs p9))] (.ref 1 1 (p0.toNat) 0),⟨[(.tmp 42,(.ref 1 1 (p0.toNat) 0)),(.tmp 41,(.dat 4 ((x35.1:List Qaa).map Qae)))],[(1,(Qgs p9))],.any,[(1,(.own 1 ((p9.set p0.toNat x35.1:List (List Qaa)).map Qaf)))],false⟩] (SImp.box ⟨lrf,lrf,lrf,lrf,lrf,lrf,lrf,tv⟩) ⟨tv,tv,tv,tv,tv,tv,tv,tv,tv,tv,tv,tv,tv,tv,tv,tv,tv,tv,tv,tv,⟨(SImp.box ⟨lrf,lrf,lrf,lrf,lrf,lrf,lrf,tv⟩),tv,tv,tv,tv⟩,tv,⟨tv,tv⟩,tv⟩ ?_ ?_
       ·exact⟨hr_ (amv rfl),sf_ (Qbq rfl),sf_ (afa rfl underlying140 rfl rfl ti34 (by decide) rfl),sf_ (afa rfl underlying34 rfl rfl ti31 (by decide) rfl),sf_ (ald rfl ti31 (by decide) rfl (nle rfl) rfl),hr_ (amv rfl),hr_ (amv rfl),sf_ (Qbq rfl),sf_ (afa rfl underlying140 rfl rfl ti42 (by decide) rfl),sf_ (afa rfl underlying42 rfl rfl ti40 (by decide) rfl),sf_ (ald rfl ti40 (by decide) rfl (nle rfl) rfl),hr_ (amv rfl),hr_ (aid rfl underlying40 Qmi rfl rfl hi18 (mgt Qai hj19) rfl),hr_ (afd rfl underlying133 rfl rfl ti5 (by decide) rfl),hr_ (ald_ rfl ti5 (by decide) (nle rfl) rfl),hr_ (Qmc hb33 (Qbw rfl underlying209 Qrx (by decide) (by decide) rfl)),hr_ (ald rfl Qrx (by decide) rfl (nle rfl) rfl),hr_ (amv rfl),hr_ (amv rfl),hr_ (ald rfl ti63 (by decide) rfl (nle rfl) rfl),hr_ (Qau (first:=[]) (cap:=[]) (vs:=[.ref 0 7 0 0,I p0,(Qjz x14)]) (σr:=[(Qhi p2 p3 p4 p5 p6 p7 p8),(Qgs p9),(Qi0 p10),(Qhh p11)]) (σr':=[(Qhi p2 p3 p4 p5 p6 p7 p8),(Qgs p9),(Q7p x35),(Qhh p11)]) (res':=(.dat 4 ((x35.1:List Qaa).map Qae))) [0,1,2,3] rfl Zlv (Qqb N p0 x14 p2 p3 p4 p5 p6 p7 p8 p9 p10 p11 _ hf34) rfl (Qbp (rnc (Qa0 rfl) (rnc (.plain _ nll) (rnc (.plain _ (NLt.agg _ (nlcc (nlcc nl0)))) rn0)))) (slc (Qam (rnc (pld Qan) (rnc (pld Qab) (rnc (Qd4 rfl) (rnc (Qd4 rfl) (rnc (Qd4 rfl) (rnc (pld Qak) (rnc (.plain _ nll) rn0)))))))) (slc (Qbi Qag) (slc (Qbi Qay) (slc (Qbi Qaj) Qat)))) (slc (Qam (rnc (pld Qan) (rnc (pld Qab) (rnc (Qdp rfl) (rnc (Qdp rfl) (rnc (Qdp rfl) (rnc (pld Qak) (rnc (.plain _ nll) rn0)))))))) (slc (Qbi Qag) (slc (Qbi Qay) (slc (Qbi Qaj) Qat)))) (pld Qak) rfl rfl rfl),hr_ (aio rfl underlying31 ti45 (odt hi36a) (odt hi36b) (Nat.zero_add _)),hr_ (ast rfl ti45 (by rfl) (mgt Qaf hg38) (nle rfl) (Qeq Qaf rfl)),tv⟩
       obtain rfl:=osi h
       exact⟨_,(mto (n:=43) (l':=[]) (own':=[(Qhi p2 p3 p4 p5 p6 p7 p8),(.own 1 (((p9.set p0.toNat x35.1):List (List Qaa)).map Qaf)),(Q7p x35),(Qhh p11)]) [] [0,1,2,3] [(Qhi p2 p3 p4 p5 p6 p7 p8),(.own 1 ((p9.set p0.toNat x35.1:List (List Qaa)).map Qaf)),(Q7p x35),(Qhh p11)] hφ0 pn (qb (lc (rnd Qan) (lc (rnd Qab) (lc (.rn (Qa5 rfl)) (lc (.rn (Qa5 rfl)) (lc (.rn (Qa5 rfl)) (lc (rnd Qak) (lc rwl ln))))))) (qc (spr Qag) (qc (spr Qay) (qc (spr Qaj) qn))))),Qm6 (vs:=[]) tv rfl (NLt.tup _ nl0) (by kernel_rfl) (Qar (Qa4 (nlc (NLt.of0 (nld Qan _)) (nlc (NLt.of0 (nld Qab _)) (nlc (NLt.own _ _ _ _ (by decide)) (nlc (NLt.own _ _ _ _ (by decide)) (nlc (NLt.own _ _ _ _ (by decide)) (nlc (NLt.of0 (nld Qak _)) (nlc (NLt.of0 nll) nl0)))))))) (Qar (Qda Qag _) (Qar (Qda Qay _) (Qar (Qda Qaj _) Qbx))))⟩
      ·refine bfe h (fun hb39 h=>?_) fun hb39 h=>?_
       ·obtain⟨x41,hf40,h⟩:=bno h
        obtain⟨hi42,h⟩:=cko h
        obtain⟨hi42a,hi42b⟩:=Qcy hi42
        obtain⟨x43,hg44,h⟩:=bno h
        refine Qn3 0 (.own 7 [[(Qu1 p2),(Qmd p3),(.own 1 1 (0) (p4)),(.own 2 4 (0) (p5)),(.own 3 1 (0) (p6)),(Qu0 p7),.any]]) [mv 0 (.ref 0 7 0 0),⟨[(.tmp 21,.ref 0 7 0 0)],[],.ref 0 7 0 0,[],false⟩,⟨[(.tmp 22,.ref 0 7 0 0)],[],.ref 0 7 0 2,[],false⟩,⟨[(.tmp 23,.ref 0 7 0 2)],[],.ref 0 7 0 2,[],false⟩,⟨[(.tmp 24,.ref 0 7 0 2)],[],(.own 1 1 (0) (p4)),[],false⟩,mv 1 (I p0),mv 0 (.ref 0 7 0 0),⟨[(.tmp 27,.ref 0 7 0 0)],[],.ref 0 7 0 0,[],false⟩,⟨[(.tmp 28,.ref 0 7 0 0)],[],.ref 0 7 0 0,[],false⟩,⟨[(.tmp 29,.ref 0 7 0 0)],[],.ref 0 7 0 1,[],false⟩,⟨[(.tmp 30,.ref 0 7 0 1)],[],(Qmd p3),[],false⟩,mv 1 (I p0),rp [(.tmp 31,(Qmd p3)),(.tmp 32,I p0)] (.dptr (Qai (x16)) 0),mv 33 (.dptr (Qai (x16)) 0),rp [(.tmp 34,(.dptr (Qai (x16)) 0))] (K .u8 (x16.Kind)),rb [(.tmp 7,.ref 5 7 0 0),(.tmp 35,(K .u8 (x16.Kind)))] [(5,Qom)] (.ref 5 7 0 4),rb [(.tmp 36,.ref 5 7 0 4)] [(5,Qom)] (.fn (.func 119) [] []),mv 0 (.ref 0 7 0 0),mv 1 (I p0),rb [(.tmp 6,.ref 4 4 0 0)] [(4,(Qtx x14))] (Qjz x14),⟨[(.tmp 37,(.fn (.func 119) [] [])),(.tmp 38,.ref 0 7 0 0),(.tmp 39,I p0),(.tmp 40,(Qjz x14))],[(0,(Qhi p2 p3 p4 p5 p6 p7 p8)),(1,(Qgs p9)),(2,(Qi0 p10)),(3,(Qhh p11))],(.dat 4 ((x41.1:List Qaa).map Qae)),[(0,(Q7o p2 p3 p4 p5 p6 p7 x41)),(1,(Qgs p9)),(2,(Q7n x41)),(3,(Q7m x41))],false⟩,rb [(.tmp 25,(.own 1 1 (0) (p4))),(.tmp 26,I p0)] [(1,(Qgs p9))] (.ref 1 1 (p0.toNat) 0),⟨[(.tmp 42,(.ref 1 1 (p0.toNat) 0)),(.tmp 41,(.dat 4 ((x41.1:List Qaa).map Qae)))],[(1,(Qgs p9))],.any,[(1,(.own 1 ((p9.set p0.toNat x41.1:List (List Qaa)).map Qaf)))],false⟩] (SImp.box ⟨lrf,lrf,lrf,lrf,lrf,lrf,Less.any,tv⟩) ⟨tv,tv,tv,tv,tv,tv,tv,tv,tv,tv,tv,tv,tv,tv,tv,tv,tv,tv,tv,tv,⟨(SImp.box ⟨lrf,lrf,lrf,lrf,lrf,lrf,Less.any,tv⟩),tv,tv,tv,tv⟩,tv,⟨tv,tv⟩,tv⟩ ?_ ?_
        ·exact⟨hr_ (amv rfl),sf_ (Qbq rfl),sf_ (afa rfl underlying140 rfl rfl ti34 (by decide) rfl),sf_ (afa rfl underlying34 rfl rfl ti31 (by decide) rfl),sf_ (ald rfl ti31 (by decide) rfl (nle rfl) rfl),hr_ (amv rfl),hr_ (amv rfl),sf_ (Qbq rfl),sf_ (afa rfl underlying140 rfl rfl ti42 (by decide) rfl),sf_ (afa rfl underlying42 rfl rfl ti40 (by decide) rfl),sf_ (ald rfl ti40 (by decide) rfl (nle rfl) rfl),hr_ (amv rfl),hr_ (aid rfl underlying40 Qmi rfl rfl hi18 (mgt Qai hj19) rfl),hr_ (afd rfl underlying133 rfl rfl ti5 (by decide) rfl),hr_ (ald_ rfl ti5 (by decide) (nle rfl) rfl),hr_ (Qmc hb39 (Qbw rfl underlying209 Qrx (by decide) (by decide) rfl)),hr_ (ald rfl Qrx (by decide) rfl (nle rfl) rfl),hr_ (amv rfl),hr_ (amv rfl),hr_ (ald rfl ti63 (by decide) rfl (nle rfl) rfl),hr_ (Qau (first:=[]) (cap:=[]) (vs:=[.ref 0 7 0 0,I p0,(Qjz x14)]) (σr:=[(Qhi p2 p3 p4 p5 p6 p7 p8),(Qgs p9),(Qi0 p10),(Qhh p11)]) (σr':=[(Q7o p2 p3 p4 p5 p6 p7 x41),(Qgs p9),(Q7n x41),(Q7m x41)]) (res':=(.dat 4 ((x41.1:List Qaa).map Qae))) [0,1,2,3] rfl Zlu (Qnq N p0 x14 p2 p3 p4 p5 p6 p7 p8 p9 p10 p11 _ hf40) rfl (Qbp (rnc (Qa0 rfl) (rnc (.plain _ nll) (rnc (.plain _ (NLt.agg _ (nlcc (nlcc nl0)))) rn0)))) (slc (Qam (rnc (pld Qan) (rnc (pld Qab) (rnc (Qd4 rfl) (rnc (Qd4 rfl) (rnc (Qd4 rfl) (rnc (pld Qak) (rnc (.plain _ nll) rn0)))))))) (slc (Qbi Qag) (slc (Qbi Qay) (slc (Qbi Qaj) Qat)))) (slc (Qam (rnc (pld Qan) (rnc (pld Qab) (rnc (Qdp rfl) (rnc (Qdp rfl) (rnc (Qdp rfl) (rnc (pld Qak) (rnc (.plain _ nll) rn0)))))))) (slc (Qbi Qag) (slc (Qbi Qay) (slc (Qbi Qaj) Qat)))) (pld Qak) rfl rfl rfl),hr_ (aio rfl underlying31 ti45 (odt hi42a) (odt hi42b) (Nat.zero_add _)),hr_ (ast rfl ti45 (by rfl) (mgt Qaf hg44) (nle rfl) (Qeq Qaf rfl)),tv⟩
        obtain rfl:=osi h
        exact⟨_,(mto (n:=43) (l':=[]) (own':=[(Q7o p2 p3 p4 p5 p6 p7 x41),(.own 1 (((p9.set p0.toNat x41.1):List (List Qaa)).map Qaf)),(Q7n x41),(Q7m x41)]) [] [0,1,2,3] [(Q7o p2 p3 p4 p5 p6 p7 x41),(.own 1 ((p9.set p0.toNat x41.1:List (List Qaa)).map Qaf)),(Q7n x41),(Q7m x41)] hφ0 pn (qb (lc (rnd Qan) (lc (rnd Qab) (lc (.rn (Qa5 rfl)) (lc (.rn (Qa5 rfl)) (lc (.rn (Qa5 rfl)) (lc (rnd Qak) (lc rwl ln))))))) (qc (spr Qag) (qc (spr Qay) (qc (spr Qaj) qn))))),Qm6 (vs:=[]) tv rfl (NLt.tup _ nl0) (by kernel_rfl) (Qar (Qa4 (nlc (NLt.of0 (nld Qan _)) (nlc (NLt.of0 (nld Qab _)) (nlc (NLt.own _ _ _ _ (by decide)) (nlc (NLt.own _ _ _ _ (by decide)) (nlc (NLt.own _ _ _ _ (by decide)) (nlc (NLt.of0 (nld Qak _)) (nlc (NLt.of0 nll) nl0)))))))) (Qar (Qda Qag _) (Qar (Qda Qay _) (Qar (Qda Qaj _) Qbx))))⟩
       ·refine bfe h (fun hb45 h=>?_) fun hb45 h=>?_
        ·obtain⟨x47,hf46,h⟩:=bno h
         obtain⟨hi48,h⟩:=cko h
         obtain⟨hi48a,hi48b⟩:=Qcy hi48
         obtain⟨x49,hg50,h⟩:=bno h
         refine Qn3 0 (.own 7 [[(Qu1 p2),(Qmd p3),(.own 1 1 (0) (p4)),(.own 2 4 (0) (p5)),(.own 3 1 (0) (p6)),(Qu0 p7),I p8]]) [mv 0 (.ref 0 7 0 0),⟨[(.tmp 21,.ref 0 7 0 0)],[],.ref 0 7 0 0,[],false⟩,⟨[(.tmp 22,.ref 0 7 0 0)],[],.ref 0 7 0 2,[],false⟩,⟨[(.tmp 23,.ref 0 7 0 2)],[],.ref 0 7 0 2,[],false⟩,⟨[(.tmp 24,.ref 0 7 0 2)],[],(.own 1 1 (0) (p4)),[],false⟩,mv 1 (I p0),mv 0 (.ref 0 7 0 0),⟨[(.tmp 27,.ref 0 7 0 0)],[],.ref 0 7 0 0,[],false⟩,⟨[(.tmp 28,.ref 0 7 0 0)],[],.ref 0 7 0 0,[],false⟩,⟨[(.tmp 29,.ref 0 7 0 0)],[],.ref 0 7 0 1,[],false⟩,⟨[(.tmp 30,.ref 0 7 0 1)],[],(Qmd p3),[],false⟩,mv 1 (I p0),rp [(.tmp 31,(Qmd p3)),(.tmp 32,I p0)] (.dptr (Qai (x16)) 0),mv 33 (.dptr (Qai (x16)) 0),rp [(.tmp 34,(.dptr (Qai (x16)) 0))] (K .u8 (x16.Kind)),rb [(.tmp 7,.ref 5 7 0 0),(.tmp 35,(K .u8 (x16.Kind)))] [(5,Qom)] (.ref 5 7 0 5),rb [(.tmp 36,.ref 5 7 0 5)] [(5,Qom)] (.fn (.func 120) [] []),mv 0 (.ref 0 7 0 0),mv 1 (I p0),rb [(.tmp 6,.ref 4 4 0 0)] [(4,(Qtx x14))] (Qjz x14),⟨[(.tmp 37,(.fn (.func 120) [] [])),(.tmp 38,.ref 0 7 0 0),(.tmp 39,I p0),(.tmp 40,(Qjz x14))],[(0,(Qhi p2 p3 p4 p5 p6 p7 p8)),(1,(Qgs p9)),(2,(Qi0 p10)),(3,(Qhh p11))],(.dat 4 ((x47.1:List Qaa).map Qae)),[(0,(Qhi p2 p3 p4 p5 p6 p7 p8)),(1,(Qgs p9)),(2,(Q7l x47)),(3,(Qhh p11))],false⟩,rb [(.tmp 25,(.own 1 1 (0) (p4))),(.tmp 26,I p0)] [(1,(Qgs p9))] (.ref 1 1 (p0.toNat) 0),⟨[(.tmp 42,(.ref 1 1 (p0.toNat) 0)),(.tmp 41,(.dat 4 ((x47.1:List Qaa).map Qae)))],[(1,(Qgs p9))],.any,[(1,(.own 1 ((p9.set p0.toNat x47.1:List (List Qaa)).map Qaf)))],false⟩] (SImp.box ⟨lrf,lrf,lrf,lrf,lrf,lrf,lrf,tv⟩) ⟨tv,tv,tv,tv,tv,tv,tv,tv,tv,tv,tv,tv,tv,tv,tv,tv,tv,tv,tv,tv,⟨(SImp.box ⟨lrf,lrf,lrf,lrf,lrf,lrf,lrf,tv⟩),tv,tv,tv,tv⟩,tv,⟨tv,tv⟩,tv⟩ ?_ ?_
         ·exact⟨hr_ (amv rfl),sf_ (Qbq rfl),sf_ (afa rfl underlying140 rfl rfl ti34 (by decide) rfl),sf_ (afa rfl underlying34 rfl rfl ti31 (by decide) rfl),sf_ (ald rfl ti31 (by decide) rfl (nle rfl) rfl),hr_ (amv rfl),hr_ (amv rfl),sf_ (Qbq rfl),sf_ (afa rfl underlying140 rfl rfl ti42 (by decide) rfl),sf_ (afa rfl underlying42 rfl rfl ti40 (by decide) rfl),sf_ (ald rfl ti40 (by decide) rfl (nle rfl) rfl),hr_ (amv rfl),hr_ (aid rfl underlying40 Qmi rfl rfl hi18 (mgt Qai hj19) rfl),hr_ (afd rfl underlying133 rfl rfl ti5 (by decide) rfl),hr_ (ald_ rfl ti5 (by decide) (nle rfl) rfl),hr_ (Qmc hb45 (Qbw rfl underlying209 Qrx (by decide) (by decide) rfl)),hr_ (ald rfl Qrx (by decide) rfl (nle rfl) rfl),hr_ (amv rfl),hr_ (amv rfl),hr_ (ald rfl ti63 (by decide) rfl (nle rfl) rfl),hr_ (Qau (first:=[]) (cap:=[]) (vs:=[.ref 0 7 0 0,I p0,(Qjz x14)]) (σr:=[(Qhi p2 p3 p4 p5 p6 p7 p8),(Qgs p9),(Qi0 p10),(Qhh p11)]) (σr':=[(Qhi p2 p3 p4 p5 p6 p7 p8),(Qgs p9),(Q7l x47),(Qhh p11)]) (res':=(.dat 4 ((x47.1:List Qaa).map Qae))) [0,1,2,3] rfl Zlt (Qpf N p0 x14 p2 p3 p4 p5 p6 p7 p8 p9 p10 p11 _ hf46) rfl (Qbp (rnc (Qa0 rfl) (rnc (.plain _ nll) (rnc (.plain _ (NLt.agg _ (nlcc (nlcc nl0)))) rn0)))) (slc (Qam (rnc (pld Qan) (rnc (pld Qab) (rnc (Qd4 rfl) (rnc (Qd4 rfl) (rnc (Qd4 rfl) (rnc (pld Qak) (rnc (.plain _ nll) rn0)))))))) (slc (Qbi Qag) (slc (Qbi Qay) (slc (Qbi Qaj) Qat)))) (slc (Qam (rnc (pld Qan) (rnc (pld Qab) (rnc (Qdp rfl) (rnc (Qdp rfl) (rnc (Qdp rfl) (rnc (pld Qak) (rnc (.plain _ nll) rn0)))))))) (slc (Qbi Qag) (slc (Qbi Qay) (slc (Qbi Qaj) Qat)))) (pld Qak) rfl rfl rfl),hr_ (aio rfl underlying31 ti45 (odt hi48a) (odt hi48b) (Nat.zero_add _)),hr_ (ast rfl ti45 (by rfl) (mgt Qaf hg50) (nle rfl) (Qeq Qaf rfl)),tv⟩
         obtain rfl:=osi h
         exact⟨_,(mto (n:=43) (l':=[]) (own':=[(Qhi p2 p3 p4 p5 p6 p7 p8),(.own 1 (((p9.set p0.toNat x47.1):List (List Qaa)).map Qaf)),(Q7l x47),(Qhh p11)]) [] [0,1,2,3] [(Qhi p2 p3 p4 p5 p6 p7 p8),(.own 1 ((p9.set p0.toNat x47.1:List (List Qaa)).map Qaf)),(Q7l x47),(Qhh p11)] hφ0 pn (qb (lc (rnd Qan) (lc (rnd Qab) (lc (.rn (Qa5 rfl)) (lc (.rn (Qa5 rfl)) (lc (.rn (Qa5 rfl)) (lc (rnd Qak) (lc rwl ln))))))) (qc (spr Qag) (qc (spr Qay) (qc (spr Qaj) qn))))),Qm6 (vs:=[]) tv rfl (NLt.tup _ nl0) (by kernel_rfl) (Qar (Qa4 (nlc (NLt.of0 (nld Qan _)) (nlc (NLt.of0 (nld Qab _)) (nlc (NLt.own _ _ _ _ (by decide)) (nlc (NLt.own _ _ _ _ (by decide)) (nlc (NLt.own _ _ _ _ (by decide)) (nlc (NLt.of0 (nld Qak _)) (nlc (NLt.of0 nll) nl0)))))))) (Qar (Qda Qag _) (Qar (Qda Qay _) (Qar (Qda Qaj _) Qbx))))⟩
        ·refine bfe h (fun hb51 h=>?_) fun hb51 h=>?_
         ·obtain⟨x53,hf52,h⟩:=bno h
          obtain⟨hi54,h⟩:=cko h
          obtain⟨hi54a,hi54b⟩:=Qcy hi54
          obtain⟨x55,hg56,h⟩:=bno h
          refine Qn3 0 (.own 7 [[(Qu1 p2),(Qmd p3),(.own 1 1 (0) (p4)),(.own 2 4 (0) (p5)),(.own 3 1 (0) (p6)),(Qu0 p7),I p8]]) [mv 0 (.ref 0 7 0 0),⟨[(.tmp 21,.ref 0 7 0 0)],[],.ref 0 7 0 0,[],false⟩,⟨[(.tmp 22,.ref 0 7 0 0)],[],.ref 0 7 0 2,[],false⟩,⟨[(.tmp 23,.ref 0 7 0 2)],[],.ref 0 7 0 2,[],false⟩,⟨[(.tmp 24,.ref 0 7 0 2)],[],(.own 1 1 (0) (p4)),[],false⟩,mv 1 (I p0),mv 0 (.ref 0 7 0 0),⟨[(.tmp 27,.ref 0 7 0 0)],[],.ref 0 7 0 0,[],false⟩,⟨[(.tmp 28,.ref 0 7 0 0)],[],.ref 0 7 0 0,[],false⟩,⟨[(.tmp 29,.ref 0 7 0 0)],[],.ref 0 7 0 1,[],false⟩,⟨[(.tmp 30,.ref 0 7 0 1)],[],(Qmd p3),[],false⟩,mv 1 (I p0),rp [(.tmp 31,(Qmd p3)),(.tmp 32,I p0)] (.dptr (Qai (x16)) 0),mv 33 (.dptr (Qai (x16)) 0),rp [(.tmp 34,(.dptr (Qai (x16)) 0))] (K .u8 (x16.Kind)),rb [(.tmp 7,.ref 5 7 0 0),(.tmp 35,(K .u8 (x16.Kind)))] [(5,Qom)] (.ref 5 7 0 6),rb [(.tmp 36,.ref 5 7 0 6)] [(5,Qom)] (.fn (.func 117) [] []),mv 0 (.ref 0 7 0 0),mv 1 (I p0),rb [(.tmp 6,.ref 4 4 0 0)] [(4,(Qtx x14))] (Qjz x14),⟨[(.tmp 37,(.fn (.func 117) [] [])),(.tmp 38,.ref 0 7 0 0),(.tmp 39,I p0),(.tmp 40,(Qjz x14))],[(0,(Qhi p2 p3 p4 p5 p6 p7 p8)),(1,(Qgs p9)),(2,(Qi0 p10)),(3,(Qhh p11))],(Zdq x53),[(0,(Qhi p2 p3 p4 p5 p6 p7 p8)),(1,(Qgs p9)),(2,(Qi0 p10)),(3,(Qhh p11))],false⟩,rb [(.tmp 25,(.own 1 1 (0) (p4))),(.tmp 26,I p0)] [(1,(Qgs p9))] (.ref 1 1 (p0.toNat) 0),⟨[(.tmp 42,(.ref 1 1 (p0.toNat) 0)),(.tmp 41,(Zdq x53))],[(1,(Qgs p9))],.any,[(1,(.own 1 ((p9.set p0.toNat x53:List (List Qaa)).map Qaf)))],false⟩] (SImp.box ⟨lrf,lrf,lrf,lrf,lrf,lrf,lrf,tv⟩) ⟨tv,tv,tv,tv,tv,tv,tv,tv,tv,tv,tv,tv,tv,tv,tv,tv,tv,tv,tv,tv,⟨(SImp.box ⟨lrf,lrf,lrf,lrf,lrf,lrf,lrf,tv⟩),tv,tv,tv,tv⟩,tv,⟨tv,tv⟩,tv⟩ ?_ ?_
          ·exact⟨hr_ (amv rfl),sf_ (Qbq rfl),sf_ (afa rfl underlying140 rfl rfl ti34 (by decide) rfl),sf_ (afa rfl underlying34 rfl rfl ti31 (by decide) rfl),sf_ (ald rfl ti31 (by decide) rfl (nle rfl) rfl),hr_ (amv rfl),hr_ (amv rfl),sf_ (Qbq rfl),sf_ (afa rfl underlying140 rfl rfl ti42 (by decide) rfl),sf_ (afa rfl underlying42 rfl rfl ti40 (by decide) rfl),sf_ (ald rfl ti40 (by decide) rfl (nle rfl) rfl),hr_ (amv rfl),hr_ (aid rfl underlying40 Qmi rfl rfl hi18 (mgt Qai hj19) rfl),hr_ (afd rfl underlying133 rfl rfl ti5 (by decide) rfl),hr_ (ald_ rfl ti5 (by decide) (nle rfl) rfl),hr_ (Qmc hb51 (Qbw rfl underlying209 Qrx (by decide) (by decide) rfl)),hr_ (ald rfl Qrx (by decide) rfl (nle rfl) rfl),hr_ (amv rfl),hr_ (amv rfl),hr_ (ald rfl ti63 (by decide) rfl (nle rfl) rfl),hr_ (Qau (first:=[]) (cap:=[]) (vs:=[.ref 0 7 0 0,I p0,(Qjz x14)]) (σr:=[(Qhi p2 p3 p4 p5 p6 p7 p8),(Qgs p9),(Qi0 p10),(Qhh p11)]) (σr':=[(Qhi p2 p3 p4 p5 p6 p7 p8),(Qgs p9),(Qi0 p10),(Qhh p11)]) (res':=(Zdq x53)) [0,1,2,3] rfl Q02 (Qi8 N p0 x14 p2 p3 p4 p5 p6 p7 p8 p9 p10 p11 _ hf52) rfl (Qbp (rnc (Qa0 rfl) (rnc (.plain _ nll) (rnc (.plain _ (NLt.agg _ (nlcc (nlcc nl0)))) rn0)))) (slc (Qam (rnc (pld Qan) (rnc (pld Qab) (rnc (Qd4 rfl) (rnc (Qd4 rfl) (rnc (Qd4 rfl) (rnc (pld Qak) (rnc (.plain _ nll) rn0)))))))) (slc (Qbi Qag) (slc (Qbi Qay) (slc (Qbi Qaj) Qat)))) (slc (Qam (rnc (pld Qan) (rnc (pld Qab) (rnc (Qdp rfl) (rnc (Qdp rfl) (rnc (Qdp rfl) (rnc (pld Qak) (rnc (.plain _ nll) rn0)))))))) (slc (Qbi Qag) (slc (Qbi Qay) (slc (Qbi Qaj) Qat)))) (pld Qak) rfl rfl rfl),hr_ (aio rfl underlying31 ti45 (odt hi54a) (odt hi54b) (Nat.zero_add _)),hr_ (ast rfl ti45 (by rfl) (mgt Qaf hg56) (nle rfl) (Qeq Qaf rfl)),tv⟩
          obtain rfl:=osi h
          exact⟨_,(mto (n:=43) (l':=[]) (own':=[(Qhi p2 p3 p4 p5 p6 p7 p8),(.own 1 (((p9.set p0.toNat x53):List (List Qaa)).map Qaf)),(Qi0 p10),(Qhh p11)]) [] [0,1,2,3] [(Qhi p2 p3 p4 p5 p6 p7 p8),(.own 1 ((p9.set p0.toNat x53:List (List Qaa)).map Qaf)),(Qi0 p10),(Qhh p11)] hφ0 pn (qb (lc (rnd Qan) (lc (rnd Qab) (lc (.rn (Qa5 rfl)) (lc (.rn (Qa5 rfl)) (lc (.rn (Qa5 rfl)) (lc (rnd Qak) (lc rwl ln))))))) (qc (spr Qag) (qc (spr Qay) (qc (spr Qaj) qn))))),Qm6 (vs:=[]) tv rfl (NLt.tup _ nl0) (by kernel_rfl) (Qar (Qa4 (nlc (NLt.of0 (nld Qan _)) (nlc (NLt.of0 (nld Qab _)) (nlc (NLt.own _ _ _ _ (by decide)) (nlc (NLt.own _ _ _ _ (by decide)) (nlc (NLt.own _ _ _ _ (by decide)) (nlc (NLt.of0 (nld Qak _)) (nlc (NLt.of0 nll) nl0)))))))) (Qar (Qda Qag _) (Qar (Qda Qay _) (Qar (Qda Qaj _) Qbx))))⟩
         ·cases h
  ·skip
   refine wxz ?_
   refine bfe h (fun hc57 h=>?_) fun hc57 h=>?_
   ·refine wft hc57<|Zmg 3 [mv 1 (I p0),rp [(.tmp 17,I p0)] (.agg [I p0]),rp [(.tmp 18,(.agg [I p0]))] (.lit (.iface 182 (.agg #[(.int .i64 (p0))]))),⟨[(.tmp 19,(.lit (.iface 182 (.agg #[(.int .i64 (p0))]))))],[],.any,[],false⟩] (by exact⟨by kernel_rfl,by kernel_rfl⟩) rfl (by kernel_rfl) rfl (Q5s rfl) (⟨fun _ _=>amv rfl,fun _ _=>Qa8 (vs:=[I p0]) rfl Zvx Zuj rfl (by rfl) rfl,fun _ _=>awk (rd':=[(.tmp 18,.lit (.agg #[(.int .i64 (p0))]))]) ⟨rfl,(Less.lits [(.int .i64 (p0))]),tv⟩ (Q6t rfl underlying182),fun _ h=>absurd rfl h,tv⟩) ?_
    obtain rfl:=osi h
    exact rfl
   ·exact wfn hc57<|Qap<|thn<|⟨(),h,(mto (n:=43) [(0,.ref 0 7 0 0),(1,I p0),(6,.ref 7 4 0 0)] [0,1,2,3,7] [(Qhi p2 p3 p4 p5 p6 p7 p8),(Qgs p9),(Qi0 p10),(Qhh p11),(Qtx x14)] hφ0 (prr (pw (prr pn))) (qb (lc (rnd Qan) (lc (rnd Qab) (lc (.rn (Qa5 rfl)) (lc (.rn (Qa5 rfl)) (lc (.rn (Qa5 rfl)) (lc (rnd Qak) (lc rwl ln))))))) (qc (spr Qag) (qc (spr Qay) (qc (spr Qaj) (qb (lcc (lcc ln)) qn))))))⟩
theorem Qns (N:Nat) (p0:Int) (p1:Int) (p2:(List GRow)) (p3:(List Qad)) (p4:Nat) (p5:Nat) (p6:Nat) (p7:(List Qaa)) (p8:Int) (p9:(List (List Qaa))) (p10:(List Qa1)) (p11:(List Int)) (r:(Int×(List (List Qaa))×(List Qa1)×(List Int))) (h:Qdm N p0 p1 p2 p3 p4 p5 p6 p7 p8 p9 p10 p11=some (.inl r)):Spec prog 97 [.ref 0 7 0 0,I p0,I p1] [(Qhi p2 p3 p4 p5 p6 p7 p8),(Qgs p9),(Qi0 p10),(Qhh p11)] (.tup []) [(.own 7 [[(.dat 5 ((p2:List GRow).map Qa7)),(.dat 7 ((p3:List Qad).map Qai)),(.own 1 1 (0) (p4)),(.own 2 4 (0) (p5)),(.own 3 1 (0) (p6)),(.dat 4 ((p7:List Qaa).map Qae)),I r.1]]),(.own 1 ((r.2.1:List (List Qaa)).map Qaf)),(.own 4 ((r.2.2.1:List Qa1).map Qbf)),(.own 1 ((r.2.2.2:List Int).map Qav))]:=Qj9 N p0 p1 p2 p3 p4 p5 p6 p7 p8 p9 p10 p11 _ h
theorem Qnr (N:Nat) (p0:Int) (p1:Int) (p2:(List GRow)) (p3:(List Qad)) (p4:Nat) (p5:Nat) (p6:Nat) (p7:(List Qaa)) (p8:Int) (p9:(List (List Qaa))) (p10:(List Qa1)) (p11:(List Int)) (r:Int) (h:Qdm N p0 p1 p2 p3 p4 p5 p6 p7 p8 p9 p10 p11=some (.inr r)):Zmt prog 97 [.ref 0 7 0 0,I p0,I p1] [(Qhi p2 p3 p4 p5 p6 p7 p8),(Qgs p9),(Qi0 p10),(Qhh p11)] (.iface 182 (.agg #[(.int .i64 (r))])):=Qj9 N p0 p1 p2 p3 p4 p5 p6 p7 p8 p9 p10 p11 _ h
def Ztj:Slot:=.own 1 [[(.lit (.pointer none))]]
theorem Qr7 (v0:Int):DPan prog 96 [1,1] (.iface 182 (.agg #[(.int .i64 (v0))])) [[(.lit (.pointer none))],[(I (v0))]]:=by
  refine Qt9 (t:=5) (args:=[.ref 0 1 0 0,.ref 1 1 0 0]) func96 rfl (fun _ _=>rfl) (by kernel_rfl) Zq9 2 (nle rfl) (fun X φ0 w0 hφ0=>?_)
  refine Qbv<|Qao ?_
  refine wx tbk [(0,rp [(.tmp 5,(.lit (.iface 182 (.agg #[(.int .i64 (v0))])))),(.const .nilIface,(.lit .nilIface))] (B false))] ⟨Q6s rfl underlying20,tv⟩<|wfa ?_
  exact wx tbk [(0,rp [(.tmp 5,(.lit (.iface 182 (.agg #[(.int .i64 (v0))]))))] (.tup [(.agg [I v0]),B true]))] ⟨Q6o (r:=.lit (.tuple #[(.agg #[(.int .i64 (v0))]),(.bool true)])) (Less.trans Zgv (Less.tup ⟨Zgw (l:=[(.int .i64 (v0))]),lrf,tv⟩)) (Q1a rfl underlying182),tv⟩<|wtr<|wxz<|wxe1<|bln<|⟨_,(mto (n:=13) (l':=[]) (own':=[Ztj,(.own 1 [[I v0]])]) [] [0,1] [Ztj,(.own 1 [[I v0]])] hφ0 pn (qb (lc rwl ln) (qb (lc rwl ln) qn))),Qdh (vs:=[]) tv rfl (NLt.tup _ nl0) (by kernel_rfl) (Qar (Qa4 (nlt0 (nlc nll nl0))) (Qar (Qa4 (nlt0 (nlc nll nl0))) Qbx))⟩
end
section
set_option maxRecDepth 100000
set_option maxHeartbeats 4000000
open Go.RowKit
def Qef (N:Nat) (p0:GNet) (p1:(List Int)) (p2:(List Qaa)) (k16:(List (List Qaa))×(List Qa1)×(List Int)×Int→Option (Int⊕(Int×Int×(List (List Qaa))×(List Qa1)×(List Int)))):Nat→Int→(List (List Qaa))→(List Qa1)→(List Int)→Int→Option (Int⊕(Int×Int×(List (List Qaa))×(List Qa1)×(List Int)))
  |0,_,_,_,_,_=>none
  |n27+1,y17,y18,y19,y20,y21=>
    bif (decide (y17<(p0.Elements.length:Int))) then
     (getI p0.Elements y17).bind fun x29=>
     (getI p1 y17).bind fun x33=>
     (Qgl N x29 x33).bind fun x38=>
     (Qdm N y17 x38 p0.Table p0.Elements ((p0.Elements.length:Int).toNat) ((p0.Elements.length:Int).toNat) p1.length p2 y21 y18 y19 y20).bind (
      Sum.elim (fun x41=>
        Qef N p0 p1 p2 k16 n27 (w64 (y17+1)) x41.2.1 x41.2.2.1 x41.2.2.2 x41.1)
      (fun x42=>
        some (.inl x42)))
    else
     k16 (y18,y19,y20,y21)
def Qfs (N:Nat) (p0:GNet) (p1:(List Int)) (p2:(List Qaa)):Option (Int⊕(Int×Int×(List (List Qaa))×(List Qa1)×(List Int))):=
  chk (decide (0≤(p0.Elements.length:Int))&&decide (24*(p0.Elements.length:Int)≤281474976710656)&&decide ((p0.Elements.length:Int)≤9223372036854775807))<|
  chk (decide (0≤(p0.Elements.length:Int))&&decide (32*(p0.Elements.length:Int)≤281474976710656)&&decide ((p0.Elements.length:Int)≤9223372036854775807))<|
  (Qgc N p1).bind fun _=>
  Qbn (fun ⟨y12,y13,y14,y15⟩=>
    some (.inr ((-1),y15,y12,y13,y14))) fun k16:(List (List Qaa))×(List Qa1)×(List Int)×Int→Option (Int⊕(Int×Int×(List (List Qaa))×(List Qa1)×(List Int)))=>
  Qef N p0 p1 p2 k16 N 0 (List.replicate (p0.Elements.length:Int).toNat ([])) (List.replicate (p0.Elements.length:Int).toNat (⟨0,0,0,0⟩:Qa1)) p1 0
def Q4t (p0:GNet):AV:=.dat 5 ((p0.Table:List GRow).map Qa7)
def Qqr (p0:GNet):AV:=.dat 7 ((p0.Elements:List Qad).map Qai)
def Zc9 (p0:GNet):AV:=.agg [(Q4t p0),(Qqr p0)]
def Qrg (p1:(List Int)):AV:=.dat 1 ((p1:List Int).map Qav)
def Qqe (p2:(List Qaa)):AV:=.dat 4 ((p2:List Qaa).map Qae)
def Ztg (p0:GNet):Slot:=.own 1 ((List.replicate (p0.Elements.length:Int).toNat ([]):List (List Qaa)).map Qaf)
def Ztf (p0:GNet):Slot:=.own 4 ((List.replicate (p0.Elements.length:Int).toNat (⟨0,0,0,0⟩:Qa1):List Qa1).map Qbf)
def Zip (p1:(List Int)):Slot:=.own 1 ((p1:List Int).map Qav)
def Zow (p0:GNet) (p1:(List Int)):AV:=.agg [(.own 3 1 (0) ((p0.Elements.length:Int).toNat)),(.own 4 4 (0) ((p0.Elements.length:Int).toNat)),(.own 5 1 (0) (p1.length))]
def Q91 (p0:GNet):Slot:=.own 2 [[(Q4t p0),(Qqr p0)]]
def Qtv:Slot:=.own 1 [[(.ref 6 7 (0) 0)]]
def Q4s (y12:(List (List Qaa))):Slot:=.own 1 ((y12:List (List Qaa)).map Qaf)
def Q4r (y13:(List Qa1)):Slot:=.own 4 ((y13:List Qa1).map Qbf)
def Q4q (p0:GNet) (p1:(List Int)) (p2:(List Qaa)) (y15:Int):Slot:=.own 7 [[(Q4t p0),(Qqr p0),(.own 3 1 (0) ((p0.Elements.length:Int).toNat)),(.own 4 4 (0) ((p0.Elements.length:Int).toNat)),(.own 5 1 (0) (p1.length)),(Qqe p2),(I (y15))]]
def Zm2 (p0:GNet) (p1:(List Int)) (p2:(List Qaa)):Slot:=.own 7 [[(Q4t p0),(Qqr p0),(.own 3 1 (0) ((p0.Elements.length:Int).toNat)),(.own 4 4 (0) ((p0.Elements.length:Int).toNat)),(.own 5 1 (0) (p1.length)),(Qqe p2),(I (0))]]
def Qs0 (y18:(List (List Qaa))):Slot:=.own 1 ((y18:List (List Qaa)).map Qaf)
def Qsz (y19:(List Qa1)):Slot:=.own 4 ((y19:List Qa1).map Qbf)
def Qsy (y20:(List Int)):Slot:=.own 1 ((y20:List Int).map Qav)
def Qs1 (p0:GNet) (p1:(List Int)) (p2:(List Qaa)) (y21:Int):Slot:=.own 7 [[(Q4t p0),(Qqr p0),(.own 3 1 (0) ((p0.Elements.length:Int).toNat)),(.own 4 4 (0) ((p0.Elements.length:Int).toNat)),(.own 5 1 (0) (p1.length)),(Qqe p2),(I (y21))]]
def Qux (x29:Qad):AV:=.agg [(K .u8 (x29.Kind)),(.dat 2 ((x29.From:List Qa6).map Qa3)),(I (x29.Level)),(I (x29.Amount)),(I (x29.Wide)),(I (x29.Narrow)),(.dat 1 ((x29.Weights:List Int).map Qav))]
def Q4p (p0:GNet) (p1:(List Int)) (p2:(List Qaa)) (x41:(Int×(List (List Qaa))×(List Qa1)×(List Int))):Slot:=.own 7 [[(Q4t p0),(Qqr p0),(.own 3 1 (0) (((p0.Elements.length:Int).toNat))),(.own 4 4 (0) (((p0.Elements.length:Int).toNat))),(.own 5 1 (0) (p1.length)),(Qqe p2),(I (x41.1))]]
def Zth:Slot:=.own 1 [[(.lit (.pointer none))]]
theorem Qnu (N:Nat) (p0:GNet) (p1:(List Int)) (p2:(List Qaa)) (r:(Int⊕(Int×Int×(List (List Qaa))×(List Qa1)×(List Int)))) (h:Qfs N p0 p1 p2=some r):Spec prog 58 [(Zc9 p0),(Qrg p1),(Qqe p2)] [] (((Sum.elim (fun r=>(.tup [(.lit (.pointer none)),(I (r))])) (fun r=>(.tup [(.ref 2 7 (0) 0),(I (r.1))]))):(Int⊕(Int×Int×(List (List Qaa))×(List Qa1)×(List Int)))→AV) r) (((Sum.elim (fun r=>[(.own 1 [[(.lit (.pointer none))]]),(.own 1 [[(I (r))]])]) (fun r=>[(.own 1 [[(.ref 2 7 (0) 0)]]),(.own 1 [[(I (r.1))]]),(.own 7 [[(.dat 5 ((p0.Table:List GRow).map Qa7)),(.dat 7 ((p0.Elements:List Qad).map Qai)),(.own 3 1 (0) ((p0.Elements.length:Int).toNat)),(.own 4 4 (0) ((p0.Elements.length:Int).toNat)),(.own 5 1 (0) (p1.length)),(.dat 4 ((p2:List Qaa).map Qae)),(I (r.2.1))]]),(.own 1 ((r.2.2.1:List (List Qaa)).map Qaf)),(.own 4 ((r.2.2.2.1:List Qa1).map Qbf)),(.own 1 ((r.2.2.2.2:List Int).map Qav))])):(Int⊕(Int×Int×(List (List Qaa))×(List Qa1)×(List Int)))→List Slot) r):=by
  refine Q2p func58 rfl (fun X φ0 w0 hφ0 hd0=>?_)
  unfold Qfs at h
  refine Q9t (k:=6) hd0 (fun n hn=>hφ0 n (Nat.le_trans (nle rfl) hn))<|wxz1<|thn ?_
  refine Q9t (k:=6) hd0 (fun n hn=>hφ0 n (Nat.le_trans (nle rfl) hn)) ?_
  obtain⟨hm8,h⟩:=cko h
  obtain⟨hm9,h⟩:=cko h
  obtain⟨x11,hf10,h⟩:=bno h
  refine wy1 tbk [(3,rp [(.tmp 12,(Qqr p0))] (I ((p0.Elements.length:Int)))),(4,⟨[(.tmp 13,(I ((p0.Elements.length:Int)))),(.tmp 13,(I ((p0.Elements.length:Int))))],[(3,.unused)],(.own 3 1 (0) ((p0.Elements.length:Int).toNat)),[(3,(Ztg p0))],false⟩),(7,rp [(.tmp 16,(Qqr p0))] (I ((p0.Elements.length:Int)))),(8,⟨[(.tmp 17,(I ((p0.Elements.length:Int)))),(.tmp 17,(I ((p0.Elements.length:Int))))],[(4,.unused)],(.own 4 4 (0) ((p0.Elements.length:Int).toNat)),[(4,(Ztf p0))],false⟩),(10,⟨[fu 95,(.tmp 19,(Qrg p1))],[(5,.unused)],(.own 5 1 (0) (p1.length)),[(5,(Zip p1))],false⟩),(11,rp [(.tmp 14,(.own 3 1 (0) ((p0.Elements.length:Int).toNat))),(.tmp 18,(.own 4 4 (0) ((p0.Elements.length:Int).toNat))),(.tmp 20,(.own 5 1 (0) (p1.length)))] (Zow p0 p1)),(13,rp [(.tmp 10,(Zc9 p0)),(.tmp 21,(Zow p0 p1)),(.tmp 22,(Qqe p2))] (.agg [(Q4t p0),(Qqr p0),(.own 3 1 (0) ((p0.Elements.length:Int).toNat)),(.own 4 4 (0) ((p0.Elements.length:Int).toNat)),(.own 5 1 (0) (p1.length)),(Qqe p2),I 0]))] ⟨alm (c:=Qai) (l:=p0.Elements) (aln rfl underlying40 rfl),Zic (c:=Qaf) (v:=([])) (z:=[nilS]) (k:=(p0.Elements.length:Int).toNat) ⟨Less.nil,tv⟩ (Qpz rfl underlying31 te45 tz45 rfl (Qx7 hm8) rfl (Qx6 hm8) (Q9x hm8) rfl),alm (c:=Qai) (l:=p0.Elements) (aln rfl underlying40 rfl),Qpz rfl underlying32 te82 tz82 rfl (Qx7 hm9) rfl (Qx6 hm9) (Q9x hm9) (Q5q Qbf rfl),Qau (first:=[]) (cap:=[]) (vs:=[(Qrg p1)]) (σr:=[]) (σr':=[(Zip p1)]) (res':=(.own 5 1 (0) (p1.length))) [5] rfl Zrx (Qmz N p1 _ hf10) rfl (Qbp (rnc (pld Qaj) rn0)) Qat (slc (Qbi Qaj) Qat) (Qdp rfl) rfl rfl rfl,Qa8 (vs:=[(.own 3 1 (0) ((p0.Elements.length:Int).toNat)),(.own 4 4 (0) ((p0.Elements.length:Int).toNat)),(.own 5 1 (0) (p1.length))]) rfl ts34 tz34 rfl (by rfl) rfl,Qa8 (vs:=[(Zc9 p0),(Zow p0 p1),(Qqe p2)]) rfl Zvy Zuk rfl (by rfl) rfl,tv⟩<|thn ?_
  refine Zbp (k:=6) [(1,1),(2,1)] hd0 (fun n hn=>hφ0 n (Nat.le_trans (nle rfl) hn)) Zrw rfl rfl (by kernel_rfl) (by kernel_rfl) (by kernel_rfl) Qtg (fun φ1 w1 hφ1 hd1=>?_)
  obtain⟨k16,hk_k16,h⟩:=jko h
  refine wjn (τ:=(List (List Qaa))×(List Qa1)×(List Int)×Int) (fun t=>k16 t=some r) (fun ⟨y12,y13,y14,y15⟩=>⟨mk 45 [(6,.ref 1 1 0 0),(7,.ref 2 1 0 0)],[(Q91 p0),Qtv,(.own 1 [[I 0]]),(Q4s y12),(Q4r y13),(.own 1 ((y14:List Int).map Qav)),(Q4q p0 p1 p2 y15)]⟩) (fun t h=>?_) ?_
  ·subst hk_k16
   obtain⟨y12,y13,y14,y15⟩:=t
   refine wxz<|Qah ?_
   obtain rfl:=osi h
   exact⟨_,(mto (n:=45) (l':=[(6,.ref 0 1 0 0),(7,.ref 1 1 0 0)]) (own':=[(.own 1 [[.ref 2 7 0 0]]),(.own 1 [[(I ((-1)))]]),(Q4q p0 p1 p2 y15),(Q4s y12),(Q4r y13),(.own 1 ((y14:List Int).map Qav))]) [(6,.ref 1 1 0 0),(7,.ref 2 1 0 0)] [1,2,6,3,4,5] [Qtv,(.own 1 [[(I ((-1)))]]),(Q4q p0 p1 p2 y15),(Q4s y12),(Q4r y13),(.own 1 ((y14:List Int).map Qav))] hφ0 (prr (prr pn)) (qb (lc (.rn (rqr rfl)) ln) (qb (lc rwl ln) (qb (lc (rnd Qan) (lc (rnd Qab) (lc (.rn (Qa5 rfl)) (lc (.rn (Qa5 rfl)) (lc (.rn (Qa5 rfl)) (lc (rnd Qak) (lc rwl ln))))))) (qc (spr Qag) (qc (spr Qay) (qc (spr Qaj) qn))))))),Qm6 (vs:=[.ref 2 7 0 0,I (-1)]) ⟨Qb2 (n:=0) (m:=1) (j:=0) (i:=0) (xs:=[[.ref 2 7 0 0]]) (by kernel_rfl) (by kernel_rfl) Qkp (by decide) rfl (nle rfl) rfl,Qb2 (n:=1) (m:=1) (j:=0) (i:=0) (xs:=[[I (-1)]]) (by kernel_rfl) (by kernel_rfl) ti3 (by decide) rfl (nle rfl) rfl,tv⟩ rfl (NLt.tup _ (nlc (NLt.ref _ _ _ _ (by decide)) (nlc (NLt.of0 nll) nl0))) (by kernel_rfl) (Qar (Qa4 (nlc (NLt.ref _ _ _ _ (by decide)) nl0)) (Qar (Qa4 (nlc (NLt.of0 nll) nl0)) (Qar (Qa4 (nlc (NLt.of0 (nld Qan _)) (nlc (NLt.of0 (nld Qab _)) (nlc (NLt.own _ _ _ _ (by decide)) (nlc (NLt.own _ _ _ _ (by decide)) (nlc (NLt.own _ _ _ _ (by decide)) (nlc (NLt.of0 (nld Qak _)) (nlc (NLt.of0 nll) nl0)))))))) (Qar (Qda Qag _) (Qar (Qda Qay _) (Qar (Qda Qaj _) Qbx))))))⟩
  ·skip
   refine wx tbk [(2,rp [(.tmp 27,(Qqr p0))] (I ((p0.Elements.length:Int))))] ⟨alm (c:=Qai) (l:=p0.Elements) (aln rfl underlying40 rfl),tv⟩<|Qao ?_
   refine wmr (mto (n:=45) (l':=[(1,(Qrg p1)),(6,.ref 1 1 0 0),(7,.ref 2 1 0 0),(27,(Qqr p0)),(28,(I ((p0.Elements.length:Int)))),(29,I 0)]) (own':=[(Q91 p0),Qtv,(.own 1 [[I 0]]),(.own 1 (((List.replicate (p0.Elements.length:Int).toNat ([])):List (List Qaa)).map Qaf)),(.own 4 (((List.replicate (p0.Elements.length:Int).toNat (⟨0,0,0,0⟩:Qa1)):List Qa1).map Qbf)),(Zip p1),(Zm2 p0 p1 p2)]) [(1,(Qrg p1)),(6,.ref 1 1 0 0),(7,.ref 2 1 0 0),(27,(Qqr p0)),(28,(I ((p0.Elements.length:Int)))),(29,I 0)] [0,1,2,3,4,5,6] [(Q91 p0),Qtv,(.own 1 [[I 0]]),(Ztg p0),(Ztf p0),(Zip p1),(Zm2 p0 p1 p2)] hφ1 (pc (rnd Qaj) (prr (prr (pc (rnd Qab) (pw (pw pn)))))) (qb (lc (rnd Qan) (lc (rnd Qab) ln)) (qb (lc (.rn (rqr rfl)) ln) (qb (lc rwl ln) (qc (spr Qag) (qc (spr Qay) (qc (spr Qaj) (qb (lc (rnd Qan) (lc (rnd Qab) (lc (.rn (Qa5 rfl)) (lc (.rn (Qa5 rfl)) (lc (.rn (Qa5 rfl)) (lc (rnd Qak) (lc rwl ln))))))) qn)))))))) ?_
   refine Qb3 (τ:=Int×(List (List Qaa))×(List Qa1)×(List Int)×Int) (fun n t=>Qef N p0 p1 p2 k16 n t.1 t.2.1 t.2.2.1 t.2.2.2.1 t.2.2.2.2=some r) (fun ⟨y17,y18,y19,y20,y21⟩=>⟨mk 45 [(1,(Qrg p1)),(6,.ref 1 1 0 0),(7,.ref 2 1 0 0),(27,(Qqr p0)),(28,(I ((p0.Elements.length:Int)))),(29,I y17)],[(Q91 p0),Qtv,(.own 1 [[I 0]]),(Qs0 y18),(Qsz y19),(Qsy y20),(Qs1 p0 p1 p2 y21)]⟩) (fun t h=>by rw[Qef] at h;cases h) (fun n27 ih t h=>?_) N (0,List.replicate (p0.Elements.length:Int).toNat ([]),List.replicate (p0.Elements.length:Int).toNat (⟨0,0,0,0⟩:Qa1),p1,0) h
   obtain⟨y17,y18,y19,y20,y21⟩:=t
   rw[Qef] at h
   skip
   refine wxz<|wsq ?_
   refine bfe h (fun hc28 h=>?_) fun hc28 h=>?_
   ·refine wft hc28<|Qap<|thn<|wsq<|Qao ?_
    obtain⟨x29,hg30,h⟩:=bno h
    obtain⟨hi31,hj32⟩:=gsm hg30
    refine wx tbk [(1,rp [(.tmp 27,(Qqr p0)),(.tmp 29,I y17)] (.dptr (Qai (x29)) 0))] ⟨aid rfl underlying40 Qmi rfl rfl hi31 (mgt Qai hj32) rfl,tv⟩ ?_
    obtain⟨x33,hg34,h⟩:=bno h
    obtain⟨hi35,hj36⟩:=gsm hg34
    obtain⟨x38,hf37,h⟩:=bno h
    obtain⟨x40,hf39,h⟩:=bno h
    rcases x40 with x41 |x42
    ·replace h:=Zjt h
     refine wy1 tbk [(5,rp [(.tmp 37,(Qrg p1)),(.tmp 38,I y17)] (.dptr (Qav (x33)) 0)),(7,rp [fu 74,(.tmp 36,(Qux x29)),(.tmp 40,I x33)] (I x38)),(8,⟨[fu 97,(.tmp 34,.ref 6 7 0 0),(.tmp 35,I y17),(.tmp 41,I x38)],[(6,(Qs1 p0 p1 p2 y21)),(3,(Qs0 y18)),(4,(Qsz y19)),(5,(Qsy y20))],(.tup []),[(6,(Q4p p0 p1 p2 x41)),(3,(.own 1 ((x41.2.1:List (List Qaa)).map Qaf))),(4,(.own 4 ((x41.2.2.1:List Qa1).map Qbf))),(5,(.own 1 ((x41.2.2.2:List Int).map Qav)))],false⟩)] ⟨aid rfl underlying27 ti3 rfl rfl hi35 (mgt Qav hj36) rfl,apv Zhi (Qkq N x29 x33 _ hf37) (nlc (NLt.agg _ (nlc nll (nlc (nld Qaz _) (nlcc (nlcc (nlc (nld Qaj _) nl0)))))) (nlc nll nl0)) nll,Qau (first:=[]) (cap:=[]) (vs:=[.ref 6 7 0 0,I y17,I x38]) (σr:=[(Qs1 p0 p1 p2 y21),(Qs0 y18),(Qsz y19),(Qsy y20)]) (σr':=[(Q4p p0 p1 p2 x41),(.own 1 ((x41.2.1:List (List Qaa)).map Qaf)),(.own 4 ((x41.2.2.1:List Qa1).map Qbf)),(.own 1 ((x41.2.2.2:List Int).map Qav))]) (res':=(.tup [])) [6,3,4,5] rfl Zhd (Qns N y17 x38 p0.Table p0.Elements ((p0.Elements.length:Int).toNat) ((p0.Elements.length:Int).toNat) p1.length p2 y21 y18 y19 y20 _ hf39) rfl (Qbp (rnc (Qa0 rfl) (rncc rn0))) (slc (Qam (rnc (pld Qan) (rnc (pld Qab) (rnc (Qd4 rfl) (rnc (Qd4 rfl) (rnc (Qd4 rfl) (rnc (pld Qak) (rnc (.plain _ nll) rn0)))))))) (slc (Qbi Qag) (slc (Qbi Qay) (slc (Qbi Qaj) Qat)))) (slc (Qam (rnc (pld Qan) (rnc (pld Qab) (rnc (Qdp rfl) (rnc (Qdp rfl) (rnc (Qdp rfl) (rnc (pld Qak) (rnc (.plain _ nll) rn0)))))))) (slc (Qbi Qag) (slc (Qbi Qay) (slc (Qbi Qaj) Qat)))) (.plain _ (NLt.tup _ nl0)) rfl rfl rfl,tv⟩<|bln<|thn<|wxz1<|thn ?_
     exact arm (mto (n:=45) [(1,(Qrg p1)),(6,.ref 1 1 0 0),(7,.ref 2 1 0 0),(27,(Qqr p0)),(28,(I ((p0.Elements.length:Int)))),(29,(I (w64 (y17+1))))] [0,1,2,3,4,5,6] [(Q91 p0),Qtv,(.own 1 [[I 0]]),(.own 1 ((x41.2.1:List (List Qaa)).map Qaf)),(.own 4 ((x41.2.2.1:List Qa1).map Qbf)),(.own 1 ((x41.2.2.2:List Int).map Qav)),(Q4p p0 p1 p2 x41)] hφ1 (pc (rnd Qaj) (prr (prr (pc (rnd Qab) (pw (pw pn)))))) (qb (lc (rnd Qan) (lc (rnd Qab) ln)) (qb (lc (.rn (rqr rfl)) ln) (qb (lc rwl ln) (qc (spr Qag) (qc (spr Qay) (qc (spr Qaj) (qb (lc (rnd Qan) (lc (rnd Qab) (lc (.rn (Qa5 rfl)) (lc (.rn (Qa5 rfl)) (lc (.rn (Qa5 rfl)) (lc (rnd Qak) (lc rwl ln))))))) qn)))))))) (ih (w64 (y17+1),x41.2.1,x41.2.2.1,x41.2.2.2,x41.1) h)
    ·replace h:=Zjs h
     refine Zh5 8 [rb [(.tmp 6,.ref 1 1 0 0)] [(1,Qtv)] (.ref 6 7 0 0),mv 8 (I y17),rb [(.tmp 9,.ref 7 7 0 0)] [(7,(.own 7 [[(K .u8 (x29.Kind)),(.dat 2 ((x29.From:List Qa6).map Qa3)),I x29.Level,I x29.Amount,I x29.Wide,I x29.Narrow,(.dat 1 ((x29.Weights:List Int).map Qav))]]))] (Qux x29),mv 1 (Qrg p1),mv 8 (I y17),rp [(.tmp 37,(Qrg p1)),(.tmp 38,I y17)] (.dptr (Qav (x33)) 0),rp [(.tmp 39,(.dptr (Qav (x33)) 0))] (I x33),rp [fu 74,(.tmp 36,(Qux x29)),(.tmp 40,I x33)] (I x38),⟨[fu 97,(.tmp 34,.ref 6 7 0 0),(.tmp 35,I y17),(.tmp 41,I x38),(.tmp 36,(Qux x29)),(.tmp 37,(Qrg p1)),(.tmp 38,I y17),(.tmp 39,(.dptr (Qav (x33)) 0)),(.tmp 40,I x33)],[(6,(Qs1 p0 p1 p2 y21)),(3,(Qs0 y18)),(4,(Qsz y19)),(5,(Qsy y20))],.any,[(6,.dead),(3,.dead),(4,.dead),(5,.dead)],false⟩] (by exact⟨by kernel_rfl,by kernel_rfl⟩) rfl (by kernel_rfl) rfl (PStep.to (by rfl) (PStep.more (rd':=[(.tmp 36,(Qux x29)),(.tmp 37,(Qrg p1)),(.tmp 38,I y17),(.tmp 39,(.dptr (Qav (x33)) 0)),(.tmp 40,I x33)]) (Q5t (first:=[]) (cap:=[]) (vs:=[.ref 6 7 0 0,I y17,I x38]) (σr:=[(Qs1 p0 p1 p2 y21),(Qs0 y18),(Qsz y19),(Qsy y20)]) [6,3,4,5] rfl Zhd (Qnr N y17 x38 p0.Table p0.Elements ((p0.Elements.length:Int).toNat) ((p0.Elements.length:Int).toNat) p1.length p2 y21 y18 y19 y20 _ hf39) rfl (Qbp (rnc (Qa0 rfl) (rncc rn0))) (slc (Qam (rnc (pld Qan) (rnc (pld Qab) (rnc (Qd4 rfl) (rnc (Qd4 rfl) (rnc (Qd4 rfl) (rnc (pld Qak) (rnc (.plain _ nll) rn0)))))))) (slc (Qbi Qag) (slc (Qbi Qay) (slc (Qbi Qaj) Qat)))) rfl rfl rfl))) (⟨fun _ _=>ald rfl Qkp (by decide) rfl (nle rfl) rfl,fun _ _=>amv rfl,fun _ _=>ald rfl Qmi (by decide) rfl (nle rfl) rfl,fun _ _=>amv rfl,fun _ _=>amv rfl,fun _ _=>aid rfl underlying27 ti3 rfl rfl hi35 (mgt Qav hj36) rfl,fun _ _=>ald_ rfl ti3 (by decide) (nle rfl) rfl,fun _ _=>apv Zhi (Qkq N x29 x33 _ hf37) (nlc (NLt.agg _ (nlc nll (nlc (nld Qaz _) (nlcc (nlcc (nlc (nld Qaj _) nl0)))))) (nlc nll nl0)) nll,fun _ h=>absurd rfl h,tv⟩) ?_ (by kernel_rfl) (by kernel_rfl) (by kernel_rfl)
     obtain rfl:=osi h
     exact⟨_,[[(.lit (.pointer none))],[I x42]],rfl,(Qr7 x42),(Q8q (nlc nll nl0) (Q8q (nlc nll nl0) Zra)),by kernel_rfl,_,(mto (n:=45) (l':=[(6,.ref 0 1 0 0),(7,.ref 1 1 0 0)]) (own':=[Zth,(.own 1 [[I x42]])]) [(6,.ref 1 1 0 0),(7,.ref 2 1 0 0)] [1,2] [Zth,(.own 1 [[I x42]])] hφ0 (prr (prr pn)) (qb (lc rwl ln) (qb (lc rwl ln) qn))),Qm6 (vs:=[(.lit (.pointer none)),I x42]) ⟨Qb2 (n:=0) (m:=1) (j:=0) (i:=0) (xs:=[[(.lit (.pointer none))]]) (by kernel_rfl) (by kernel_rfl) Qkp (by decide) rfl (nle rfl) rfl,Qb2 (n:=1) (m:=1) (j:=0) (i:=0) (xs:=[[I x42]]) (by kernel_rfl) (by kernel_rfl) ti3 (by decide) rfl (nle rfl) rfl,tv⟩ rfl (NLt.tup _ (nlc (NLt.of0 nll) (nlc (NLt.of0 nll) nl0))) (by kernel_rfl) (Qar (Qa4 (nlc (NLt.of0 nll) nl0)) (Qar (Qa4 (nlc (NLt.of0 nll) nl0)) Qbx))⟩
   ·exact wfn hc28<|Qbl<|Qax<|Qax<|Qbk rfl<|thn<|⟨(y18,y19,y20,y21),h,(mto (n:=45) [(6,.ref 1 1 0 0),(7,.ref 2 1 0 0)] [0,1,2,3,4,5,6] [(Q91 p0),Qtv,(.own 1 [[I 0]]),(Qs0 y18),(Qsz y19),(Qsy y20),(Qs1 p0 p1 p2 y21)] hφ1 (prr (prr pn)) (qb (lc (rnd Qan) (lc (rnd Qab) ln)) (qb (lc (.rn (rqr rfl)) ln) (qb (lc rwl ln) (qc (spr Qag) (qc (spr Qay) (qc (spr Qaj) (qb (lc (rnd Qan) (lc (rnd Qab) (lc (.rn (Qa5 rfl)) (lc (.rn (Qa5 rfl)) (lc (.rn (Qa5 rfl)) (lc (rnd Qak) (lc rwl ln))))))) qn))))))))⟩
theorem Qkd (N:Nat) (p0:GNet) (p1:(List Int)) (p2:(List Qaa)) (r:Int) (h:Qfs N p0 p1 p2=some (.inl r)):Spec prog 58 [(Zc9 p0),(Qrg p1),(Qqe p2)] [] (.tup [(.lit (.pointer none)),I r]) [(.own 1 [[(.lit (.pointer none))]]),(.own 1 [[I r]])]:=Qnu N p0 p1 p2 _ h
theorem Qkc (N:Nat) (p0:GNet) (p1:(List Int)) (p2:(List Qaa)) (r:(Int×Int×(List (List Qaa))×(List Qa1)×(List Int))) (h:Qfs N p0 p1 p2=some (.inr r)):Spec prog 58 [(Zc9 p0),(Qrg p1),(Qqe p2)] [] (.tup [.ref 2 7 0 0,I r.1]) [(.own 1 [[.ref 2 7 0 0]]),(.own 1 [[I r.1]]),(.own 7 [[(.dat 5 ((p0.Table:List GRow).map Qa7)),(.dat 7 ((p0.Elements:List Qad).map Qai)),(.own 3 1 (0) ((p0.Elements.length:Int).toNat)),(.own 4 4 (0) ((p0.Elements.length:Int).toNat)),(.own 5 1 (0) (p1.length)),(.dat 4 ((p2:List Qaa).map Qae)),I r.2.1]]),(.own 1 ((r.2.2.1:List (List Qaa)).map Qaf)),(.own 4 ((r.2.2.2.1:List Qa1).map Qbf)),(.own 1 ((r.2.2.2.2:List Int).map Qav))]:=Qnu N p0 p1 p2 _ h
def Qpu (N:Nat) (p0:GNet) (p1:(List Int)) (p2:(List Qaa)):Option (Qhw×Int×Int):=
  (Qkt N p0 p1 p2).bind fun x11=>
  bif (x11 != 0) then
   some ((⟨[],[],[]⟩:Qhw),0,x11)
  else
   (Qfs N p0 p1 p2).bind (
    Sum.elim (fun x15=>
      bif (decide (x15≥0)) then
       some ((⟨[],[],[]⟩:Qhw),x15,11)
      else
       none)
    (fun x17=>
      bif (decide (x17.1≥0)) then
       some ((⟨[],[],[]⟩:Qhw),x17.1,11)
      else
       chk (decide ((p0.Elements.length:Int).toNat≤x17.2.2.1.length))<|
       chk (decide ((p0.Elements.length:Int).toNat≤x17.2.2.2.1.length))<|
       chk (decide (p1.length≤x17.2.2.2.2.length))<|
       some ((⟨x17.2.2.1.take ((p0.Elements.length:Int).toNat),x17.2.2.2.1.take ((p0.Elements.length:Int).toNat),x17.2.2.2.2.take p1.length⟩:Qhw),0,0)))
def Zo1 (p0:GNet):AV:=.dat 5 ((p0.Table:List GRow).map Qa7)
def Zo0 (p0:GNet):AV:=.dat 7 ((p0.Elements:List Qad).map Qai)
def Zdd (p0:GNet):AV:=.agg [(Zo1 p0),(Zo0 p0)]
def Zdb (p1:(List Int)):AV:=.dat 1 ((p1:List Int).map Qav)
def Q92 (p2:(List Qaa)):AV:=.dat 4 ((p2:List Qaa).map Qae)
def Zox:AV:=.agg [nilS,nilS,nilS]
def Zde:Slot:=.own 3 [[(.dat 1 ((((⟨[],[],[]⟩:Qhw).Out):List (List Qaa)).map Qaf)),(.dat 4 ((((⟨[],[],[]⟩:Qhw).Lost):List Qa1).map Qbf)),(.dat 1 ((((⟨[],[],[]⟩:Qhw).State):List Int).map Qav))]]
def Zoy:Slot:=.own 3 [[nilS,nilS,nilS]]
def Q65:AV:=.dat 1 (((⟨[],[],[]⟩:Qhw).Out:List (List Qaa)).map Qaf)
def Q64:AV:=.dat 4 (((⟨[],[],[]⟩:Qhw).Lost:List Qa1).map Qbf)
def Q63:AV:=.dat 1 (((⟨[],[],[]⟩:Qhw).State:List Int).map Qav)
def Zdc:AV:=.agg [Q65,Q64,Q63]
def Zti:Slot:=.own 1 [[(.lit (.pointer none))]]
def Zda:Slot:=.own 1 [[(.ref 4 7 (0) 0)]]
def Qya (p0:GNet) (p1:(List Int)) (p2:(List Qaa)) (x17:(Int×Int×(List (List Qaa))×(List Qa1)×(List Int))):Slot:=.own 7 [[(Zo1 p0),(Zo0 p0),(.own 5 1 (0) ((p0.Elements.length:Int).toNat)),(.own 6 4 (0) ((p0.Elements.length:Int).toNat)),(.own 7 1 (0) (p1.length)),(Q92 p2),(I (x17.2.1))]]
def Qrh (x17:(Int×Int×(List (List Qaa))×(List Qa1)×(List Int))) (p0:GNet):AV:=.dat 1 ((x17.2.2.1.take ((p0.Elements.length:Int).toNat):List (List Qaa)).map Qaf)
def Zoz (p0:GNet):Slot:=.own 2 [[(Zo1 p0),(Zo0 p0)]]
def Qx9 (x17:(Int×Int×(List (List Qaa))×(List Qa1)×(List Int))) (p0:GNet):AV:=.dat 4 ((x17.2.2.2.1.take ((p0.Elements.length:Int).toNat):List Qa1).map Qbf)
def Zm5 (x17:(Int×Int×(List (List Qaa))×(List Qa1)×(List Int))) (p0:GNet) (p1:(List Int)):AV:=.dat 1 (((⟨x17.2.2.1.take ((p0.Elements.length:Int).toNat),x17.2.2.2.1.take ((p0.Elements.length:Int).toNat),x17.2.2.2.2.take p1.length⟩:Qhw).Out:List (List Qaa)).map Qaf)
def Zm4 (x17:(Int×Int×(List (List Qaa))×(List Qa1)×(List Int))) (p0:GNet) (p1:(List Int)):AV:=.dat 4 (((⟨x17.2.2.1.take ((p0.Elements.length:Int).toNat),x17.2.2.2.1.take ((p0.Elements.length:Int).toNat),x17.2.2.2.2.take p1.length⟩:Qhw).Lost:List Qa1).map Qbf)
def Zm3 (x17:(Int×Int×(List (List Qaa))×(List Qa1)×(List Int))) (p0:GNet) (p1:(List Int)):AV:=.dat 1 (((⟨x17.2.2.1.take ((p0.Elements.length:Int).toNat),x17.2.2.2.1.take ((p0.Elements.length:Int).toNat),x17.2.2.2.2.take p1.length⟩:Qhw).State:List Int).map Qav)
theorem Qwm (N:Nat) (p0:GNet) (p1:(List Int)) (p2:(List Qaa)) (r:(Qhw×Int×Int)) (h:Qpu N p0 p1 p2=some r):Spec prog 16 [(.agg (Qhv p0)),(.dat 1 (p1.map Qav)),(.dat 4 (p2.map Qae))] [] (.tup [(.agg [(.dat 1 ((r.1.Out:List (List Qaa)).map Qaf)),(.dat 4 ((r.1.Lost:List Qa1).map Qbf)),(.dat 1 ((r.1.State:List Int).map Qav))]),(I (r.2.1)),(I (r.2.2))]) []:=by
  refine Qal func16 rfl 0 (nle rfl) (fun X φ0 w0 hφ0 hd0=>?_)
  unfold Qpu at h
  refine Qbv<|wxz<|wsq ?_
  obtain⟨x11,hf10,h⟩:=bno h
  refine wx tbk [(3,rp [fu 57,(.tmp 12,(Zdd p0)),(.tmp 13,(Zdb p1)),(.tmp 14,(Q92 p2))] (I x11))] ⟨apv Zhl (Qqk N p0 p1 p2 _ hf10) (nlc (NLt.agg _ (nlc (nld Qan _) (nlc (nld Qab _) nl0))) (nlc (nld Qaj _) (nlc (nld Qak _) nl0))) nll,tv⟩<|wxz ?_
  refine bfe h (fun hc12 h=>?_) fun hc12 h=>?_
  ·refine wft hc12<|wx tbk [(0,rp [] Zox)] ⟨Qa8 (vs:=[]) rfl ts34 tz34 rfl (by rfl) rfl,tv⟩ ?_
   refine wmr (mto (n:=35) (l':=[(6,.ref 0 3 0 0),(7,I 0),(8,I x11)]) (own':=[Zde]) [(6,.ref 1 3 0 0),(7,I 0),(8,I x11)] [1] [Zoy] hφ0 (prr (pw (pw pn))) (qb (lc (.nil _) (lc (.nil _) (lc (.nil _) ln))) qn))<|Qah<|Qac ?_
   obtain rfl:=osi h
   exact⟨_,Mor.rfl,⟨⟨[Zdc,I 0,I x11],⟨Qb2 (n:=0) (m:=3) (j:=0) (i:=0) (xs:=[[Q65,Q64,Q63]]) (by kernel_rfl) (by kernel_rfl) ti34 (by decide) rfl (nle rfl) rfl,rot,rot,tv⟩,rfl⟩,(NLt.tup _ (nlc (NLt.agg _ (nlc (nld Qag _) (nlc (nld Qay _) (nlc (nld Qaj _) nl0)))) (nlcc nl0))),Nat.le_refl _,fun n hn=>absurd hn (Nat.not_lt_zero n)⟩⟩
  ·refine wfn hc12<|Qap<|thn ?_
   obtain⟨x14,hf13,h⟩:=bno h
   rcases x14 with x15 |x17
   ·replace h:=Zjt h
    refine wx tbk [(3,⟨[fu 58,(.tmp 21,(Zdd p0)),(.tmp 22,(Zdb p1)),(.tmp 23,(Q92 p2))],[(2,.unused),(3,.unused)],(.tup [(.lit (.pointer none)),I x15]),[(2,Zti),(3,.own 1 [[I x15]])],false⟩)] ⟨Qau (first:=[]) (cap:=[]) (vs:=[(Zdd p0),(Zdb p1),(Q92 p2)]) (σr:=[]) (σr':=[Zti,(.own 1 [[I x15]])]) (res':=(.tup [(.lit (.pointer none)),I x15])) [2,3] rfl Qtp (Qkd N p0 p1 p2 _ hf13) rfl (Qbp (rnc (.plain _ (NLt.agg _ (nlc (nld Qan _) (nlc (nld Qab _) nl0)))) (rnc (pld Qaj) (rnc (pld Qak) rn0)))) Qat (slc (Qam (rnc (.plain _ nll) rn0)) (slc (Qam (rnc (.plain _ nll) rn0)) Qat)) (.plain _ (NLt.tup _ (nlcc nl0))) rfl rfl rfl,tv⟩<|wsq<|wxz ?_
    refine bfe h (fun hc16 h=>?_) fun hc16 h=>?_
    ·refine wft hc16<|wx tbk [(0,rp [] Zox)] ⟨Qa8 (vs:=[]) rfl ts34 tz34 rfl (by rfl) rfl,tv⟩ ?_
     refine wmr (mto (n:=35) (l':=[(6,.ref 0 3 0 0),(7,I x15),(8,I 11)]) (own':=[Zde]) [(6,.ref 1 3 0 0),(7,I x15),(8,I 11)] [1] [Zoy] hφ0 (prr (pw (pw pn))) (qb (lc (.nil _) (lc (.nil _) (lc (.nil _) ln))) qn))<|Qah<|Qac ?_
     obtain rfl:=osi h
     exact⟨_,Mor.rfl,⟨⟨[Zdc,I x15,I 11],⟨Qb2 (n:=0) (m:=3) (j:=0) (i:=0) (xs:=[[Q65,Q64,Q63]]) (by kernel_rfl) (by kernel_rfl) ti34 (by decide) rfl (nle rfl) rfl,rot,rot,tv⟩,rfl⟩,(NLt.tup _ (nlc (NLt.agg _ (nlc (nld Qag _) (nlc (nld Qay _) (nlc (nld Qaj _) nl0)))) (nlcc nl0))),Nat.le_refl _,fun n hn=>absurd hn (Nat.not_lt_zero n)⟩⟩
    ·refine wfn hc16<|Qap<|thn ?_
     cases h
   ·replace h:=Zjs h
    refine wx tbk [(3,⟨[fu 58,(.tmp 21,(Zdd p0)),(.tmp 22,(Zdb p1)),(.tmp 23,(Q92 p2))],[(2,.unused),(3,.unused),(4,.unused),(5,.unused),(6,.unused),(7,.unused)],(.tup [.ref 4 7 0 0,I x17.1]),[(2,Zda),(3,.own 1 [[I x17.1]]),(4,(Qya p0 p1 p2 x17)),(5,(.own 1 ((x17.2.2.1:List (List Qaa)).map Qaf))),(6,(.own 4 ((x17.2.2.2.1:List Qa1).map Qbf))),(7,(.own 1 ((x17.2.2.2.2:List Int).map Qav)))],false⟩)] ⟨Qau (first:=[]) (cap:=[]) (vs:=[(Zdd p0),(Zdb p1),(Q92 p2)]) (σr:=[]) (σr':=[Zda,(.own 1 [[I x17.1]]),(Qya p0 p1 p2 x17),(.own 1 ((x17.2.2.1:List (List Qaa)).map Qaf)),(.own 4 ((x17.2.2.2.1:List Qa1).map Qbf)),(.own 1 ((x17.2.2.2.2:List Int).map Qav))]) (res':=(.tup [.ref 4 7 0 0,I x17.1])) [2,3,4,5,6,7] rfl Qtp (Qkc N p0 p1 p2 _ hf13) rfl (Qbp (rnc (.plain _ (NLt.agg _ (nlc (nld Qan _) (nlc (nld Qab _) nl0)))) (rnc (pld Qaj) (rnc (pld Qak) rn0)))) Qat (slc (Qam (rnc (Qby rfl) rn0)) (slc (Qam (rnc (.plain _ nll) rn0)) (slc (Qam (rnc (pld Qan) (rnc (pld Qab) (rnc (Qdp rfl) (rnc (Qdp rfl) (rnc (Qdp rfl) (rnc (pld Qak) (rnc (.plain _ nll) rn0)))))))) (slc (Qbi Qag) (slc (Qbi Qay) (slc (Qbi Qaj) Qat)))))) (Zfx (rnc (Qby rfl) (rnc (.plain _ nll) rn0))) rfl rfl rfl,tv⟩<|wsq<|wxz ?_
    refine bfe h (fun hc18 h=>?_) fun hc18 h=>?_
    ·refine wft hc18<|wx tbk [(0,rp [] Zox)] ⟨Qa8 (vs:=[]) rfl ts34 tz34 rfl (by rfl) rfl,tv⟩ ?_
     refine wmr (mto (n:=35) (l':=[(6,.ref 0 3 0 0),(7,I x17.1),(8,I 11)]) (own':=[Zde]) [(6,.ref 1 3 0 0),(7,I x17.1),(8,I 11)] [1] [Zoy] hφ0 (prr (pw (pw pn))) (qb (lc (.nil _) (lc (.nil _) (lc (.nil _) ln))) qn))<|Qah<|Qac ?_
     obtain rfl:=osi h
     exact⟨_,Mor.rfl,⟨⟨[Zdc,I x17.1,I 11],⟨Qb2 (n:=0) (m:=3) (j:=0) (i:=0) (xs:=[[Q65,Q64,Q63]]) (by kernel_rfl) (by kernel_rfl) ti34 (by decide) rfl (nle rfl) rfl,rot,rot,tv⟩,rfl⟩,(NLt.tup _ (nlc (NLt.agg _ (nlc (nld Qag _) (nlc (nld Qay _) (nlc (nld Qaj _) nl0)))) (nlcc nl0))),Nat.le_refl _,fun n hn=>absurd hn (Nat.not_lt_zero n)⟩⟩
    ·refine wfn hc18<|Qap<|thn ?_
     refine wx tbk [(1,rb [(.tmp 31,.ref 4 7 0 0)] [(4,(Qya p0 p1 p2 x17))] (.ref 4 7 0 0))] ⟨Qbq rfl,tv⟩ ?_
     obtain⟨hz19,h⟩:=cko h
     refine wmr (Q50 (n:=35) (mp:=3) (m:=1) (xs:=(x17.2.2.1:List (List Qaa)).map Qaf) (c:=[(.own 5 1 (0) ((p0.Elements.length:Int).toNat)),(.own 6 4 (0) ((p0.Elements.length:Int).toNat)),(.own 7 1 (0) (p1.length))]) (l':=[(6,.ref 1 3 0 0),(7,I 0),(8,I 0)]) (c':=[(Qrh x17 p0),(.own 6 4 (0) ((p0.Elements.length:Int).toNat)),(.own 7 1 (0) (p1.length))]) (own':=[(Zoz p0),(.own 3 [[(Qrh x17 p0),(.own 6 4 (0) ((p0.Elements.length:Int).toNat)),(.own 7 1 (0) (p1.length))]]),Zda,(.own 1 [[I x17.1]]),(Qya p0 p1 p2 x17),.dead,(.own 4 ((x17.2.2.2.1:List Qa1).map Qbf)),(.own 1 ((x17.2.2.2.2:List Int).map Qav))]) 5 1 [(6,.ref 1 3 0 0),(7,I 0),(8,I 0)] (by kernel_rfl) (by kernel_rfl) (by kernel_rfl) (by kernel_rfl) ⟨(Qof hz19),(.same _),(.same _),tv⟩ ⟨rfl,(.same _),rfl,(.same _),rfl,(.same _),tv⟩ (by kernel_rfl)) ?_
     obtain⟨hz20,h⟩:=cko h
     refine wmr (Q50 (n:=35) (mp:=3) (m:=4) (xs:=(x17.2.2.2.1:List Qa1).map Qbf) (c:=[(Qrh x17 p0),(.own 6 4 (0) ((p0.Elements.length:Int).toNat)),(.own 7 1 (0) (p1.length))]) (l':=[(6,.ref 1 3 0 0),(7,I 0),(8,I 0)]) (c':=[(Qrh x17 p0),(Qx9 x17 p0),(.own 7 1 (0) (p1.length))]) (own':=[(Zoz p0),(.own 3 [[(Qrh x17 p0),(Qx9 x17 p0),(.own 7 1 (0) (p1.length))]]),Zda,(.own 1 [[I x17.1]]),(Qya p0 p1 p2 x17),.dead,.dead,(.own 1 ((x17.2.2.2.2:List Int).map Qav))]) 6 1 [(6,.ref 1 3 0 0),(7,I 0),(8,I 0)] (by kernel_rfl) (by kernel_rfl) (by kernel_rfl) (by kernel_rfl) ⟨(.same _),(Qof hz20),(.same _),tv⟩ ⟨rfl,(.same _),rfl,(.same _),rfl,(.same _),tv⟩ (by kernel_rfl)) ?_
     obtain⟨hz21,h⟩:=cko h
     refine wmr (Q50 (n:=35) (mp:=3) (m:=1) (xs:=(x17.2.2.2.2:List Int).map Qav) (c:=[(Qrh x17 p0),(Qx9 x17 p0),(.own 7 1 (0) (p1.length))]) (l':=[(6,.ref 1 3 0 0),(7,I 0),(8,I 0)]) (c':=[(Qrh x17 p0),(Qx9 x17 p0),(.dat 1 ((x17.2.2.2.2.take p1.length:List Int).map Qav))]) (own':=[(Zoz p0),(.own 3 [[(Qrh x17 p0),(Qx9 x17 p0),(.dat 1 ((x17.2.2.2.2.take p1.length:List Int).map Qav))]]),Zda,(.own 1 [[I x17.1]]),(Qya p0 p1 p2 x17),.dead,.dead,.dead]) 7 1 [(6,.ref 1 3 0 0),(7,I 0),(8,I 0)] (by kernel_rfl) (by kernel_rfl) (by kernel_rfl) (by kernel_rfl) ⟨(.same _),(.same _),(Qof hz21),tv⟩ ⟨rfl,(.same _),rfl,(.same _),rfl,(.same _),tv⟩ (by kernel_rfl)) ?_
     refine wmr (mto (n:=35) (l':=[(6,.ref 0 3 0 0),(7,I 0),(8,I 0)]) (own':=[(.own 3 [[(.dat 1 ((((⟨x17.2.2.1.take ((p0.Elements.length:Int).toNat),x17.2.2.2.1.take ((p0.Elements.length:Int).toNat),x17.2.2.2.2.take p1.length⟩:Qhw).Out):List (List Qaa)).map Qaf)),(.dat 4 ((((⟨x17.2.2.1.take ((p0.Elements.length:Int).toNat),x17.2.2.2.1.take ((p0.Elements.length:Int).toNat),x17.2.2.2.2.take p1.length⟩:Qhw).Lost):List Qa1).map Qbf)),(.dat 1 ((((⟨x17.2.2.1.take ((p0.Elements.length:Int).toNat),x17.2.2.2.1.take ((p0.Elements.length:Int).toNat),x17.2.2.2.2.take p1.length⟩:Qhw).State):List Int).map Qav))]])]) [(6,.ref 1 3 0 0),(7,I 0),(8,I 0)] [1] [(.own 3 [[(Qrh x17 p0),(Qx9 x17 p0),(.dat 1 ((x17.2.2.2.2.take p1.length:List Int).map Qav))]])] hφ0 (prr (pw (pw pn))) (qb (lc (rnd Qag) (lc (rnd Qay) (lc (rnd Qaj) ln))) qn))<|Qah ?_
     obtain rfl:=osi h
     exact⟨_,Mor.rfl,⟨⟨[(.agg [(Zm5 x17 p0 p1),(Zm4 x17 p0 p1),(Zm3 x17 p0 p1)]),I 0,I 0],⟨Qb2 (n:=0) (m:=3) (j:=0) (i:=0) (xs:=[[(Zm5 x17 p0 p1),(Zm4 x17 p0 p1),(Zm3 x17 p0 p1)]]) (by kernel_rfl) (by kernel_rfl) ti34 (by decide) rfl (nle rfl) rfl,rot,rot,tv⟩,rfl⟩,(NLt.tup _ (nlc (NLt.agg _ (nlc (nld Qag _) (nlc (nld Qay _) (nlc (nld Qaj _) nl0)))) (nlcc nl0))),Nat.le_refl _,fun n hn=>absurd hn (Nat.not_lt_zero n)⟩⟩
def Qq9 (_N:Nat):Option (GNet×(List Qaa)):=
  some ((⟨[(⟨100,101,419,2676,150⟩:GRow),(⟨150,476,632,2746,300⟩:GRow),(⟨200,1555,852,2793,600⟩:GRow)],[(⟨1,[],2,0,1000,1000000,[]⟩:Qad),(⟨3,[(⟨0,0⟩:Qa6)],2,2000,1000,1000000,[]⟩:Qad),(⟨4,[(⟨1,0⟩:Qa6)],0,100,1000,1000000,[]⟩:Qad)]⟩:GNet),[(⟨1000,852000,250000,50⟩:Qaa)])
def Zot:AV:=.agg [(I (100)),(I (101)),(I (419)),(I (2676)),(I (150))]
def Zos:AV:=.agg [(I (150)),(I (476)),(I (632)),(I (2746)),(I (300))]
def Zor:AV:=.agg [(I (200)),(I (1555)),(I (852)),(I (2793)),(I (600))]
def Q90:AV:=.dat 5 (([(⟨100,101,419,2676,150⟩:GRow),(⟨150,476,632,2746,300⟩:GRow),(⟨200,1555,852,2793,600⟩:GRow)]:List GRow).map Qa7)
def Ztc:AV:=.agg [(K .u8 (1)),nilS,(I (2)),(I (0)),(I (1000)),(I (1000000)),nilS]
def Zoq:AV:=.agg [(I (0)),(I (0))]
def Zcv:AV:=.dat 2 (([(⟨0,0⟩:Qa6)]:List Qa6).map Qa3)
def Ztb:AV:=.agg [(K .u8 (3)),Zcv,(I (2)),(I (2000)),(I (1000)),(I (1000000)),nilS]
def Zop:AV:=.agg [(I (1)),(I (0))]
def Zcu:AV:=.dat 2 (([(⟨1,0⟩:Qa6)]:List Qa6).map Qa3)
def Zmz:AV:=.agg [(K .u8 (4)),Zcu,(I (0)),(I (100)),(I (1000)),(I (1000000)),nilS]
def Qx8:AV:=.dat 7 (([(⟨1,[],2,0,1000,1000000,[]⟩:Qad),(⟨3,[(⟨0,0⟩:Qa6)],2,2000,1000,1000000,[]⟩:Qad),(⟨4,[(⟨1,0⟩:Qa6)],0,100,1000,1000000,[]⟩:Qad)]:List Qad).map Qai)
def Zcx:AV:=.dat 1 (([]:List Int).map Qav)
def Zmy:AV:=.agg [(K .u8 (1)),(.dat 2 (([]:List Qa6).map Qa3)),(I (2)),(I (0)),(I (1000)),(I (1000000)),Zcx]
def Zmx:AV:=.agg [(K .u8 (3)),Zcv,(I (2)),(I (2000)),(I (1000)),(I (1000000)),Zcx]
def Zmw:AV:=.agg [(K .u8 (4)),Zcu,(I (0)),(I (100)),(I (1000)),(I (1000000)),Zcx]
def Zcw:AV:=.agg [(I (1000)),(I (852000)),(I (250000)),(I (50))]
def Zmv:AV:=.dat 4 (([(⟨1000,852000,250000,50⟩:Qaa)]:List Qaa).map Qae)
theorem Qx1 (N:Nat) (r:(GNet×(List Qaa))) (h:Qq9 N=some r):Spec prog 55 [] [] (.tup [(.agg (Qhv r.1)),(.dat 4 (r.2.map Qae))]) []:=by
  refine Qal func55 rfl 0 (nle rfl) (fun X φ0 w0 hφ0 hd0=>?_)
  unfold Qq9 at h
  refine wxz<|wx tbk [(0,rp [ci 100,ci 101,ci 419,ci 2676,ci 150] Zot),(1,rp [ci 150,ci 476,ci 632,ci 2746,ci 300] Zos),(2,rp [ci 200,ci 1555,ci 852,ci 2793,ci 600] Zor),(3,rp [(.tmp 4,Zot),(.tmp 5,Zos),(.tmp 6,Zor)] Q90)] ⟨Qa8 (vs:=[I 100,I 101,I 419,I 2676,I 150]) rfl Zjo Q5g rfl (by rfl) rfl,Qa8 (vs:=[I 150,I 476,I 632,I 2746,I 300]) rfl Zjo Q5g rfl (by rfl) rfl,Qa8 (vs:=[I 200,I 1555,I 852,I 2793,I 600]) rfl Zjo Q5g rfl (by rfl) rfl,Qb7 (vs:=[Zot,Zos,Zor]) rfl underlying39 Qxz Q5g rfl (by decide) rfl (by decide) (by rfl) (by rfl) (by rfl) rfl,tv⟩ ?_
  refine wx tbk [(0,rp [(.const (.int .u8 1),(K .u8 (1))),ci 2,ci 1000,ci 1000000] Ztc),(1,rp [] Zoq),(2,rp [(.tmp 9,Zoq)] Zcv),(3,rp [(.const (.int .u8 3),(K .u8 (3))),(.tmp 10,Zcv),ci 2,ci 2000,ci 1000,ci 1000000] Ztb),(4,rp [ci 1] Zop),(5,rp [(.tmp 12,Zop)] Zcu),(6,rp [(.const (.int .u8 4),(K .u8 (4))),(.tmp 13,Zcu),ci 100,ci 1000,ci 1000000] Zmz),(7,rp [(.tmp 8,Ztc),(.tmp 11,Ztb),(.tmp 14,Zmz)] Qx8)] ⟨Qa8 (vs:=[(K .u8 (1)),I 2,I 1000,I 1000000]) rfl Zjp Q5h rfl (by rfl) rfl,Qa8 (vs:=[]) rfl Zfh Qxx rfl (by rfl) rfl,Qb7 (vs:=[Zoq]) rfl underlying116 Qry Qxx rfl (by decide) rfl (by decide) (by rfl) (by rfl) (by rfl) rfl,Qa8 (vs:=[(K .u8 (3)),Zcv,I 2,I 2000,I 1000,I 1000000]) rfl Zjp Q5h rfl (by rfl) rfl,Qa8 (vs:=[I 1]) rfl Zfh Qxx rfl (by rfl) rfl,Qb7 (vs:=[Zop]) rfl underlying116 Qry Qxx rfl (by decide) rfl (by decide) (by rfl) (by rfl) (by rfl) rfl,Qa8 (vs:=[(K .u8 (4)),Zcu,I 100,I 1000,I 1000000]) rfl Zjp Q5h rfl (by rfl) rfl,awk (rd':=[(.tmp 8,Zmy),(.tmp 11,Zmx),(.tmp 14,Zmw)]) ⟨rfl,(Less.agg ⟨lrf,Less.nil,lrf,lrf,lrf,lrf,Less.nil,tv⟩),rfl,(Less.agg ⟨lrf,lrf,lrf,lrf,lrf,lrf,Less.nil,tv⟩),rfl,(Less.agg ⟨lrf,lrf,lrf,lrf,lrf,lrf,Less.nil,tv⟩),tv⟩ (Qb7 (vs:=[Zmy,Zmx,Zmw]) rfl underlying40 Qmi Q5h rfl (by decide) rfl (by decide) (by rfl) (by rfl) (by rfl) rfl),tv⟩ ?_
  refine wx tbk [(2,rp [(.tmp 16,Q90),(.tmp 17,Qx8)] (.agg [Q90,Qx8])),(3,rp [ci 1000,ci 852000,ci 250000,ci 50] Zcw),(4,rp [(.tmp 19,Zcw)] Zmv)] ⟨Qa8 (vs:=[Q90,Qx8]) rfl ts42 tz42 rfl (by rfl) rfl,Qa8 (vs:=[I 1000,I 852000,I 250000,I 50]) rfl ts63 tz63 rfl (by rfl) rfl,Qb7 (vs:=[Zcw]) rfl underlying45 ti63 tz63 rfl (by decide) rfl (by decide) (by rfl) (by rfl) (by rfl) rfl,tv⟩<|Qah ?_
  obtain rfl:=osi h
  exact fend ⟨[(.agg [Q90,Qx8]),Zmv],⟨Qb2 (n:=0) (m:=2) (j:=0) (i:=0) (xs:=[[Q90,Qx8]]) (by kernel_rfl) (by kernel_rfl) ti42 (by decide) rfl (nle rfl) rfl,rot,tv⟩,rfl⟩ (NLt.tup _ (nlc (NLt.agg _ (nlc (nld Qan _) (nlc (nld Qab _) nl0))) (nlc (nld Qak _) nl0)))
def Qhb (N:Nat):Option Bool:=
  (Qq9 2000 ).bind fun x2=>
  (Qkv N (⟨x2.1.Table,x2.1.Elements⟩:GNet)).bind fun x4=>
  (Qpu N (⟨x2.1.Table,x2.1.Elements⟩:GNet) ([0,0,0]) x2.2).bind fun x6=>
  bif (x4.2==0) then
   bif (x6.2.2==0) then
    bif ((x4.1.length:Int)==2) then
     (getI x4.1 1).bind fun x10=>
     bif (([x10.Element,x10.Outlet]:List Int)==[2,1]) then
      bif ((x6.1.Out.length:Int)==3) then
       (getI x6.1.Out 2).bind fun x16=>
       bif ((x16.length:Int)==2) then
        bif ((x6.1.Lost.length:Int)==3) then
         (getI x16 0).bind fun x22=>
         bif (([x22.Mass,x22.Heat,x22.Silica,x22.Gas]:List Int)==[271,542596,12150,50]) then
          (getI x16 1).bind fun x27=>
          bif (([x27.Mass,x27.Heat,x27.Silica,x27.Gas]:List Int)==[729,307404,109350,0]) then
           (getI x6.1.Lost 1).bind fun x32=>
           bif (x32.Heat==2000) then
            (getI x6.1.Lost 2).bind fun x37=>
            some (x37.Scale==128500)
           else
            some false
          else
           some false
         else
          some false
        else
         some false
       else
        some false
      else
       some false
     else
      some false
    else
     some false
   else
    some false
  else
   some false
def Zov (x2:(GNet×(List Qaa))):AV:=.agg [(.dat 5 ((x2.1.Table:List GRow).map Qa7)),(.dat 7 ((x2.1.Elements:List Qad).map Qai))]
def Zte (x2:(GNet×(List Qaa))):AV:=.dat 4 ((x2.2:List Qaa).map Qae)
def Zou (x4:((List Qa6)×Int)):AV:=.dat 2 ((x4.1:List Qa6).map Qa3)
def Ztd:AV:=.dat 1 (([0,0,0]:List Int).map Qav)
def Zcy (x6:(Qhw×Int×Int)):AV:=.dat 1 ((x6.1.Out:List (List Qaa)).map Qaf)
def Zio (x6:(Qhw×Int×Int)):AV:=.dat 4 ((x6.1.Lost:List Qa1).map Qbf)
def Zc7 (x4:((List Qa6)×Int)):List (Nat×Rec):=[(2,rp [((.tmp 26),(B ((x4.2==0))))] (B (true)))]
def Zc6 (x4) (x6:(Qhw×Int×Int)):=hcat (Zc7 x4) [(6,rp [((.tmp 30),(B ((x6.2.2==0))))] (B (true))),(8,rp [((.tmp 31),(B (true))),((.tmp 32),(Zou x4))] (I ((x4.1.length:Int))))]
def Zc5 (x4) (x6) (x10:Qa6):=hcat (Zc6 x4 x6) [(11,rp [((.tmp 35),(B (((x4.1.length:Int)==2))))] (B (true))),(13,rp [((.tmp 36),(B (true))),((.tmp 37),(Zou x4)),ci 1] (.dptr (Qa3 (x10)) 0)),(15,rp [((.tmp 36),(B (true))),ci 2,ci 1] (.agg [(I (2)),(I (1))])),(16,rp [((.tmp 36),(B (true))),((.tmp 39),(.agg [(I (x10.Element)),(I (x10.Outlet))])),((.tmp 40),(.agg [(I (2)),(I (1))]))] (B ((([x10.Element,x10.Outlet]:List Int)==[2,1]))))]
def Zc4 (x4) (x6) (x10):=hcat (Zc5 x4 x6 x10) [(18,rp [((.tmp 42),(B ((([x10.Element,x10.Outlet]:List Int)==[2,1]))))] (B (true))),(21,rp [((.tmp 43),(B (true))),((.tmp 45),(Zcy x6))] (I ((x6.1.Out.length:Int))))]
def Zc8 (x16:(List Qaa)):AV:=.dat 4 ((x16:List Qaa).map Qae)
def Zc3 (x4) (x6) (x10) (x16:(List Qaa)):=hcat (Zc4 x4 x6 x10) [(24,rp [((.tmp 48),(B (((x6.1.Out.length:Int)==3))))] (B (true))),(27,rp [((.tmp 49),(B (true))),((.tmp 51),(Zcy x6)),ci 2] (.dptr (Qaf (x16)) 0)),(29,rp [((.tmp 49),(B (true))),((.tmp 53),(Zc8 x16))] (I ((x16.length:Int))))]
def Zc2 (x4) (x6) (x10) (x16):=hcat (Zc3 x4 x6 x10 x16) [(32,rp [((.tmp 56),(B (((x16.length:Int)==2))))] (B (true))),(35,rp [((.tmp 57),(B (true))),((.tmp 59),(Zio x6))] (I ((x6.1.Lost.length:Int))))]
def Zm1:AV:=.agg [(I (271)),(I (542596)),(I (12150)),(I (50))]
def Zc1 (x4) (x6) (x10) (x16) (x22:Qaa):=hcat (Zc2 x4 x6 x10 x16) [(38,rp [((.tmp 62),(B (((x6.1.Lost.length:Int)==3))))] (B (true))),(41,rp [((.tmp 63),(B (true))),((.tmp 65),(Zcy x6)),ci 2] (.dptr (Qaf (x16)) 0)),(43,rp [((.tmp 63),(B (true))),((.tmp 67),(Zc8 x16)),ci 0] (.dptr (Qae (x22)) 0)),(45,rp [((.tmp 63),(B (true))),ci 271,ci 542596,ci 12150,ci 50] Zm1),(46,rp [((.tmp 63),(B (true))),((.tmp 69),(.agg [(I (x22.Mass)),(I (x22.Heat)),(I (x22.Silica)),(I (x22.Gas))])),((.tmp 70),Zm1)] (B ((([x22.Mass,x22.Heat,x22.Silica,x22.Gas]:List Int)==[271,542596,12150,50]))))]
def Zm0:AV:=.agg [(I (729)),(I (307404)),(I (109350)),(I (0))]
def Zc0 (x4) (x6) (x10) (x16) (x22) (x27:Qaa):=hcat (Zc1 x4 x6 x10 x16 x22) [(48,rp [((.tmp 72),(B ((([x22.Mass,x22.Heat,x22.Silica,x22.Gas]:List Int)==[271,542596,12150,50]))))] (B (true))),(51,rp [((.tmp 73),(B (true))),((.tmp 75),(Zcy x6)),ci 2] (.dptr (Qaf (x16)) 0)),(53,rp [((.tmp 73),(B (true))),((.tmp 77),(Zc8 x16)),ci 1] (.dptr (Qae (x27)) 0)),(55,rp [((.tmp 73),(B (true))),ci 729,ci 307404,ci 109350] Zm0),(56,rp [((.tmp 73),(B (true))),((.tmp 79),(.agg [(I (x27.Mass)),(I (x27.Heat)),(I (x27.Silica)),(I (x27.Gas))])),((.tmp 80),Zm0)] (B ((([x27.Mass,x27.Heat,x27.Silica,x27.Gas]:List Int)==[729,307404,109350,0]))))]
def Zcz (x4) (x6) (x10) (x16) (x22) (x27) (x32:Qa1):=hcat (Zc0 x4 x6 x10 x16 x22 x27) [(58,rp [((.tmp 82),(B ((([x27.Mass,x27.Heat,x27.Silica,x27.Gas]:List Int)==[729,307404,109350,0]))))] (B (true))),(61,rp [((.tmp 83),(B (true))),((.tmp 85),(Zio x6)),ci 1] (.dptr (Qbf (x32)) 0))]
theorem Qhu (N:Nat) (r:Bool) (h:Qhb N=some r):Spec prog 15 [] [] (B r) []:=by
  refine Qal func15 rfl 0 (nle rfl) (fun X φ0 w0 hφ0 hd0=>?_)
  unfold Qhb at h
  refine wxz ?_
  obtain⟨x2,hf1,h⟩:=bno h
  refine wx tbk [(0,rp [fu 55] (.tup [(Zov x2),(Zte x2)]))] ⟨apv Zsc (Qx1 2000  _ hf1) nl0 (NLt.tup _ (nlc (NLt.agg _ (nlc (nld Qan _) (nlc (nld Qab _) nl0))) (nlc (nld Qak _) nl0))),tv⟩ ?_
  obtain⟨x4,hf3,h⟩:=bno h
  refine wx tbk [(1,rp [fu 47,(.tmp 13,(Zov x2))] (.tup [(Zou x4),I x4.2]))] ⟨apv Zhm (Qr8 N (⟨x2.1.Table,x2.1.Elements⟩:GNet) _ hf3) (nlc (NLt.agg _ (nlc (nld Qan _) (nlc (nld Qab _) nl0))) nl0) (NLt.tup _ (nlc (nld Qaz _) (nlc nll nl0))),tv⟩ ?_
  obtain⟨x6,hf5,h⟩:=bno h
  refine wx tbk [(1,rp [ci 0,ci 0,ci 0] Ztd),(3,rp [fu 16,(.tmp 18,(Zov x2)),(.tmp 19,Ztd),(.tmp 20,(Zte x2))] (.tup [(.agg [(Zcy x6),(Zio x6),(.dat 1 ((x6.1.State:List Int).map Qav))]),I x6.2.1,I x6.2.2]))] ⟨Qb7 (vs:=[I 0,I 0,I 0]) rfl underlying27 ti3 tz3 rfl (by decide) rfl (by decide) (by rfl) (by rfl) (by rfl) rfl,apv Zho (Qwm N (⟨x2.1.Table,x2.1.Elements⟩:GNet) ([0,0,0]) x2.2 _ hf5) (nlc (NLt.agg _ (nlc (nld Qan _) (nlc (nld Qab _) nl0))) (nlc (nld Qaj _) (nlc (nld Qak _) nl0))) (NLt.tup _ (nlc (NLt.agg _ (nlc (nld Qag _) (nlc (nld Qay _) (nlc (nld Qaj _) nl0)))) (nlcc nl0))),tv⟩ ?_
  refine bfe h (fun hb7 h=>?_) fun hb7 h=>?_
  ·refine hpre (A:=(Zc7 x4)) ⟨asb hb7 (amv rfl),tv⟩ fun q1_=>?_
   refine bfe h (fun hb8 h=>?_) fun hb8 h=>?_
   ·refine hpre (A:=(Zc6 x4 x6)) (hap q1_ ⟨asb hb8 (amv rfl),ag_ (alm (c:=Qa3) (l:=x4.1) (aln rfl underlying116 rfl)),tv⟩) fun q2_=>?_
    refine bfe h (fun hb9 h=>?_) fun hb9 h=>?_
    ·obtain⟨x10,hg11,h⟩:=bno h
     obtain⟨hi12,hj13⟩:=gsm hg11
     refine hpre (A:=(Zc5 x4 x6 x10)) (hap q2_ ⟨asb hb9 (amv rfl),ag_ (aid rfl underlying116 Qry rfl rfl hi12 (mgt Qa3 hj13) rfl),ag_ (Qa8 (vs:=[I 2,I 1]) rfl Zfh Qxx rfl (by rfl) rfl),ag_ (Qss (ls:=[x10.Element,x10.Outlet]) (ks:=[2,1]) rfl rfl Qw5 (by kernel_rfl) rfl rfl),tv⟩) fun q3_=>?_
     refine bfe h (fun hb14 h=>?_) fun hb14 h=>?_
     ·refine hpre (A:=(Zc4 x4 x6 x10)) (hap q3_ ⟨asb hb14 (amv rfl),ag_ (alm (c:=Qaf) (l:=x6.1.Out) (aln rfl underlying31 rfl)),tv⟩) fun q4_=>?_
      refine bfe h (fun hb15 h=>?_) fun hb15 h=>?_
      ·obtain⟨x16,hg17,h⟩:=bno h
       obtain⟨hi18,hj19⟩:=gsm hg17
       refine hpre (A:=(Zc3 x4 x6 x10 x16)) (hap q4_ ⟨asb hb15 (amv rfl),ag_ (aid rfl underlying31 ti45 rfl rfl hi18 (mgt Qaf hj19) rfl),ag_ (alm (c:=Qae) (l:=x16) (aln rfl underlying45 rfl)),tv⟩) fun q5_=>?_
       refine bfe h (fun hb20 h=>?_) fun hb20 h=>?_
       ·refine hpre (A:=(Zc2 x4 x6 x10 x16)) (hap q5_ ⟨asb hb20 (amv rfl),ag_ (alm (c:=Qbf) (l:=x6.1.Lost) (aln rfl underlying32 rfl)),tv⟩) fun q6_=>?_
        refine bfe h (fun hb21 h=>?_) fun hb21 h=>?_
        ·obtain⟨x22,hg23,h⟩:=bno h
         obtain⟨hi24,hj25⟩:=gsm hg23
         refine hpre (A:=(Zc1 x4 x6 x10 x16 x22)) (hap q6_ ⟨asb hb21 (amv rfl),ag_ (aid rfl underlying31 ti45 rfl rfl hi18 (mgt Qaf hj19) rfl),ag_ (aid rfl underlying45 ti63 rfl rfl hi24 (mgt Qae hj25) rfl),ag_ (Qa8 (vs:=[I 271,I 542596,I 12150,I 50]) rfl ts63 tz63 rfl (by rfl) rfl),ag_ (Qss (ls:=[x22.Mass,x22.Heat,x22.Silica,x22.Gas]) (ks:=[271,542596,12150,50]) rfl rfl Zu4 (by kernel_rfl) rfl rfl),tv⟩) fun q7_=>?_
         refine bfe h (fun hb26 h=>?_) fun hb26 h=>?_
         ·obtain⟨x27,hg28,h⟩:=bno h
          obtain⟨hi29,hj30⟩:=gsm hg28
          refine hpre (A:=(Zc0 x4 x6 x10 x16 x22 x27)) (hap q7_ ⟨asb hb26 (amv rfl),ag_ (aid rfl underlying31 ti45 rfl rfl hi18 (mgt Qaf hj19) rfl),ag_ (aid rfl underlying45 ti63 rfl rfl hi29 (mgt Qae hj30) rfl),ag_ (Qa8 (vs:=[I 729,I 307404,I 109350]) rfl ts63 tz63 rfl (by rfl) rfl),ag_ (Qss (ls:=[x27.Mass,x27.Heat,x27.Silica,x27.Gas]) (ks:=[729,307404,109350,0]) rfl rfl Zu4 (by kernel_rfl) rfl rfl),tv⟩) fun q8_=>?_
          refine bfe h (fun hb31 h=>?_) fun hb31 h=>?_
          ·obtain⟨x32,hg33,h⟩:=bno h
           obtain⟨hi34,hj35⟩:=gsm hg33
           refine hpre (A:=(Zcz x4 x6 x10 x16 x22 x27 x32)) (hap q8_ ⟨asb hb31 (amv rfl),ag_ (aid rfl underlying32 ti82 rfl rfl hi34 (mgt Qbf hj35) rfl),tv⟩) fun q9_=>?_
           refine bfe h (fun hb36 h=>?_) fun hb36 h=>?_
           ·obtain⟨x37,hg38,h⟩:=bno h
            obtain⟨hi39,hj40⟩:=gsm hg38
            refine wx tbk (hcat (Zcz x4 x6 x10 x16 x22 x27 x32) [(66,rp [(.tmp 90,(B ((x32.Heat==2000))))] (B true)),(69,rp [(.tmp 91,B true),(.tmp 93,(Zio x6)),ci 2] (.dptr (Qbf (x37)) 0))]) (hap q9_ ⟨asb hb36 (amv rfl),ag_ (aid rfl underlying32 ti82 rfl rfl hi39 (mgt Qbf hj40) rfl),tv⟩)<|Qah ?_
            obtain rfl:=osi h
            exact fend ⟨[(B ((x37.Scale==128500)))],⟨rot,tv⟩,rfl⟩ nll
           ·exact wx tbk (hcat (Zcz x4 x6 x10 x16 x22 x27 x32) [(66,rp [(.tmp 90,(B ((x32.Heat==2000))))] (B false))]) (hap q9_ ⟨asb hb36 (amv rfl),tv⟩)<|Qah<|frb h
          ·exact wx tbk (hcat (Zc0 x4 x6 x10 x16 x22 x27) [(58,rp [(.tmp 82,(B ((([x27.Mass,x27.Heat,x27.Silica,x27.Gas]:List Int)==[729,307404,109350,0]))))] (B false))]) (hap q8_ ⟨asb hb31 (amv rfl),tv⟩)<|Qah<|frb h
         ·exact wx tbk (hcat (Zc1 x4 x6 x10 x16 x22) [(48,rp [(.tmp 72,(B ((([x22.Mass,x22.Heat,x22.Silica,x22.Gas]:List Int)==[271,542596,12150,50]))))] (B false))]) (hap q7_ ⟨asb hb26 (amv rfl),tv⟩)<|Qah<|frb h
        ·exact wx tbk (hcat (Zc2 x4 x6 x10 x16) [(38,rp [(.tmp 62,(B (((x6.1.Lost.length:Int)==3))))] (B false))]) (hap q6_ ⟨asb hb21 (amv rfl),tv⟩)<|Qah<|frb h
       ·exact wx tbk (hcat (Zc3 x4 x6 x10 x16) [(32,rp [(.tmp 56,(B (((x16.length:Int)==2))))] (B false))]) (hap q5_ ⟨asb hb20 (amv rfl),tv⟩)<|Qah<|frb h
      ·exact wx tbk (hcat (Zc4 x4 x6 x10) [(24,rp [(.tmp 48,(B (((x6.1.Out.length:Int)==3))))] (B false))]) (hap q4_ ⟨asb hb15 (amv rfl),tv⟩)<|Qah<|frb h
     ·exact wx tbk (hcat (Zc5 x4 x6 x10) [(18,rp [(.tmp 42,(B ((([x10.Element,x10.Outlet]:List Int)==[2,1]))))] (B false))]) (hap q3_ ⟨asb hb14 (amv rfl),tv⟩)<|Qah<|frb h
    ·exact wx tbk (hcat (Zc6 x4 x6) [(11,rp [(.tmp 35,(B (((x4.1.length:Int)==2))))] (B false))]) (hap q2_ ⟨asb hb9 (amv rfl),tv⟩)<|Qah<|frb h
   ·exact wx tbk (hcat (Zc7 x4) [(6,rp [(.tmp 30,(B ((x6.2.2==0))))] (B false))]) (hap q1_ ⟨asb hb8 (amv rfl),tv⟩)<|Qah<|frb h
  ·exact wx tbk [(2,rp [(.tmp 26,(B ((x4.2==0))))] (B false))] ⟨asb hb7 (amv rfl),tv⟩<|Qah<|frb h
end
section
set_option maxRecDepth 100000
set_option maxHeartbeats 4000000
open Go.RowKit
def Qer (_N:Nat) (p0:Int) (p1:Int) (p2:Int):Option Bool:=
  bif (decide (p0≥p1)) then
   some (decide (p0≤p2))
  else
   some false
theorem Qdt (N:Nat) (p0:Int) (p1:Int) (p2:Int) (r:Bool) (h:Qer N p0 p1 p2=some r):Spec prog 25 [(I p0),(I p1),(I p2)] [] (B r) []:=by
  refine Qal func25 rfl 0 (nle rfl) (fun X φ0 w0 hφ0 hd0=>?_)
  unfold Qer at h
  refine wxz ?_
  refine bfe h (fun hb1 h=>?_) fun hb1 h=>?_
  ·refine wx tbk [(3,rp [(.tmp 9,(B ((decide (p0≥p1)))))] (B true))] ⟨asb hb1 (amv rfl),tv⟩<|Qah ?_
   obtain rfl:=osi h
   exact fend ⟨[(B ((decide (p0≤p2))))],⟨rot,tv⟩,rfl⟩ nll
  ·exact wx tbk [(3,rp [(.tmp 9,(B ((decide (p0≥p1)))))] (B false))] ⟨asb hb1 (amv rfl),tv⟩<|Qah<|frb h
def Qej (N:Nat) (p0:(List GRow)) (k1:Unit→Option Bool):Nat→Int→Option Bool
  |0,_=>none
  |n5+1,y3=>
    bif (decide (y3<(p0.length:Int))) then
     (getI p0 y3).bind fun x7=>
     Qbn (fun _=>
       bif (decide (y3>0)) then
        (getI p0 (w64 (y3-1))).bind fun x13=>
        bif (decide (x7.T≤x13.T)) then
         some false
        else
         bif (decide (x7.P≤x13.P)) then
          some false
         else
          bif (decide (x7.Liquid≤x13.Liquid)) then
           some false
          else
           bif (decide (x7.Silica<x13.Silica)) then
            some false
           else
            Qej N p0 k1 n5 (w64 (y3+1))
       else
        Qej N p0 k1 n5 (w64 (y3+1))) fun k11:Unit→Option Bool=>
     (Qer N x7.T 0 400).bind fun x22=>
     bif (!x22) then
      some false
     else
      (Qer N x7.P 1 10000).bind fun x25=>
      bif (!x25) then
       some false
      else
       (Qer N x7.Liquid 0 4000).bind fun x28=>
       bif (!x28) then
        some false
       else
        (Qer N x7.Silica 0 2000).bind fun x31=>
        bif (!x31) then
         some false
        else
         bif (decide (x7.Vapour≤x7.Liquid)) then
          some false
         else
          bif (decide (x7.Vapour>4000)) then
           some false
          else
           k11 ()
    else
     k1 ()
def Qlm (N:Nat) (p0:(List GRow)):Option Bool:=
  Qbn (fun _=>
    bif (decide ((p0.length:Int)≥2)) then
     some (decide ((p0.length:Int)≤20))
    else
     some false) fun k1:Unit→Option Bool=>
  Qej N p0 k1 N 0
def Qou (p0:(List GRow)):AV:=.dat 5 ((p0:List GRow).map Qa7)
def Zmu (x7:GRow):Slot:=.own 5 [[(I (x7.T)),(I (x7.P)),(I (x7.Liquid)),(I (x7.Vapour)),(I (x7.Silica))]]
def Zct (y3:Int) (p0:(List GRow)) (x13:GRow):List (Nat×Rec):=[(2,rp [((.tmp 50),(B ((decide (y3>0)))))] (B (true))),(8,rp [((.tmp 51),(B (true))),((.tmp 54),(Qou p0)),((.tmp 56),(I (w64 (y3-1))))] (.dptr (Qa7 (x13)) 0))]
def Zcs (y3) (p0) (x13) (x7:GRow):=hcat (Zct y3 p0 x13) [(12,rp [((.tmp 51),(B (true))),((.tmp 60),(B ((decide (x7.T≤x13.T)))))] (B (false))),(18,rp [((.tmp 61),(B (false))),((.tmp 64),(Qou p0)),((.tmp 66),(I (w64 (y3-1))))] (.dptr (Qa7 (x13)) 0))]
def Zcr (y3) (p0) (x13) (x7):=hcat (Zcs y3 p0 x13 x7) [(23,rp [((.tmp 51),(B (true))),((.tmp 71),(B ((decide (x7.P≤x13.P)))))] (B (false))),(29,rp [((.tmp 72),(B (false))),((.tmp 75),(Qou p0)),((.tmp 77),(I (w64 (y3-1))))] (.dptr (Qa7 (x13)) 0))]
def Zcq (x7:GRow) (x22:Bool):List (Nat×Rec):=[(2,rp [fu 25,((.tmp 16),(I (x7.T))),ci 0,ci 400] (B (x22)))]
def Zcp (x7) (x22) (x25:Bool):=hcat (Zcq x7 x22) [(4,rp [((.tmp 18),(B ((!x22))))] (B (false))),(7,rp [((.tmp 19),(B (false))),fu 25,((.tmp 21),(I (x7.P))),ci 1,ci 10000] (B (x25)))]
def Zco (x7) (x22) (x25) (x28:Bool):=hcat (Zcp x7 x22 x25) [(10,rp [((.tmp 24),(B ((!x25))))] (B (false))),(13,rp [((.tmp 25),(B (false))),fu 25,((.tmp 27),(I (x7.Liquid))),ci 0,ci 4000] (B (x28)))]
def Q62 (x7) (x22) (x25) (x28) (x31:Bool):=hcat (Zco x7 x22 x25 x28) [(16,rp [((.tmp 30),(B ((!x28))))] (B (false))),(19,rp [((.tmp 31),(B (false))),fu 25,((.tmp 33),(I (x7.Silica))),ci 0,ci 2000] (B (x31)))]
theorem Qwf (N:Nat) (p0:(List GRow)) (r:Bool) (h:Qlm N p0=some r):Spec prog 69 [(.dat 5 (p0.map Qa7))] [] (B r) []:=by
  refine Qal func69 rfl 0 (nle rfl) (fun X φ0 w0 hφ0 hd0=>?_)
  unfold Qlm at h
  refine wxz ?_
  obtain⟨k1,hk_k1,h⟩:=jko h
  refine wjn (τ:=Unit) (fun t=>k1 t=some r) (fun _=>⟨mk 103 [(0,(Qou p0))],[]⟩) (fun t h=>?_) ?_
  ·subst hk_k1
   refine bfe h (fun hb2 h=>?_) fun hb2 h=>?_
   ·refine wx tbk [(1,rp [(.tmp 95,(Qou p0))] (I ((p0.length:Int)))),(3,rp [(.tmp 97,(B ((decide ((p0.length:Int)≥2)))))] (B true)),(5,rp [(.tmp 98,B true),(.tmp 99,(Qou p0))] (I ((p0.length:Int))))] ⟨alm (c:=Qa7) (l:=p0) (aln rfl underlying23 rfl),asb hb2 (amv rfl),ag_ (alm (c:=Qa7) (l:=p0) (aln rfl underlying23 rfl)),tv⟩<|Qah ?_
    obtain rfl:=osi h
    exact fend ⟨[(B ((decide ((p0.length:Int)≤20))))],⟨rot,tv⟩,rfl⟩ nll
   ·exact wx tbk [(1,rp [(.tmp 95,(Qou p0))] (I ((p0.length:Int)))),(3,rp [(.tmp 97,(B ((decide ((p0.length:Int)≥2)))))] (B false))] ⟨alm (c:=Qa7) (l:=p0) (aln rfl underlying23 rfl),asb hb2 (amv rfl),tv⟩<|Qah<|frb h
  ·skip
   refine wxz<|Qao ?_
   refine wmr (mto (n:=103) (l':=[(0,(Qou p0)),(3,I 0)]) (own':=[]) [(0,(Qou p0)),(3,I 0)] [] [] hφ0 (pc (rnd Qan) (pw pn)) qn) ?_
   refine Qb3 (τ:=Int) (fun n t=>Qej N p0 k1 n t=some r) (fun y3=>⟨mk 103 [(0,(Qou p0)),(3,I y3)],[]⟩) (fun t h=>by rw[Qej] at h;cases h) (fun n5 ih y3 h=>?_) N (0) h
   rw[Qej] at h
   skip
   refine wsq<|wx tbk [(2,rp [(.tmp 6,(Qou p0))] (I ((p0.length:Int))))] ⟨alm (c:=Qa7) (l:=p0) (aln rfl underlying23 rfl),tv⟩ ?_
   refine bfe h (fun hc6 h=>?_) fun hc6 h=>?_
   ·refine wft hc6<|Qap<|thn<|wsq<|Qao ?_
    obtain⟨x7,hg8,h⟩:=bno h
    obtain⟨hi9,hj10⟩:=gsm hg8
    refine wx tbk [(2,rp [(.tmp 11,(Qou p0)),(.tmp 12,I y3)] (.dptr (Qa7 (x7)) 0))] ⟨aid rfl underlying23 Qv0 rfl rfl hi9 (mgt Qa7 hj10) rfl,tv⟩ ?_
    obtain⟨k11,hk_k11,h⟩:=jko h
    refine wjn (τ:=Unit) (fun t=>k11 t=some r) (fun _=>⟨mk 103 [(0,(Qou p0)),(3,I y3),(4,.ref 0 5 0 0)],[(Zmu x7)]⟩) (fun t h=>?_) ?_
    ·subst hk_k11
     refine bfe h (fun hb12 h=>?_) fun hb12 h=>?_
     ·obtain⟨x13,hg14,h⟩:=bno h
      obtain⟨hi15,hj16⟩:=gsm hg14
      refine hpre (A:=(Zct y3 p0 x13)) ⟨asb hb12 (amv rfl),ag_ (aid rfl underlying23 Qv0 rfl rfl hi15 (mgt Qa7 hj16) rfl),tv⟩ fun q1_=>?_
      refine bfe h (fun hb17 h=>?_) fun hb17 h=>?_
      ·exact wxd tbk (hcat (Zct y3 p0 x13) [(12,rp [(.tmp 51,B true),(.tmp 60,(B ((decide (x7.T≤x13.T)))))] (B true))]) (hap q1_ ⟨asb hb17 (ag_ (amv rfl)),tv⟩)<|wtr<|wxz<|Qah<|Qaq<|Qac<|Qac<|Qaq<|Qac<|frb h
      ·refine hpre (A:=(Zcs y3 p0 x13 x7)) (hap q1_ ⟨asb hb17 (ag_ (amv rfl)),ag_ (aid rfl underlying23 Qv0 rfl rfl hi15 (mgt Qa7 hj16) rfl),tv⟩) fun q2_=>?_
       refine bfe h (fun hb18 h=>?_) fun hb18 h=>?_
       ·exact wxd tbk (hcat (Zcs y3 p0 x13 x7) [(23,rp [(.tmp 51,B true),(.tmp 71,(B ((decide (x7.P≤x13.P)))))] (B true))]) (hap q2_ ⟨asb hb18 (ag_ (amv rfl)),tv⟩)<|wtr<|wxz<|Qah<|Qaq<|Qac<|Qac<|Qaq<|Qac<|frb h
       ·refine hpre (A:=(Zcr y3 p0 x13 x7)) (hap q2_ ⟨asb hb18 (ag_ (amv rfl)),ag_ (aid rfl underlying23 Qv0 rfl rfl hi15 (mgt Qa7 hj16) rfl),tv⟩) fun q3_=>?_
        refine bfe h (fun hb19 h=>?_) fun hb19 h=>?_
        ·exact wxd tbk (hcat (Zcr y3 p0 x13 x7) [(34,rp [(.tmp 51,B true),(.tmp 82,(B ((decide (x7.Liquid≤x13.Liquid)))))] (B true))]) (hap q3_ ⟨asb hb19 (ag_ (amv rfl)),tv⟩)<|wtr<|wxz<|Qah<|Qaq<|Qac<|Qac<|Qaq<|Qac<|frb h
        ·refine wxd tbk (hcat (Zcr y3 p0 x13 x7) [(34,rp [(.tmp 51,B true),(.tmp 82,(B ((decide (x7.Liquid≤x13.Liquid)))))] (B false)),(40,rp [(.tmp 83,B false),(.tmp 86,(Qou p0)),(.tmp 88,(I (w64 (y3-1))))] (.dptr (Qa7 (x13)) 0))]) (hap q3_ ⟨asb hb19 (ag_ (amv rfl)),ag_ (aid rfl underlying23 Qv0 rfl rfl hi15 (mgt Qa7 hj16) rfl),tv⟩) ?_
         refine bfe h (fun hc20 h=>?_) fun hc20 h=>?_
         ·exact wft hc20<|wxz<|Qah<|Qaq<|Qac<|Qac<|Qaq<|Qac<|frb h
         ·exact wfn hc20<|Qap<|bln<|thn<|wxz1<|thn<|arm (mto (n:=103) [(0,(Qou p0)),(3,(I (w64 (y3+1))))] [] [] hφ0 (pc (rnd Qan) (pw pn)) qn) (ih (w64 (y3+1)) h)
     ·exact wxd tbk [(2,rp [(.tmp 50,(B ((decide (y3>0)))))] (B false))] ⟨asb hb12 (amv rfl),tv⟩<|wfa<|Qap<|bln<|thn<|wxz1<|thn<|arm (mto (n:=103) [(0,(Qou p0)),(3,(I (w64 (y3+1))))] [] [] hφ0 (pc (rnd Qan) (pw pn)) qn) (ih (w64 (y3+1)) h)
    ·skip
     obtain⟨x22,hf21,h⟩:=bno h
     refine hpre (A:=(Zcq x7 x22)) ⟨apv Qix (Qdt N x7.T 0 400 _ hf21) (nlcc (nlc nll nl0)) nll,tv⟩ fun q4_=>?_
     refine bfe h (fun hb23 h=>?_) fun hb23 h=>?_
     ·refine wx tbk (hcat (Zcq x7 x22) [(4,rp [(.tmp 18,(B ((!x22))))] (B true))]) (hap q4_ ⟨asb hb23 (amv rfl),tv⟩)<|wtr<|wxz<|Qah<|Qac<|Qaq<|Qac<|Qac<|Qaq<|Qac ?_
      exact frb h
     ·obtain⟨x25,hf24,h⟩:=bno h
      refine hpre (A:=(Zcp x7 x22 x25)) (hap q4_ ⟨asb hb23 (amv rfl),ag_ (apv Qix (Qdt N x7.P 1 10000 _ hf24) (nlcc (nlc nll nl0)) nll),tv⟩) fun q5_=>?_
      refine bfe h (fun hb26 h=>?_) fun hb26 h=>?_
      ·refine wx tbk (hcat (Zcp x7 x22 x25) [(10,rp [(.tmp 24,(B ((!x25))))] (B true))]) (hap q5_ ⟨asb hb26 (amv rfl),tv⟩)<|wtr<|wxz<|Qah<|Qac<|Qaq<|Qac<|Qac<|Qaq<|Qac ?_
       exact frb h
      ·obtain⟨x28,hf27,h⟩:=bno h
       refine hpre (A:=(Zco x7 x22 x25 x28)) (hap q5_ ⟨asb hb26 (amv rfl),ag_ (apv Qix (Qdt N x7.Liquid 0 4000 _ hf27) (nlcc (nlc nll nl0)) nll),tv⟩) fun q6_=>?_
       refine bfe h (fun hb29 h=>?_) fun hb29 h=>?_
       ·refine wx tbk (hcat (Zco x7 x22 x25 x28) [(16,rp [(.tmp 30,(B ((!x28))))] (B true))]) (hap q6_ ⟨asb hb29 (amv rfl),tv⟩)<|wtr<|wxz<|Qah<|Qac<|Qaq<|Qac<|Qac<|Qaq<|Qac ?_
        exact frb h
       ·obtain⟨x31,hf30,h⟩:=bno h
        refine hpre (A:=(Q62 x7 x22 x25 x28 x31)) (hap q6_ ⟨asb hb29 (amv rfl),ag_ (apv Qix (Qdt N x7.Silica 0 2000 _ hf30) (nlcc (nlc nll nl0)) nll),tv⟩) fun q7_=>?_
        refine bfe h (fun hb32 h=>?_) fun hb32 h=>?_
        ·refine wx tbk (hcat (Q62 x7 x22 x25 x28 x31) [(22,rp [(.tmp 36,(B ((!x31))))] (B true))]) (hap q7_ ⟨asb hb32 (amv rfl),tv⟩)<|wtr<|wxz<|Qah<|Qac<|Qaq<|Qac<|Qac<|Qaq<|Qac ?_
         exact frb h
        ·refine bfe h (fun hb33 h=>?_) fun hb33 h=>?_
         ·refine wx tbk (hcat (Q62 x7 x22 x25 x28 x31) [(22,rp [(.tmp 36,(B ((!x31))))] (B false)),(29,rp [(.tmp 43,(B ((decide (x7.Vapour≤x7.Liquid)))))] (B true))]) (hap q7_ ⟨asb hb32 (amv rfl),asb hb33 (amv rfl),tv⟩)<|wtr<|wxz<|Qah<|Qac<|Qaq<|Qac<|Qac<|Qaq<|Qac ?_
          exact frb h
         ·refine wx tbk (hcat (Q62 x7 x22 x25 x28 x31) [(22,rp [(.tmp 36,(B ((!x31))))] (B false)),(29,rp [(.tmp 43,(B ((decide (x7.Vapour≤x7.Liquid)))))] (B false))]) (hap q7_ ⟨asb hb32 (amv rfl),asb hb33 (amv rfl),tv⟩) ?_
          refine bfe h (fun hc34 h=>?_) fun hc34 h=>?_
          ·exact wft hc34<|wxz<|Qah<|Qac<|Qaq<|Qac<|Qac<|Qaq<|Qac<|frb h
          ·exact wfn hc34<|Qap<|thn<|⟨(),h,(mto (n:=103) [(0,(Qou p0)),(3,I y3),(4,.ref 0 5 0 0)] [0] [(Zmu x7)] hφ0 (pc (rnd Qan) (pw (prr pn))) (qb (lcc (lcc (lc rwl ln))) qn))⟩
   ·exact wfn hc6<|Qbl<|Qax<|Qax<|Qbk rfl<|thn<|⟨(),h,(mto (n:=103) [(0,(Qou p0))] [] [] hφ0 (pc (rnd Qan) pn) qn)⟩
def Qfh (N:Nat) (p0:(List GRow)) (k2:(List GRow)→Option (List GRow)):Nat→(List GRow)→Int→Option (List GRow)
  |0,_,_=>none
  |n7+1,y3,y4=>
    bif (decide (y4<(p0.length:Int))) then
     (getI p0 y4).bind fun x9=>
     chk (decide ((y3.length+([x9]).length)*40≤140737488355328))<|
     Qfh N p0 k2 n7 (y3++([x9])) (w64 (y4+1))
    else
     k2 (y3)
def Qlt (N:Nat) (p0:(List GRow)):Option (List GRow):=
  Qbn (fun y1=>
    some y1) fun k2:(List GRow)→Option (List GRow)=>
  Qfh N p0 k2 N ([]) 0
def Qxw (p0:(List GRow)):AV:=.dat 5 ((p0:List GRow).map Qa7)
def Zcn (y3:(List GRow)):AV:=.acc 0 160 5 ((y3:List GRow).map Qa7)
def Zcm (x9:GRow):AV:=.agg [(I (x9.T)),(I (x9.P)),(I (x9.Liquid)),(I (x9.Vapour)),(I (x9.Silica))]
theorem Qww (N:Nat) (p0:(List GRow)) (r:(List GRow)) (h:Qlt N p0=some r):Spec prog 59 [(.dat 5 (p0.map Qa7))] [] (.dat 5 (r.map Qa7)) []:=by
  refine Qal func59 rfl 0 (nle rfl) (fun X φ0 w0 hφ0 hd0=>?_)
  unfold Qlt at h
  refine wxz<|wxz ?_
  obtain⟨k2,hk_k2,h⟩:=jko h
  refine wjn (τ:=(List GRow)) (fun t=>k2 t=some r) (fun y1=>⟨mk 41 [(3,(.acc 0 160 5 ((y1:List GRow).map Qa7)))],[.tok]⟩) (fun y1 h=>?_) ?_
  ·subst hk_k2
   refine wxz<|Qah ?_
   obtain rfl:=osi h
   exact fend ⟨[(.dat 5 ((y1:List GRow).map Qa7))],⟨Qep (v:=(.acc 0 160 5 ((y1:List GRow).map Qa7))) (rot) Less.acc,tv⟩,rfl⟩ (nld Qan _)
  ·skip
   refine wxz<|Qao ?_
   refine wmr (Mor.trans (Qq8 0 160 5 3 (by kernel_rfl) (by kernel_rfl)) (mto (n:=41) (l':=[(0,(Qxw p0)),(3,(.acc 0 160 5 ((([]):List GRow).map Qa7))),(4,I 0)]) (own':=[.tok]) [(0,(Qxw p0)),(3,(.acc 0 160 5 (([]:List GRow).map Qa7))),(4,I 0)] [0] [.tok] hφ0 (pc (rnd Qan) (pc (.rn (Qdb rfl (Qcb Qan _))) (pw pn))) (qc .tok qn))) ?_
   refine Qb3 (τ:=(List GRow)×Int) (fun n t=>Qfh N p0 k2 n t.1 t.2=some r) (fun ⟨y3,y4⟩=>⟨mk 41 [(0,(Qxw p0)),(3,(Zcn y3)),(4,I y4)],[.tok]⟩) (fun t h=>by rw[Qfh] at h;cases h) (fun n7 ih t h=>?_) N ([],0) h
   obtain⟨y3,y4⟩:=t
   rw[Qfh] at h
   skip
   refine wsq<|wx tbk [(2,rp [(.tmp 6,(Qxw p0))] (I ((p0.length:Int))))] ⟨alm (c:=Qa7) (l:=p0) (aln rfl underlying23 rfl),tv⟩ ?_
   refine bfe h (fun hc8 h=>?_) fun hc8 h=>?_
   ·refine wft hc8<|Qap<|thn<|wsq<|Qao ?_
    obtain⟨x9,hg10,h⟩:=bno h
    obtain⟨hi11,hj12⟩:=gsm hg10
    obtain⟨ha13,h⟩:=cko h
    refine wy1 tbk [(3,rp [(.tmp 12,(Qxw p0)),(.tmp 13,I y4)] (.dptr (Qa7 (x9)) 0)),(8,rp [(.tmp 17,(Qxw p0)),(.tmp 18,I y4)] (.dptr (Qa7 (x9)) 0)),(13,rp [(.tmp 22,(Qxw p0)),(.tmp 23,I y4)] (.dptr (Qa7 (x9)) 0)),(18,rp [(.tmp 27,(Qxw p0)),(.tmp 28,I y4)] (.dptr (Qa7 (x9)) 0)),(23,rp [(.tmp 32,(Qxw p0)),(.tmp 33,I y4)] (.dptr (Qa7 (x9)) 0)),(26,rp [(.tmp 16,I x9.T),(.tmp 21,I x9.P),(.tmp 26,I x9.Liquid),(.tmp 31,I x9.Vapour),(.tmp 36,I x9.Silica)] (Zcm x9)),(27,rp [(.tmp 37,(Zcm x9))] (.dat 5 (([x9]:List GRow).map Qa7))),(28,⟨[(.tmp 11,(Zcn y3)),(.tmp 38,(.dat 5 (([x9]:List GRow).map Qa7)))],[(0,.tok),(1,.unused)],(.acc 1 160 5 ((y3++([x9]):List GRow).map Qa7)),[(0,.dead),(1,.tok)],false⟩)] ⟨aid rfl underlying23 Qv0 rfl rfl hi11 (mgt Qa7 hj12) rfl,aid rfl underlying23 Qv0 rfl rfl hi11 (mgt Qa7 hj12) rfl,aid rfl underlying23 Qv0 rfl rfl hi11 (mgt Qa7 hj12) rfl,aid rfl underlying23 Qv0 rfl rfl hi11 (mgt Qa7 hj12) rfl,aid rfl underlying23 Qv0 rfl rfl hi11 (mgt Qa7 hj12) rfl,Qa8 (vs:=[I x9.T,I x9.P,I x9.Liquid,I x9.Vapour,I x9.Silica]) rfl Zjo Q5g rfl (by rfl) rfl,Qb7 (vs:=[(Zcm x9)]) rfl underlying39 Qxz Q5g rfl (by decide) rfl (by decide) (by rfl) (by rfl) (by rfl) rfl,Qhc rfl underlying39 Zwe (Base.acc _ _) rfl rfl (by rfl) (Qko Qa7 ha13) (Qkn Qa7 ha13 (by decide)) (Qkm Qa7) rfl rfl,tv⟩<|bln<|thn<|wxz1<|thn ?_
    exact arm (mto (n:=41) [(0,(Qxw p0)),(3,(.acc 1 160 5 ((y3++([x9]):List GRow).map Qa7))),(4,(I (w64 (y4+1))))] [1] [.tok] hφ0 (pc (rnd Qan) (pc (.rn (Qdb rfl (Qcb Qan _))) (pw pn))) (qc .tok qn)) (ih (y3++([x9]),w64 (y4+1)) h)
   ·exact wfn hc8<|Qbl<|Qax<|Qax<|Qbk rfl<|thn<|⟨(y3),h,(mto (n:=41) [(3,(Zcn y3))] [0] [.tok] hφ0 (pc (.rn (Qdb rfl (Qcb Qan _))) pn) (qc .tok qn))⟩
def Qf7 (N:Nat) (x13:Qad) (k21:(List Qad)×(List Qa6)×(List Int)→Option GNet):Nat→Int→(List Qad)→(List Qa6)→(List Int)→Option GNet
  |0,_,_,_,_=>none
  |n31+1,y23,y24,y25,y26=>
    bif (decide (y23<(x13.From.length:Int))) then
     (getI x13.From y23).bind fun x33=>
     chk (decide ((y25.length+([x33]).length)*16≤140737488355328))<|
     Qf7 N x13 k21 n31 (w64 (y23+1)) y24 (y25++([x33])) y26
    else
     k21 (y24,y25,y26)
def Qf8 (N:Nat) (p0:GNet) (k4:(List Qad)→Option GNet):Nat→Int→(List Qad)→Option GNet
  |0,_,_=>none
  |n9+1,y5,y6=>
    bif (decide (y5<(p0.Elements.length:Int))) then
     Qbn (fun y11=>
       Qf8 N p0 k4 n9 (w64 (y5+1)) y11) fun k12:(List Qad)→Option GNet=>
     (getI p0.Elements y5).bind fun x13=>
     chk (decide ((([]:List Int).length+x13.Weights.length)*8≤140737488355328))<|
     Qbn (fun ⟨y18,y19,y20⟩=>
       chk (decide ((y18.length+([(⟨x13.Kind,y19,x13.Level,x13.Amount,x13.Wide,x13.Narrow,y20⟩:Qad)]).length)*88≤140737488355328))<|
       k12 (y18++([(⟨x13.Kind,y19,x13.Level,x13.Amount,x13.Wide,x13.Narrow,y20⟩:Qad)]))) fun k21:(List Qad)×(List Qa6)×(List Int)→Option GNet=>
     Qf7 N x13 k21 N 0 y6 ([]) (([]:List Int)++x13.Weights)
    else
     k4 (y6)
def Qik (N:Nat) (p0:GNet):Option GNet:=
  (Qlt N p0.Table).bind fun x2=>
  Qbn (fun y3=>
    some (⟨x2,y3⟩:GNet)) fun k4:(List Qad)→Option GNet=>
  Qf8 N p0 k4 N 0 ([])
def Zta (p0:GNet):AV:=.dat 5 ((p0.Table:List GRow).map Qa7)
def Qmx (x2:(List GRow)):AV:=.dat 5 ((x2:List GRow).map Qa7)
def Q4n (y3:(List Qad)):AV:=.acc 2 133 7 ((y3:List Qad).map Qai)
def Zoo (p0:GNet):AV:=.dat 7 ((p0.Elements:List Qad).map Qai)
def Quf (p0:GNet):Slot:=.own 2 [[(Zta p0),(Zoo p0)]]
def Q4o (y6:(List Qad)):AV:=.acc 3 133 7 ((y6:List Qad).map Qai)
def Zcl:AV:=.acc 5 3 1 ((([]:List Int):List Int).map Qav)
def Zcj (x13:Qad):AV:=.dat 1 ((x13.Weights:List Int).map Qav)
def Qsx (x13:Qad):AV:=.acc 6 3 1 ((([]:List Int)++x13.Weights:List Int).map Qav)
def Zck (y20:(List Int)):AV:=.acc 6 3 1 ((y20:List Int).map Qav)
def Zch (x13:Qad) (y19:(List Qa6)) (y20:(List Int)):AV:=.dat 7 (([(⟨x13.Kind,y19,x13.Level,x13.Amount,x13.Wide,x13.Narrow,y20⟩:Qad)]:List Qad).map Qai)
def Zci (x13:Qad) (y19:(List Qa6)) (y20:(List Int)):AV:=.agg [(K .u8 (x13.Kind)),(.dat 2 ((y19:List Qa6).map Qa3)),(I (x13.Level)),(I (x13.Amount)),(I (x13.Wide)),(I (x13.Narrow)),(.dat 1 ((y20:List Int).map Qav))]
def Qzq (x13:Qad):AV:=.dat 2 ((x13.From:List Qa6).map Qa3)
def Qzp (x13:Qad):Slot:=.own 7 [[(K .u8 (x13.Kind)),(Qzq x13),(I (x13.Level)),(I (x13.Amount)),(I (x13.Wide)),(I (x13.Narrow)),(Zcj x13)]]
def Zom:AV:=.acc 6 120 2 ((([]):List Qa6).map Qa3)
def Zon:AV:=.acc 8 120 2 (([]:List Qa6).map Qa3)
def Q4m (y24:(List Qad)):AV:=.acc 5 133 7 ((y24:List Qad).map Qai)
def Zcg (y26:(List Int)):AV:=.acc 7 3 1 ((y26:List Int).map Qav)
def Zcf (x13:Qad) (y25:(List Qa6)) (y26:(List Int)):Slot:=.own 7 [[(K .u8 (x13.Kind)),(.acc 6 120 2 ((y25:List Qa6).map Qa3)),(I (x13.Level)),(I (x13.Amount)),(I (x13.Wide)),(I (x13.Narrow)),(Zcg y26)]]
def Q4l (x33:Qa6):AV:=.agg [(I (x33.Element)),(I (x33.Outlet))]
theorem Qkh (N:Nat) (p0:GNet) (r:GNet) (h:Qik N p0=some r):Spec prog 17 [(.agg (Qhv p0))] [] (.agg (Qhv r)) []:=by
  refine Qal func17 rfl 0 (nle rfl) (fun X φ0 w0 hφ0 hd0=>?_)
  unfold Qik at h
  refine wxz ?_
  obtain⟨x2,hf1,h⟩:=bno h
  refine wx tbk [(2,rp [fu 59,(.tmp 9,(Zta p0))] (Qmx x2)),(3,rp [(.tmp 10,(Qmx x2))] (.agg [(Qmx x2),nilS]))] ⟨apv Zsb (Qww N p0.Table _ hf1) (nlc (nld Qan _) nl0) (nld Qan _),Qa8 (vs:=[(Qmx x2)]) rfl ts42 tz42 rfl (by rfl) rfl,tv⟩ ?_
  obtain⟨k4,hk_k4,h⟩:=jko h
  refine wjn (τ:=(List Qad)) (fun t=>k4 t=some r) (fun y3=>⟨mk 71 [(2,.ref 0 2 0 0),(3,.ref 1 2 0 0)],[(.own 2 [[nilS,nilS]]),(.own 2 [[(Qmx x2),(Q4n y3)]]),.tok]⟩) (fun y3 h=>?_) ?_
  ·subst hk_k4
   refine wxz<|Qah ?_
   obtain rfl:=osi h
   exact fend ⟨[(.agg [(Qmx x2),(.dat 7 ((y3:List Qad).map Qai))])],⟨Qep (v:=(.agg [(Qmx x2),(Q4n y3)])) (Qb2 (n:=0) (m:=2) (j:=0) (i:=0) (xs:=[[(Qmx x2),(Q4n y3)]]) (by kernel_rfl) (by kernel_rfl) ti42 (by decide) rfl (nle rfl) rfl) (Less.agg ⟨lrf,Less.acc,tv⟩),tv⟩,rfl⟩ (NLt.agg _ (nlc (nld Qan _) (nlc (nld Qab _) nl0)))
  ·skip
   refine wxz<|Qao ?_
   refine wmr (Mor.trans (Qsa (n:=3) (ty:=133) (m:=7) (q:=2) (mq:=2) (c:=[(Qmx x2),nilS]) 1 (by kernel_rfl) (by kernel_rfl) (by kernel_rfl) (by decide)) (mto (n:=71) (l':=[(1,.ref 0 2 0 0),(2,.ref 1 2 0 0),(3,.ref 2 2 0 0),(4,I 0)]) (own':=[(Quf p0),(.own 2 [[nilS,nilS]]),(.own 2 [[(Qmx x2),(.acc 3 133 7 ((([]):List Qad).map Qai))]]),.tok]) [(1,.ref 0 2 0 0),(2,.ref 1 2 0 0),(3,.ref 2 2 0 0),(4,I 0)] [0,1,2,3] [(Quf p0),(.own 2 [[nilS,nilS]]),(.own 2 [[(Qmx x2),(.acc 3 133 7 (([]:List Qad).map Qai))]]),.tok] hφ0 (prr (prr (prr (pw pn)))) (qb (lc (rnd Qan) (lc (rnd Qab) ln)) (qb (lcc ln) (qb (lc (rnd Qan) (lc (.rn (Qdb rfl (Qcb Qab _))) ln)) (qc .tok qn)))))) ?_
   refine Qb3 (τ:=Int×(List Qad)) (fun n t=>Qf8 N p0 k4 n t.1 t.2=some r) (fun ⟨y5,y6⟩=>⟨mk 71 [(1,.ref 0 2 0 0),(2,.ref 1 2 0 0),(3,.ref 2 2 0 0),(4,I y5)],[(Quf p0),(.own 2 [[nilS,nilS]]),(.own 2 [[(Qmx x2),(Q4o y6)]]),.tok]⟩) (fun t h=>by rw[Qf8] at h;cases h) (fun n9 ih t h=>?_) N (0,[]) h
   obtain⟨y5,y6⟩:=t
   rw[Qf8] at h
   skip
   refine wsq<|wx tbk [(3,rp [(.tmp 14,(Zoo p0))] (I ((p0.Elements.length:Int))))] ⟨alm (c:=Qai) (l:=p0.Elements) (aln rfl underlying24 rfl),tv⟩ ?_
   refine bfe h (fun hc10 h=>?_) fun hc10 h=>?_
   ·refine wft hc10<|Qap<|thn ?_
    obtain⟨k12,hk_k12,h⟩:=jko h
    refine wjn (τ:=(List Qad)) (fun t=>k12 t=some r) (fun y11=>⟨mk 71 [(1,.ref 0 2 0 0),(2,.ref 1 2 0 0),(3,.ref 2 2 0 0),(4,I y5)],[(Quf p0),(.own 2 [[nilS,nilS]]),(.own 2 [[(Qmx x2),(.acc 3 133 7 ((y11:List Qad).map Qai))]]),.tok]⟩) (fun y11 h=>?_) ?_
    ·subst hk_k12
     exact wxz1<|thn<|arm (mto (n:=71) [(1,.ref 0 2 0 0),(2,.ref 1 2 0 0),(3,.ref 2 2 0 0),(4,(I (w64 (y5+1))))] [0,1,2,3] [(Quf p0),(.own 2 [[nilS,nilS]]),(.own 2 [[(Qmx x2),(.acc 3 133 7 ((y11:List Qad).map Qai))]]),.tok] hφ0 (prr (prr (prr (pw pn)))) (qb (lc (rnd Qan) (lc (rnd Qab) ln)) (qb (lcc ln) (qb (lc (rnd Qan) (lc (.rn (Qdb rfl (Qcb Qab _))) ln)) (qc .tok qn))))) (ih (w64 (y5+1),y11) h)
    ·skip
     refine Qao ?_
     obtain⟨x13,hg14,h⟩:=bno h
     obtain⟨hi15,hj16⟩:=gsm hg14
     refine wx tbk [(3,rp [(.tmp 20,(Zoo p0)),(.tmp 21,I y5)] (.dptr (Qai (x13)) 0))] ⟨aid rfl underlying24 ti59 rfl rfl hi15 (mgt Qai hj16) rfl,tv⟩ ?_
     obtain⟨ha17,h⟩:=cko h
     refine wxd tbk [(10,⟨[],[(5,.unused)],Zcl,[(5,.tok)],false⟩),(13,⟨[(.tmp 34,Zcl),(.tmp 36,(Zcj x13))],[(5,.tok),(6,.unused)],(Qsx x13),[(5,.dead),(6,.tok)],false⟩),(14,rp [(.tmp 25,(K .u8 (x13.Kind))),(.tmp 27,I x13.Level),(.tmp 29,I x13.Amount),(.tmp 31,I x13.Wide),(.tmp 33,I x13.Narrow),(.tmp 37,(Qsx x13))] (.agg [(K .u8 (x13.Kind)),nilS,I x13.Level,I x13.Amount,I x13.Wide,I x13.Narrow,(Qsx x13)]))] ⟨Qoi rfl underlying27 ti3 tz3,Qhc rfl underlying27 te3 (Base.acc _ _) rfl rfl (Q0j Qav Q5w _) (Qko Qav ha17) (Qkn Qav ha17 (by decide)) (Qkm Qav) rfl rfl,Qa8 (vs:=[(K .u8 (x13.Kind)),I x13.Level,I x13.Amount,I x13.Wide,I x13.Narrow,(Qsx x13)]) rfl Zjp Q5h rfl (by rfl) rfl,tv⟩ ?_
     obtain⟨k21,hk_k21,h⟩:=jko h
     refine wjn (τ:=(List Qad)×(List Qa6)×(List Int)) (fun t=>k21 t=some r) (fun ⟨y18,y19,y20⟩=>⟨mk 71 [(1,.ref 0 2 0 0),(2,.ref 1 2 0 0),(3,.ref 2 2 0 0),(4,I y5),(6,.ref 3 7 0 0)],[(Quf p0),(.own 2 [[nilS,nilS]]),(.own 2 [[(Qmx x2),(.acc 4 133 7 ((y18:List Qad).map Qai))]]),(.own 7 [[(K .u8 (x13.Kind)),(.acc 5 120 2 ((y19:List Qa6).map Qa3)),I x13.Level,I x13.Amount,I x13.Wide,I x13.Narrow,(Zck y20)]]),.tok,.tok,.tok]⟩) (fun t h=>?_) ?_
     ·subst hk_k21
      obtain⟨y18,y19,y20⟩:=t
      obtain⟨ha22,h⟩:=cko h
      refine wx1 tbk [(3,rp [(.tmp 66,(.agg [(K .u8 (x13.Kind)),(.acc 5 120 2 ((y19:List Qa6).map Qa3)),I x13.Level,I x13.Amount,I x13.Wide,I x13.Narrow,(Zck y20)]))] (Zch x13 y19 y20)),(4,⟨[(.tmp 65,(.acc 4 133 7 ((y18:List Qad).map Qai))),(.tmp 67,(Zch x13 y19 y20))],[(4,.tok),(7,.unused)],(.acc 7 133 7 ((y18++([(⟨x13.Kind,y19,x13.Level,x13.Amount,x13.Wide,x13.Narrow,y20⟩:Qad)]):List Qad).map Qai)),[(4,.dead),(7,.tok)],false⟩)] ⟨awk (rd':=[(.tmp 66,(Zci x13 y19 y20))]) ⟨rfl,(Less.agg ⟨lrf,Less.acc,lrf,lrf,lrf,lrf,Less.acc,tv⟩),tv⟩ (Qb7 (vs:=[(Zci x13 y19 y20)]) rfl underlying40 Qmi Q5h rfl (by decide) rfl (by decide) (by rfl) (by rfl) (by rfl) rfl),Qhc rfl underlying40 Zwg (Base.acc _ _) rfl rfl (by rfl) (Qko Qai ha22) (Qkn Qai ha22 (by decide)) (Qkm Qai) rfl rfl,tv⟩<|bln<|thn ?_
      exact⟨(y18++([(⟨x13.Kind,y19,x13.Level,x13.Amount,x13.Wide,x13.Narrow,y20⟩:Qad)])),h,(mto (n:=71) [(1,.ref 0 2 0 0),(2,.ref 1 2 0 0),(3,.ref 2 2 0 0),(4,I y5)] [0,1,2,7] [(Quf p0),(.own 2 [[nilS,nilS]]),(.own 2 [[(Qmx x2),(.acc 7 133 7 ((y18++([(⟨x13.Kind,y19,x13.Level,x13.Amount,x13.Wide,x13.Narrow,y20⟩:Qad)]):List Qad).map Qai))]]),.tok] hφ0 (prr (prr (prr (pw pn)))) (qb (lc (rnd Qan) (lc (rnd Qab) ln)) (qb (lcc ln) (qb (lc (rnd Qan) (lc (.rn (Qdb rfl (Qcb Qab _))) ln)) (qc .tok qn)))))⟩
     ·skip
      refine wxz<|Qao ?_
      refine wmr (Mor.trans (Qsa (n:=8) (ty:=120) (m:=2) (q:=7) (mq:=7) (c:=[(K .u8 (x13.Kind)),nilS,I x13.Level,I x13.Amount,I x13.Wide,I x13.Narrow,(Qsx x13)]) 1 (by kernel_rfl) (by kernel_rfl) (by kernel_rfl) (by decide)) (mto (n:=71) (l':=[(1,.ref 0 2 0 0),(2,.ref 1 2 0 0),(3,.ref 2 2 0 0),(4,I y5),(5,.ref 3 7 0 0),(6,.ref 4 7 0 0),(7,I 0)]) (own':=[(Quf p0),(.own 2 [[nilS,nilS]]),(.own 2 [[(Qmx x2),(.acc 5 133 7 ((y6:List Qad).map Qai))]]),(Qzp x13),(.own 7 [[(K .u8 (x13.Kind)),Zom,I x13.Level,I x13.Amount,I x13.Wide,I x13.Narrow,(.acc 7 3 1 (((([]:List Int)++x13.Weights):List Int).map Qav))]]),.tok,.tok,.tok]) [(1,.ref 0 2 0 0),(2,.ref 1 2 0 0),(3,.ref 2 2 0 0),(4,I y5),(5,.ref 4 7 0 0),(6,.ref 7 7 0 0),(7,I 0)] [0,1,2,4,7,3,8,6] [(Quf p0),(.own 2 [[nilS,nilS]]),(.own 2 [[(Qmx x2),(Q4o y6)]]),(Qzp x13),(.own 7 [[(K .u8 (x13.Kind)),Zon,I x13.Level,I x13.Amount,I x13.Wide,I x13.Narrow,(Qsx x13)]]),.tok,.tok,.tok] hφ0 (prr (prr (prr (pw (prr (prr (pw pn))))))) (qb (lc (rnd Qan) (lc (rnd Qab) ln)) (qb (lcc ln) (qb (lc (rnd Qan) (lc (.rn (Qdb rfl (Qcb Qab _))) ln)) (qb (lc rwl (lc (rnd Qaz) (lcc (lcc (lc (rnd Qaj) ln))))) (qb (lc rwl (lc (.rn (Qdb rfl (Qcb Qaz _))) (lcc (lcc (lc (.rn (Qdb rfl (Qcb Qaj _))) ln))))) (qc .tok (qc .tok (qc .tok qn)))))))))) ?_
      refine Qb3 (τ:=Int×(List Qad)×(List Qa6)×(List Int)) (fun n t=>Qf7 N x13 k21 n t.1 t.2.1 t.2.2.1 t.2.2.2=some r) (fun ⟨y23,y24,y25,y26⟩=>⟨mk 71 [(1,.ref 0 2 0 0),(2,.ref 1 2 0 0),(3,.ref 2 2 0 0),(4,I y5),(5,.ref 3 7 0 0),(6,.ref 4 7 0 0),(7,I y23)],[(Quf p0),(.own 2 [[nilS,nilS]]),(.own 2 [[(Qmx x2),(Q4m y24)]]),(Qzp x13),(Zcf x13 y25 y26),.tok,.tok,.tok]⟩) (fun t h=>by rw[Qf7] at h;cases h) (fun n31 ih t h=>?_) N (0,y6,[],([]:List Int)++x13.Weights) h
      obtain⟨y23,y24,y25,y26⟩:=t
      rw[Qf7] at h
      skip
      refine wsq<|wx tbk [(3,rp [(.tmp 41,(Qzq x13))] (I ((x13.From.length:Int))))] ⟨alm (c:=Qa3) (l:=x13.From) (aln rfl underlying57 rfl),tv⟩ ?_
      refine bfe h (fun hc32 h=>?_) fun hc32 h=>?_
      ·refine wft hc32<|Qap<|thn<|wsq<|Qao ?_
       obtain⟨x33,hg34,h⟩:=bno h
       obtain⟨hi35,hj36⟩:=gsm hg34
       obtain⟨ha37,h⟩:=cko h
       refine wy1 tbk [(5,rp [(.tmp 49,(Qzq x13)),(.tmp 50,I y23)] (.dptr (Qa3 (x33)) 0)),(11,rp [(.tmp 55,(Qzq x13)),(.tmp 56,I y23)] (.dptr (Qa3 (x33)) 0)),(14,rp [(.tmp 53,I x33.Element),(.tmp 59,I x33.Outlet)] (Q4l x33)),(15,rp [(.tmp 60,(Q4l x33))] (.dat 2 (([x33]:List Qa6).map Qa3))),(16,⟨[(.tmp 47,(.acc 6 120 2 ((y25:List Qa6).map Qa3))),(.tmp 61,(.dat 2 (([x33]:List Qa6).map Qa3)))],[(6,.tok),(8,.unused)],(.acc 8 120 2 ((y25++([x33]):List Qa6).map Qa3)),[(6,.dead),(8,.tok)],false⟩)] ⟨aid rfl underlying57 ti61 rfl rfl hi35 (mgt Qa3 hj36) rfl,aid rfl underlying57 ti61 rfl rfl hi35 (mgt Qa3 hj36) rfl,Qa8 (vs:=[I x33.Element,I x33.Outlet]) rfl Zfh Qxx rfl (by rfl) rfl,Qb7 (vs:=[(Q4l x33)]) rfl underlying116 Qry Qxx rfl (by decide) rfl (by decide) (by rfl) (by rfl) (by rfl) rfl,Qhc rfl underlying116 Zup (Base.acc _ _) rfl rfl (by rfl) (Qko Qa3 ha37) (Qkn Qa3 ha37 (by decide)) (Qkm Qa3) rfl rfl,tv⟩<|bln<|thn<|wxz1<|thn ?_
       exact arm (mto (n:=71) [(1,.ref 0 2 0 0),(2,.ref 1 2 0 0),(3,.ref 2 2 0 0),(4,I y5),(5,.ref 3 7 0 0),(6,.ref 4 7 0 0),(7,(I (w64 (y23+1))))] [0,1,2,3,4,5,8,7] [(Quf p0),(.own 2 [[nilS,nilS]]),(.own 2 [[(Qmx x2),(Q4m y24)]]),(Qzp x13),(.own 7 [[(K .u8 (x13.Kind)),(.acc 8 120 2 ((y25++([x33]):List Qa6).map Qa3)),I x13.Level,I x13.Amount,I x13.Wide,I x13.Narrow,(Zcg y26)]]),.tok,.tok,.tok] hφ0 (prr (prr (prr (pw (prr (prr (pw pn))))))) (qb (lc (rnd Qan) (lc (rnd Qab) ln)) (qb (lcc ln) (qb (lc (rnd Qan) (lc (.rn (Qdb rfl (Qcb Qab _))) ln)) (qb (lc rwl (lc (rnd Qaz) (lcc (lcc (lc (rnd Qaj) ln))))) (qb (lc rwl (lc (.rn (Qdb rfl (Qcb Qaz _))) (lcc (lcc (lc (.rn (Qdb rfl (Qcb Qaj _))) ln))))) (qc .tok (qc .tok (qc .tok qn))))))))) (ih (w64 (y23+1),y24,y25++([x33]),y26) h)
      ·exact wfn hc32<|Qbl<|Qax<|Qax<|Qbk rfl<|thn<|⟨(y24,y25,y26),h,(mto (n:=71) [(1,.ref 0 2 0 0),(2,.ref 1 2 0 0),(3,.ref 2 2 0 0),(4,I y5),(6,.ref 4 7 0 0)] [0,1,2,4,5,6,7] [(Quf p0),(.own 2 [[nilS,nilS]]),(.own 2 [[(Qmx x2),(Q4m y24)]]),(Zcf x13 y25 y26),.tok,.tok,.tok] hφ0 (prr (prr (prr (pw (prr pn))))) (qb (lc (rnd Qan) (lc (rnd Qab) ln)) (qb (lcc ln) (qb (lc (rnd Qan) (lc (.rn (Qdb rfl (Qcb Qab _))) ln)) (qb (lc rwl (lc (.rn (Qdb rfl (Qcb Qaz _))) (lcc (lcc (lc (.rn (Qdb rfl (Qcb Qaj _))) ln))))) (qc .tok (qc .tok (qc .tok qn))))))))⟩
   ·exact wfn hc10<|Qbl<|Qax<|Qax<|Qbk rfl<|thn<|⟨(y6),h,(mto (n:=71) [(2,.ref 1 2 0 0),(3,.ref 2 2 0 0)] [1,2,3] [(.own 2 [[nilS,nilS]]),(.own 2 [[(Qmx x2),(Q4o y6)]]),.tok] hφ0 (prr (prr pn)) (qb (lcc ln) (qb (lc (rnd Qan) (lc (.rn (Qdb rfl (Qcb Qab _))) ln)) (qc .tok qn))))⟩
def Qiw (_N:Nat) (p0:(List Int)):Option (List Int):=
  chk (decide ((([]:List Int).length+p0.length)*8≤140737488355328))<|
  some (([]:List Int)++p0)
def Zs9:AV:=.acc 0 3 1 ((([]:List Int):List Int).map Qav)
def Zs8 (p0:(List Int)):AV:=.acc 1 3 1 ((([]:List Int)++p0:List Int).map Qav)
theorem Qk4 (N:Nat) (p0:(List Int)) (r:(List Int)) (h:Qiw N p0=some r):Spec prog 18 [(.dat 1 (p0.map Qav))] [] (.dat 1 (r.map Qav)) []:=by
  refine Qal func18 rfl 0 (nle rfl) (fun X φ0 w0 hφ0 hd0=>?_)
  unfold Qiw at h
  refine wxz ?_
  obtain⟨ha1,h⟩:=cko h
  refine wx tbk [(0,⟨[],[(0,.unused)],Zs9,[(0,.tok)],false⟩),(2,⟨[(.tmp 3,Zs9),(.tmp 4,(.dat 1 ((p0:List Int).map Qav)))],[(0,.tok),(1,.unused)],(Zs8 p0),[(0,.dead),(1,.tok)],false⟩)] ⟨Qoi rfl underlying27 ti3 tz3,Qhc rfl underlying27 te3 (Base.acc _ _) rfl rfl (Q0j Qav Q5w _) (Qko Qav ha1) (Qkn Qav ha1 (by decide)) (Qkm Qav) rfl rfl,tv⟩<|Qah ?_
  obtain rfl:=osi h
  exact fend ⟨[(.dat 1 ((([]:List Int)++p0:List Int).map Qav))],⟨Qep (v:=(Zs8 p0)) (rot) Less.acc,tv⟩,rfl⟩ (nld Qaj _)
def Qf9 (N:Nat) (p0:GNet) (k1:Unit→Option Bool):Nat→Int→Option Bool
  |0,_=>none
  |n6+1,y4=>
    bif (decide (y4<(p0.Elements.length:Int))) then
     (getI p0.Elements y4).bind fun x8=>
     bif (decide ((x8.From.length:Int)>25)) then
      some false
     else
      bif (decide ((x8.Weights.length:Int)>25)) then
       some false
      else
       Qf9 N p0 k1 n6 (w64 (y4+1))
    else
     k1 ()
def Qmb (N:Nat) (p0:GNet) (p1:(List Qaa)):Option Bool:=
  Qbn (fun _=>
    bif (decide ((p0.Elements.length:Int)≤18)) then
     bif (decide ((p0.Table.length:Int)≤25)) then
      some (decide ((p1.length:Int)≤25))
     else
      some false
    else
     some false) fun k1:Unit→Option Bool=>
  Qf9 N p0 k1 N 0
def Q4k (p1:(List Qaa)):AV:=.dat 4 ((p1:List Qaa).map Qae)
def Zs7 (p0:GNet):AV:=.dat 5 ((p0.Table:List GRow).map Qa7)
def Zce (p0:GNet):AV:=.dat 7 ((p0.Elements:List Qad).map Qai)
def Q9z (p0:GNet):Slot:=.own 2 [[(Zs7 p0),(Zce p0)]]
def Zcd (p0:GNet):List (Nat×Rec):=[(2,rp [((.tmp 32),(Zce p0))] (I ((p0.Elements.length:Int))))]
def Zcc (p0):=hcat (Zcd p0) [(4,rp [((.tmp 34),(B ((decide ((p0.Elements.length:Int)≤18)))))] (B (true))),(7,rp [((.tmp 35),(B (true))),((.tmp 37),(Zs7 p0))] (I ((p0.Table.length:Int))))]
def Zcb (p0:GNet) (y4:Int) (x8:Qad):List (Nat×Rec):=[(3,rp [((.tmp 14),(Zce p0)),((.tmp 15),(I (y4)))] (.dptr (Qai (x8)) 0)),(6,rp [((.tmp 18),(.dat 2 ((x8.From:List Qa6).map Qa3)))] (I ((x8.From.length:Int))))]
theorem Q0s (N:Nat) (p0:GNet) (p1:(List Qaa)) (r:Bool) (h:Qmb N p0 p1=some r):Spec prog 14 [(.agg (Qhv p0)),(.dat 4 (p1.map Qae))] [] (B r) []:=by
  refine Qal func14 rfl 0 (nle rfl) (fun X φ0 w0 hφ0 hd0=>?_)
  unfold Qmb at h
  refine wxz ?_
  obtain⟨k1,hk_k1,h⟩:=jko h
  refine wjn (τ:=Unit) (fun t=>k1 t=some r) (fun _=>⟨mk 46 [(1,(Q4k p1)),(2,.ref 0 2 0 0)],[(Q9z p0)]⟩) (fun t h=>?_) ?_
  ·subst hk_k1
   refine hpre (A:=(Zcd p0)) ⟨alm (c:=Qai) (l:=p0.Elements) (aln rfl underlying24 rfl),tv⟩ fun q1_=>?_
   refine bfe h (fun hb2 h=>?_) fun hb2 h=>?_
   ·refine hpre (A:=(Zcc p0)) (hap q1_ ⟨asb hb2 (amv rfl),ag_ (alm (c:=Qa7) (l:=p0.Table) (aln rfl underlying23 rfl)),tv⟩) fun q2_=>?_
    refine bfe h (fun hb3 h=>?_) fun hb3 h=>?_
    ·refine wx tbk (hcat (Zcc p0) [(10,rp [(.tmp 40,(B ((decide ((p0.Table.length:Int)≤25)))))] (B true)),(12,rp [(.tmp 41,B true),(.tmp 42,(Q4k p1))] (I ((p1.length:Int))))]) (hap q2_ ⟨asb hb3 (amv rfl),ag_ (alm (c:=Qae) (l:=p1) (aln rfl underlying28 rfl)),tv⟩)<|Qah ?_
     obtain rfl:=osi h
     exact fend ⟨[(B ((decide ((p1.length:Int)≤25))))],⟨rot,tv⟩,rfl⟩ nll
    ·exact wx tbk (hcat (Zcc p0) [(10,rp [(.tmp 40,(B ((decide ((p0.Table.length:Int)≤25)))))] (B false))]) (hap q2_ ⟨asb hb3 (amv rfl),tv⟩)<|Qah<|frb h
   ·exact wx tbk (hcat (Zcd p0) [(4,rp [(.tmp 34,(B ((decide ((p0.Elements.length:Int)≤18)))))] (B false))]) (hap q1_ ⟨asb hb2 (amv rfl),tv⟩)<|Qah<|frb h
  ·skip
   refine wxz<|Qao ?_
   refine wmr (mto (n:=46) (l':=[(1,(Q4k p1)),(2,.ref 0 2 0 0),(5,I 0)]) (own':=[(Q9z p0)]) [(1,(Q4k p1)),(2,.ref 0 2 0 0),(5,I 0)] [0] [(Q9z p0)] hφ0 (pc (rnd Qak) (prr (pw pn))) (qb (lc (rnd Qan) (lc (rnd Qab) ln)) qn)) ?_
   refine Qb3 (τ:=Int) (fun n t=>Qf9 N p0 k1 n t=some r) (fun y4=>⟨mk 46 [(1,(Q4k p1)),(2,.ref 0 2 0 0),(5,I y4)],[(Q9z p0)]⟩) (fun t h=>by rw[Qf9] at h;cases h) (fun n6 ih y4 h=>?_) N (0) h
   rw[Qf9] at h
   skip
   refine wsq<|wx tbk [(3,rp [(.tmp 8,(Zce p0))] (I ((p0.Elements.length:Int))))] ⟨alm (c:=Qai) (l:=p0.Elements) (aln rfl underlying24 rfl),tv⟩ ?_
   refine bfe h (fun hc7 h=>?_) fun hc7 h=>?_
   ·refine wft hc7<|Qap<|thn<|wsq<|Qao ?_
    obtain⟨x8,hg9,h⟩:=bno h
    obtain⟨hi10,hj11⟩:=gsm hg9
    refine hpre (A:=(Zcb p0 y4 x8)) ⟨aid rfl underlying24 ti59 rfl rfl hi10 (mgt Qai hj11) rfl,alm (c:=Qa3) (l:=x8.From) (aln rfl underlying57 rfl),tv⟩ fun q3_=>?_
    refine bfe h (fun hb12 h=>?_) fun hb12 h=>?_
    ·exact wx tbk (hcat (Zcb p0 y4 x8) [(8,rp [(.tmp 20,(B ((decide ((x8.From.length:Int)>25)))))] (B true))]) (hap q3_ ⟨asb hb12 (amv rfl),tv⟩)<|wtr<|wxz<|Qah<|Qaq<|Qac<|Qac<|Qaq<|Qac<|frb h
    ·refine wx tbk (hcat (Zcb p0 y4 x8) [(8,rp [(.tmp 20,(B ((decide ((x8.From.length:Int)>25)))))] (B false)),(12,rp [(.tmp 21,B false),(.tmp 23,(Zce p0)),(.tmp 24,I y4)] (.dptr (Qai (x8)) 0)),(15,rp [(.tmp 21,B false),(.tmp 27,(.dat 1 ((x8.Weights:List Int).map Qav)))] (I ((x8.Weights.length:Int))))]) (hap q3_ ⟨asb hb12 (amv rfl),ag_ (aid rfl underlying24 ti59 rfl rfl hi10 (mgt Qai hj11) rfl),ag_ (alm (c:=Qav) (l:=x8.Weights) (aln rfl underlying27 rfl)),tv⟩) ?_
     refine bfe h (fun hc13 h=>?_) fun hc13 h=>?_
     ·exact wft hc13<|wxz<|Qah<|Qaq<|Qac<|Qac<|Qaq<|Qac<|frb h
     ·exact wfn hc13<|Qap<|bln<|thn<|wxz1<|thn<|arm (mto (n:=46) [(1,(Q4k p1)),(2,.ref 0 2 0 0),(5,(I (w64 (y4+1))))] [0] [(Q9z p0)] hφ0 (pc (rnd Qak) (prr (pw pn))) (qb (lc (rnd Qan) (lc (rnd Qab) ln)) qn)) (ih (w64 (y4+1)) h)
   ·exact wfn hc7<|Qbl<|Qax<|Qax<|Qbk rfl<|thn<|⟨(),h,(mto (n:=46) [(1,(Q4k p1)),(2,.ref 0 2 0 0)] [0] [(Q9z p0)] hφ0 (pc (rnd Qak) (prr pn)) (qb (lc (rnd Qan) (lc (rnd Qab) ln)) qn))⟩
def Qdj (N:Nat) (p0:(List Int)) (k2:Int→Option Bool):Nat→Int→Int→Option Bool
  |0,_,_=>none
  |n8+1,y4,y5=>
    bif (decide (y5<(p0.length:Int))) then
     (getI p0 y5).bind fun x10=>
     (Qer N x10 0 1000).bind fun x15=>
     bif (!x15) then
      some false
     else
      Qdj N p0 k2 n8 (w64 (y4+x10)) (w64 (y5+1))
    else
     k2 (y4)
def Qgj (N:Nat) (p0:(List Int)):Option Bool:=
  Qbn (fun y1=>
    bif (decide ((p0.length:Int)≤20)) then
     some (decide (y1>0))
    else
     some false) fun k2:Int→Option Bool=>
  Qdj N p0 k2 N 0 0
def Qo3 (p0:(List Int)):AV:=.dat 1 ((p0:List Int).map Qav)
theorem Qow (N:Nat) (p0:(List Int)) (r:Bool) (h:Qgj N p0=some r):Spec prog 107 [(.dat 1 (p0.map Qav))] [] (B r) []:=by
  refine Qal func107 rfl 0 (nle rfl) (fun X φ0 w0 hφ0 hd0=>?_)
  unfold Qgj at h
  refine wxz<|wxz ?_
  obtain⟨k2,hk_k2,h⟩:=jko h
  refine wjn (τ:=Int) (fun t=>k2 t=some r) (fun y1=>⟨mk 30 [(0,(Qo3 p0)),(3,I y1)],[]⟩) (fun y1 h=>?_) ?_
  ·subst hk_k2
   refine bfe h (fun hb3 h=>?_) fun hb3 h=>?_
   ·refine wx tbk [(1,rp [(.tmp 23,(Qo3 p0))] (I ((p0.length:Int)))),(3,rp [(.tmp 25,(B ((decide ((p0.length:Int)≤20)))))] (B true))] ⟨alm (c:=Qav) (l:=p0) (aln rfl underlying27 rfl),asb hb3 (amv rfl),tv⟩<|Qah ?_
    obtain rfl:=osi h
    exact fend ⟨[(B ((decide (y1>0))))],⟨rot,tv⟩,rfl⟩ nll
   ·exact wx tbk [(1,rp [(.tmp 23,(Qo3 p0))] (I ((p0.length:Int)))),(3,rp [(.tmp 25,(B ((decide ((p0.length:Int)≤20)))))] (B false))] ⟨alm (c:=Qav) (l:=p0) (aln rfl underlying27 rfl),asb hb3 (amv rfl),tv⟩<|Qah<|frb h
  ·skip
   refine wxz<|Qao ?_
   refine wmr (mto (n:=30) (l':=[(0,(Qo3 p0)),(3,I 0),(4,I 0)]) (own':=[]) [(0,(Qo3 p0)),(3,I 0),(4,I 0)] [] [] hφ0 (pc (rnd Qaj) (pw (pw pn))) qn) ?_
   refine Qb3 (τ:=Int×Int) (fun n t=>Qdj N p0 k2 n t.1 t.2=some r) (fun ⟨y4,y5⟩=>⟨mk 30 [(0,(Qo3 p0)),(3,I y4),(4,I y5)],[]⟩) (fun t h=>by rw[Qdj] at h;cases h) (fun n8 ih t h=>?_) N (0,0) h
   obtain⟨y4,y5⟩:=t
   rw[Qdj] at h
   skip
   refine wsq<|wx tbk [(2,rp [(.tmp 6,(Qo3 p0))] (I ((p0.length:Int))))] ⟨alm (c:=Qav) (l:=p0) (aln rfl underlying27 rfl),tv⟩ ?_
   refine bfe h (fun hc9 h=>?_) fun hc9 h=>?_
   ·refine wft hc9<|Qap<|thn<|wsq<|Qao<|wsq ?_
    obtain⟨x10,hg11,h⟩:=bno h
    obtain⟨hi12,hj13⟩:=gsm hg11
    obtain⟨x15,hf14,h⟩:=bno h
    refine wx tbk [(2,rp [(.tmp 11,(Qo3 p0)),(.tmp 12,I y5)] (.dptr (Qav (x10)) 0)),(4,rp [fu 25,(.tmp 14,I x10),ci 0,ci 1000] (B x15))] ⟨aid rfl underlying27 ti3 rfl rfl hi12 (mgt Qav hj13) rfl,apv Qix (Qdt N x10 0 1000 _ hf14) (nlcc (nlc nll nl0)) nll,tv⟩ ?_
    refine bfe h (fun hc16 h=>?_) fun hc16 h=>?_
    ·exact wft hc16<|wxz<|Qah<|Qac<|Qaq<|Qac<|Qac<|Qaq<|Qac<|frb h
    ·refine wfn hc16<|Qap<|thn ?_
     exact wx1 tbk [(3,rp [(.tmp 18,(Qo3 p0)),(.tmp 19,I y5)] (.dptr (Qav (x10)) 0))] ⟨aid rfl underlying27 ti3 rfl rfl hi12 (mgt Qav hj13) rfl,tv⟩<|bln<|thn<|wxz1<|thn<|arm (mto (n:=30) [(0,(Qo3 p0)),(3,(I (w64 (y4+x10)))),(4,(I (w64 (y5+1))))] [] [] hφ0 (pc (rnd Qaj) (pw (pw pn))) qn) (ih (w64 (y4+x10),w64 (y5+1)) h)
   ·exact wfn hc9<|Qbl<|Qax<|Qax<|Qbk rfl<|thn<|⟨(y4),h,(mto (n:=30) [(0,(Qo3 p0)),(3,I y4)] [] [] hφ0 (pc (rnd Qaj) (pw pn)) qn)⟩
def Qlj (N:Nat) (p0:Qad):Option Bool:=
  Qbn (fun _=>
    Qbn (fun ⟨y2,y3⟩=>
      Qbn (fun y5=>
        Qbn (fun y7=>
          Qbn (fun y9=>
            Qbn (fun _=>
              bif (p0.Kind==5) then
               (Qgj N p0.Weights).bind fun x14=>
               some x14
              else
               some ((p0.Weights.length:Int)==0)) fun k11:Unit→Option Bool=>
            (Qer N (p0.From.length:Int) y2 y5).bind fun x16=>
            bif (!x16) then
             some false
            else
             (Qer N p0.Amount 0 y9).bind fun x19=>
             bif (!x19) then
              some false
             else
              k11 ()) fun k10:Int→Option Bool=>
          bif (p0.Kind==4) then
           k10 (1000)
          else
           k10 (y7)) fun k8:Int→Option Bool=>
        bif (p0.Kind==3) then
         k8 (1000000000)
        else
         k8 (0)) fun k6:Int→Option Bool=>
      bif (p0.Kind==2) then
       k6 (6)
      else
       k6 (y3)) fun k4:Int×Int→Option Bool=>
    bif (p0.Kind==1) then
     k4 (0,0)
    else
     k4 (1,1)) fun k1:Unit→Option Bool=>
  bif (decide (p0.Kind<1)) then
   some false
  else
   bif (decide (p0.Kind>6)) then
    some false
   else
    (Qer N p0.Wide 0 1000000).bind fun x28=>
    bif (!x28) then
     some false
    else
     (Qer N p0.Narrow 1 1000000000).bind fun x31=>
     bif (!x31) then
      some false
     else
      k1 ()
def Zn0 (p0:Qad):AV:=.dat 2 ((p0.From:List Qa6).map Qa3)
def Ze5 (p0:Qad):AV:=.dat 1 ((p0.Weights:List Int).map Qav)
def Ql3 (p0:Qad):Slot:=.own 7 [[(K .u8 (p0.Kind)),(Zn0 p0),(I (p0.Level)),(I (p0.Amount)),(I (p0.Wide)),(I (p0.Narrow)),(Ze5 p0)]]
def Ze4 (p0:Qad) (y2:Int) (y5:Int) (x16:Bool):List (Nat×Rec):=[(2,rp [((.tmp 39),(Zn0 p0))] (I ((p0.From.length:Int)))),(5,rp [fu 25,((.tmp 40),(I ((p0.From.length:Int)))),((.tmp 41),(I (y2))),((.tmp 42),(I (y5)))] (B (x16)))]
def Ze3 (p0:Qad):List (Nat×Rec):=[(3,rp [((.tmp 8),(B ((decide (p0.Kind<1)))))] (B (false)))]
def Ze2 (p0) (x28:Bool):=hcat (Ze3 p0) [(8,rp [((.tmp 13),(B ((decide (p0.Kind>6)))))] (B (false))),(11,rp [((.tmp 14),(B (false))),fu 25,((.tmp 16),(I (p0.Wide))),ci 0,ci 1000000] (B (x28)))]
theorem Qwc (N:Nat) (p0:Qad) (r:Bool) (h:Qlj N p0=some r):Spec prog 70 [(.agg (Qai p0))] [] (B r) []:=by
  refine Qal func70 rfl 0 (nle rfl) (fun X φ0 w0 hφ0 hd0=>?_)
  unfold Qlj at h
  refine wxz ?_
  obtain⟨k1,hk_k1,h⟩:=jko h
  refine wjn (τ:=Unit) (fun t=>k1 t=some r) (fun _=>⟨mk 62 [(1,.ref 0 7 0 0)],[(Ql3 p0)]⟩) (fun t h=>?_) ?_
  ·subst hk_k1
   refine wxz ?_
   obtain⟨k4,hk_k4,h⟩:=jko h
   refine wjn (τ:=Int×Int) (fun t=>k4 t=some r) (fun ⟨y2,y3⟩=>⟨mk 62 [(1,.ref 0 7 0 0),(3,I y2),(4,I y3),(5,I 0)],[(Ql3 p0)]⟩) (fun t h=>?_) ?_
   ·subst hk_k4
    obtain⟨y2,y3⟩:=t
    obtain⟨k6,hk_k6,h⟩:=jko h
    refine wjn (τ:=Int) (fun t=>k6 t=some r) (fun y5=>⟨mk 62 [(1,.ref 0 7 0 0),(3,I y2),(4,I y5),(5,I 0)],[(Ql3 p0)]⟩) (fun y5 h=>?_) ?_
    ·subst hk_k6
     obtain⟨k8,hk_k8,h⟩:=jko h
     refine wjn (τ:=Int) (fun t=>k8 t=some r) (fun y7=>⟨mk 62 [(1,.ref 0 7 0 0),(3,I y2),(4,I y5),(5,I y7)],[(Ql3 p0)]⟩) (fun y7 h=>?_) ?_
     ·subst hk_k8
      obtain⟨k10,hk_k10,h⟩:=jko h
      refine wjn (τ:=Int) (fun t=>k10 t=some r) (fun y9=>⟨mk 62 [(1,.ref 0 7 0 0),(3,I y2),(4,I y5),(5,I y9)],[(Ql3 p0)]⟩) (fun y9 h=>?_) ?_
      ·subst hk_k10
       obtain⟨k11,hk_k11,h⟩:=jko h
       refine wjn (τ:=Unit) (fun t=>k11 t=some r) (fun _=>⟨mk 62 [(1,.ref 0 7 0 0)],[(Ql3 p0)]⟩) (fun t h=>?_) ?_
       ·subst hk_k11
        refine wsq<|wxz ?_
        refine bfe h (fun hc12 h=>?_) fun hc12 h=>?_
        ·refine wft hc12 ?_
         obtain⟨x14,hf13,h⟩:=bno h
         exact wx tbk [(2,rp [fu 107,(.tmp 56,(Ze5 p0))] (B x14))] ⟨apv Zl3 (Qow N p0.Weights _ hf13) (nlc (nld Qaj _) nl0) nll,tv⟩<|Qah<|Qac<|frb h
        ·refine wfn hc12<|Qap<|thn ?_
         refine wx tbk [(2,rp [(.tmp 59,(Ze5 p0))] (I ((p0.Weights.length:Int))))] ⟨alm (c:=Qav) (l:=p0.Weights) (aln rfl underlying27 rfl),tv⟩<|Qah ?_
         obtain rfl:=osi h
         exact fend ⟨[(B (((p0.Weights.length:Int)==0)))],⟨rot,tv⟩,rfl⟩ nll
       ·skip
        obtain⟨x16,hf15,h⟩:=bno h
        refine hpre (A:=(Ze4 p0 y2 y5 x16)) ⟨alm (c:=Qa3) (l:=p0.From) (aln rfl underlying57 rfl),apv Qix (Qdt N (p0.From.length:Int) y2 y5 _ hf15) (nlcc (nlc nll nl0)) nll,tv⟩ fun q1_=>?_
        refine bfe h (fun hb17 h=>?_) fun hb17 h=>?_
        ·exact wx tbk (hcat (Ze4 p0 y2 y5 x16) [(7,rp [(.tmp 44,(B ((!x16))))] (B true))]) (hap q1_ ⟨asb hb17 (amv rfl),tv⟩)<|wtr<|wxz<|Qah<|Qac<|frb h
        ·obtain⟨x19,hf18,h⟩:=bno h
         refine wx tbk (hcat (Ze4 p0 y2 y5 x16) [(7,rp [(.tmp 44,(B ((!x16))))] (B false)),(11,rp [(.tmp 45,B false),fu 25,(.tmp 47,I p0.Amount),ci 0,(.tmp 48,I y9)] (B x19))]) (hap q1_ ⟨asb hb17 (amv rfl),ag_ (apv Qix (Qdt N p0.Amount 0 y9 _ hf18) (nlcc (nlc nll nl0)) nll),tv⟩) ?_
         refine bfe h (fun hc20 h=>?_) fun hc20 h=>?_
         ·exact wft hc20<|wxz<|Qah<|Qac<|frb h
         ·exact wfn hc20<|Qap<|thn<|⟨(),h,(mto (n:=62) [(1,.ref 0 7 0 0)] [0] [(Ql3 p0)] hφ0 (prr pn) (qb (lc rwl (lc (rnd Qaz) (lcc (lcc (lc (rnd Qaj) ln))))) qn))⟩
      ·skip
       refine wxz ?_
       refine bfe h (fun hc21 h=>?_) fun hc21 h=>?_
       ·exact wft hc21<|wxz1<|thn<|⟨(1000),h,(mto (n:=62) [(1,.ref 0 7 0 0),(3,I y2),(4,I y5),(5,I 1000)] [0] [(Ql3 p0)] hφ0 (prr (pw (pw (pw pn)))) (qb (lc rwl (lc (rnd Qaz) (lcc (lcc (lc (rnd Qaj) ln))))) qn))⟩
       ·exact wfn hc21<|Qap<|thn<|⟨(y7),h,(mto (n:=62) [(1,.ref 0 7 0 0),(3,I y2),(4,I y5),(5,I y7)] [0] [(Ql3 p0)] hφ0 (prr (pw (pw (pw pn)))) (qb (lc rwl (lc (rnd Qaz) (lcc (lcc (lc (rnd Qaj) ln))))) qn))⟩
     ·skip
      refine wxz ?_
      refine bfe h (fun hc22 h=>?_) fun hc22 h=>?_
      ·exact wft hc22<|wxz1<|thn<|⟨(1000000000),h,(mto (n:=62) [(1,.ref 0 7 0 0),(3,I y2),(4,I y5),(5,I 1000000000)] [0] [(Ql3 p0)] hφ0 (prr (pw (pw (pw pn)))) (qb (lc rwl (lc (rnd Qaz) (lcc (lcc (lc (rnd Qaj) ln))))) qn))⟩
      ·exact wfn hc22<|Qap<|thn<|⟨(0),h,(mto (n:=62) [(1,.ref 0 7 0 0),(3,I y2),(4,I y5),(5,I 0)] [0] [(Ql3 p0)] hφ0 (prr (pw (pw (pw pn)))) (qb (lc rwl (lc (rnd Qaz) (lcc (lcc (lc (rnd Qaj) ln))))) qn))⟩
    ·skip
     refine wxz ?_
     refine bfe h (fun hc23 h=>?_) fun hc23 h=>?_
     ·exact wft hc23<|wxz1<|thn<|⟨(6),h,(mto (n:=62) [(1,.ref 0 7 0 0),(3,I y2),(4,I 6),(5,I 0)] [0] [(Ql3 p0)] hφ0 (prr (pw (pw (pw pn)))) (qb (lc rwl (lc (rnd Qaz) (lcc (lcc (lc (rnd Qaj) ln))))) qn))⟩
     ·exact wfn hc23<|Qap<|thn<|⟨(y3),h,(mto (n:=62) [(1,.ref 0 7 0 0),(3,I y2),(4,I y3),(5,I 0)] [0] [(Ql3 p0)] hφ0 (prr (pw (pw (pw pn)))) (qb (lc rwl (lc (rnd Qaz) (lcc (lcc (lc (rnd Qaj) ln))))) qn))⟩
   ·skip
    refine wxz ?_
    refine bfe h (fun hc24 h=>?_) fun hc24 h=>?_
    ·exact wft hc24<|wxz1<|thn<|⟨(0,0),h,(mto (n:=62) [(1,.ref 0 7 0 0),(3,I 0),(4,I 0),(5,I 0)] [0] [(Ql3 p0)] hφ0 (prr (pw (pw (pw pn)))) (qb (lc rwl (lc (rnd Qaz) (lcc (lcc (lc (rnd Qaj) ln))))) qn))⟩
    ·exact wfn hc24<|Qap<|thn<|⟨(1,1),h,(mto (n:=62) [(1,.ref 0 7 0 0),(3,I 1),(4,I 1),(5,I 0)] [0] [(Ql3 p0)] hφ0 (prr (pw (pw (pw pn)))) (qb (lc rwl (lc (rnd Qaz) (lcc (lcc (lc (rnd Qaj) ln))))) qn))⟩
  ·skip
   refine bfe h (fun hb25 h=>?_) fun hb25 h=>?_
   ·exact wx tbk [(3,rp [(.tmp 8,(B ((decide (p0.Kind<1)))))] (B true))] ⟨asb hb25 (amv rfl),tv⟩<|wtr<|wxz<|Qah<|Qac<|frb h
   ·refine hpre (A:=(Ze3 p0)) ⟨asb hb25 (amv rfl),tv⟩ fun q2_=>?_
    refine bfe h (fun hb26 h=>?_) fun hb26 h=>?_
    ·exact wx tbk (hcat (Ze3 p0) [(8,rp [(.tmp 13,(B ((decide (p0.Kind>6)))))] (B true))]) (hap q2_ ⟨asb hb26 (amv rfl),tv⟩)<|wtr<|wxz<|Qah<|Qac<|frb h
    ·obtain⟨x28,hf27,h⟩:=bno h
     refine hpre (A:=(Ze2 p0 x28)) (hap q2_ ⟨asb hb26 (amv rfl),ag_ (apv Qix (Qdt N p0.Wide 0 1000000 _ hf27) (nlcc (nlc nll nl0)) nll),tv⟩) fun q3_=>?_
     refine bfe h (fun hb29 h=>?_) fun hb29 h=>?_
     ·exact wx tbk (hcat (Ze2 p0 x28) [(14,rp [(.tmp 19,(B ((!x28))))] (B true))]) (hap q3_ ⟨asb hb29 (amv rfl),tv⟩)<|wtr<|wxz<|Qah<|Qac<|frb h
     ·obtain⟨x31,hf30,h⟩:=bno h
      refine wx tbk (hcat (Ze2 p0 x28) [(14,rp [(.tmp 19,(B ((!x28))))] (B false)),(17,rp [(.tmp 20,B false),fu 25,(.tmp 22,I p0.Narrow),ci 1,ci 1000000000] (B x31))]) (hap q3_ ⟨asb hb29 (amv rfl),ag_ (apv Qix (Qdt N p0.Narrow 1 1000000000 _ hf30) (nlcc (nlc nll nl0)) nll),tv⟩) ?_
      refine bfe h (fun hc32 h=>?_) fun hc32 h=>?_
      ·exact wft hc32<|wxz<|Qah<|Qac<|frb h
      ·exact wfn hc32<|Qap<|thn<|⟨(),h,(mto (n:=62) [(1,.ref 0 7 0 0)] [0] [(Ql3 p0)] hφ0 (prr pn) (qb (lc rwl (lc (rnd Qaz) (lcc (lcc (lc (rnd Qaj) ln))))) qn))⟩
def Qji (_N:Nat) (p0:Qad):Option Int:=
  bif (p0.Kind==4) then
   some 2
  else
   bif (p0.Kind==5) then
    (some (p0.Weights.length:Int)).bind fun x3=>
    some x3
   else
    some 1
def Zue (p0:Qad):AV:=.dat 1 ((p0.Weights:List Int).map Qav)
theorem Qta (N:Nat) (p0:Qad) (r:Int) (h:Qji N p0=some r):Spec prog 71 [(.agg (Qai p0))] [] (I r) []:=by
  refine Qal func71 rfl 0 (nle rfl) (fun X φ0 w0 hφ0 hd0=>?_)
  unfold Qji at h
  refine wxz<|wsq<|wxz ?_
  refine bfe h (fun hc1 h=>?_) fun hc1 h=>?_
  ·refine wft hc1<|wxz<|Qah<|Qac ?_
   obtain rfl:=osi h
   exact fend ⟨[I 2],⟨rot,tv⟩,rfl⟩ nll
  ·refine wfn hc1<|Qap<|thn<|wsq<|wxz ?_
   refine bfe h (fun hc2 h=>?_) fun hc2 h=>?_
   ·refine wft hc2 ?_
    obtain⟨x3,hl4,h⟩:=bno h
    refine wx tbk [(2,rp [(.tmp 10,(Zue p0))] (I ((p0.Weights.length:Int)))),(3,rp [(.tmp 11,(I ((p0.Weights.length:Int))))] (I x3))] ⟨alm (c:=Qav) (l:=p0.Weights) (aln rfl underlying27 rfl),Qmv hl4 (aas rfl),tv⟩<|Qah<|Qac ?_
    obtain rfl:=osi h
    exact fend ⟨[I x3],⟨rot,tv⟩,rfl⟩ nll
   ·refine wfn hc2<|Qap<|thn<|wxz<|Qah ?_
    obtain rfl:=osi h
    exact fend ⟨[I 1],⟨rot,tv⟩,rfl⟩ nll
def Qfc (N:Nat) (p0:(List Qa6)) (k1:Unit→Option Bool) (p1:Qa6):Nat→Int→Option Bool
  |0,_=>none
  |n4+1,y2=>
    bif (decide (y2<(p0.length:Int))) then
     (getI p0 y2).bind fun x6=>
     bif (([x6.Element,x6.Outlet]:List Int)==[p1.Element,p1.Outlet]) then
      some true
     else
      Qfc N p0 k1 p1 n4 (w64 (y2+1))
    else
     k1 ()
def Qli (N:Nat) (p0:(List Qa6)) (p1:Qa6):Option Bool:=
  Qbn (fun _=>
    some false) fun k1:Unit→Option Bool=>
  Qfc N p0 k1 p1 N 0
def Qyt (p0:(List Qa6)):AV:=.dat 2 ((p0:List Qa6).map Qa3)
def Q8i (p1:Qa6):Slot:=.own 2 [[(I (p1.Element)),(I (p1.Outlet))]]
theorem Qwb (N:Nat) (p0:(List Qa6)) (p1:Qa6) (r:Bool) (h:Qli N p0 p1=some r):Spec prog 72 [(.dat 2 (p0.map Qa3)),(.agg (Qa3 p1))] [] (B r) []:=by
  refine Qal func72 rfl 0 (nle rfl) (fun X φ0 w0 hφ0 hd0=>?_)
  unfold Qli at h
  refine wxz ?_
  obtain⟨k1,hk_k1,h⟩:=jko h
  refine wjn (τ:=Unit) (fun t=>k1 t=some r) (fun _=>⟨mk 18 [],[]⟩) (fun t h=>?_) ?_
  ·subst hk_k1
   exact wxz<|Qah<|frb h
  ·skip
   refine wxz<|Qao ?_
   refine wmr (mto (n:=18) (l':=[(0,(Qyt p0)),(3,.ref 0 2 0 0),(5,I 0)]) (own':=[(Q8i p1)]) [(0,(Qyt p0)),(3,.ref 0 2 0 0),(5,I 0)] [0] [(Q8i p1)] hφ0 (pc (rnd Qaz) (prr (pw pn))) (qb (lcc ln) qn)) ?_
   refine Qb3 (τ:=Int) (fun n t=>Qfc N p0 k1 p1 n t=some r) (fun y2=>⟨mk 18 [(0,(Qyt p0)),(3,.ref 0 2 0 0),(5,I y2)],[(Q8i p1)]⟩) (fun t h=>by rw[Qfc] at h;cases h) (fun n4 ih y2 h=>?_) N (0) h
   rw[Qfc] at h
   skip
   refine wsq<|wx tbk [(2,rp [(.tmp 7,(Qyt p0))] (I ((p0.length:Int))))] ⟨alm (c:=Qa3) (l:=p0) (aln rfl underlying57 rfl),tv⟩ ?_
   refine bfe h (fun hc5 h=>?_) fun hc5 h=>?_
   ·refine wft hc5<|Qap<|thn<|wsq<|Qao ?_
    obtain⟨x6,hg7,h⟩:=bno h
    obtain⟨hi8,hj9⟩:=gsm hg7
    refine wxd tbk [(2,rp [(.tmp 12,(Qyt p0)),(.tmp 13,I y2)] (.dptr (Qa3 (x6)) 0)),(5,rp [(.tmp 15,(.agg [I x6.Element,I x6.Outlet])),(.tmp 16,(.agg [I p1.Element,I p1.Outlet]))] (B ((([x6.Element,x6.Outlet]:List Int)==[p1.Element,p1.Outlet]))))] ⟨aid rfl underlying57 ti61 rfl rfl hi8 (mgt Qa3 hj9) rfl,Qss (ls:=[x6.Element,x6.Outlet]) (ks:=[p1.Element,p1.Outlet]) rfl rfl Zww (by kernel_rfl) rfl rfl,tv⟩ ?_
    refine bfe h (fun hc10 h=>?_) fun hc10 h=>?_
    ·exact wft hc10<|wxz<|Qah<|Qaq<|Qac<|Qac<|Qaq<|Qac<|frb h
    ·exact wfn hc10<|Qap<|bln<|thn<|wxz1<|thn<|arm (mto (n:=18) [(0,(Qyt p0)),(3,.ref 0 2 0 0),(5,(I (w64 (y2+1))))] [0] [(Q8i p1)] hφ0 (pc (rnd Qaz) (prr (pw pn))) (qb (lcc ln) qn)) (ih (w64 (y2+1)) h)
   ·exact wfn hc5<|Qbl<|Qax<|Qax<|Qbk rfl<|thn<|⟨(),h,(mto (n:=18) [] [] [] hφ0 pn qn)⟩
def Qfd (N:Nat) (p0:GNet) (y4:Int) (k10:(List Qa6)→Option Bool) (x11:Qad):Nat→(List Qa6)→Int→Option Bool
  |0,_,_=>none
  |n21+1,y17,y18=>
    bif (decide (y18<(x11.From.length:Int))) then
     (getI x11.From y18).bind fun x23=>
     (Qer N x23.Element 0 (w64 (y4-1))).bind fun x28=>
     bif (!x28) then
      some false
     else
      (getI p0.Elements x23.Element).bind fun x30=>
      (Qji N x30).bind fun x35=>
      (Qer N x23.Outlet 0 (w64 (x35-1))).bind fun x37=>
      bif (!x37) then
       some false
      else
       bif (decide (x11.Level>x30.Level)) then
        some false
       else
        (Qli N y17 x23).bind fun x41=>
        bif x41 then
         some false
        else
         chk (decide ((y17.length+([x23]).length)*16≤140737488355328))<|
         Qfd N p0 y4 k10 x11 n21 (y17++([x23])) (w64 (y18+1))
    else
     k10 (y17)
def Qeh (N:Nat) (p0:GNet) (k2:Unit→Option Bool):Nat→(List Qa6)→Int→Option Bool
  |0,_,_=>none
  |n7+1,y3,y4=>
    bif (decide (y4<(p0.Elements.length:Int))) then
     Qbn (fun y9=>
       Qeh N p0 k2 n7 y9 (w64 (y4+1))) fun k10:(List Qa6)→Option Bool=>
     (getI p0.Elements y4).bind fun x11=>
     Qbn (fun y15=>
       Qfd N p0 y4 k10 x11 N y15 0) fun k16:(List Qa6)→Option Bool=>
     (Qlj N x11).bind fun x45=>
     bif (!x45) then
      some false
     else
      (Qer N x11.Level 0 (w64 ((p0.Table.length:Int)-1))).bind fun x48=>
      bif (!x48) then
       some false
      else
       k16 (y3)
    else
     k2 ()
def Qlk (N:Nat) (p0:GNet):Option Bool:=
  Qbn (fun _=>
    Qbn (fun _=>
      some true) fun k2:Unit→Option Bool=>
    Qeh N p0 k2 N ([]) 0) fun k1:Unit→Option Bool=>
  (Qlm N p0.Table).bind fun x51=>
  bif (!x51) then
   some false
  else
   bif (decide ((p0.Elements.length:Int)<1)) then
    some false
   else
    bif (decide ((p0.Elements.length:Int)>16)) then
     some false
    else
     k1 ()
def Zol (p0:GNet):AV:=.dat 5 ((p0.Table:List GRow).map Qa7)
def Q4j (p0:GNet):AV:=.dat 7 ((p0.Elements:List Qad).map Qai)
def Qrf (p0:GNet):Slot:=.own 2 [[(Zol p0),(Q4j p0)]]
def Q4i (y15:(List Qa6)):AV:=.acc 1 61 2 ((y15:List Qa6).map Qa3)
def Qzo (x11:Qad):AV:=.dat 2 ((x11.From:List Qa6).map Qa3)
def Qsw (x11:Qad):Slot:=.own 7 [[(K .u8 (x11.Kind)),(Qzo x11),(I (x11.Level)),(I (x11.Amount)),(I (x11.Wide)),(I (x11.Narrow)),(.dat 1 ((x11.Weights:List Int).map Qav))]]
def Qzn (y17:(List Qa6)):AV:=.acc 1 61 2 ((y17:List Qa6).map Qa3)
def Q4h (x23:Qa6) (y4:Int) (x28:Bool):List (Nat×Rec):=[(4,rp [fu 25,((.tmp 62),(I (x23.Element))),ci 0,((.tmp 64),(I (w64 (y4-1))))] (B (x28)))]
def Zoj (x30:Qad):AV:=.agg [(K .u8 (x30.Kind)),(.dat 2 ((x30.From:List Qa6).map Qa3)),(I (x30.Level)),(I (x30.Amount)),(I (x30.Wide)),(I (x30.Narrow)),(.dat 1 ((x30.Weights:List Int).map Qav))]
def Q4g (x23) (y4) (x28) (p0:GNet) (x30:Qad) (x35:Int) (x37:Bool):=hcat (Q4h x23 y4 x28) [(6,rp [((.tmp 66),(B ((!x28))))] (B (false))),(13,rp [((.tmp 67),(B (false))),((.tmp 71),(Q4j p0)),((.tmp 73),(I (x23.Element)))] (.dptr (Qai (x30)) 0)),(15,rp [((.tmp 67),(B (false))),fu 71,((.tmp 75),(Zoj x30))] (I (x35))),(17,rp [((.tmp 67),(B (false))),fu 25,((.tmp 69),(I (x23.Outlet))),ci 0,((.tmp 77),(I (w64 (x35-1))))] (B (x37)))]
def Q4f (x23) (y4) (x28) (p0) (x30) (x35) (x37):=hcat (Q4g x23 y4 x28 p0 x30 x35 x37) [(20,rp [((.tmp 80),(B ((!x37))))] (B (false))),(27,rp [((.tmp 81),(B (false))),((.tmp 85),(Q4j p0)),((.tmp 87),(I (x23.Element)))] (.dptr (Qai (x30)) 0))]
def Qzm (x23:Qa6):AV:=.agg [(I (x23.Element)),(I (x23.Outlet))]
def Zok (x11:Qad):AV:=.agg [(K .u8 (x11.Kind)),(Qzo x11),(I (x11.Level)),(I (x11.Amount)),(I (x11.Wide)),(I (x11.Narrow)),(.dat 1 ((x11.Weights:List Int).map Qav))]
def Q4e (x11:Qad) (x45:Bool):List (Nat×Rec):=[(1,rp [fu 70,((.tmp 36),(Zok x11))] (B (x45)))]
def Q4d (p0:GNet) (x51:Bool):List (Nat×Rec):=[(2,rp [fu 69,((.tmp 9),(Zol p0))] (B (x51)))]
def Q4c (p0) (x51):=hcat (Q4d p0 x51) [(4,rp [((.tmp 11),(B ((!x51))))] (B (false))),(7,rp [((.tmp 12),(B (false))),((.tmp 14),(Q4j p0))] (I ((p0.Elements.length:Int))))]
theorem Qwd (N:Nat) (p0:GNet) (r:Bool) (h:Qlk N p0=some r):Spec prog 28 [(.agg (Qhv p0))] [] (B r) []:=by
  refine Qal func28 rfl 0 (nle rfl) (fun X φ0 w0 hφ0 hd0=>?_)
  unfold Qlk at h
  refine wxz ?_
  obtain⟨k1,hk_k1,h⟩:=jko h
  refine wjn (τ:=Unit) (fun t=>k1 t=some r) (fun _=>⟨mk 102 [(1,.ref 0 2 0 0)],[(Qrf p0)]⟩) (fun t h=>?_) ?_
  ·subst hk_k1
   refine wxz ?_
   obtain⟨k2,hk_k2,h⟩:=jko h
   refine wjn (τ:=Unit) (fun t=>k2 t=some r) (fun _=>⟨mk 102 [],[]⟩) (fun t h=>?_) ?_
   ·subst hk_k2
    exact wxz<|Qah<|frb h
   ·skip
    refine wxz<|Qao ?_
    refine wmr (Mor.trans (Qq8 1 61 2 3 (by kernel_rfl) (by kernel_rfl)) (mto (n:=102) (l':=[(1,.ref 0 2 0 0),(3,(.acc 1 61 2 ((([]):List Qa6).map Qa3))),(4,I 0)]) (own':=[(Qrf p0),.tok]) [(1,.ref 0 2 0 0),(3,(.acc 1 61 2 (([]:List Qa6).map Qa3))),(4,I 0)] [0,1] [(Qrf p0),.tok] hφ0 (prr (pc (.rn (Qdb rfl (Qcb Qaz _))) (pw pn))) (qb (lc (rnd Qan) (lc (rnd Qab) ln)) (qc .tok qn)))) ?_
    refine Qb3 (τ:=(List Qa6)×Int) (fun n t=>Qeh N p0 k2 n t.1 t.2=some r) (fun ⟨y3,y4⟩=>⟨mk 102 [(1,.ref 0 2 0 0),(3,(.acc 1 61 2 ((y3:List Qa6).map Qa3))),(4,I y4)],[(Qrf p0),.tok]⟩) (fun t h=>by rw[Qeh] at h;cases h) (fun n7 ih t h=>?_) N ([],0) h
    obtain⟨y3,y4⟩:=t
    rw[Qeh] at h
    skip
    refine wsq<|wx tbk [(3,rp [(.tmp 26,(Q4j p0))] (I ((p0.Elements.length:Int))))] ⟨alm (c:=Qai) (l:=p0.Elements) (aln rfl underlying24 rfl),tv⟩ ?_
    refine bfe h (fun hc8 h=>?_) fun hc8 h=>?_
    ·refine wft hc8<|Qap<|thn ?_
     obtain⟨k10,hk_k10,h⟩:=jko h
     refine wjn (τ:=(List Qa6)) (fun t=>k10 t=some r) (fun y9=>⟨mk 102 [(1,.ref 0 2 0 0),(3,(.acc 1 61 2 ((y9:List Qa6).map Qa3))),(4,I y4)],[(Qrf p0),.tok]⟩) (fun y9 h=>?_) ?_
     ·subst hk_k10
      exact wxz1<|thn<|arm (mto (n:=102) [(1,.ref 0 2 0 0),(3,(.acc 1 61 2 ((y9:List Qa6).map Qa3))),(4,(I (w64 (y4+1))))] [0,1] [(Qrf p0),.tok] hφ0 (prr (pc (.rn (Qdb rfl (Qcb Qaz _))) (pw pn))) (qb (lc (rnd Qan) (lc (rnd Qab) ln)) (qc .tok qn))) (ih (y9,w64 (y4+1)) h)
     ·skip
      refine Qao ?_
      obtain⟨x11,hg12,h⟩:=bno h
      obtain⟨hi13,hj14⟩:=gsm hg12
      refine wx tbk [(3,rp [(.tmp 32,(Q4j p0)),(.tmp 33,I y4)] (.dptr (Qai (x11)) 0))] ⟨aid rfl underlying24 ti59 rfl rfl hi13 (mgt Qai hj14) rfl,tv⟩ ?_
      obtain⟨k16,hk_k16,h⟩:=jko h
      refine wjn (τ:=(List Qa6)) (fun t=>k16 t=some r) (fun y15=>⟨mk 102 [(1,.ref 0 2 0 0),(3,(Q4i y15)),(4,I y4),(5,.ref 2 7 0 0)],[(Qrf p0),.tok,(Qsw x11)]⟩) (fun y15 h=>?_) ?_
      ·subst hk_k16
       refine wxz<|Qao ?_
       refine wmr (mto (n:=102) (l':=[(1,.ref 0 2 0 0),(3,(Q4i y15)),(4,I y4),(5,.ref 2 7 0 0),(6,I 0)]) (own':=[(Qrf p0),.tok,(Qsw x11)]) [(1,.ref 0 2 0 0),(3,(Q4i y15)),(4,I y4),(5,.ref 2 7 0 0),(6,I 0)] [0,1,2] [(Qrf p0),.tok,(Qsw x11)] hφ0 (prr (pc (.rn (Qdb rfl (Qcb Qaz _))) (pw (prr (pw pn))))) (qb (lc (rnd Qan) (lc (rnd Qab) ln)) (qc .tok (qb (lc rwl (lc (rnd Qaz) (lcc (lcc (lc (rnd Qaj) ln))))) qn)))) ?_
       refine Qb3 (τ:=(List Qa6)×Int) (fun n t=>Qfd N p0 y4 k10 x11 n t.1 t.2=some r) (fun ⟨y17,y18⟩=>⟨mk 102 [(1,.ref 0 2 0 0),(3,(Qzn y17)),(4,I y4),(5,.ref 2 7 0 0),(6,I y18)],[(Qrf p0),.tok,(Qsw x11)]⟩) (fun t h=>by rw[Qfd] at h;cases h) (fun n21 ih t h=>?_) N (y15,0) h
       obtain⟨y17,y18⟩:=t
       rw[Qfd] at h
       skip
       refine wsq<|wx tbk [(3,rp [(.tmp 51,(Qzo x11))] (I ((x11.From.length:Int))))] ⟨alm (c:=Qa3) (l:=x11.From) (aln rfl underlying57 rfl),tv⟩ ?_
       refine bfe h (fun hc22 h=>?_) fun hc22 h=>?_
       ·refine wft hc22<|Qap<|thn<|wsq<|Qao ?_
        obtain⟨x23,hg24,h⟩:=bno h
        obtain⟨hi25,hj26⟩:=gsm hg24
        refine wx tbk [(3,rp [(.tmp 57,(Qzo x11)),(.tmp 58,I y18)] (.dptr (Qa3 (x23)) 0))] ⟨aid rfl underlying57 ti61 rfl rfl hi25 (mgt Qa3 hj26) rfl,tv⟩<|wsq ?_
        obtain⟨x28,hf27,h⟩:=bno h
        refine hpre (A:=(Q4h x23 y4 x28)) ⟨apv Qix (Qdt N x23.Element 0 (w64 (y4-1)) _ hf27) (nlcc (nlc nll nl0)) nll,tv⟩ fun q1_=>?_
        refine bfe h (fun hb29 h=>?_) fun hb29 h=>?_
        ·refine wxd tbk (hcat (Q4h x23 y4 x28) [(6,rp [(.tmp 66,(B ((!x28))))] (B true))]) (hap q1_ ⟨asb hb29 (amv rfl),tv⟩)<|wtr<|wxz<|Qah<|Qac<|Qaq<|Qac<|Qac<|Qaq<|Qaq ?_
         exact Qac<|Qac<|Qaq<|Qac<|frb h
        ·obtain⟨x30,hg31,h⟩:=bno h
         obtain⟨hi32,hj33⟩:=gsm hg31
         obtain⟨x35,hf34,h⟩:=bno h
         obtain⟨x37,hf36,h⟩:=bno h
         refine hpre (A:=(Q4g x23 y4 x28 p0 x30 x35 x37)) (hap q1_ ⟨asb hb29 (amv rfl),ag_ (aid rfl underlying24 ti59 rfl rfl hi32 (mgt Qai hj33) rfl),ag_ (apv Zr6 (Qta N x30 _ hf34) (nlc (NLt.agg _ (nlc nll (nlc (nld Qaz _) (nlcc (nlcc (nlc (nld Qaj _) nl0)))))) nl0) nll),ag_ (apv Qix (Qdt N x23.Outlet 0 (w64 (x35-1)) _ hf36) (nlcc (nlc nll nl0)) nll),tv⟩) fun q2_=>?_
         refine bfe h (fun hb38 h=>?_) fun hb38 h=>?_
         ·refine wxd tbk (hcat (Q4g x23 y4 x28 p0 x30 x35 x37) [(20,rp [(.tmp 80,(B ((!x37))))] (B true))]) (hap q2_ ⟨asb hb38 (amv rfl),tv⟩)<|wtr<|wxz<|Qah<|Qac<|Qaq<|Qac<|Qac<|Qaq<|Qaq ?_
          exact Qac<|Qac<|Qaq<|Qac<|frb h
         ·refine hpre (A:=(Q4f x23 y4 x28 p0 x30 x35 x37)) (hap q2_ ⟨asb hb38 (amv rfl),ag_ (aid rfl underlying24 ti59 rfl rfl hi32 (mgt Qai hj33) rfl),tv⟩) fun q3_=>?_
          refine bfe h (fun hb39 h=>?_) fun hb39 h=>?_
          ·refine wxd tbk (hcat (Q4f x23 y4 x28 p0 x30 x35 x37) [(32,rp [(.tmp 92,(B ((decide (x11.Level>x30.Level)))))] (B true))]) (hap q3_ ⟨asb hb39 (amv rfl),tv⟩)<|wtr<|wxz<|Qah<|Qac<|Qaq<|Qac<|Qac<|Qaq<|Qaq ?_
           exact Qac<|Qac<|Qaq<|Qac<|frb h
          ·obtain⟨x41,hf40,h⟩:=bno h
           refine wxd tbk (hcat (Q4f x23 y4 x28 p0 x30 x35 x37) [(32,rp [(.tmp 92,(B ((decide (x11.Level>x30.Level)))))] (B false)),(35,rp [(.tmp 93,B false),fu 72,(.tmp 94,(Qzn y17)),(.tmp 95,(Qzm x23))] (B x41))]) (hap q3_ ⟨asb hb39 (amv rfl),ag_ (awk (rd':=(.func 72,(.fn (.func 72) [] []))::[(.tmp 94,(.dat 2 ((y17:List Qa6).map Qa3))),(.tmp 95,(Qzm x23))]) ⟨rfl,lrf,rfl,Less.acc,rfl,lrf,tv⟩ (apv Zr5 (Qwb N y17 x23 _ hf40) (nlc (nld Qaz _) (nlc (NLt.agg _ (nlcc nl0)) nl0)) nll)),tv⟩) ?_
           refine bfe h (fun hc42 h=>?_) fun hc42 h=>?_
           ·refine wft hc42<|wxz<|Qah<|Qac<|Qaq<|Qac<|Qac<|Qaq<|Qaq<|Qac ?_
            exact Qac<|Qaq<|Qac<|frb h
           ·refine wfn hc42<|Qap<|thn ?_
            obtain⟨ha43,h⟩:=cko h
            refine wx1 tbk [(2,rp [(.tmp 99,(Qzm x23))] (.dat 2 (([x23]:List Qa6).map Qa3))),(3,⟨[(.tmp 98,(Qzn y17)),(.tmp 100,(.dat 2 (([x23]:List Qa6).map Qa3)))],[(1,.tok),(4,.unused)],(.acc 4 61 2 ((y17++([x23]):List Qa6).map Qa3)),[(1,.dead),(4,.tok)],false⟩)] ⟨Qb7 (vs:=[(Qzm x23)]) rfl underlying57 ti61 tz61 rfl (by decide) rfl (by decide) (by rfl) (by rfl) (by rfl) rfl,Qhc rfl underlying57 te61 (Base.acc _ _) rfl rfl (by rfl) (Qko Qa3 ha43) (Qkn Qa3 ha43 (by decide)) (Qkm Qa3) rfl rfl,tv⟩<|bln<|thn<|wxz1<|thn ?_
            exact arm (mto (n:=102) [(1,.ref 0 2 0 0),(3,(.acc 4 61 2 ((y17++([x23]):List Qa6).map Qa3))),(4,I y4),(5,.ref 2 7 0 0),(6,(I (w64 (y18+1))))] [0,4,2] [(Qrf p0),.tok,(Qsw x11)] hφ0 (prr (pc (.rn (Qdb rfl (Qcb Qaz _))) (pw (prr (pw pn))))) (qb (lc (rnd Qan) (lc (rnd Qab) ln)) (qc .tok (qb (lc rwl (lc (rnd Qaz) (lcc (lcc (lc (rnd Qaj) ln))))) qn)))) (ih (y17++([x23]),w64 (y18+1)) h)
       ·exact wfn hc22<|Qbl<|Qax<|Qax<|Qbk rfl<|bln<|thn<|⟨(y17),h,(mto (n:=102) [(1,.ref 0 2 0 0),(3,(Qzn y17)),(4,I y4)] [0,1] [(Qrf p0),.tok] hφ0 (prr (pc (.rn (Qdb rfl (Qcb Qaz _))) (pw pn))) (qb (lc (rnd Qan) (lc (rnd Qab) ln)) (qc .tok qn)))⟩
      ·skip
       obtain⟨x45,hf44,h⟩:=bno h
       refine hpre (A:=(Q4e x11 x45)) ⟨apv Zr7 (Qwc N x11 _ hf44) (nlc (NLt.agg _ (nlc nll (nlc (nld Qaz _) (nlcc (nlcc (nlc (nld Qaj _) nl0)))))) nl0) nll,tv⟩ fun q4_=>?_
       refine bfe h (fun hb46 h=>?_) fun hb46 h=>?_
       ·refine wx tbk (hcat (Q4e x11 x45) [(3,rp [(.tmp 38,(B ((!x45))))] (B true))]) (hap q4_ ⟨asb hb46 (amv rfl),tv⟩)<|wtr<|wxz<|Qah<|Qac<|Qaq<|Qac<|Qac<|Qaq<|Qac ?_
        exact frb h
       ·obtain⟨x48,hf47,h⟩:=bno h
        refine wx tbk (hcat (Q4e x11 x45) [(3,rp [(.tmp 38,(B ((!x45))))] (B false)),(8,rp [(.tmp 39,B false),(.tmp 43,(Zol p0))] (I ((p0.Table.length:Int)))),(10,rp [(.tmp 39,B false),fu 25,(.tmp 41,I x11.Level),ci 0,(.tmp 45,(I (w64 ((p0.Table.length:Int)-1))))] (B x48))]) (hap q4_ ⟨asb hb46 (amv rfl),ag_ (alm (c:=Qa7) (l:=p0.Table) (aln rfl underlying23 rfl)),ag_ (apv Qix (Qdt N x11.Level 0 (w64 ((p0.Table.length:Int)-1)) _ hf47) (nlcc (nlc nll nl0)) nll),tv⟩) ?_
        refine bfe h (fun hc49 h=>?_) fun hc49 h=>?_
        ·exact wft hc49<|wxz<|Qah<|Qac<|Qaq<|Qac<|Qac<|Qaq<|Qac<|frb h
        ·exact wfn hc49<|Qap<|thn<|⟨(y3),h,(mto (n:=102) [(1,.ref 0 2 0 0),(3,(.acc 1 61 2 ((y3:List Qa6).map Qa3))),(4,I y4),(5,.ref 2 7 0 0)] [0,1,2] [(Qrf p0),.tok,(Qsw x11)] hφ0 (prr (pc (.rn (Qdb rfl (Qcb Qaz _))) (pw (prr pn)))) (qb (lc (rnd Qan) (lc (rnd Qab) ln)) (qc .tok (qb (lc rwl (lc (rnd Qaz) (lcc (lcc (lc (rnd Qaj) ln))))) qn))))⟩
    ·exact wfn hc8<|Qbl<|Qax<|Qax<|Qbk rfl<|thn<|⟨(),h,(mto (n:=102) [] [] [] hφ0 pn qn)⟩
  ·skip
   obtain⟨x51,hf50,h⟩:=bno h
   refine hpre (A:=(Q4d p0 x51)) ⟨apv Zr8 (Qwf N p0.Table _ hf50) (nlc (nld Qan _) nl0) nll,tv⟩ fun q5_=>?_
   refine bfe h (fun hb52 h=>?_) fun hb52 h=>?_
   ·exact wx tbk (hcat (Q4d p0 x51) [(4,rp [(.tmp 11,(B ((!x51))))] (B true))]) (hap q5_ ⟨asb hb52 (amv rfl),tv⟩)<|wtr<|wxz<|Qah<|Qac<|frb h
   ·refine hpre (A:=(Q4c p0 x51)) (hap q5_ ⟨asb hb52 (amv rfl),ag_ (alm (c:=Qai) (l:=p0.Elements) (aln rfl underlying24 rfl)),tv⟩) fun q6_=>?_
    refine bfe h (fun hb53 h=>?_) fun hb53 h=>?_
    ·exact wx tbk (hcat (Q4c p0 x51) [(10,rp [(.tmp 17,(B ((decide ((p0.Elements.length:Int)<1)))))] (B true))]) (hap q6_ ⟨asb hb53 (amv rfl),tv⟩)<|wtr<|wxz<|Qah<|Qac<|frb h
    ·refine wx tbk (hcat (Q4c p0 x51) [(10,rp [(.tmp 17,(B ((decide ((p0.Elements.length:Int)<1)))))] (B false)),(13,rp [(.tmp 18,B false),(.tmp 20,(Q4j p0))] (I ((p0.Elements.length:Int))))]) (hap q6_ ⟨asb hb53 (amv rfl),ag_ (alm (c:=Qai) (l:=p0.Elements) (aln rfl underlying24 rfl)),tv⟩) ?_
     refine bfe h (fun hc54 h=>?_) fun hc54 h=>?_
     ·exact wft hc54<|wxz<|Qah<|Qac<|frb h
     ·exact wfn hc54<|Qap<|thn<|⟨(),h,(mto (n:=102) [(1,.ref 0 2 0 0)] [0] [(Qrf p0)] hφ0 (prr pn) (qb (lc (rnd Qan) (lc (rnd Qab) ln)) qn))⟩
def Qdw (N:Nat) (k1:Unit→Option Bool) (p1:(List Int)):Nat→Int→Option Bool
  |0,_=>none
  |n4+1,y2=>
    bif (decide (y2<(p1.length:Int))) then
     (getI p1 y2).bind fun x6=>
     (Qer N x6 0 1000000000000).bind fun x11=>
     bif (!x11) then
      some false
     else
      Qdw N k1 p1 n4 (w64 (y2+1))
    else
     k1 ()
def Qhn (N:Nat) (p0:GNet) (p1:(List Int)):Option Bool:=
  Qbn (fun _=>
    some ((p1.length:Int)==(p0.Elements.length:Int))) fun k1:Unit→Option Bool=>
  Qdw N k1 p1 N 0
def Qrs (p1:(List Int)):AV:=.dat 1 ((p1:List Int).map Qav)
def Znz (p0:GNet):AV:=.dat 7 ((p0.Elements:List Qad).map Qai)
def Qys (p0:GNet):Slot:=.own 2 [[(.dat 5 ((p0.Table:List GRow).map Qa7)),(Znz p0)]]
theorem Qp7 (N:Nat) (p0:GNet) (p1:(List Int)) (r:Bool) (h:Qhn N p0 p1=some r):Spec prog 33 [(.agg (Qhv p0)),(.dat 1 (p1.map Qav))] [] (B r) []:=by
  refine Qal func33 rfl 0 (nle rfl) (fun X φ0 w0 hφ0 hd0=>?_)
  unfold Qhn at h
  refine wxz ?_
  obtain⟨k1,hk_k1,h⟩:=jko h
  refine wjn (τ:=Unit) (fun t=>k1 t=some r) (fun _=>⟨mk 24 [(1,(Qrs p1)),(2,.ref 0 2 0 0)],[(Qys p0)]⟩) (fun t h=>?_) ?_
  ·subst hk_k1
   refine wx tbk [(1,rp [(.tmp 18,(Qrs p1))] (I ((p1.length:Int)))),(4,rp [(.tmp 21,(Znz p0))] (I ((p0.Elements.length:Int))))] ⟨alm (c:=Qav) (l:=p1) (aln rfl underlying27 rfl),alm (c:=Qai) (l:=p0.Elements) (aln rfl underlying24 rfl),tv⟩<|Qah ?_
   obtain rfl:=osi h
   exact fend ⟨[(B (((p1.length:Int)==(p0.Elements.length:Int))))],⟨rot,tv⟩,rfl⟩ nll
  ·skip
   refine wxz<|Qao ?_
   refine wmr (mto (n:=24) (l':=[(1,(Qrs p1)),(2,.ref 0 2 0 0),(5,I 0)]) (own':=[(Qys p0)]) [(1,(Qrs p1)),(2,.ref 0 2 0 0),(5,I 0)] [0] [(Qys p0)] hφ0 (pc (rnd Qaj) (prr (pw pn))) (qb (lc (rnd Qan) (lc (rnd Qab) ln)) qn)) ?_
   refine Qb3 (τ:=Int) (fun n t=>Qdw N k1 p1 n t=some r) (fun y2=>⟨mk 24 [(1,(Qrs p1)),(2,.ref 0 2 0 0),(5,I y2)],[(Qys p0)]⟩) (fun t h=>by rw[Qdw] at h;cases h) (fun n4 ih y2 h=>?_) N (0) h
   rw[Qdw] at h
   skip
   refine wsq<|wx tbk [(2,rp [(.tmp 7,(Qrs p1))] (I ((p1.length:Int))))] ⟨alm (c:=Qav) (l:=p1) (aln rfl underlying27 rfl),tv⟩ ?_
   refine bfe h (fun hc5 h=>?_) fun hc5 h=>?_
   ·refine wft hc5<|Qap<|thn<|wsq<|Qao ?_
    obtain⟨x6,hg7,h⟩:=bno h
    obtain⟨hi8,hj9⟩:=gsm hg7
    obtain⟨x11,hf10,h⟩:=bno h
    refine wx tbk [(2,rp [(.tmp 12,(Qrs p1)),(.tmp 13,I y2)] (.dptr (Qav (x6)) 0)),(4,rp [fu 25,(.tmp 15,I x6),ci 0,ci 1000000000000] (B x11))] ⟨aid rfl underlying27 ti3 rfl rfl hi8 (mgt Qav hj9) rfl,apv Qix (Qdt N x6 0 1000000000000 _ hf10) (nlcc (nlc nll nl0)) nll,tv⟩ ?_
    refine bfe h (fun hc12 h=>?_) fun hc12 h=>?_
    ·exact wft hc12<|wxz<|Qah<|Qaq<|Qac<|Qac<|Qaq<|Qac<|frb h
    ·exact wfn hc12<|Qap<|bln<|thn<|wxz1<|thn<|arm (mto (n:=24) [(1,(Qrs p1)),(2,.ref 0 2 0 0),(5,(I (w64 (y2+1))))] [0] [(Qys p0)] hφ0 (pc (rnd Qaj) (prr (pw pn))) (qb (lc (rnd Qan) (lc (rnd Qab) ln)) qn)) (ih (w64 (y2+1)) h)
   ·exact wfn hc5<|Qbl<|Qax<|Qax<|Qbk rfl<|thn<|⟨(),h,(mto (n:=24) [(1,(Qrs p1)),(2,.ref 0 2 0 0)] [0] [(Qys p0)] hφ0 (pc (rnd Qaj) (prr pn)) (qb (lc (rnd Qan) (lc (rnd Qab) ln)) qn))⟩
def Qg3 (N:Nat) (p0:Qaa):Option Bool:=
  (Qer N p0.Mass 0 1000000).bind fun x2=>
  bif x2 then
   (Qer N p0.Heat 0 (w64 (4000*p0.Mass))).bind fun x5=>
   bif x5 then
    (Qer N p0.Silica 0 (w64 (10000*p0.Mass))).bind fun x8=>
    bif x8 then
     (Qer N p0.Gas 0 1000000000).bind fun x11=>
     some x11
    else
     some false
   else
    some false
  else
   some false
def Ze1 (p0:Qaa) (x2:Bool):List (Nat×Rec):=[(2,rp [fu 25,((.tmp 4),(I (p0.Mass))),ci 0,ci 1000000] (B (x2)))]
def Ze0 (p0) (x2) (x5:Bool):=hcat (Ze1 p0 x2) [(3,rp [((.tmp 5),(B (x2)))] (B (true))),(9,rp [((.tmp 6),(B (true))),fu 25,((.tmp 8),(I (p0.Heat))),ci 0,((.tmp 11),(I (w64 (4000*p0.Mass))))] (B (x5)))]
def Zez (p0) (x2) (x5) (x8:Bool):=hcat (Ze0 p0 x2 x5) [(11,rp [((.tmp 13),(B (x5)))] (B (true))),(17,rp [((.tmp 14),(B (true))),fu 25,((.tmp 16),(I (p0.Silica))),ci 0,((.tmp 19),(I (w64 (10000*p0.Mass))))] (B (x8)))]
theorem Qpe (N:Nat) (p0:Qaa) (r:Bool) (h:Qg3 N p0=some r):Spec prog 121 [(.agg (Qae p0))] [] (B r) []:=by
  refine Qal func121 rfl 0 (nle rfl) (fun X φ0 w0 hφ0 hd0=>?_)
  unfold Qg3 at h
  refine wxz ?_
  obtain⟨x2,hf1,h⟩:=bno h
  refine hpre (A:=(Ze1 p0 x2)) ⟨apv Qix (Qdt N p0.Mass 0 1000000 _ hf1) (nlcc (nlc nll nl0)) nll,tv⟩ fun q1_=>?_
  refine bfe h (fun hb3 h=>?_) fun hb3 h=>?_
  ·obtain⟨x5,hf4,h⟩:=bno h
   refine hpre (A:=(Ze0 p0 x2 x5)) (hap q1_ ⟨asb hb3 (amv rfl),ag_ (apv Qix (Qdt N p0.Heat 0 (w64 (4000*p0.Mass)) _ hf4) (nlcc (nlc nll nl0)) nll),tv⟩) fun q2_=>?_
   refine bfe h (fun hb6 h=>?_) fun hb6 h=>?_
   ·obtain⟨x8,hf7,h⟩:=bno h
    refine hpre (A:=(Zez p0 x2 x5 x8)) (hap q2_ ⟨asb hb6 (amv rfl),ag_ (apv Qix (Qdt N p0.Silica 0 (w64 (10000*p0.Mass)) _ hf7) (nlcc (nlc nll nl0)) nll),tv⟩) fun q3_=>?_
    refine bfe h (fun hb9 h=>?_) fun hb9 h=>?_
    ·obtain⟨x11,hf10,h⟩:=bno h
     exact wx tbk (hcat (Zez p0 x2 x5 x8) [(19,rp [(.tmp 21,B x8)] (B true)),(22,rp [(.tmp 22,B true),fu 25,(.tmp 24,I p0.Gas),ci 0,ci 1000000000] (B x11))]) (hap q3_ ⟨asb hb9 (amv rfl),ag_ (apv Qix (Qdt N p0.Gas 0 1000000000 _ hf10) (nlcc (nlc nll nl0)) nll),tv⟩)<|Qah<|frb h
    ·exact wx tbk (hcat (Zez p0 x2 x5 x8) [(19,rp [(.tmp 21,B x8)] (B false))]) (hap q3_ ⟨asb hb9 (amv rfl),tv⟩)<|Qah<|frb h
   ·exact wx tbk (hcat (Ze0 p0 x2 x5) [(11,rp [(.tmp 13,B x5)] (B false))]) (hap q2_ ⟨asb hb6 (amv rfl),tv⟩)<|Qah<|frb h
  ·exact wx tbk (hcat (Ze1 p0 x2) [(3,rp [(.tmp 5,B x2)] (B false))]) (hap q1_ ⟨asb hb3 (amv rfl),tv⟩)<|Qah<|frb h
def Ql7 (_N:Nat) (p0:Qaa):Option Qaa:=
  some p0
def Zny (p0:Qaa):AV:=.agg [(I (p0.Mass)),(I (p0.Heat)),(I (p0.Silica)),(I (p0.Gas))]
theorem Qum (N:Nat) (p0:Qaa) (r:Qaa) (h:Ql7 N p0=some r):Spec prog 60 [(.agg (Qae p0))] [] (.agg (Qae r)) []:=by
  refine Qal func60 rfl 0 (nle rfl) (fun X φ0 w0 hφ0 hd0=>?_)
  unfold Ql7 at h
  refine wxz<|wx tbk [(8,rp [(.tmp 4,I p0.Mass),(.tmp 6,I p0.Heat),(.tmp 8,I p0.Silica),(.tmp 10,I p0.Gas)] (Zny p0))] ⟨Qa8 (vs:=[I p0.Mass,I p0.Heat,I p0.Silica,I p0.Gas]) rfl ts63 tz63 rfl (by rfl) rfl,tv⟩<|Qah ?_
  obtain rfl:=osi h
  exact fend ⟨[(Zny p0)],⟨Qb2 (n:=1) (m:=4) (j:=0) (i:=0) (xs:=[[I p0.Mass,I p0.Heat,I p0.Silica,I p0.Gas]]) (by kernel_rfl) (by kernel_rfl) ti63 (by decide) rfl (nle rfl) rfl,tv⟩,rfl⟩ (NLt.agg _ (nlcc (nlcc nl0)))
def Qeg (N:Nat) (p0:(List Qaa)) (k2:(List Qaa)→Option (List Qaa)):Nat→(List Qaa)→Int→Option (List Qaa)
  |0,_,_=>none
  |n7+1,y3,y4=>
    bif (decide (y4<(p0.length:Int))) then
     (getI p0 y4).bind fun x9=>
     (Ql7 N x9).bind fun x14=>
     chk (decide ((y3.length+([x14]).length)*32≤140737488355328))<|
     Qeg N p0 k2 n7 (y3++([x14])) (w64 (y4+1))
    else
     k2 (y3)
def Qhf (N:Nat) (p0:(List Qaa)):Option (List Qaa):=
  Qbn (fun y1=>
    some y1) fun k2:(List Qaa)→Option (List Qaa)=>
  Qeg N p0 k2 N ([]) 0
def Qyr (p0:(List Qaa)):AV:=.dat 4 ((p0:List Qaa).map Qae)
def Q5c (y3:(List Qaa)):AV:=.acc 0 63 4 ((y3:List Qaa).map Qae)
def Zud (x9:Qaa):AV:=.agg [(I (x9.Mass)),(I (x9.Heat)),(I (x9.Silica)),(I (x9.Gas))]
def Q5b (x14:Qaa):AV:=.agg [(I (x14.Mass)),(I (x14.Heat)),(I (x14.Silica)),(I (x14.Gas))]
theorem Qkx (N:Nat) (p0:(List Qaa)) (r:(List Qaa)) (h:Qhf N p0=some r):Spec prog 19 [(.dat 4 (p0.map Qae))] [] (.dat 4 (r.map Qae)) []:=by
  refine Qal func19 rfl 0 (nle rfl) (fun X φ0 w0 hφ0 hd0=>?_)
  unfold Qhf at h
  refine wxz<|wxz ?_
  obtain⟨k2,hk_k2,h⟩:=jko h
  refine wjn (τ:=(List Qaa)) (fun t=>k2 t=some r) (fun y1=>⟨mk 20 [(3,(.acc 0 63 4 ((y1:List Qaa).map Qae)))],[.tok]⟩) (fun y1 h=>?_) ?_
  ·subst hk_k2
   refine wxz<|Qah ?_
   obtain rfl:=osi h
   exact fend ⟨[(.dat 4 ((y1:List Qaa).map Qae))],⟨Qep (v:=(.acc 0 63 4 ((y1:List Qaa).map Qae))) (rot) Less.acc,tv⟩,rfl⟩ (nld Qak _)
  ·skip
   refine wxz<|Qao ?_
   refine wmr (Mor.trans (Qq8 0 63 4 3 (by kernel_rfl) (by kernel_rfl)) (mto (n:=20) (l':=[(0,(Qyr p0)),(3,(.acc 0 63 4 ((([]):List Qaa).map Qae))),(4,I 0)]) (own':=[.tok]) [(0,(Qyr p0)),(3,(.acc 0 63 4 (([]:List Qaa).map Qae))),(4,I 0)] [0] [.tok] hφ0 (pc (rnd Qak) (pc (.rn (Qdb rfl (Qcb Qak _))) (pw pn))) (qc .tok qn))) ?_
   refine Qb3 (τ:=(List Qaa)×Int) (fun n t=>Qeg N p0 k2 n t.1 t.2=some r) (fun ⟨y3,y4⟩=>⟨mk 20 [(0,(Qyr p0)),(3,(Q5c y3)),(4,I y4)],[.tok]⟩) (fun t h=>by rw[Qeg] at h;cases h) (fun n7 ih t h=>?_) N ([],0) h
   obtain⟨y3,y4⟩:=t
   rw[Qeg] at h
   skip
   refine wsq<|wx tbk [(2,rp [(.tmp 6,(Qyr p0))] (I ((p0.length:Int))))] ⟨alm (c:=Qae) (l:=p0) (aln rfl underlying28 rfl),tv⟩ ?_
   refine bfe h (fun hc8 h=>?_) fun hc8 h=>?_
   ·refine wft hc8<|Qap<|thn<|wsq<|Qao ?_
    obtain⟨x9,hg10,h⟩:=bno h
    obtain⟨hi11,hj12⟩:=gsm hg10
    obtain⟨x14,hf13,h⟩:=bno h
    obtain⟨ha15,h⟩:=cko h
    refine wx1 tbk [(3,rp [(.tmp 12,(Qyr p0)),(.tmp 13,I y4)] (.dptr (Qae (x9)) 0)),(5,rp [fu 60,(.tmp 15,(Zud x9))] (Q5b x14)),(6,rp [(.tmp 16,(Q5b x14))] (.dat 4 (([x14]:List Qaa).map Qae))),(7,⟨[(.tmp 11,(Q5c y3)),(.tmp 17,(.dat 4 (([x14]:List Qaa).map Qae)))],[(0,.tok),(1,.unused)],(.acc 1 63 4 ((y3++([x14]):List Qaa).map Qae)),[(0,.dead),(1,.tok)],false⟩)] ⟨aid rfl underlying28 ti89 rfl rfl hi11 (mgt Qae hj12) rfl,apv Zsa (Qum N x9 _ hf13) (nlc (NLt.agg _ (nlcc (nlcc nl0))) nl0) (NLt.agg _ (nlcc (nlcc nl0))),Qb7 (vs:=[(Q5b x14)]) rfl underlying45 ti63 tz63 rfl (by decide) rfl (by decide) (by rfl) (by rfl) (by rfl) rfl,Qhc rfl underlying45 te63 (Base.acc _ _) rfl rfl (by rfl) (Qko Qae ha15) (Qkn Qae ha15 (by decide)) (Qkm Qae) rfl rfl,tv⟩<|bln<|thn<|wxz1<|thn ?_
    exact arm (mto (n:=20) [(0,(Qyr p0)),(3,(.acc 1 63 4 ((y3++([x14]):List Qaa).map Qae))),(4,(I (w64 (y4+1))))] [1] [.tok] hφ0 (pc (rnd Qak) (pc (.rn (Qdb rfl (Qcb Qak _))) (pw pn))) (qc .tok qn)) (ih (y3++([x14]),w64 (y4+1)) h)
   ·exact wfn hc8<|Qbl<|Qax<|Qax<|Qbk rfl<|thn<|⟨(y3),h,(mto (n:=20) [(3,(Q5c y3))] [0] [.tok] hφ0 (pc (.rn (Qdb rfl (Qcb Qak _))) pn) (qc .tok qn))⟩
end
section
open Go.RowKit
theorem Qbm {x:Int}(h:-9223372036854775808≤x) (h':x≤9223372036854775807):w64 x=x:=by
 unfold w64
 rw[IntKind.wrap_i64]
 omega
theorem Qb6 {α:Type}{l:List α}{i:Nat}{x:α}(h:l[i]? = some x):getI l (i:Int)=some x:=by
 simp[getI,h]
def btw (a lo hi:Int):Bool:=decide (lo≤a)&&decide (a≤hi)
theorem Qga {a lo hi:Int}:btw a lo hi=true↔lo≤a∧a≤hi:=by simp[btw]
theorem Qo4 (a b:Int):w64 (w64 a+b)=w64 (a+b):=by
 unfold w64
 rw[IntKind.wrap_i64,IntKind.wrap_i64,IntKind.wrap_i64]
 omega
theorem Q3g:maxLen=9223372036854775807:=rfl
theorem Qfi {κ β:Type}(k:κ) (f:κ→Option β):Qbn k f=f k:=by rw[Qbn]
def rowB (r:GRow):Bool:=btw r.T 0 400&&btw r.P 1 10000&&btw r.Liquid 0 4000&&btw r.Silica 0 2000&&decide (r.Liquid<r.Vapour)&&decide (r.Vapour≤4000)
def Zfo (o r:GRow):Bool:=decide (o.T<r.T)&&decide (o.P<r.P)&&decide (o.Liquid<r.Liquid)&&decide (o.Silica≤r.Silica)
def Qrz:List GRow→Bool
 |a::b::l=>Zfo a b&&Qrz (b::l)
 |_=>true
def tabB (t:List GRow):Bool:=btw t.length 2 20&&t.all rowB&&Qrz t
theorem Q57 (N:Nat) (a lo hi:Int):Qer N a lo hi=some (btw a lo hi):=by
 unfold Qer btw
 by_cases h:lo≤a<;>simp[h]
theorem Qnn (N:Nat) (a lo hi:Int):Qdv N a lo hi=some (btw a lo hi):=by
 unfold Qdv btw
 by_cases h:lo≤a<;>simp[h]
theorem Zmr (N:Nat) (r:GRow):Qib N r=some (rowB r):=by
 unfold Qib rowB
 simp only[Qnn,Option.bind_some]
 cases btw r.T 0 400<;>cases btw r.P 1 10000<;>cases btw r.Liquid 0 4000<;>cases btw r.Silica 0 2000<;>by_cases h:r.Liquid<r.Vapour<;>simp[h]
theorem Qbs {α:Type}{t:List α}{i:Nat}{a:α}{l:List α}(h:t.drop i=a::l):t[i]? = some a∧t.drop (i+1)=l∧i<t.length:=by
 have hlt:i<t.length:=by
  rcases Nat.lt_or_ge i t.length with h' |h'
  ·exact h'
  ·rw[List.drop_eq_nil_of_le h'] at h;cases h
 rw[List.drop_eq_getElem_cons hlt] at h
 injection h with h1 h2
 exact⟨by rw[List.getElem?_eq_getElem hlt,h1],h2,hlt⟩
theorem Qb4 {α:Type}{t:List α}{i:Nat}(h:t.drop i=[]):t.length≤i:=List.drop_eq_nil_iff.1 h
theorem Q6k (N:Nat) (t:List GRow) (k:Unit→Option Int) (hl:t.length≤1000):∀(n i:Nat),(t.drop i).length<n→i≤t.length →
  Qbh N t k n i=bif (t.drop i).all rowB then k () else some ((i:Int)+((t.drop i).findIdx fun r=>!rowB r:Nat)):=by
 intro n
 induction n with
 |zero=>intro i h;omega
 |succ n ih=>
  intro i h hi
  unfold Qbh
  cases hd:t.drop i with
  |nil=>
   have:=Qb4 hd
   rw[show(decide ((i:Int)<(t.length:Int)))=false by simp;omega]
   rfl
  |cons a l=>
   obtain⟨h1,h2,h3⟩:=Qbs hd
   rw[show(decide ((i:Int)<(t.length:Int)))=true by simp;omega]
   simp only[cond_true,Qb6 h1,Option.bind_some,Qfw,Zmr]
   cases hr:rowB a with
   |false=>simp[hr,List.findIdx_cons]
   |true=>
    have e:w64 ((i:Int)+1)=((i+1:Nat):Int):=by rw[Qbm]<;>omega
    rw[e]
    have:=ih (i+1) (by rw[h2];rw[hd] at h;simpa using h) (by omega)
    simp only[Bool.not_true,cond_false,this,h2,List.all_cons,hr,Bool.true_and,List.findIdx_cons]
    congr 2
    push_cast
    omega
theorem Zim {N:Nat}{t:List GRow}(hl:t.length≤1000) (hN:1001≤N):Qfn N t=some (t.all rowB):=by
 have:=Q6k N t (fun _=>some (-1)) hl N 0 (by simp;omega) (Nat.zero_le _)
 rw[show((0:Nat):Int)=0 from rfl,List.drop_zero] at this
 unfold Qfn Qc0 Qde Qbn
 dsimp only
 rw[this]
 cases h:t.all rowB with
 |true=>simp
 |false=>simp
theorem Zax (N:Nat) (t:List GRow) (k:Unit→Option Bool) (hl:t.length≤1000):∀(n i:Nat),(t.drop i).length<n→i<t.length →
  Qdo N t k n i=bif Qrz (t.drop i) then k () else some false:=by
 intro n
 induction n with
 |zero=>intro i h;omega
 |succ n ih=>
  intro i h hi
  unfold Qdo
  have hdr:∀x,(t.drop (1:Int).toNat)[i]? = some x↔t[i+1]? = some x:=fun x=>by
   rw[show(1:Int).toNat=1 from rfl,List.getElem?_drop,Nat.add_comm]
  have hlen:(t.drop (1:Int).toNat).length=t.length-1:=by simp
  cases hd:t.drop i with
  |nil=>have:=Qb4 hd;omega
  |cons a l=>
   obtain⟨h1,h2,h3⟩:=Qbs hd
   cases l with
   |nil=>
    have:=Qb4 h2
    rw[show(decide ((i:Int)<((t.drop (1:Int).toNat).length:Int)))=false by rw[hlen];simp;omega]
    rfl
   |cons b l=>
    obtain⟨h4,h5,h6⟩:=Qbs h2
    rw[show(decide ((i:Int)<((t.drop (1:Int).toNat).length:Int)))=true by rw[hlen];simp;omega]
    have e:w64 ((i:Int)+1)=((i+1:Nat):Int):=by rw[Qbm]<;>omega
    simp only[cond_true,Qb6 ((hdr b).2 h4),Qb6 h1,Option.bind_some,e]
    have:=ih (i+1) (by rw[h2];rw[hd] at h;simpa using h) (by omega)
    simp only[this,h2,Qrz,Zfo]
    by_cases c1:b.T≤a.T
    ·simp[c1,Int.not_lt.2 c1]
    ·by_cases c2:b.P≤a.P
     ·simp[c1,c2,Int.not_lt.2 c2]
     ·by_cases c3:b.Liquid≤a.Liquid
      ·simp[c1,c2,c3,Int.not_lt.2 c3]
      ·by_cases c4:b.Silica<a.Silica
       ·simp[c1,c2,c3,c4,Int.not_le.2 c4]
       ·simp[c1,c2,c3,c4,Int.not_le.1 c1,Int.not_le.1 c2,Int.not_le.1 c3,Int.not_lt.1 c4]
theorem Q2h {N:Nat}{t:List GRow}(hl:t.length≤1000) (hN:1001≤N):Qfx N t=some (tabB t):=by
 unfold Qfx tabB
 rw[Qnn,Zim hl hN]
 cases hb:btw t.length 2 20 with
 |false=>rfl
 |true=>
  have h2:2≤t.length:=by simp[btw] at hb;omega
  cases ha:t.all rowB with
  |false=>rfl
  |true=>
   have:=Zax N t (fun _=>some true) hl N 0 (by simp;omega) (by omega)
   rw[show((0:Nat):Int)=0 from rfl,List.drop_zero] at this
   simp only[Option.bind_some,Bool.not_true,cond_false,Qbn,Bool.true_and]
   rw[this]
   rw[show(decide ((1:Int)≤(t.length:Int)))=true by rw[decide_eq_true_eq];omega]
   cases Qrz t<;>simp[chk]
def Q53:Option GRow→List GRow→Bool
 |_,[]=>true
 |o,a::l=>rowB a&&(match o with |none=>true |some p=>Zfo p a)&&Q53 (some a) l
theorem Qy3:∀(a:GRow) (l:List GRow),Q53 (some a) l=(l.all rowB&&Qrz (a::l))
 |_,[]=>rfl
 |a,b::l=>by
  rw[Q53,Qy3 b l,List.all_cons,Qrz]
  cases rowB b<;>cases l.all rowB<;>cases Zfo a b<;>simp
theorem Zbc:∀(t:List GRow),Q53 none t=(t.all rowB&&Qrz t)
 |[]=>rfl
 |a::l=>by
  rw[Q53,Qy3 a l,List.all_cons]
  cases rowB a<;>simp
theorem Q5o (N:Nat) (t:List GRow) (k:Unit→Option Bool) (hl:t.length≤9223372036854775807):∀(n i:Nat),(t.drop i).length<n→i≤t.length →
  Qej N t k n i=bif Q53 (if i=0 then none else t[i-1]?) (t.drop i) then k () else some false:=by
 intro n
 induction n with
 |zero=>intro i h;omega
 |succ n ih=>
  intro i h hi
  unfold Qej
  cases hd:t.drop i with
  |nil=>
   have:=Qb4 hd
   rw[show(decide ((i:Int)<(t.length:Int)))=false by simp;omega]
   rfl
  |cons a l=>
   obtain⟨h1,h2,h3⟩:=Qbs hd
   rw[show(decide ((i:Int)<(t.length:Int)))=true by simp;omega]
   have e:w64 ((i:Int)+1)=((i+1:Nat):Int):=by rw[Qbm]<;>omega
   have:=ih (i+1) (by rw[h2];rw[hd] at h;simpa using h) (by omega)
   simp only[Nat.add_sub_cancel,Nat.succ_ne_zero,if_false,h1,h2] at this
   simp only[cond_true,Qb6 h1,Option.bind_some,e,Q57,this,Q53,rowB,Qbn]
   cases btw a.T 0 400
   ·rfl
   cases btw a.P 1 10000
   ·rfl
   cases btw a.Liquid 0 4000
   ·rfl
   cases btw a.Silica 0 2000
   ·rfl
   by_cases c1:a.Vapour≤a.Liquid
   ·simp[c1,Int.not_lt.2 c1]
   by_cases c2:a.Vapour>4000
   ·simp[c1,c2,Int.not_le.2 c2]
   cases i with
   |zero=>simp[c1,c2,Int.not_le.1 c1,Int.not_lt.1 c2]
   |succ i=>
    have hp:t[i]? = some t[i]:=List.getElem?_eq_getElem (by omega)
    have e2:w64 (((i+1:Nat):Int)-1)=(i:Int):=by rw[Qbm]<;>omega
    have e3:(decide (((i+1:Nat):Int)>0))=true:=by rw[decide_eq_true_eq];omega
    generalize t[i]=b at hp
    simp only[Bool.not_true,cond_false,e3,cond_true,e2,Qb6 hp,Option.bind_some,Nat.add_sub_cancel,hp,Zfo,show ¬(i+1=0) by omega,if_false,decide_eq_false c1,decide_eq_false c2,decide_eq_true (Int.not_le.1 c1),decide_eq_true (Int.not_lt.1 c2),Bool.true_and]
    by_cases d1:a.T≤b.T
    ·simp[d1,Int.not_lt.2 d1]
    ·by_cases d2:a.P≤b.P
     ·simp[d1,d2,Int.not_lt.2 d2]
     ·by_cases d3:a.Liquid≤b.Liquid
      ·simp[d1,d2,d3,Int.not_lt.2 d3]
      ·by_cases d4:a.Silica<b.Silica
       ·simp[d1,d2,d3,d4,Int.not_le.2 d4]
       ·simp[d1,d2,d3,d4,Int.not_le.1 d1,Int.not_le.1 d2,Int.not_le.1 d3,Int.not_lt.1 d4]
theorem Zf0 {N:Nat}{t:List GRow}(hl:t.length≤9223372036854775807) (hN:t.length<N):Qlm N t=some (tabB t):=by
 have:=fun k=>Q5o N t k hl N 0 (by simp;omega) (Nat.zero_le _)
 unfold Qlm Qbn tabB
 rw[show((0:Nat):Int)=0 from rfl] at this
 dsimp only
 rw[this]
 simp only[List.drop_zero,if_true,Zbc,btw]
 by_cases h:(2:Int)≤t.length<;>cases t.all rowB<;>cases Qrz t<;>simp[h]
theorem Zbj (N:Nat) (t:List GRow) (k:List GRow→Option (List GRow)) (hl:t.length≤1000):∀(n i:Nat) (acc:List GRow),(t.drop i).length<n→i≤t.length→acc.length=i →
  Qfh N t k n acc i=k (acc++t.drop i):=by
 intro n
 induction n with
 |zero=>intro i acc h;omega
 |succ n ih=>
  intro i acc h hi ha
  unfold Qfh
  cases hd:t.drop i with
  |nil=>
   have:=Qb4 hd
   rw[show(decide ((i:Int)<(t.length:Int)))=false by simp;omega]
   simp
  |cons a l=>
   obtain⟨h1,h2,h3⟩:=Qbs hd
   rw[show(decide ((i:Int)<(t.length:Int)))=true by simp;omega]
   have e:w64 ((i:Int)+1)=((i+1:Nat):Int):=by rw[Qbm]<;>omega
   have hc:decide ((acc.length+[a].length)*40≤140737488355328)=true:=by simp;omega
   simp only[cond_true,Qb6 h1,Option.bind_some,e,hc,chk]
   rw[ih (i+1) _ (by rw[h2];rw[hd] at h;simpa using h) (by omega) (by simp[ha]),h2]
   simp
theorem Zjr {N:Nat}{t:List GRow}(hl:t.length≤1000) (hN:1001≤N):Qlt N t=some t:=by
 have:=Zbj N t (fun y=>some y) hl N 0 [] (by simp;omega) (Nat.zero_le _) rfl
 rw[show((0:Nat):Int)=0 from rfl] at this
 unfold Qlt Qbn
 dsimp only
 rw[this]
 simp
def strB (s:Qaa):Bool:=btw s.Mass 0 1000000&&btw s.Heat 0 (4000*s.Mass)&&btw s.Silica 0 (10000*s.Mass)&&btw s.Gas 0 1000000000
theorem Quq {s:Qaa}(h:btw s.Mass 0 1000000=true):w64 (4000*s.Mass)=4000*s.Mass∧w64 (10000*s.Mass)=10000*s.Mass:=by
 simp only[btw,Bool.and_eq_true,decide_eq_true_eq] at h
 exact⟨Qbm (by omega) (by omega),Qbm (by omega) (by omega)⟩
theorem Zf1 (N:Nat) (s:Qaa):Qg3 N s=some (strB s):=by
 unfold Qg3 strB
 simp only[Q57,Option.bind_some]
 cases h:btw s.Mass 0 1000000 with
 |false=>rfl
 |true=>
  rw[(Quq h).1,(Quq h).2]
  cases btw s.Heat 0 (4000*s.Mass)<;>cases btw s.Silica 0 (10000*s.Mass)<;>cases btw s.Gas 0 1000000000<;>rfl
theorem Qz1 (N:Nat) (s:Qaa):Qex N s=some (strB s):=by
 unfold Qex strB
 simp only[Qnn,Option.bind_some]
 cases h:btw s.Mass 0 1000000 with
 |false=>rfl
 |true=>
  rw[(Quq h).1,(Quq h).2]
  cases btw s.Heat 0 (4000*s.Mass)<;>cases btw s.Silica 0 (10000*s.Mass)<;>cases btw s.Gas 0 1000000000<;>rfl
structure RowV (r:GRow):Prop where
 l0:0≤r.Liquid
 l1:r.Liquid≤4000
 lv:r.Liquid<r.Vapour
 v1:r.Vapour≤4000
 s0:0≤r.Silica
 s1:r.Silica≤2000
theorem Zq5 {r:GRow}(h:rowB r=true):RowV r:=by
 simp[rowB,btw] at h
 exact⟨by omega,by omega,by omega,by omega,by omega,by omega⟩
structure StrV (s:Qaa):Prop where
 m0:0≤s.Mass
 m1:s.Mass≤1000000
 h0:0≤s.Heat
 h1:s.Heat≤4000*s.Mass
 s0:0≤s.Silica
 s1:s.Silica≤10000*s.Mass
 g0:0≤s.Gas
 g1:s.Gas≤1000000000
theorem Qpr {s:Qaa}:strB s=true↔StrV s:=by
 simp only[strB,btw,Bool.and_eq_true,decide_eq_true_eq]
 exact⟨fun h=>⟨by omega,by omega,by omega,by omega,by omega,by omega,by omega,by omega⟩,fun h=>by obtain⟨_,_,_,_,_,_,_,_⟩:=h;omega⟩
theorem bdp {x y a b:Int}(hx:0≤x) (hx':x≤a) (hy:0≤y) (hy':y≤b) (ha:0≤a):0≤x*y∧x*y≤a*b:=
 ⟨Int.mul_nonneg hx hy,Int.mul_le_mul hx' hy' hy ha⟩
def stm (r:GRow) (s:Qaa):Int:=
 if s.Heat-s.Mass*r.Liquid≤0 then 0 else if s.Mass*r.Vapour≤s.Heat then s.Mass else(s.Heat-s.Mass*r.Liquid).tdiv (r.Vapour-r.Liquid)
def flG (r:GRow) (s:Qaa):Qir:=
 if stm r s=0 then⟨⟨0,0,0,0⟩,⟨s.Mass,s.Heat,min (s.Mass*r.Silica) s.Silica,s.Gas⟩,if 0<s.Mass then max (s.Heat-s.Mass*r.Liquid) 0 else 0,s.Silica-min (s.Mass*r.Silica) s.Silica⟩
 else if stm r s=s.Mass then⟨⟨s.Mass,s.Heat,0,s.Gas⟩,⟨0,0,0,0⟩,0,s.Silica⟩
 else⟨⟨stm r s,stm r s*r.Vapour,0,s.Gas⟩,⟨s.Mass-stm r s,s.Heat-stm r s*r.Vapour,min ((s.Mass-stm r s)*r.Silica) s.Silica,0⟩,s.Heat-stm r s*r.Vapour-(s.Mass-stm r s)*r.Liquid,s.Silica-min ((s.Mass-stm r s)*r.Silica) s.Silica⟩
theorem Qv4 {r:GRow}{s:Qaa}(hr:RowV r) (hs:StrV s) :
  (s.Heat-s.Mass*r.Liquid≤0∧stm r s=0) ∨
  (0<s.Heat-s.Mass*r.Liquid∧s.Mass*r.Vapour≤s.Heat∧stm r s=s.Mass∧0<s.Mass) ∨
  (0<s.Heat-s.Mass*r.Liquid∧s.Heat<s.Mass*r.Vapour∧stm r s=(s.Heat-s.Mass*r.Liquid).tdiv (r.Vapour-r.Liquid)∧0≤stm r s∧stm r s<s.Mass∧stm r s*(r.Vapour-r.Liquid)≤s.Heat-s.Mass*r.Liquid∧s.Heat-s.Mass*r.Liquid<stm r s*(r.Vapour-r.Liquid)+(r.Vapour-r.Liquid)):=by
 obtain⟨l0,l1,lv,v1,s0,s1⟩:=hr
 obtain⟨m0,m1,h0,h1,_,_,_,_⟩:=hs
 by_cases c1:s.Heat-s.Mass*r.Liquid≤0
 ·exact .inl ⟨c1,by unfold stm;rw[if_pos c1]⟩
 ·by_cases c2:s.Mass*r.Vapour≤s.Heat
  ·refine .inr (.inl ⟨by omega,c2,by unfold stm;rw[if_neg c1,if_pos c2],?_⟩)
   rcases Int.lt_or_eq_of_le m0 with h |h
   ·exact h
   ·rw[←h] at h1 c1
    simp at h1 c1
    omega
  ·have e:stm r s=(s.Heat-s.Mass*r.Liquid).tdiv (r.Vapour-r.Liquid):=by unfold stm;rw[if_neg c1,if_neg c2]
   have e2:stm r s=(s.Heat-s.Mass*r.Liquid)/(r.Vapour-r.Liquid):=by rw[e,Int.tdiv_eq_ediv_of_nonneg (by omega)]
   have d0:0<r.Vapour-r.Liquid:=by omega
   have q1:=Int.ediv_mul_le (s.Heat-s.Mass*r.Liquid) (b:=r.Vapour-r.Liquid) (by omega)
   have q2:=Int.lt_mul_ediv_self_add (x:=s.Heat-s.Mass*r.Liquid) (k:=r.Vapour-r.Liquid) d0
   have q3:0≤stm r s:=by rw[e2];exact Int.ediv_nonneg (by omega) (by omega)
   rw[←e2] at q1 q2
   rw[Int.mul_comm (r.Vapour-r.Liquid)] at q2
   refine .inr (.inr ⟨by omega,by omega,e,q3,?_,q1,q2⟩)
   rw[e2]
   refine Int.ediv_lt_of_lt_mul d0 ?_
   rw[Int.mul_sub]
   omega
structure Zwy (r:GRow) (s:Qaa):Prop where
 a:w64 (s.Mass*r.Liquid)=s.Mass*r.Liquid
 b:w64 (s.Heat-s.Mass*r.Liquid)=s.Heat-s.Mass*r.Liquid
 c:w64 (s.Mass*r.Vapour)=s.Mass*r.Vapour
 d:w64 (r.Vapour-r.Liquid)=r.Vapour-r.Liquid
theorem Zqr {r:GRow}{s:Qaa}(hr:RowV r) (hs:StrV s):Zwy r s:=by
 obtain⟨l0,l1,lv,v1,s0,s1⟩:=hr
 obtain⟨m0,m1,h0,h1,_,_,_,_⟩:=hs
 have p1:=bdp m0 m1 l0 l1 (by omega)
 have p2:=bdp (y:=r.Vapour) m0 m1 (by omega) v1 (by omega)
 exact⟨Qbm (by omega) (by omega),Qbm (by omega) (by omega),Qbm (by omega) (by omega),Qbm (by omega) (by omega)⟩
theorem Zjv (N:Nat) {r:GRow}{s:Qaa}(hr:RowV r) (hs:StrV s):Qgx N ⟨r⟩ s=some (stm r s):=by
 obtain⟨wa,wb,wc,wd⟩:=Zqr hr hs
 have hlv:=hr.lv
 have hd:((r.Vapour-r.Liquid) != 0)=true:=by simp;omega
 have hs':=hs
 obtain⟨m0,m1,h0,h1,_,_,_,_⟩:=hs'
 unfold Qgx
 simp only[wa,wb,wc,wd,Option.bind_some,hd,chk,cond_true]
 rcases Qv4 hr hs with ⟨a,b⟩ |⟨a,b,c,d⟩ |⟨a,b,c,d,e,_,_⟩
 ·rw[decide_eq_true a,b];rfl
 ·rw[decide_eq_false (show ¬s.Heat-s.Mass*r.Liquid≤0 by omega),decide_eq_true (show s.Heat≥s.Mass*r.Vapour from b),c];rfl
 ·rw[decide_eq_false (show ¬s.Heat-s.Mass*r.Liquid≤0 by omega),decide_eq_false (show ¬s.Heat≥s.Mass*r.Vapour by omega),←c,Qbm (by omega) (by omega)];rfl
theorem Zwu (N:Nat) {r:GRow}{s:Qaa}(hr:RowV r) (hs:StrV s):Qhl N ⟨r⟩ s=some (flG r s):=by
 have hw:=Zqr hr hs
 have hc:=Qv4 hr hs
 have he:=Zjv N hr hs
 obtain⟨l0,l1,lv,v1,s0,s1⟩:=hr
 obtain⟨m0,m1,h0,h1,q0,q1,_,_⟩:=hs
 unfold Qhl
 have:(⟨⟨r.T,r.P,r.Liquid,r.Vapour,r.Silica⟩⟩:Ql5)=⟨r⟩:=rfl
 dsimp only at this ⊢
 rw[he]
 have p1:=bdp m0 m1 s0 s1 (by omega)
 simp only[Option.bind_some,Qbn]
 unfold flG
 generalize hm:stm r s=m at *
 by_cases z:m=0
 ·subst z
  rw[if_pos rfl,hw.a,Qbm (x:=s.Mass*r.Silica) (by omega) (by omega),hw.b]
  simp only[beq_self_eq_true,cond_true]
  have:w64 (s.Silica-(if s.Mass*r.Silica<s.Silica then s.Mass*r.Silica else s.Silica))=s.Silica-min (s.Mass*r.Silica) s.Silica:=by
   rw[Qbm]<;>(repeat split)<;>omega
  rw[this]
  by_cases c:0<s.Mass
  ·rw[decide_eq_true (show s.Mass>0 from c),if_pos c]
   simp only[cond_true]
   congr 2
   ·congr 1;split<;>omega
   ·split<;>omega
  ·rw[decide_eq_false (show ¬s.Mass>0 from c),if_neg c]
   simp only[cond_false]
   congr 2
   congr 1;split<;>omega
 ·have z1:(m==0)=false:=by simpa using z
  rw[if_neg z,z1]
  by_cases f:m=s.Mass
  ·have f1:(m==s.Mass)=true:=by simpa using f
   rw[f1,if_pos f]
   have:w64 (0*r.Silica)=0:=by rw[Int.zero_mul];rfl
   simp only[cond_false,cond_true,this]
   have:w64 (s.Silica-(if 0<s.Silica then 0 else s.Silica))=s.Silica:=by rw[Qbm]<;>split<;>omega
   rw[this]
   simp only[show decide ((0:Int)>0)=false from rfl,cond_false]
   congr 2
   ·rw[f]
   ·congr 1;split<;>omega
  ·have f1:(m==s.Mass)=false:=by simpa using f
   rw[f1,if_neg f]
   rcases hc with ⟨a,b⟩ |⟨a,b,c,d⟩ |⟨a,b,c,d,e,g1,g2⟩
   ·exact absurd b z
   ·exact absurd c f
   ·have k1:=bdp d (show m≤1000000 by omega) (show 0≤r.Vapour by omega) v1 (by omega)
    have k2:=bdp (show 0≤s.Mass-m by omega) (show s.Mass-m≤1000000 by omega) s0 s1 (by omega)
    have k3:=bdp (show 0≤s.Mass-m by omega) (show s.Mass-m≤1000000 by omega) l0 l1 (by omega)
    rw[Int.mul_sub] at g1
    have k4:0≤s.Heat-m*r.Vapour-(s.Mass-m)*r.Liquid:=by rw[Int.sub_mul];omega
    simp only[cond_false]
    rw[Qbm (x:=s.Mass-m) (by omega) (by omega),Qbm (x:=m*r.Vapour) (by omega) (by omega),Qbm (x:=s.Heat-m*r.Vapour) (by omega) (by omega),Qbm (x:=(s.Mass-m)*r.Silica) (by omega) (by omega),Qbm (x:=(s.Mass-m)*r.Liquid) (by omega) (by omega),Qbm (x:=s.Heat-m*r.Vapour-(s.Mass-m)*r.Liquid) (by omega) (by omega),decide_eq_true (show s.Mass-m>0 by omega)]
    have:w64 (s.Silica-(if (s.Mass-m)*r.Silica<s.Silica then(s.Mass-m)*r.Silica else s.Silica))=s.Silica-min ((s.Mass-m)*r.Silica) s.Silica:=by
     rw[Qbm]<;>(repeat split)<;>omega
    rw[this]
    simp only[cond_true]
    congr 2
    ·congr 1;split<;>omega
    ·split<;>omega
structure Zw0 (s:Qaa) (p:Qir):Prop where
 st:StrV p.Steam
 wa:StrV p.Water
 km:p.Steam.Mass+p.Water.Mass=s.Mass
 kh:p.Steam.Heat+p.Water.Heat=s.Heat
 ks:p.Water.Silica+p.Scale=s.Silica
 kg:p.Steam.Gas+p.Water.Gas=s.Gas
 z:p.Steam.Silica=0
 sc:0≤p.Scale
theorem Q89 {r:GRow}{s:Qaa}(hr:RowV r) (hs:StrV s):Zw0 s (flG r s):=by
 have hc:=Qv4 hr hs
 obtain⟨l0,l1,lv,v1,s0,s1⟩:=hr
 obtain⟨m0,m1,h0,h1,q0,q1,y0,y1⟩:=hs
 have p1:=bdp m0 m1 s0 s1 (by omega)
 unfold flG
 by_cases z:stm r s=0
 ·rw[if_pos z]
  refine⟨⟨?_,?_,?_,?_,?_,?_,?_,?_⟩,⟨?_,?_,?_,?_,?_,?_,?_,?_⟩,?_,?_,?_,?_,?_,?_⟩<;>dsimp only<;>omega
 ·rw[if_neg z]
  by_cases f:stm r s=s.Mass
  ·rw[if_pos f]
   refine⟨⟨?_,?_,?_,?_,?_,?_,?_,?_⟩,⟨?_,?_,?_,?_,?_,?_,?_,?_⟩,?_,?_,?_,?_,?_,?_⟩<;>dsimp only<;>omega
  ·rw[if_neg f]
   rcases hc with ⟨a,b⟩ |⟨a,b,c,d⟩ |⟨a,b,c,d,e,g1,g2⟩
   ·exact absurd b z
   ·exact absurd c f
   ·generalize stm r s=m at *
    have k1:=bdp d (show m≤1000000 by omega) (show 0≤r.Vapour by omega) v1 (by omega)
    have k2:=bdp (show 0≤s.Mass-m by omega) (show s.Mass-m≤1000000 by omega) s0 s1 (by omega)
    have k5:m*r.Vapour≤m*4000:=Int.mul_le_mul_of_nonneg_left v1 d
    have k6:(s.Mass-m)*r.Silica≤(s.Mass-m)*2000:=Int.mul_le_mul_of_nonneg_left s1 (by omega)
    have k7:(s.Mass-m-1)*(r.Vapour-r.Liquid)≥0:=Int.mul_nonneg (by omega) (by omega)
    have k8:(s.Mass-m)*r.Vapour≤(s.Mass-m)*4000:=Int.mul_le_mul_of_nonneg_left v1 (by omega)
    have k9:0≤s.Mass*r.Liquid-m*r.Liquid:=by rw[←Int.sub_mul];exact Int.mul_nonneg (by omega) l0
    simp only[Int.mul_sub,Int.sub_mul,Int.one_mul] at g1 g2 k7 k8 k6 k2
    refine⟨⟨?_,?_,?_,?_,?_,?_,?_,?_⟩,⟨?_,?_,?_,?_,?_,?_,?_,?_⟩,?_,?_,?_,?_,?_,?_⟩<;>dsimp only<;>(try simp only[Int.sub_mul])<;>omega
theorem Zfu {t:List GRow}(ht:tabB t=true) {l:Int}(h:btw l 0 (t.length-1)=true):getI t l=some ((getI t l).getD ⟨0,0,0,0,0⟩)∧RowV ((getI t l).getD ⟨0,0,0,0,0⟩):=by
 simp only[btw,Bool.and_eq_true,decide_eq_true_eq] at h
 have hi:l.toNat<t.length:=by omega
 have e:getI t l=some t[l.toNat]:=by unfold getI;rw[if_pos h.1,List.getElem?_eq_getElem hi]
 rw[e]
 refine⟨rfl,?_⟩
 simp only[tabB,Bool.and_eq_true] at ht
 exact Zq5 (List.all_eq_true.1 ht.1.2 _ (List.getElem_mem hi))
def Zrc:Qir:=⟨⟨0,0,0,0⟩,⟨0,0,0,0⟩,0,0⟩
def Q88 (t:List GRow) (l:Int) (s:Qaa):Qir×Int:=
 bif !tabB t then(Zrc,1) else bif !btw l 0 (t.length-1) then(Zrc,2) else bif !strB s then(Zrc,1) else(flG ((getI t l).getD ⟨0,0,0,0,0⟩) s,0)
theorem Zkq {N:Nat}(hN:1001≤N) {t:List GRow}(ht:t.length≤1000) (l:Int) (s:Qaa):Qla N t l s=some (Q88 t l s):=by
 have e0:w64 ((t.length:Int)-1)=(t.length:Int)-1:=by rw[Qbm]<;>omega
 unfold Qla Q88
 rw[Q2h ht hN]
 cases hT:tabB t with
 |false=>rfl
 |true=>
  simp only[Option.bind_some,Bool.not_true,cond_false,Qjk,Qnn,e0,Qz1]
  cases h1:btw l 0 ((t.length:Int)-1) with
  |false=>rfl
  |true=>
   cases h2:strB s with
   |false=>rfl
   |true=>
    obtain⟨g1,g2⟩:=Zfu hT h1
    simp only[Bool.not_true,cond_false,Qj1]
    rw[g1]
    simp only[Option.getD_some,Option.bind_some]
    generalize (getI t l).getD ⟨0,0,0,0,0⟩=r at g2
    have ho:Qhl N ⟨⟨r.T,r.P,r.Liquid,r.Vapour,r.Silica⟩⟩ s=some (flG r s):=Zwu N g2 (Qpr.1 h2)
    rw[ho]
    rfl
end
section
open Go.RowKit
def Ql2 (key:Int→Int) (ls:List Int) (i k:Int):Prop:=key (ls.getD k.toNat 0)<key (ls.getD i.toNat 0)∨(key (ls.getD k.toNat 0)=key (ls.getD i.toNat 0)∧i<k)
theorem Qre {key:Int→Int}{ls:List Int}{i k:Int}(h:Ql2 key ls i k) (h':Ql2 key ls k i):False:=by
 unfold Ql2 at h h'
 omega
theorem Q6y {key:Int→Int}{ls:List Int}{i k m:Int}(h:Ql2 key ls i k) (h':Ql2 key ls k m):Ql2 key ls i m:=by
 unfold Ql2 at *
 omega
def ixs (n:Nat):List Int:=(List.range n).map fun j:Nat=>(j:Int)
theorem Qkj (n:Nat):(ixs n).length=n:=by simp[ixs]
theorem Q0t {n i:Nat}(h:i<n):(ixs n)[i]? = some (i:Int):=by simp[ixs,h]
theorem Qwx {n:Nat}{x:Int}:x∈ixs n↔0≤x∧x<n:=by
 unfold ixs
 rw[List.mem_map]
 constructor
 ·rintro ⟨j,hj,rfl⟩
  have:=List.mem_range.1 hj
  omega
 ·rintro ⟨h0,h1⟩
  exact⟨x.toNat,List.mem_range.2 (by omega),by omega⟩
theorem Zg0 (n:Nat):(ixs n).Nodup:=List.pairwise_map.2 ((List.nodup_range (n:=n)).imp fun h e=>h (by omega))
section
variable {N L : Nat} {ws : List Int} {M W : Int}
def rkey (M W w:Int):Int:=M*w % W
structure WOk (ws:List Int) (M W:Int):Prop where
 w:∀x∈ws,0≤x∧x≤1000
 m0:0≤M
 m1:M≤1000000
 p0:0<W
 p1:W≤20000
theorem Zfy (h:WOk ws M W) (x:Int):0≤rkey M W x∧rkey M W x<20000:=by
 have:=h.p0
 have:=h.p1
 have a:=Int.emod_nonneg (M*x) (show W≠0 by omega)
 have b:=Int.emod_lt_of_pos (M*x) h.p0
 unfold rkey
 omega
theorem Q8x (h:WOk ws M W) {x:Int}(hx:x∈ws):Qge N x M W=some (rkey M W x):=by
 obtain⟨x0,x1⟩:=h.w x hx
 have h0:=h.m0
 have h1:=h.m1
 have p:=h.p0
 have:=bdp h0 h1 x0 x1 (by omega)
 unfold Qge chk rkey
 rw[show(W != 0)=true by rw[bne_iff_ne];omega,cond_true,Qbm (by omega) (by omega),Int.tmod_eq_emod_of_nonneg this.1]
theorem Zu6 (h:WOk ws M W) {a b:Int}(ha:0≤a∧a<ws.length) (hb:0≤b∧b<ws.length):Qft N a b ws M W=some (rkey M W (ws.getD b.toNat 0)-rkey M W (ws.getD a.toNat 0)):=by
 have ga:ws[a.toNat]? = some (ws.getD a.toNat 0):=by rw[List.getD_eq_getElem?_getD,List.getElem?_eq_getElem (by omega)];rfl
 have gb:ws[b.toNat]? = some (ws.getD b.toNat 0):=by rw[List.getD_eq_getElem?_getD,List.getElem?_eq_getElem (by omega)];rfl
 have ka:=Zfy h (ws.getD a.toNat 0)
 have kb:=Zfy h (ws.getD b.toNat 0)
 unfold Qft
 rw[show getI ws b=some (ws.getD b.toNat 0) from by rw[←gb];unfold getI;rw[if_pos hb.1],show getI ws a=some (ws.getD a.toNat 0) from by rw[←ga];unfold getI;rw[if_pos ha.1]]
 simp only[Option.bind_some,Q8x h (List.mem_of_getElem? ga),Q8x h (List.mem_of_getElem? gb)]
 rw[Qbm (by omega) (by omega)]
theorem Zrq (h:WOk ws M W) (hL:L≤20) (hLw:L=ws.length) (k:List Int→Option (List Int)) (x:Int) (R:List Int) (hx:0≤x∧x<ws.length):∀(n:Nat) (P S:List Int),P.length<n→(P++x::S++R).length=L →
  (P++S).Pairwise (Ql2 (rkey M W) ws)→(∀s∈S,Ql2 (rkey M W) ws x s)→(∀y∈P++S,0≤y∧y<x) →
  ∃Q,Qbr N L 0 ws M W k n P.length (P++x::S++R)=k (Q++R)∧Q.Perm (P++x::S)∧Q.Pairwise (Ql2 (rkey M W) ws):=by
 intro n
 induction n with
 |zero=>intro P S hn;exact absurd hn (Nat.not_lt_zero _)
 |succ n ih=>
  intro P S hn hl hp hs hb
  rw[Qbr]
  simp only[Qbn]
  rcases List.eq_nil_or_concat P with rfl |⟨P',y,rfl⟩
  ·refine⟨x::S,by simp,.refl _,?_⟩
   rw[List.pairwise_cons]
   exact⟨hs,by simpa using hp⟩
  ·simp only[List.concat_eq_append] at *
   have hlen:(P'++[y]).length=P'.length+1:=by simp
   have hl2:P'.length+1<L:=by rw[←hl];simp
   have e1:w64 (((P'++[y]).length:Nat)-1:Int)=(P'.length:Int):=by rw[hlen,Qbm (by omega) (by omega)];omega
   have e2:(((P'++[y]).length:Nat):Int).toNat=P'.length+1:=by rw[hlen];omega
   have e3:(P'.length:Int).toNat=P'.length:=by omega
   have gx:(P'++[y]++x::S++R)[P'.length+1]? = some x:=by
    rw[List.append_assoc,List.append_assoc,List.getElem?_append_right (by omega)]
    simp
   have gy:(P'++[y]++x::S++R)[P'.length]? = some y:=by
    rw[List.append_assoc,List.append_assoc,List.getElem?_append_right (by omega)]
    simp
   have hy:=hb y (by simp)
   have c1:(decide ((0:Int)≤(((P'++[y]).length:Nat):Int))&&decide (P'.length+1<L))=true:=by simp;omega
   have c2:(decide ((0:Int)≤(P'.length:Int))&&decide (P'.length<L))=true:=by simp;omega
   have hs1:((P'++[y]++x::S++R).set (P'.length+1) y)[P'.length]? = some y:=by rw[List.getElem?_set_ne (by omega)];exact gy
   have hsw:((P'++[y]++x::S++R).set (P'.length+1) y).set P'.length x=P'++x::(y::S)++R:=by
    have a1:(P'++[y]++x::S++R).set (P'.length+1) y=P'++[y]++y::S++R:=by
     rw[List.append_assoc,List.append_assoc,List.set_append_right _ _ (by omega),show P'.length+1-P'.length=1 by omega]
     simp
    rw[a1,List.append_assoc,List.append_assoc,List.set_append_right _ _ (by omega),Nat.sub_self]
    simp
   have hcmp:=Zu6 (N:=N) h hx (show 0≤y∧y<ws.length by omega)
   simp only[show decide ((((P'++[y]).length:Nat):Int)>0)=true from decide_eq_true (by rw[hlen];omega),cond_true,e1,e2,e3,chk,c1,c2,gx,gy,Option.bind_some,hcmp,hs1,hsw]
   by_cases hlt:rkey M W (ws.getD y.toNat 0)-rkey M W (ws.getD x.toNat 0)<0
   ·rw[decide_eq_true hlt,cond_true]
    obtain⟨Q,q1,q2,q3⟩:=ih P' (y::S) (by rw[hlen] at hn;omega) (by rw[←hl];simp) (by simpa using hp) (fun s hs'=>by
     rcases List.mem_cons.1 hs' with rfl |hs'
     ·exact .inl (by omega)
     ·exact hs s hs') (fun z hz=>hb z (by simpa using hz))
    refine⟨Q,q1,q2.trans ?_,q3⟩
    rw[List.append_assoc]
    exact List.Perm.append_left P' (List.Perm.swap y x S)
   ·rw[decide_eq_false hlt,cond_false]
    refine⟨P'++[y]++x::S,rfl,.refl _,?_⟩
    have hyx:Ql2 (rkey M W) ws y x:=by unfold Ql2;omega
    rw[List.pairwise_append] at hp ⊢
    obtain⟨p1,p2,p3⟩:=hp
    refine⟨p1,List.pairwise_cons.2 ⟨hs,p2⟩,fun a ha b hb'=>?_⟩
    have hax:Ql2 (rkey M W) ws a x:=by
     rcases List.mem_append.1 ha with ha |ha
     ·rw[List.pairwise_append] at p1
      exact Q6y (p1.2.2 a ha y (by simp)) hyx
     ·simp at ha;subst ha;exact hyx
    rcases List.mem_cons.1 hb' with rfl |hb'
    ·exact hax
    ·exact p3 a ha b hb'
theorem Zka (h:WOk ws M W) (hL:L≤20) (hLw:L=ws.length) (hN:1000≤N):∀(n i:Nat) (Q:List Int),L-i<n→i≤L→Q.Perm ((ixs L).take i)→Q.Pairwise (Ql2 (rkey M W) ws) →
  ∃Q',Qbb N L 0 L ws M W n i (Q++(ixs L).drop i)=some Q'∧Q'.Perm (ixs L)∧Q'.Pairwise (Ql2 (rkey M W) ws):=by
 intro n
 induction n with
 |zero=>intro i _ h;exact absurd h (Nat.not_lt_zero _)
 |succ n ih=>
  intro i Q hn hi hp hq
  rw[Qbb]
  simp only[Qbn]
  by_cases hlt:i<L
  ·have hql:Q.length=i:=by rw[hp.length_eq,List.length_take,Qkj];omega
   have hd:(ixs L).drop i=(i:Int)::(ixs L).drop (i+1):=by
    have:=Q0t hlt
    have hi2:i<(ixs L).length:=by rw[Qkj];exact hlt
    rw[List.drop_eq_getElem_cons hi2]
    rw[List.getElem?_eq_getElem hi2] at this
    rw[Option.some.inj this]
   rw[show decide ((i:Int)<(L:Int))=true from by simpa using hlt,cond_true]
   have hmem:∀y∈Q,0≤y∧y<(i:Int):=fun y hy=>by
    have h1:=hp.mem_iff.1 hy
    obtain⟨j,hj,e⟩:=List.mem_take_iff_getElem.1 h1
    have hj2:j<L:=by rw[Qkj] at hj;omega
    have:=Q0t hj2
    rw[List.getElem?_eq_getElem (by rw[Qkj];exact hj2),e] at this
    cases this
    omega
   obtain⟨Q',q1,q2,q3⟩:=Zrq (N:=N) h hL hLw (fun y8=>Qbb N L 0 L ws M W n (w64 ((i:Int)+1)) y8) (i:Int) ((ixs L).drop (i+1)) (by omega) N Q [] (by omega) (by simp[Qkj,hql];omega) (by simpa using hq) (by simp) (by simpa using hmem)
   rw[hql] at q1
   rw[hd]
   have e:Q++(i:Int)::(ixs L).drop (i+1)=Q++[(i:Int)]++(ixs L).drop (i+1):=by simp
   rw[e]
   have t:(ixs L).take (i+1)=(ixs L).take i++[(i:Int)]:=by
    rw[List.take_add_one,Q0t hlt];rfl
   obtain⟨Q2,r1,r2,r3⟩:=ih (i+1) Q' (by omega) (by omega) (q2.trans (by rw[t];exact hp.append_right _)) q3
   refine⟨Q2,q1.trans ?_,r2,r3⟩
   rw[Qbm (x:=(i:Int)+1) (by omega) (by omega),show(i:Int)+1=((i+1:Nat):Int) by omega]
   exact r1
  ·rw[show decide ((i:Int)<(L:Int))=false from by simpa using hlt,cond_false]
   have hiL:i=L:=by omega
   subst hiL
   rw[List.take_of_length_le (by rw[Qkj];exact Nat.le_refl _)] at hp
   exact⟨Q,by rw[List.drop_of_length_le (by rw[Qkj];exact Nat.le_refl _),List.append_nil],hp,hq⟩
theorem Zj1 (h:WOk ws M W) (hL:ws.length≤20) (h1:1≤ws.length) (hN:1000≤N):∃Q,Qcr N ws.length (ixs ws.length) ws M W=some Q∧Q.Perm (ixs ws.length)∧Q.Pairwise (Ql2 (rkey M W) ws):=by
 have ht:(ixs ws.length).take 1=[0]:=by
  rw[List.take_add_one,Q0t (by omega)];rfl
 have hd:(ixs ws.length)=[0]++(ixs ws.length).drop 1:=by rw[←ht,List.take_append_drop]
 obtain⟨Q,q1,q2,q3⟩:=Zka (N:=N) (L:=ws.length) h hL rfl hN N 1 [0] (by omega) h1 (by rw[ht]) (by simp)
 rw[←hd] at q1
 refine⟨Q,?_,q2,q3⟩
 obtain⟨m,rfl⟩:∃m,N=m+2:=⟨N-2,by omega⟩
 have hins:Qbu (m+2) ws.length 0 (ws.length:Int) (ixs ws.length) ws M W=some Q:=by
  unfold Qbu
  rw[show w64 ((0:Int)+1)=((1:Nat):Int) from Qbm (by decide) (by decide)]
  exact q1
 unfold Qcr Qe5
 simp only[Qbn]
 rw[Qb5]
 by_cases h20:ws.length=20
 ·rw[show decide ((20:Int)≤(ws.length:Int))=true from by simp;omega,cond_true]
  have e20:(20:Int)=(ws.length:Int):=by omega
  rw[show Qbu (m+2) ws.length 0 20 (ixs ws.length) ws M W=some Q from by rw[e20];exact hins,Option.bind_some,Qb5,show w64 ((20:Int)+20)=40 from Qbm (by decide) (by decide),show decide ((40:Int)≤(ws.length:Int))=false from by simp;omega,cond_false]
  dsimp only
  unfold Qbu
  rw[show w64 ((20:Int)+1)=21 from Qbm (by decide) (by decide),Qbb,show decide ((21:Int)<(ws.length:Int))=false from by simp;omega,cond_false,Option.bind_some,Qce,show decide ((20:Int)<(ws.length:Int))=false from by simp;omega,cond_false]
  rfl
 ·rw[show decide ((20:Int)≤(ws.length:Int))=false from by simp;omega,cond_false]
  dsimp only
  rw[hins,Option.bind_some,Qce,show decide ((20:Int)<(ws.length:Int))=false from by simp;omega,cond_false]
  rfl
theorem Zkc (ls:List Int) (k:List Int→Option (List Int)) (h8:ls.length≤20):∀(n i:Nat) (l:List Int),ls.length-i<n→i≤ls.length→l=ixs i →
  Qdi N ls k n i l=k (ixs ls.length):=by
 intro n
 induction n with
 |zero=>intro i _ h;exact absurd h (Nat.not_lt_zero _)
 |succ n ih=>
  intro i l hn hi hl
  rw[Qdi]
  by_cases h:i<ls.length
  ·have e1:w64 ((i:Int)+1)=((i+1:Nat):Int):=Qbm (by omega) (by omega)
   rw[show decide ((i:Int)<(ls.length:Int))=true from by simpa using h,cond_true,e1]
   simp only[chk]
   rw[show decide ((l.length+[(i:Int)].length)*8≤140737488355328)=true from by rw[hl,Qkj];simp;omega,cond_true]
   exact ih (i+1) _ (by omega) (by omega) (by rw[hl];simp[ixs,List.range_succ])
  ·rw[show decide ((i:Int)<(ls.length:Int))=false from by simpa using h,cond_false,hl,show i=ls.length by omega]
theorem Q2z (h:WOk ws M W) (hL:ws.length≤20) (h1:1≤ws.length) (hN:1000≤N):∃Q,Qgg N ws M W=some Q∧Q.Perm (ixs ws.length)∧Q.Pairwise (Ql2 (rkey M W) ws):=by
 obtain⟨Q,q1,q2,q3⟩:=Zj1 (N:=N) h hL h1 hN
 refine⟨Q,?_,q2,q3⟩
 have hlen:=q2.length_eq
 rw[Qkj] at hlen
 unfold Qgg
 simp only[Qbn]
 have:=Zkc (N:=N) ws (fun y3=>chk (!y3.isEmpty)<|(Qcr N y3.length y3 ws M W).bind fun x7=>chk (decide (y3.length≤x7.length))<|some (x7.take y3.length)) hL N 0 [] (by omega) (by omega) rfl
 refine this.trans ?_
 have he:(!(ixs ws.length).isEmpty)=true:=by
  cases hh:ixs ws.length with
  |nil=>have:=Qkj ws.length;rw[hh] at this;simp at this;omega
  |cons=>rfl
 simp only[chk,he,cond_true,Qkj,q1,Option.bind_some]
 rw[show decide (ws.length≤Q.length)=true by simp;omega,cond_true,List.take_of_length_le (by omega)]
end
end
end Go.Proofs.YtmbhnllcfmiajaaGreat
