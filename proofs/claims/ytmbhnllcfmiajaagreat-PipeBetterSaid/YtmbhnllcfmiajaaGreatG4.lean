/-
  The texts X4, X5, X6, PB6, PSa6, PV6 of the proof, one behind the other. No conditions.
-/
import Derived.Test.YtmbhnllcfmiajaaGreatG3
namespace Go.Proofs.YtmbhnllcfmiajaaGreat
open _root_.Go.Proofs.Tryz
section
set_option maxRecDepth 100000
set_option maxHeartbeats 4000000
open Go.RowKit
def Qfz (_N:Nat) (p0:List Int):Option Unit:=
  chk (!p0.isEmpty)<|
  chk (!p0.isEmpty)<|
  chk (decide ((0+p0.length)*8≤140737488355328))<|
  some ()
def Zm3:AV:=.acc 0 3 1 ((([]:List Int):List Int).map Qad)
theorem Qlu (N:Nat) (p0:List Int) (r:Unit) (h:Qfz N p0=some r):Spec prog 95 [(.dat 1 (p0.map Qad))] [] (.own 0 1 (0) p0.length) [(.own 1 (p0.map Qad))]:=by
  refine Qan func95 rfl 1 (nle rfl) (fun X φ0 w0 hφ0 hd0=>?_)
  unfold Qfz at h
  refine Qbw<|wxz<|wsq ?_
  obtain⟨hz1,h⟩:=cko h
  refine wx tbk [(1,rp [(.tmp 3,(.dat 1 (p0.map Qad))),((.const (.slice none 0 0)),nilS)] (B false))] ⟨Qlp rfl underlying27 rfl (Qhi hz1),tv⟩<|wfa<|Qap<|thn ?_
  obtain⟨ha3,h⟩:=cko h
  obtain⟨ha2,h⟩:=cko h
  refine wx tbk [(0,⟨[],[(0,.unused)],Zm3,[(0,.tok)],false⟩),(2,⟨[(.tmp 5,Zm3),(.tmp 6,(.dat 1 (p0.map Qad)))],[(0,.tok),(1,.unused)],(.own 1 1 (0) p0.length),[(0,.dead),(1,(.own 1 (p0.map Qad)))],false⟩)] ⟨Qfg rfl underlying27 ti3 tz3,Qwy rfl underlying27 te3 (Base.acc _ _) rfl rfl (Qhi ha3) (Qji Qad Qh3 _) (Qyt Qad ha2) (Qys Qad ha2 (by decide)) (List.length_map _),tv⟩ ?_
  refine wmr (mto (n:=8) (l':=[(2,(.own 0 1 (0) p0.length))]) (own':=[(.own 1 (p0.map Qad))]) [(2,(.own 1 1 (0) p0.length))] [1] [(.own 1 (p0.map Qad))] hφ0 (pc (.rn (Qa2 rfl)) pn) (qc (spr Qaf) qn))<|Qaj ?_
  obtain rfl:=osi h
  exact⟨_,Mor.rfl,Qc1 (vs:=[(.own 0 1 (0) p0.length)]) ⟨rot,tv⟩ rfl (NLt.own _ _ _ _ (by decide)) (by kernel_rfl) (Qao (Qb0 Qaf _) Qbq)⟩
theorem Qrs:DRet prog 96 [1,1]:=by
  refine Qse (t:=5) (args:=[.any,.any]) func96 rfl (fun _ _=>rfl) (by kernel_rfl) Zko 0 (nle rfl) (fun X φ0 w0 hφ0=>?_)
  exact Qar<|wx tbk [(0,rp [(.tmp 5,(.lit .nilIface)),(.const .nilIface,(.lit .nilIface))] (B true))] ⟨Q0y rfl underlying20,tv⟩<|wtr<|wxz1<|bln<|fend ⟨[],tv,rfl⟩ (.tup _ nl0)
def Qgg (_N:Nat) (p0:Qae) (p1:Int):Option Int:=
  chk (p0.Narrow != 0)<|
  (some (if (w64 (p0.Wide-(w64 (p1.tdiv p0.Narrow))))>0 then w64 (p0.Wide-(w64 (p1.tdiv p0.Narrow))) else 0)).bind fun x2=>
  some x2
theorem Qjs (N:Nat) (p0:Qae) (p1 r:Int) (h:Qgg N p0 p1=some r):Spec prog 74 [(.agg (Qac p0)),(I p1)] [] (I r) []:=by
  refine Qan func74 rfl 0 (nle rfl) (fun X φ0 w0 hφ0 hd0=>?_)
  unfold Qgg at h
  refine wxz ?_
  obtain⟨hz1,h⟩:=cko h
  obtain⟨x2,hl3,h⟩:=bno h
  refine wxd tbk [(5,rp [(.tmp 7,I p1),(.tmp 9,I p0.Narrow)] (I (w64 (p1.tdiv p0.Narrow)))),(7,rp [ci 0,(.tmp 11,(I (w64 (p0.Wide-(w64 (p1.tdiv p0.Narrow))))))] (I x2))] ⟨Qq8 rfl (Qu7 hz1),Qkz hl3 (Qof rfl),tv⟩<|Qaj ?_
  obtain rfl:=osi h
  exact fend ⟨[I x2],⟨rot,tv⟩,rfl⟩ nll
def Qg8 (_N:Nat) (_p0:Int) (_p1:List GRow) (_p2:List Qae) (_p3 _p4 _p5:Nat) (_p6:List Qaa) (_p7:Int) (_p8:List (List Qaa)) (_p9:List Qbg) (_p10:List Int):Option Unit:=
  some ()
def Zdz (p1:List GRow) (p2:List Qae) (p3 p4 p5:Nat) (p6:List Qaa) (p7:Int):Slot:=.own 7 [[(.dat 5 (p1.map Qaq)),(.dat 7 (p2.map Qac)),(.own 1 1 (0) p3),(.own 2 4 (0) p4),(.own 3 1 (0) p5),(.dat 4 (p6.map Qah)),(I p7)]]
def Q8u:AV:=.fn (.func 133) [] [(.ref 4 1 (0) 0),(.ref 5 1 (0) 0)]
def Zjm:Slot:=.own 1 [[(.ref 0 7 (0) 0)]]
theorem Qoy (N:Nat) (p0:Int) (p1:List GRow) (p2:List Qae) (p3 p4 p5:Nat) (p6:List Qaa) (p7:Int) (p8:List (List Qaa)) (p9:List Qbg) (p10:List Int) (r:Unit) (h:Qg8 N p0 p1 p2 p3 p4 p5 p6 p7 p8 p9 p10=some r):Spec prog 116 [(.ref 0 7 (0) 0),(I p0)] [(Zdz p1 p2 p3 p4 p5 p6 p7),(.own 1 (p8.map Qak)),(.own 4 (p9.map Qa0)),(.own 1 (p10.map Qad))] Q8u [(Zdz p1 p2 p3 p4 p5 p6 p7),(.own 1 (p8.map Qak)),(.own 4 (p9.map Qa0)),(.own 1 (p10.map Qad)),Zjm,(.own 1 [[(I p0)]])]:=by
  refine Qan func116 rfl 6 (nle rfl) (fun X φ0 w0 hφ0 hd0=>?_)
  unfold Qg8 at h
  refine Qbw<|wxz ?_
  refine wx tbk [(0,rp [(.tmp 2,.ref 4 1 0 0),(.tmp 3,.ref 5 1 0 0)] Q8u)] ⟨Qfq (fs:=[]) (cs:=[.ref 4 1 0 0,.ref 5 1 0 0]) rfl rfl rfl rfl,tv⟩ ?_
  refine wmr (mto (n:=6) (l':=[(4,Q8u)]) (own':=[(Zdz p1 p2 p3 p4 p5 p6 p7),(.own 1 (p8.map Qak)),(.own 4 (p9.map Qa0)),(.own 1 (p10.map Qad)),Zjm,(.own 1 [[I p0]])]) [(4,Q8u)] [0,1,2,3,4,5] [(Zdz p1 p2 p3 p4 p5 p6 p7),(.own 1 (p8.map Qak)),(.own 4 (p9.map Qa0)),(.own 1 (p10.map Qad)),Zjm,(.own 1 [[I p0]])] hφ0 (pc (.rn (Qbi rn0 (rnc (rqr rfl) (rnc (rqr rfl) rn0)))) pn) (qb (lc (rnd Qag) (lc (rnd Qab) (lc (.rn (Qa2 rfl)) (lc (.rn (Qa2 rfl)) (lc (.rn (Qa2 rfl)) (lc (rnd Qam) (lc rwl ln))))))) (qc (spr Qai) (qc (spr Qa3) (qc (spr Qaf) (qb (lc (.rn (rqr rfl)) ln) (qb (lc rwl ln) qn)))))))<|Qaj ?_
  obtain rfl:=osi h
  exact⟨_,Mor.rfl,Qc1 (vs:=[Q8u]) ⟨rot,tv⟩ rfl (NLt.fn _ _ _ nl0 (nlc (NLt.ref _ _ _ _ (by decide)) (nlc (NLt.ref _ _ _ _ (by decide)) nl0))) (by kernel_rfl) (Qao (Qax (nlc (NLt.of0 (nld Qag _)) (nlc (NLt.of0 (nld Qab _)) (nlc (NLt.own _ _ _ _ (by decide)) (nlc (NLt.own _ _ _ _ (by decide)) (nlc (NLt.own _ _ _ _ (by decide)) (nlc (NLt.of0 (nld Qam _)) (nlc (NLt.of0 nll) nl0)))))))) (Qao (Qb0 Qai _) (Qao (Qb0 Qa3 _) (Qao (Qb0 Qaf _) (Qao (Qax (nlc (NLt.ref _ _ _ _ (by decide)) nl0)) (Qao (Qax (nlc (NLt.of0 nll) nl0)) Qbq))))))⟩
def Qcm (N:Nat) (p0:List Int) (k1:Unit→Option Int) (p1:Int):Nat→Int→Option Int
  |0,_=>none
  |n4+1,y2=>
    bif (decide (y2<(p0.length:Int))) then
     (getI p0 y2).bind fun x6=>
     bif (p1==x6) then
      some y2
     else
      Qcm N p0 k1 p1 n4 (w64 (y2+1))
    else
     k1 ()
def Qfi (N:Nat) (p0:List Int) (p1:Int):Option Int:=
  Qbl (fun _=>
    some (-1)) fun k1:Unit→Option Int=>
  Qcm N p0 k1 p1 N 0
theorem Qiv (N:Nat) (p0:List Int) (p1 r:Int) (h:Qfi N p0 p1=some r):Spec prog 134 [(.dat 1 (p0.map Qad)),(I p1)] [] (I r) []:=by
  refine Qan func134 rfl 0 (nle rfl) (fun X φ0 w0 hφ0 hd0=>?_)
  unfold Qfi at h
  refine wxz ?_
  obtain⟨k1,hk_k1,h⟩:=jko h
  refine wjn (τ:=Unit) (fun t=>k1 t=some r) (fun _=>⟨mk 19 [],[]⟩) (fun t h=>?_) ?_
  ·subst hk_k1
   refine wxz<|Qaj ?_
   obtain rfl:=osi h
   exact fend ⟨[(I ((-1)))],⟨rot,tv⟩,rfl⟩ nll
  ·skip
   refine wx tbk [(1,rp _ _)] ⟨alq 1 Qad p0 underlying27,tv⟩<|Qar ?_
   refine wmr (mto (n:=19) (l':=[(0,(.dat 1 (p0.map Qad))),(1,I p1),(7,(I ((p0.length:Int)))),(8,I 0)]) (own':=[]) [(0,(.dat 1 (p0.map Qad))),(1,I p1),(7,(I ((p0.length:Int)))),(8,I 0)] [] [] hφ0 (pc (rnd Qaf) (pw (pw (pw pn)))) qn) ?_
   refine Qbt (τ:=Int) (fun n t=>Qcm N p0 k1 p1 n t=some r) (fun y2=>⟨mk 19 [(0,(.dat 1 (p0.map Qad))),(1,I p1),(7,(I ((p0.length:Int)))),(8,I y2)],[]⟩) (fun t h=>by rw[Qcm] at h;cases h) (fun n4 ih y2 h=>?_) N (0) h
   rw[Qcm] at h
   skip
   refine wxz<|wsq ?_
   refine bfe h (fun hc5 h=>?_) fun hc5 h=>?_
   ·refine wft hc5<|Qap<|thn<|wsq<|Qar<|wxz ?_
    obtain⟨x6,hg7,h⟩:=bno h
    obtain⟨hi8,hj9⟩:=gsm hg7
    refine wx tbk [(3,rp _ _)] ⟨aiq underlying27 ti3 Qad hi8 hj9,tv⟩ ?_
    refine bfe h (fun hc10 h=>?_) fun hc10 h=>?_
    ·refine wft hc10<|wxz<|Qaj<|Qat<|Qal<|Qal<|Qat<|Qal ?_
     obtain rfl:=osi h
     exact fend ⟨[I y2],⟨rot,tv⟩,rfl⟩ nll
    ·exact wfn hc10<|Qap<|bln<|thn<|wxz1<|thn<|arm (mto (n:=19) [(0,(.dat 1 (p0.map Qad))),(1,I p1),(7,(I ((p0.length:Int)))),(8,(I (w64 (y2+1))))] [] [] hφ0 (pc (rnd Qaf) (pw (pw (pw pn)))) qn) (ih (w64 (y2+1)) h)
   ·exact wfn hc5<|Qbf<|Qaw<|Qaw<|Qbe rfl<|thn<|⟨(),h,(mto (n:=19) [] [] [] hφ0 pn qn)⟩
def Qdd (N:Nat) (x1:Qae) (p2:List (List Qaa)):Nat→Int→Option (List Qaa)
  |0,_=>none
  |n19+1,y15=>
    bif (decide (y15<(x1.From.length:Int))) then
     (getI x1.From y15).bind fun x21=>
     (getI p2 x21.Element).bind fun x25=>
     (getI x25 x21.Outlet).bind fun x29=>
     yld x29<|
     Qdd N x1 p2 n19 (w64 (y15+1))
    else
     some ([])
def Qg7 (N:Nat) (p0:List GRow) (p1:List Qae) (p2:List (List Qaa)) (_p3:List Qbg) (_p4:List Int) (p5:List Qaa) (_p6 p7:Int):Option (List Qaa):=
  (getI p1 p7).bind fun x1=>
  bif (x1.Kind==1) then
   (Qf2 N (⟨p0,p1⟩:GNet) 1).bind fun x7=>
   (Qfi N x7 p7).bind fun x9=>
   (getI p5 x9).bind fun x10=>
   yld x10<|
   some ([])
  else
   Qdd N x1 p2 N 0
def Qg0 (p1:List Qae):AV:=.dat 7 (p1.map Qac)
def Qgm (p2:List (List Qaa)):AV:=.dat 1 (p2.map Qak)
def Qg1 (p3:List Qbg):AV:=.dat 4 (p3.map Qa0)
def Qgl (p5:List Qaa):AV:=.dat 4 (p5.map Qah)
def Zdx (p0:List GRow) (p1:List Qae):AV:=.agg [(.dat 5 (p0.map Qaq)),(Qg0 p1)]
def Zdw (x10:Qaa):AV:=.agg [(I x10.Mass),(I x10.Heat),(I x10.Silica),(I x10.Gas)]
def Zdv (x1:Qae):AV:=.dat 2 (x1.From.map Qay)
def Qr5 (x21:Qbk):Slot:=.own 2 [[(I x21.Element),(I x21.Outlet)]]
def Q3i (x29:Qaa):AV:=.agg [(I x29.Mass),(I x29.Heat),(I x29.Silica),(I x29.Gas)]
theorem Qox (N:Nat) (p0:List GRow) (p1:List Qae) (p2:List (List Qaa)) (p3:List Qbg) (p4:List Int) (p5:List Qaa) (p6 p7:Int) (r:List Qaa) (h:Qg7 N p0 p1 p2 p3 p4 p5 p6 p7=some r):Qvm prog 133 [(.dptr [(.dptr [(.dat 5 (p0.map Qaq)),(Qg0 p1),(Qgm p2),(Qg1 p3),(.dat 1 (p4.map Qad)),(Qgl p5),(I p6)] 0)] 0),(.dptr [(I p7)] 0)] [] (fun x=>[(.agg #[(.int .i64 x.Mass),(.int .i64 x.Heat),(.int .i64 x.Silica),(.int .i64 x.Gas)])]) r:=by
  refine Qwa func133 rfl rfl (fun X φ0 w0 l J hφ0 hy=>?_)
  unfold Qg7 at h
  refine wsq ?_
  obtain⟨x1,hg2,h⟩:=bno h
  obtain⟨hi3,hj4⟩:=gsm hg2
  refine wxd tbk [(6,rp _ _)] ⟨aiq underlying40 Qik Qac hi3 hj4,tv⟩ ?_
  refine bfe h (fun hc5 h=>?_) fun hc5 h=>?_
  ·refine wft hc5 ?_
   obtain⟨x7,hf6,h⟩:=bno h
   obtain⟨x9,hf8,h⟩:=bno h
   obtain⟨x10,hg11,h⟩:=bno h
   obtain⟨hi12,hj13⟩:=gsm hg11
   obtain⟨q14,hy_,hq_⟩:=Q1r h
   clear h
   subst hq_
   have h:=hy_
   clear hy_
   refine Q0v 14 [mv 0 (.lit (.func (.yield l) #[] #[])),rp [(.tmp 1,(.dptr [(.dptr [(.dat 5 (p0.map Qaq)),(Qg0 p1),(Qgm p2),(Qg1 p3),(.dat 1 (p4.map Qad)),(Qgl p5),I p6] 0)] 0))] (.dptr [(.dat 5 (p0.map Qaq)),(Qg0 p1),(Qgm p2),(Qg1 p3),(.dat 1 (p4.map Qad)),(Qgl p5),I p6] 0),mv 17 (.dptr [(.dat 5 (p0.map Qaq)),(Qg0 p1),(Qgm p2),(Qg1 p3),(.dat 1 (p4.map Qad)),(Qgl p5),I p6] 0),rp [(.tmp 18,(.dptr [(.dat 5 (p0.map Qaq)),(Qg0 p1),(Qgm p2),(Qg1 p3),(.dat 1 (p4.map Qad)),(Qgl p5),I p6] 0))] (.dptr [(.dat 5 (p0.map Qaq)),(Qg0 p1),(Qgm p2),(Qg1 p3),(.dat 1 (p4.map Qad)),(Qgl p5),I p6] 5),rp [(.tmp 19,(.dptr [(.dat 5 (p0.map Qaq)),(Qg0 p1),(Qgm p2),(Qg1 p3),(.dat 1 (p4.map Qad)),(Qgl p5),I p6] 5))] (Qgl p5),rp [(.tmp 1,(.dptr [(.dptr [(.dat 5 (p0.map Qaq)),(Qg0 p1),(Qgm p2),(Qg1 p3),(.dat 1 (p4.map Qad)),(Qgl p5),I p6] 0)] 0))] (.dptr [(.dat 5 (p0.map Qaq)),(Qg0 p1),(Qgm p2),(Qg1 p3),(.dat 1 (p4.map Qad)),(Qgl p5),I p6] 0),mv 21 (.dptr [(.dat 5 (p0.map Qaq)),(Qg0 p1),(Qgm p2),(Qg1 p3),(.dat 1 (p4.map Qad)),(Qgl p5),I p6] 0),mv 22 (.dptr [(.dat 5 (p0.map Qaq)),(Qg0 p1),(Qgm p2),(Qg1 p3),(.dat 1 (p4.map Qad)),(Qgl p5),I p6] 0),rp [(.tmp 23,(.dptr [(.dat 5 (p0.map Qaq)),(Qg0 p1),(Qgm p2),(Qg1 p3),(.dat 1 (p4.map Qad)),(Qgl p5),I p6] 0))] (Zdx p0 p1),rp [fu 67,(.tmp 24,(Zdx p0 p1)),(.const (.int .u8 1),(K .u8 (1)))] (.dat 1 (x7.map Qad)),rp [(.tmp 2,(.dptr [I p7] 0))] (I p7),rp [fu 134,(.tmp 25,(.dat 1 (x7.map Qad))),(.tmp 26,I p7)] (I x9),rp [(.tmp 20,(Qgl p5)),(.tmp 27,I x9)] (.dptr (Qah x10) 0),rp [(.tmp 28,(.dptr (Qah x10) 0))] (Zdw x10),⟨[(.tmp 16,(.lit (.func (.yield l) #[] #[]))),(.tmp 29,(Zdw x10))],[(0,(.far (J (some (x10::q14)))))],B true,[(0,(.far (J (some q14))))],false⟩] [mv 0 (.lit (.func (.yield l) #[] #[])),rp [(.tmp 1,(.dptr [(.dptr [(.dat 5 (p0.map Qaq)),(Qg0 p1),(Qgm p2),(Qg1 p3),(.dat 1 (p4.map Qad)),(Qgl p5),I p6] 0)] 0))] (.dptr [(.dat 5 (p0.map Qaq)),(Qg0 p1),(Qgm p2),(Qg1 p3),(.dat 1 (p4.map Qad)),(Qgl p5),I p6] 0),mv 17 (.dptr [(.dat 5 (p0.map Qaq)),(Qg0 p1),(Qgm p2),(Qg1 p3),(.dat 1 (p4.map Qad)),(Qgl p5),I p6] 0),rp [(.tmp 18,(.dptr [(.dat 5 (p0.map Qaq)),(Qg0 p1),(Qgm p2),(Qg1 p3),(.dat 1 (p4.map Qad)),(Qgl p5),I p6] 0))] (.dptr [(.dat 5 (p0.map Qaq)),(Qg0 p1),(Qgm p2),(Qg1 p3),(.dat 1 (p4.map Qad)),(Qgl p5),I p6] 5),rp [(.tmp 19,(.dptr [(.dat 5 (p0.map Qaq)),(Qg0 p1),(Qgm p2),(Qg1 p3),(.dat 1 (p4.map Qad)),(Qgl p5),I p6] 5))] (Qgl p5),rp [(.tmp 1,(.dptr [(.dptr [(.dat 5 (p0.map Qaq)),(Qg0 p1),(Qgm p2),(Qg1 p3),(.dat 1 (p4.map Qad)),(Qgl p5),I p6] 0)] 0))] (.dptr [(.dat 5 (p0.map Qaq)),(Qg0 p1),(Qgm p2),(Qg1 p3),(.dat 1 (p4.map Qad)),(Qgl p5),I p6] 0),mv 21 (.dptr [(.dat 5 (p0.map Qaq)),(Qg0 p1),(Qgm p2),(Qg1 p3),(.dat 1 (p4.map Qad)),(Qgl p5),I p6] 0),mv 22 (.dptr [(.dat 5 (p0.map Qaq)),(Qg0 p1),(Qgm p2),(Qg1 p3),(.dat 1 (p4.map Qad)),(Qgl p5),I p6] 0),rp [(.tmp 23,(.dptr [(.dat 5 (p0.map Qaq)),(Qg0 p1),(Qgm p2),(Qg1 p3),(.dat 1 (p4.map Qad)),(Qgl p5),I p6] 0))] (Zdx p0 p1),rp [fu 67,(.tmp 24,(Zdx p0 p1)),(.const (.int .u8 1),(K .u8 (1)))] (.dat 1 (x7.map Qad)),rp [(.tmp 2,(.dptr [I p7] 0))] (I p7),rp [fu 134,(.tmp 25,(.dat 1 (x7.map Qad))),(.tmp 26,I p7)] (I x9),rp [(.tmp 20,(Qgl p5)),(.tmp 27,I x9)] (.dptr (Qah x10) 0),rp [(.tmp 28,(.dptr (Qah x10) 0))] (Zdw x10),⟨[(.tmp 16,(.lit (.func (.yield l) #[] #[]))),(.tmp 29,(Zdw x10))],[(0,(.far (J (some (x10::q14)))))],B false,[(0,(.far (J none)))],false⟩] (by exact⟨by kernel_rfl,by kernel_rfl⟩) (by exact⟨by kernel_rfl,by kernel_rfl⟩) rfl rfl rfl rfl (Qp0 (rd':=(.tmp 16,.lit (.func (.yield l) #[] #[]))::[(.tmp 29,.lit (.agg #[(.int .i64 x10.Mass),(.int .i64 x10.Heat),(.int .i64 x10.Silica),(.int .i64 x10.Gas)]))]) ⟨rfl,lrf,rfl,(Less.lits [(.int .i64 x10.Mass),(.int .i64 x10.Heat),(.int .i64 x10.Silica),(.int .i64 x10.Gas)]),tv⟩ (Qod (x:=x10) (rest:=q14) rfl rfl hy rfl)) (⟨fun _ _=>amv rfl,fun _ _=>ald_ rfl Qot (by decide) (nle rfl) rfl,fun _ _=>anc rfl rfl,fun _ _=>afd rfl underlying140 rfl rfl ti45 (by decide) rfl,fun _ _=>ald_ rfl ti45 (by decide) (nle rfl) rfl,fun _ _=>ald_ rfl Qot (by decide) (nle rfl) rfl,fun _ _=>anc rfl rfl,fun _ _=>afd rfl underlying140 rfl rfl ti42 (by decide) rfl,fun _ _=>ald_ rfl ti42 (by decide) (nle rfl) rfl,fun _ _=>apv Qpw (Qgf N (⟨p0,p1⟩:GNet) 1 _ hf6) (nlc (NLt.agg _ (nlc (nld Qag _) (nlc (nld Qab _) nl0))) (nlc nll nl0)) (nld Qaf _),fun _ _=>ald_ rfl ti3 (by decide) (nle rfl) rfl,fun _ _=>apv Q5c (Qiv N x7 p7 _ hf8) (nlc (nld Qaf _) (nlc nll nl0)) nll,fun _ _=>aiq underlying45 ti63 Qah hi12 hj13,fun _ _=>ald_ rfl ti63 (by decide) (nle rfl) rfl,fun _ h=>absurd rfl h,tv⟩) (⟨fun _ _=>amv rfl,fun _ _=>ald_ rfl Qot (by decide) (nle rfl) rfl,fun _ _=>anc rfl rfl,fun _ _=>afd rfl underlying140 rfl rfl ti45 (by decide) rfl,fun _ _=>ald_ rfl ti45 (by decide) (nle rfl) rfl,fun _ _=>ald_ rfl Qot (by decide) (nle rfl) rfl,fun _ _=>anc rfl rfl,fun _ _=>afd rfl underlying140 rfl rfl ti42 (by decide) rfl,fun _ _=>ald_ rfl ti42 (by decide) (nle rfl) rfl,fun _ _=>apv Qpw (Qgf N (⟨p0,p1⟩:GNet) 1 _ hf6) (nlc (NLt.agg _ (nlc (nld Qag _) (nlc (nld Qab _) nl0))) (nlc nll nl0)) (nld Qaf _),fun _ _=>ald_ rfl ti3 (by decide) (nle rfl) rfl,fun _ _=>apv Q5c (Qiv N x7 p7 _ hf8) (nlc (nld Qaf _) (nlc nll nl0)) nll,fun _ _=>aiq underlying45 ti63 Qah hi12 hj13,fun _ _=>ald_ rfl ti63 (by decide) (nle rfl) rfl,fun _ h=>absurd rfl h,tv⟩) ?_ ?_
   ·skip
    refine Qaj<|Qal ?_
    obtain rfl:=osi h
    exact Or.inl rfl
   ·clear h
    exact Qaj<|Qal<|Or.inr (by kernel_rfl)
  ·refine wfn hc5<|Qap<|thn ?_
   refine wxd tbk [(6,rp _ _),(9,rp _ _)] ⟨aiq underlying40 Qik Qac hi3 hj4,alq 2 Qay x1.From underlying116,tv⟩<|Qar ?_
   refine wmr (mto (n:=62) (l':=[(0,(.lit (.func (.yield l) #[] #[]))),(1,(.dptr [(.dptr [(.dat 5 (p0.map Qaq)),(Qg0 p1),(Qgm p2),(Qg1 p3),(.dat 1 (p4.map Qad)),(Qgl p5),I p6] 0)] 0)),(39,(Zdv x1)),(40,(I ((x1.From.length:Int)))),(41,I 0)]) (own':=[(.far (J (some r)))]) [(0,(.lit (.func (.yield l) #[] #[]))),(1,(.dptr [(.dptr [(.dat 5 (p0.map Qaq)),(Qg0 p1),(Qgm p2),(Qg1 p3),(.dat 1 (p4.map Qad)),(Qgl p5),I p6] 0)] 0)),(39,(Zdv x1)),(40,(I ((x1.From.length:Int)))),(41,I 0)] [0] [(.far (J (some r)))] hφ0 (pw (pc (.rn (.plain _ (NLt.dptr _ _ (nlc (NLt.dptr _ _ (nlc (nld Qag _) (nlc (nld Qab _) (nlc (nld Qai _) (nlc (nld Qa3 _) (nlc (nld Qaf _) (nlc (nld Qam _) (nlc nll nl0)))))))) nl0)))) (pc (rnd Qba) (pw (pw pn))))) (qc (.far _) qn)) ?_
   refine Qbt (τ:=(Int)×List Qaa) (fun n t=>Qdd N x1 p2 n t.1=some t.2) (fun ⟨y15,q16⟩=>⟨mk 62 [(0,(.lit (.func (.yield l) #[] #[]))),(1,(.dptr [(.dptr [(.dat 5 (p0.map Qaq)),(Qg0 p1),(Qgm p2),(Qg1 p3),(.dat 1 (p4.map Qad)),(Qgl p5),I p6] 0)] 0)),(39,(Zdv x1)),(40,(I ((x1.From.length:Int)))),(41,I y15)],[(.far (J (some q16)))]⟩) (fun t h=>by rw[Qdd] at h;cases h) (fun n19 ih t h=>?_) N ((0),r) h
   obtain⟨y15,q16⟩:=t
   rw[Qdd] at h
   try dsimp only at h
   refine wxz<|wsq ?_
   refine bfe h (fun hc20 h=>?_) fun hc20 h=>?_
   ·refine wft hc20<|Qap<|thn<|wsq<|Qar ?_
    obtain⟨x21,hg22,h⟩:=bno h
    obtain⟨hi23,hj24⟩:=gsm hg22
    refine wx tbk [(0,rp _ _)] ⟨aiq underlying116 Qpi Qay hi23 hj24,tv⟩ ?_
    obtain⟨x25,hg26,h⟩:=bno h
    obtain⟨hi27,hj28⟩:=gsm hg26
    obtain⟨x29,hg30,h⟩:=bno h
    obtain⟨hi31,hj32⟩:=gsm hg30
    obtain⟨q33,hy_,hq_⟩:=Q1r h
    clear h
    subst hq_
    have h:=hy_
    clear hy_
    refine Q0v 14 [mv 0 (.lit (.func (.yield l) #[] #[])),rp [(.tmp 1,(.dptr [(.dptr [(.dat 5 (p0.map Qaq)),(Qg0 p1),(Qgm p2),(Qg1 p3),(.dat 1 (p4.map Qad)),(Qgl p5),I p6] 0)] 0))] (.dptr [(.dat 5 (p0.map Qaq)),(Qg0 p1),(Qgm p2),(Qg1 p3),(.dat 1 (p4.map Qad)),(Qgl p5),I p6] 0),mv 46 (.dptr [(.dat 5 (p0.map Qaq)),(Qg0 p1),(Qgm p2),(Qg1 p3),(.dat 1 (p4.map Qad)),(Qgl p5),I p6] 0),rp [(.tmp 47,(.dptr [(.dat 5 (p0.map Qaq)),(Qg0 p1),(Qgm p2),(Qg1 p3),(.dat 1 (p4.map Qad)),(Qgl p5),I p6] 0))] (.dptr [(.dat 5 (p0.map Qaq)),(Qg0 p1),(Qgm p2),(Qg1 p3),(.dat 1 (p4.map Qad)),(Qgl p5),I p6] 2),mv 48 (.dptr [(.dat 5 (p0.map Qaq)),(Qg0 p1),(Qgm p2),(Qg1 p3),(.dat 1 (p4.map Qad)),(Qgl p5),I p6] 2),rp [(.tmp 49,(.dptr [(.dat 5 (p0.map Qaq)),(Qg0 p1),(Qgm p2),(Qg1 p3),(.dat 1 (p4.map Qad)),(Qgl p5),I p6] 2))] (Qgm p2),rb [(.tmp 5,.ref 1 2 0 0)] [(1,(Qr5 x21))] (.ref 1 2 0 0),rb [(.tmp 51,.ref 1 2 0 0)] [(1,(Qr5 x21))] (I x21.Element),rp [(.tmp 50,(Qgm p2)),(.tmp 52,I x21.Element)] (.dptr (Qak x25) 0),rp [(.tmp 53,(.dptr (Qak x25) 0))] (.dat 4 (x25.map Qah)),rb [(.tmp 5,.ref 1 2 0 0)] [(1,(Qr5 x21))] (.ref 1 2 0 1),rb [(.tmp 55,.ref 1 2 0 1)] [(1,(Qr5 x21))] (I x21.Outlet),rp [(.tmp 54,(.dat 4 (x25.map Qah))),(.tmp 56,I x21.Outlet)] (.dptr (Qah x29) 0),rp [(.tmp 57,(.dptr (Qah x29) 0))] (Q3i x29),⟨[(.tmp 45,(.lit (.func (.yield l) #[] #[]))),(.tmp 58,(Q3i x29))],[(0,(.far (J (some (x29::q33)))))],B true,[(0,(.far (J (some q33))))],false⟩,rp [(.tmp 59,B true)] (B false)] [mv 0 (.lit (.func (.yield l) #[] #[])),rp [(.tmp 1,(.dptr [(.dptr [(.dat 5 (p0.map Qaq)),(Qg0 p1),(Qgm p2),(Qg1 p3),(.dat 1 (p4.map Qad)),(Qgl p5),I p6] 0)] 0))] (.dptr [(.dat 5 (p0.map Qaq)),(Qg0 p1),(Qgm p2),(Qg1 p3),(.dat 1 (p4.map Qad)),(Qgl p5),I p6] 0),mv 46 (.dptr [(.dat 5 (p0.map Qaq)),(Qg0 p1),(Qgm p2),(Qg1 p3),(.dat 1 (p4.map Qad)),(Qgl p5),I p6] 0),rp [(.tmp 47,(.dptr [(.dat 5 (p0.map Qaq)),(Qg0 p1),(Qgm p2),(Qg1 p3),(.dat 1 (p4.map Qad)),(Qgl p5),I p6] 0))] (.dptr [(.dat 5 (p0.map Qaq)),(Qg0 p1),(Qgm p2),(Qg1 p3),(.dat 1 (p4.map Qad)),(Qgl p5),I p6] 2),mv 48 (.dptr [(.dat 5 (p0.map Qaq)),(Qg0 p1),(Qgm p2),(Qg1 p3),(.dat 1 (p4.map Qad)),(Qgl p5),I p6] 2),rp [(.tmp 49,(.dptr [(.dat 5 (p0.map Qaq)),(Qg0 p1),(Qgm p2),(Qg1 p3),(.dat 1 (p4.map Qad)),(Qgl p5),I p6] 2))] (Qgm p2),rb [(.tmp 5,.ref 1 2 0 0)] [(1,(Qr5 x21))] (.ref 1 2 0 0),rb [(.tmp 51,.ref 1 2 0 0)] [(1,(Qr5 x21))] (I x21.Element),rp [(.tmp 50,(Qgm p2)),(.tmp 52,I x21.Element)] (.dptr (Qak x25) 0),rp [(.tmp 53,(.dptr (Qak x25) 0))] (.dat 4 (x25.map Qah)),rb [(.tmp 5,.ref 1 2 0 0)] [(1,(Qr5 x21))] (.ref 1 2 0 1),rb [(.tmp 55,.ref 1 2 0 1)] [(1,(Qr5 x21))] (I x21.Outlet),rp [(.tmp 54,(.dat 4 (x25.map Qah))),(.tmp 56,I x21.Outlet)] (.dptr (Qah x29) 0),rp [(.tmp 57,(.dptr (Qah x29) 0))] (Q3i x29),⟨[(.tmp 45,(.lit (.func (.yield l) #[] #[]))),(.tmp 58,(Q3i x29))],[(0,(.far (J (some (x29::q33)))))],B false,[(0,(.far (J none)))],false⟩,rp [(.tmp 59,B false)] (B true)] (by exact⟨by kernel_rfl,by kernel_rfl⟩) (by exact⟨by kernel_rfl,by kernel_rfl⟩) rfl rfl rfl rfl (Qp0 (rd':=(.tmp 45,.lit (.func (.yield l) #[] #[]))::[(.tmp 58,.lit (.agg #[(.int .i64 x29.Mass),(.int .i64 x29.Heat),(.int .i64 x29.Silica),(.int .i64 x29.Gas)]))]) ⟨rfl,lrf,rfl,(Less.lits [(.int .i64 x29.Mass),(.int .i64 x29.Heat),(.int .i64 x29.Silica),(.int .i64 x29.Gas)]),tv⟩ (Qod (x:=x29) (rest:=q33) rfl rfl hy rfl)) (⟨fun _ _=>amv rfl,fun _ _=>ald_ rfl Qot (by decide) (nle rfl) rfl,fun _ _=>anc rfl rfl,fun _ _=>afd rfl underlying140 rfl rfl ti34 (by decide) rfl,fun _ _=>afd rfl underlying34 rfl rfl ti31 (by decide) rfl,fun _ _=>ald_ rfl ti31 (by decide) (nle rfl) rfl,fun _ _=>afa rfl underlying120 rfl rfl ti3 (by decide) rfl,fun _ _=>ald rfl ti3 (by decide) rfl (nle rfl) rfl,fun _ _=>aiq underlying31 ti45 Qak hi27 hj28,fun _ _=>ald_ rfl ti45 (by decide) (nle rfl) rfl,fun _ _=>afa rfl underlying120 rfl rfl ti3 (by decide) rfl,fun _ _=>ald rfl ti3 (by decide) rfl (nle rfl) rfl,fun _ _=>aiq underlying45 ti63 Qah hi31 hj32,fun _ _=>ald_ rfl ti63 (by decide) (nle rfl) rfl,fun _ h=>absurd rfl h,fun _ _=>Qlo rfl,tv⟩) (⟨fun _ _=>amv rfl,fun _ _=>ald_ rfl Qot (by decide) (nle rfl) rfl,fun _ _=>anc rfl rfl,fun _ _=>afd rfl underlying140 rfl rfl ti34 (by decide) rfl,fun _ _=>afd rfl underlying34 rfl rfl ti31 (by decide) rfl,fun _ _=>ald_ rfl ti31 (by decide) (nle rfl) rfl,fun _ _=>afa rfl underlying120 rfl rfl ti3 (by decide) rfl,fun _ _=>ald rfl ti3 (by decide) rfl (nle rfl) rfl,fun _ _=>aiq underlying31 ti45 Qak hi27 hj28,fun _ _=>ald_ rfl ti45 (by decide) (nle rfl) rfl,fun _ _=>afa rfl underlying120 rfl rfl ti3 (by decide) rfl,fun _ _=>ald rfl ti3 (by decide) rfl (nle rfl) rfl,fun _ _=>aiq underlying45 ti63 Qah hi31 hj32,fun _ _=>ald_ rfl ti63 (by decide) (nle rfl) rfl,fun _ h=>absurd rfl h,fun _ _=>Qlo rfl,tv⟩) ?_ ?_
    ·skip
     exact wfa<|Qap<|bln<|thn<|wxz1<|thn<|arm (mto (n:=62) [(0,(.lit (.func (.yield l) #[] #[]))),(1,(.dptr [(.dptr [(.dat 5 (p0.map Qaq)),(Qg0 p1),(Qgm p2),(Qg1 p3),(.dat 1 (p4.map Qad)),(Qgl p5),I p6] 0)] 0)),(39,(Zdv x1)),(40,(I ((x1.From.length:Int)))),(41,(I (w64 (y15+1))))] [0] [(.far (J (some q33)))] hφ0 (pw (pc (.rn (.plain _ (NLt.dptr _ _ (nlc (NLt.dptr _ _ (nlc (nld Qag _) (nlc (nld Qab _) (nlc (nld Qai _) (nlc (nld Qa3 _) (nlc (nld Qaf _) (nlc (nld Qam _) (nlc nll nl0)))))))) nl0)))) (pc (rnd Qba) (pw (pw pn))))) (qc (.far _) qn)) (ih ((w64 (y15+1)),q33) h)
    ·clear h
     exact wtr<|Qaj<|Qat<|Qal<|Qal<|Qat<|Or.inr (by kernel_rfl)
   ·refine wfn hc20<|Qbf<|Qaw<|Qaw<|Qbe rfl ?_
    obtain rfl:=osi h
    exact Or.inl rfl
def Qaz (N:Nat) (k3:(List Qaa)→Option (List Qaa)):(List Qaa)→(List Qaa)→Option (List Qaa)
  |[],y6=>
    k3 (y6)
  |x9::q10,y6=>
    chk (decide ((y6.length+([x9]).length)*32≤140737488355328))<|
    Qaz N k3 q10 (y6++([x9]))
def Qce (N:Nat) (p0:List GRow) (p1:List Qae) (p2:List (List Qaa)) (p3:List Qbg) (p4:List Int) (p5:List Qaa) (p6 p7:Int):Option (List Qaa):=
  Qbl (fun y2=>
    some y2) fun k3:(List Qaa)→Option (List Qaa)=>
  (Qg7 N p0 p1 p2 p3 p4 p5 p6 p7).bind fun q4=>
  Qaz N k3 q4 ([])
def Zjl (p0:List GRow) (p1:List Qae) (p2:List (List Qaa)) (p3:List Qbg) (p4:List Int) (p5:List Qaa) (p6 p7:Int):AV:=.fn (.func 133) [] [(.dptr [(.dptr [(.dat 5 (p0.map Qaq)),(.dat 7 (p1.map Qac)),(.dat 1 (p2.map Qak)),(.dat 4 (p3.map Qa0)),(.dat 1 (p4.map Qad)),(.dat 4 (p5.map Qah)),(I p6)] 0)] 0),(.dptr [(I p7)] 0)]
def Zh3 (x9:Qaa):AV:=.agg [(I x9.Mass),(I x9.Heat),(I x9.Silica),(I x9.Gas)]
theorem Qgt (N:Nat) (p0:List GRow) (p1:List Qae) (p2:List (List Qaa)) (p3:List Qbg) (p4:List Int) (p5:List Qaa) (p6 p7:Int) (r:List Qaa) (h:Qce N p0 p1 p2 p3 p4 p5 p6 p7=some r):Spec prog 132 [nilS,(Zjl p0 p1 p2 p3 p4 p5 p6 p7)] [] (.acc 0 63 4 (r.map Qah)) [.tok]:=by
  refine Qan func132 rfl 1 (nle rfl) (fun X φ0 w0 hφ0 hd0=>?_)
  unfold Qce at h
  refine Qbw<|wxz ?_
  obtain⟨k3,hk_k3,h⟩:=jko h
  refine wjn (τ:=(List Qaa)) (fun t=>k3 t=some r) (fun y2=>⟨mk 13 [(2,.ref 0 1 0 0)],[(.own 1 [[(.acc 1 63 4 (y2.map Qah))]]),.tok]⟩) (fun y2 h=>?_) ?_
  ·subst hk_k3
   refine wxz<|wmr (mto (n:=13) (l':=[(4,(.acc 0 63 4 (y2.map Qah)))]) (own':=[.tok]) [(4,(.acc 1 63 4 (y2.map Qah)))] [1] [.tok] hφ0 (pc (.rn (Qcv rfl (Qb5 Qam _))) pn) (qc .tok qn))<|Qaj ?_
   obtain rfl:=osi h
   exact⟨_,Mor.rfl,Qc1 (vs:=[(.acc 0 63 4 (y2.map Qah))]) ⟨rot,tv⟩ rfl (NLt.acc _ _ _ _ (by decide) (Qx0 Qam _)) (by kernel_rfl) (Qao .tok Qbq)⟩
  ·skip
   refine wxz<|Qar ?_
   obtain⟨q4,hL5,h⟩:=bno h
   refine wmr (mto (n:=13) (l':=[(2,.ref 0 1 0 0),(6,(Zjl p0 p1 p2 p3 p4 p5 p6 p7))]) (own':=[(.own 1 [[nilS]])]) [(2,.ref 0 1 0 0),(6,(Zjl p0 p1 p2 p3 p4 p5 p6 p7))] [0] [(.own 1 [[nilS]])] hφ0 (prr (pc (.rn (Qbi rn0 (rnc (.plain _ (NLt.dptr _ _ (nlc (NLt.dptr _ _ (nlc (nld Qag _) (nlc (nld Qab _) (nlc (nld Qai _) (nlc (nld Qa3 _) (nlc (nld Qaf _) (nlc (nld Qam _) (nlc nll nl0)))))))) nl0))) (rnc (.plain _ (NLt.dptr _ _ (nlc nll nl0))) rn0)))) pn)) (qb (lc rwl ln) qn)) ?_
   refine wmr (Qs0 (n:=1) (ty:=63) (m:=4) (q:=0) (mq:=1) (c:=[nilS]) 0 (by kernel_rfl) (by kernel_rfl) (by kernel_rfl) (by decide)) ?_
   refine Qws (τ:=((List Qaa))) (kb:=1) (caps:=[(.dptr [(.dptr [(.dat 5 (p0.map Qaq)),(.dat 7 (p1.map Qac)),(.dat 1 (p2.map Qak)),(.dat 4 (p3.map Qa0)),(.dat 1 (p4.map Qad)),(.dat 4 (p5.map Qah)),I p6] 0)] 0),(.dptr [I p7] 0)]) (σr:=[]) (encs:=fun x=>[(.agg #[(.int .i64 x.Mass),(.int .i64 x.Heat),(.int .i64 x.Silica),(.int .i64 x.Gas)])]) (fun x=>[(.agg [I x.Mass,I x.Heat,I x.Silica,I x.Gas])]) [] (fun n hn=>hφ0 n (Nat.le_trans (nle rfl) hn)) hd0 (Qox N p0 p1 p2 p3 p4 p5 p6 p7 _ hL5) Zgc (by kernel_rfl) (by kernel_rfl) (Qbs (rnc (.plain _ (NLt.dptr _ _ (nlc (NLt.dptr _ _ (nlc (nld Qag _) (nlc (nld Qab _) (nlc (nld Qai _) (nlc (nld Qa3 _) (nlc (nld Qaf _) (nlc (nld Qam _) (nlc nll nl0)))))))) nl0))) (rnc (.plain _ (NLt.dptr _ _ (nlc nll nl0))) rn0))) Qau (by kernel_rfl) (fun _=>rfl) (fun x=>⟨(Less.unlits [(.int .i64 x.Mass),(.int .i64 x.Heat),(.int .i64 x.Silica),(.int .i64 x.Gas)]),tv⟩) (Ziy (Qsz (NLt.ref _ _ _ _ (by decide)) (Qsz (NLt.of0 (NLt.fn _ _ _ nl0 (nlc (NLt.dptr _ _ (nlc (NLt.dptr _ _ (nlc (nld Qag _) (nlc (nld Qab _) (nlc (nld Qai _) (nlc (nld Qa3 _) (nlc (nld Qaf _) (nlc (nld Qam _) (nlc nll nl0)))))))) nl0)) (nlc (NLt.dptr _ _ (nlc nll nl0)) nl0)))) Zba))) (fun y6=>[(.own 1 [[(.acc 1 63 4 (y6.map Qah))]]),.tok]) (fun _=>rfl) (fun _=>rfl) (fun l t=>Qaz N k3 l t=some r) ([]) h (by kernel_rfl) ?_ ?_
   ·intro l11 o12 X15 φ16 w17 hφ14 x9 q10 y6 h
    rw[Qaz] at h
    refine wxz1 ?_
    refine⟨by kernel_rfl,fun o13=>?_⟩
    refine Qar ?_
    obtain⟨ha18,h⟩:=cko h
    refine wx1 tbk [(2,rp [(.tmp 9,(Zh3 x9))] (.dat 4 (([x9]:List Qaa).map Qah))),(3,⟨[(.tmp 8,(.acc 1 63 4 (y6.map Qah))),(.tmp 10,(.dat 4 (([x9]:List Qaa).map Qah)))],[(1,.tok),(4,.unused)],(.acc 4 63 4 ((y6++([x9]):List Qaa).map Qah)),[(1,.dead),(4,.tok)],false⟩)] ⟨Qbz (vs:=[(Zh3 x9)]) rfl underlying45 ti63 tz63 rfl (by decide) rfl (by decide) (by rfl) (by rfl) (by rfl) rfl,Qek rfl underlying45 te63 (Base.acc _ _) rfl rfl (by rfl) (Qhl Qah ha18) (Qhk Qah ha18 (by decide)) (Qhj Qah) rfl rfl,tv⟩<|bln ?_
    exact⟨(y6++([x9])),h,Zit (own':=[(.own 1 [[(.acc 1 63 4 (((y6++([x9])):List Qaa).map Qah))]]),.tok,(.far (farL l11 o13))]) [0,4,2] [(.own 1 [[(.acc 4 63 4 ((y6++([x9]):List Qaa).map Qah))]]),.tok,(.far (farL l11 o13))] (by kernel_rfl) (by kernel_rfl) ⟨(spb (lc (.rn (Qcv rfl (Qb5 Qam _))) ln)),.tok,.far _,tv⟩⟩
   ·intro y6 h
    rw[Qaz] at h
    exact bln<|thn<|⟨(y6),h,(mto (n:=13) [(2,.ref 0 1 0 0)] [0,1] [(.own 1 [[(.acc 1 63 4 (y6.map Qah))]]),.tok] hφ0 (prr pn) (qb (lc (.rn (Qcv rfl (Qb5 Qam _))) ln) (qc .tok qn)))⟩
def Qb4 (N:Nat) (p0:List GRow) (p1:List Qae) (p2:List (List Qaa)) (p3:List Qbg) (p4:List Int) (p5:List Qaa) (p6 p7:Int):Option (List Qaa):=
  (Qce N p0 p1 p2 p3 p4 p5 p6 p7).bind fun x3=>
  some x3
def Zm0 (p0:List GRow) (p1:List Qae) (p2:List (List Qaa)) (p3:List Qbg) (p4:List Int) (p5:List Qaa) (p6 p7:Int):AV:=.fn (.func 133) [] [(.dptr [(.dptr [(.dat 5 (p0.map Qaq)),(.dat 7 (p1.map Qac)),(.dat 1 (p2.map Qak)),(.dat 4 (p3.map Qa0)),(.dat 1 (p4.map Qad)),(.dat 4 (p5.map Qah)),(I p6)] 0)] 0),(.dptr [(I p7)] 0)]
def Zdy (x3:List Qaa):AV:=.acc 0 63 4 (x3.map Qah)
theorem Qjc (N:Nat) (p0:List GRow) (p1:List Qae) (p2:List (List Qaa)) (p3:List Qbg) (p4:List Int) (p5:List Qaa) (p6 p7:Int) (r:List Qaa) (h:Qb4 N p0 p1 p2 p3 p4 p5 p6 p7=some r):Spec prog 115 [(Zm0 p0 p1 p2 p3 p4 p5 p6 p7)] [] (.acc 0 63 4 (r.map Qah)) [.tok]:=by
  refine Qan func115 rfl 1 (nle rfl) (fun X φ0 w0 hφ0 hd0=>?_)
  unfold Qb4 at h
  refine Qbw<|wxz ?_
  obtain⟨x3,hf2,h⟩:=bno h
  refine wx tbk [(1,⟨_,_,_,_,false⟩)] ⟨Qav (first:=[]) (cap:=[]) (vs:=[nilS,(Zm0 p0 p1 p2 p3 p4 p5 p6 p7)]) (σr:=[]) (σr':=[.tok]) (res':=(Zdy x3)) [0] rfl Zgd (Qgt N p0 p1 p2 p3 p4 p5 p6 p7 _ hf2) rfl (Qbs (rnc (.plain _ nll) (rnc (.plain _ (NLt.fn _ _ _ nl0 (nlc (NLt.dptr _ _ (nlc (NLt.dptr _ _ (nlc (nld Qag _) (nlc (nld Qab _) (nlc (nld Qai _) (nlc (nld Qa3 _) (nlc (nld Qaf _) (nlc (nld Qam _) (nlc nll nl0)))))))) nl0)) (nlc (NLt.dptr _ _ (nlc nll nl0)) nl0)))) rn0))) Qau (slc .tok Qau) (Zar rfl (Qb5 Qam _)) rfl rfl rfl,tv⟩ ?_
  refine wmr (mto (n:=5) (l':=[(2,(Zdy x3))]) (own':=[.tok]) [(2,(Zdy x3))] [0] [.tok] hφ0 (pc (.rn (Qcv rfl (Qb5 Qam _))) pn) (qc .tok qn))<|Qaj ?_
  obtain rfl:=osi h
  exact⟨_,Mor.rfl,Qc1 (vs:=[(Zdy x3)]) ⟨rot,tv⟩ rfl (NLt.acc _ _ _ _ (by decide) (Qx0 Qam _)) (by kernel_rfl) (Qao .tok Qbq)⟩
def Qf8 (_N:Nat) (_p0:Int) (p1:Qaa) (_p2:List GRow) (_p3:List Qae) (_p4 _p5 _p6:Nat) (_p7:List Qaa) (_p8:Int) (_p9:List (List Qaa)) (_p10:List Qbg) (_p11:List Int):Option (List Qaa):=
  some ([p1])
def Zjk (p1:Qaa):AV:=.agg [(I p1.Mass),(I p1.Heat),(I p1.Silica),(I p1.Gas)]
def Zdt (p2:List GRow) (p3:List Qae) (p4 p5 p6:Nat) (p7:List Qaa) (p8:Int):Slot:=.own 7 [[(.dat 5 (p2.map Qaq)),(.dat 7 (p3.map Qac)),(.own 1 1 (0) p4),(.own 2 4 (0) p5),(.own 3 1 (0) p6),(.dat 4 (p7.map Qah)),(I p8)]]
def Zdu (p1:Qaa):AV:=.dat 4 (([p1]:List Qaa).map Qah)
theorem Qii (N:Nat) (p0:Int) (p1:Qaa) (p2:List GRow) (p3:List Qae) (p4 p5 p6:Nat) (p7:List Qaa) (p8:Int) (p9:List (List Qaa)) (p10:List Qbg) (p11:List Int) (r:List Qaa) (h:Qf8 N p0 p1 p2 p3 p4 p5 p6 p7 p8 p9 p10 p11=some r):Spec prog 117 [(.ref 0 7 (0) 0),(I p0),(Zjk p1)] [(Zdt p2 p3 p4 p5 p6 p7 p8),(.own 1 (p9.map Qak)),(.own 4 (p10.map Qa0)),(.own 1 (p11.map Qad))] (.dat 4 (r.map Qah)) [(Zdt p2 p3 p4 p5 p6 p7 p8),(.own 1 (p9.map Qak)),(.own 4 (p10.map Qa0)),(.own 1 (p11.map Qad))]:=by
  refine Qan func117 rfl 4 (nle rfl) (fun X φ0 w0 hφ0 hd0=>?_)
  unfold Qf8 at h
  refine Qbw<|wxz ?_
  refine wx tbk [(1,rp [(.tmp 7,(Zjk p1))] (Zdu p1))] ⟨Qbz (vs:=[(Zjk p1)]) rfl underlying45 ti63 tz63 rfl (by decide) rfl (by decide) (by rfl) (by rfl) (by rfl) rfl,tv⟩ ?_
  refine wmr (mto (n:=9) (l':=[(6,(Zdu p1))]) (own':=[(Zdt p2 p3 p4 p5 p6 p7 p8),(.own 1 (p9.map Qak)),(.own 4 (p10.map Qa0)),(.own 1 (p11.map Qad))]) [(6,(Zdu p1))] [0,1,2,3] [(Zdt p2 p3 p4 p5 p6 p7 p8),(.own 1 (p9.map Qak)),(.own 4 (p10.map Qa0)),(.own 1 (p11.map Qad))] hφ0 (pc (rnd Qam) pn) (qb (lc (rnd Qag) (lc (rnd Qab) (lc (.rn (Qa2 rfl)) (lc (.rn (Qa2 rfl)) (lc (.rn (Qa2 rfl)) (lc (rnd Qam) (lc rwl ln))))))) (qc (spr Qai) (qc (spr Qa3) (qc (spr Qaf) qn)))))<|Qaj ?_
  obtain rfl:=osi h
  exact⟨_,Mor.rfl,Qc1 (vs:=[(Zdu p1)]) ⟨rot,tv⟩ rfl (NLt.of0 (nld Qam _)) (by kernel_rfl) (Qao (Qax (nlc (NLt.of0 (nld Qag _)) (nlc (NLt.of0 (nld Qab _)) (nlc (NLt.own _ _ _ _ (by decide)) (nlc (NLt.own _ _ _ _ (by decide)) (nlc (NLt.own _ _ _ _ (by decide)) (nlc (NLt.of0 (nld Qam _)) (nlc (NLt.of0 nll) nl0)))))))) (Qao (Qb0 Qai _) (Qao (Qb0 Qa3 _) (Qao (Qb0 Qaf _) Qbq))))⟩
def Qie (_N:Nat) (p0:Int) (p1:Qaa) (_p2:List GRow) (p3:List Qae) (_p4 p5 _p6:Nat) (_p7:List Qaa) (_p8:Int) (_p9:List (List Qaa)) (p10:List Qbg) (_p11:List Int):Option ((List Qaa)×(List Qbg)):=
  (getI p3 p0).bind fun x3=>
  (some (if p1.Heat<x3.Amount then p1.Heat else x3.Amount)).bind fun x7=>
  chk (decide (0≤p0)&&decide (p0.toNat<p5))<|
  (p10[p0.toNat]?).bind fun x10=>
  some ([(⟨p1.Mass,w64 (p1.Heat-x7),p1.Silica,p1.Gas⟩:Qaa)],p10.set p0.toNat (⟨x7,x10.Silica,x10.Gas,x10.Scale⟩:Qbg))
def Q53 (p2:List GRow) (p3:List Qae) (p4 p5 p6:Nat) (p7:List Qaa) (p8:Int):Slot:=.own 7 [[(.dat 5 (p2.map Qaq)),(.dat 7 (p3.map Qac)),(.own 1 1 (0) p4),(.own 2 4 (0) p5),(.own 3 1 (0) p6),(.dat 4 (p7.map Qah)),(I p8)]]
def Zh2 (p1:Qaa) (x7:Int):AV:=.agg [(I p1.Mass),(I (w64 (p1.Heat-x7))),(I p1.Silica),(I p1.Gas)]
def Q3h (p1:Qaa) (x7:Int):AV:=.dat 4 (([(⟨p1.Mass,w64 (p1.Heat-x7),p1.Silica,p1.Gas⟩:Qaa)]:List Qaa).map Qah)
theorem Qoz (N:Nat) (p0:Int) (p1:Qaa) (p2:List GRow) (p3:List Qae) (p4 p5 p6:Nat) (p7:List Qaa) (p8:Int) (p9:List (List Qaa)) (p10:List Qbg) (p11:List Int) (r:((List Qaa)×(List Qbg))) (h:Qie N p0 p1 p2 p3 p4 p5 p6 p7 p8 p9 p10 p11=some r):Spec prog 118 [(.ref 0 7 (0) 0),(I p0),(.agg [(I p1.Mass),(I p1.Heat),(I p1.Silica),(I p1.Gas)])] [(Q53 p2 p3 p4 p5 p6 p7 p8),(.own 1 (p9.map Qak)),(.own 4 (p10.map Qa0)),(.own 1 (p11.map Qad))] (.dat 4 (r.1.map Qah)) [(Q53 p2 p3 p4 p5 p6 p7 p8),(.own 1 (p9.map Qak)),(.own 4 (r.2.map Qa0)),(.own 1 (p11.map Qad))]:=by
  refine Qan func118 rfl 4 (nle rfl) (fun X φ0 w0 hφ0 hd0=>?_)
  unfold Qie at h
  refine Qbw<|wxz ?_
  obtain⟨x3,hg4,h⟩:=bno h
  obtain⟨hi5,hj6⟩:=gsm hg4
  obtain⟨x7,hl8,h⟩:=bno h
  refine wxd tbk [(1,rb [(.tmp 8,.ref 0 7 0 0)] [(0,(Q53 p2 p3 p4 p5 p6 p7 p8))] (.ref 0 7 0 0)),(6,rp _ _),(11,rp [(.tmp 16,I x3.Amount),(.tmp 18,I p1.Heat)] (I ((if p1.Heat<x3.Amount then p1.Heat else x3.Amount)))),(12,rp [(.tmp 19,(I ((if p1.Heat<x3.Amount then p1.Heat else x3.Amount))))] (I x7))] ⟨Qbj rfl,aiq underlying40 Qik Qac hi5 hj6,Qq9 rfl,Qkz hl8 (aas rfl),tv⟩ ?_
  obtain⟨hi9,h⟩:=cko h
  obtain⟨hi9a,hi9b⟩:=Qdv hi9
  obtain⟨x10,hg11,h⟩:=bno h
  refine wx tbk [(1,rb [(.tmp 20,.ref 0 7 0 0)] [(0,(Q53 p2 p3 p4 p5 p6 p7 p8))] (.ref 0 7 0 0)),(7,rb [(.tmp 24,(.own 2 4 (0) p5)),(.tmp 25,I p0)] [(2,(.own 4 (p10.map Qa0)))] (.ref 2 4 p0.toNat 0)),(9,⟨[(.tmp 28,(.ref 2 4 p0.toNat 0)),(.tmp 26,I x7)],[(2,(.own 4 (p10.map Qa0)))],.any,[(2,(.own 4 ((p10.set p0.toNat (⟨x7,x10.Silica,x10.Gas,x10.Scale⟩:Qbg):List Qbg).map Qa0)))],false⟩)] ⟨Qbj rfl,aio rfl underlying32 ti82 (odt hi9a) (odt hi9b) (Nat.zero_add _),ast rfl ti3 (by rfl) (mgt Qa0 hg11) (nle rfl) (Qf0 Qa0 rfl),tv⟩<|wxz ?_
  refine wx tbk [(1,rp [(.tmp 34,(Zh2 p1 x7))] (Q3h p1 x7))] ⟨Qbz (vs:=[(Zh2 p1 x7)]) rfl underlying45 ti63 tz63 rfl (by decide) rfl (by decide) (by rfl) (by rfl) (by rfl) rfl,tv⟩ ?_
  refine wmr (mto (n:=36) (l':=[(6,(Q3h p1 x7))]) (own':=[(Q53 p2 p3 p4 p5 p6 p7 p8),(.own 1 (p9.map Qak)),(.own 4 (((p10.set p0.toNat (⟨x7,x10.Silica,x10.Gas,x10.Scale⟩:Qbg)):List Qbg).map Qa0)),(.own 1 (p11.map Qad))]) [(6,(Q3h p1 x7))] [0,1,2,3] [(Q53 p2 p3 p4 p5 p6 p7 p8),(.own 1 (p9.map Qak)),(.own 4 ((p10.set p0.toNat (⟨x7,x10.Silica,x10.Gas,x10.Scale⟩:Qbg):List Qbg).map Qa0)),(.own 1 (p11.map Qad))] hφ0 (pc (rnd Qam) pn) (qb (lc (rnd Qag) (lc (rnd Qab) (lc (.rn (Qa2 rfl)) (lc (.rn (Qa2 rfl)) (lc (.rn (Qa2 rfl)) (lc (rnd Qam) (lc rwl ln))))))) (qc (spr Qai) (qc (spr Qa3) (qc (spr Qaf) qn)))))<|Qaj ?_
  obtain rfl:=osi h
  exact⟨_,Mor.rfl,Qc1 (vs:=[(Q3h p1 x7)]) ⟨rot,tv⟩ rfl (NLt.of0 (nld Qam _)) (by kernel_rfl) (Qao (Qax (nlc (NLt.of0 (nld Qag _)) (nlc (NLt.of0 (nld Qab _)) (nlc (NLt.own _ _ _ _ (by decide)) (nlc (NLt.own _ _ _ _ (by decide)) (nlc (NLt.own _ _ _ _ (by decide)) (nlc (NLt.of0 (nld Qam _)) (nlc (NLt.of0 nll) nl0)))))))) (Qao (Qb0 Qai _) (Qao (Qb0 Qa3 _) (Qao (Qb0 Qaf _) Qbq))))⟩
def Qip (N:Nat) (p0:List GRow) (p1:Int):Option Bool:=
  (Qda N p1 0 (w64 ((p0.length:Int)-1))).bind fun x2=>
  some x2
theorem Qpk (N:Nat) (p0:List GRow) (p1:Int) (r:Bool) (h:Qip N p0 p1=some r):Spec prog 143 [(.dat 5 (p0.map Qaq)),(I p1)] [] (B r) []:=by
  refine Qan func143 rfl 0 (nle rfl) (fun X φ0 w0 hφ0 hd0=>?_)
  unfold Qip at h
  refine wxz ?_
  obtain⟨x2,hf1,h⟩:=bno h
  exact wx tbk [(2,rp _ _),(4,rp _ _)] ⟨alq 5 Qaq p0 underlying39,apv Qjo (Qdh N p1 0 (w64 ((p0.length:Int)-1)) _ hf1) (nlcc (nlc nll nl0)) nll,tv⟩<|Qaj<|frb h
def Qi6 (_N:Nat) (p0:List GRow) (p1:Int):Option Ql4:=
  (getI p0 p1).bind fun x1=>
  some (⟨x1⟩:Ql4)
def Zji (x1:GRow):AV:=.agg [(I x1.T),(I x1.P),(I x1.Liquid),(I x1.Vapour),(I x1.Silica)]
theorem Qqi (N:Nat) (p0:List GRow) (p1:Int) (r:Ql4) (h:Qi6 N p0 p1=some r):Spec prog 144 [(.dat 5 (p0.map Qaq)),(I p1)] [] (.agg (Qyl r)) []:=by
  refine Qan func144 rfl 0 (nle rfl) (fun X φ0 w0 hφ0 hd0=>?_)
  unfold Qi6 at h
  refine wxz ?_
  obtain⟨x1,hg2,h⟩:=bno h
  obtain⟨hi3,hj4⟩:=gsm hg2
  refine wx tbk [(2,rp _ _),(4,mv 8 (Zji x1))] ⟨aiq underlying39 Qsp Qaq hi3 hj4,Qa5 (vs:=[(Zji x1)]) rfl Zp8 Zob rfl (by rfl) rfl,tv⟩<|Qaj ?_
  obtain rfl:=osi h
  exact fend ⟨[(Zji x1)],⟨Qbu (n:=0) (m:=5) (j:=0) (i:=0) (xs:=[[I x1.T,I x1.P,I x1.Liquid,I x1.Vapour,I x1.Silica]]) (by kernel_rfl) (by kernel_rfl) Zok (by decide) rfl (nle rfl) rfl,tv⟩,rfl⟩ (NLt.agg _ (nlcc (nlcc (nlc nll nl0))))
def Qgo (_N:Nat) (p0:Ql4) (p1:Qaa):Option Int:=
  (some (w64 (p1.Heat-(w64 (p1.Mass*p0.Row.Liquid))))).bind fun x1=>
  bif (decide (x1≤0)) then
   some 0
  else
   bif (decide (p1.Heat≥(w64 (p1.Mass*p0.Row.Vapour)))) then
    some p1.Mass
   else
    chk ((w64 (p0.Row.Vapour-p0.Row.Liquid)) != 0)<|
    (some (w64 (x1.tdiv (w64 (p0.Row.Vapour-p0.Row.Liquid))))).bind fun x6=>
    some x6
theorem Qnx (N:Nat) (p0:Ql4) (p1:Qaa) (r:Int) (h:Qgo N p0 p1=some r):Spec prog 149 [(.agg (Qyl p0)),(.agg (Qah p1))] [] (I r) []:=by
  refine Qan func149 rfl 0 (nle rfl) (fun X φ0 w0 hφ0 hd0=>?_)
  unfold Qgo at h
  refine wxz ?_
  obtain⟨x1,hl2,h⟩:=bno h
  refine wx tbk [(9,rp [(.tmp 14,(I (w64 (p1.Heat-(w64 (p1.Mass*p0.Row.Liquid))))))] (I x1))] ⟨Qkz hl2 (aas rfl),tv⟩<|wsq<|Qar<|wxz ?_
  refine bfe h (fun hc3 h=>?_) fun hc3 h=>?_
  ·refine wft hc3<|wxz<|Qaj<|Qat<|Qal ?_
   obtain rfl:=osi h
   exact fend ⟨[I 0],⟨rot,tv⟩,rfl⟩ nll
  ·refine wfn hc3<|wxz ?_
   refine bfe h (fun hc4 h=>?_) fun hc4 h=>?_
   ·refine wft hc4<|wxz<|Qaj<|Qat<|Qal ?_
    obtain rfl:=osi h
    exact fend ⟨[I p1.Mass],⟨rot,tv⟩,rfl⟩ nll
   ·refine wfn hc4<|Qap<|bln<|thn ?_
    obtain⟨hz5,h⟩:=cko h
    obtain⟨x6,hl7,h⟩:=bno h
    refine wx tbk [(8,rp [(.tmp 30,I x1),(.tmp 37,(I (w64 (p0.Row.Vapour-p0.Row.Liquid))))] (I (w64 (x1.tdiv (w64 (p0.Row.Vapour-p0.Row.Liquid)))))),(9,rp [(.tmp 38,(I (w64 (x1.tdiv (w64 (p0.Row.Vapour-p0.Row.Liquid))))))] (I x6))] ⟨Qq8 rfl (Qu7 hz5),Qkz hl7 (aas rfl),tv⟩<|Qaj ?_
    obtain rfl:=osi h
    exact fend ⟨[I x6],⟨rot,tv⟩,rfl⟩ nll
def Qg4 (N:Nat) (p0:Ql4) (p1:Qaa):Option Qhy:=
  (Qgo N (⟨(⟨p0.Row.T,p0.Row.P,p0.Row.Liquid,p0.Row.Vapour,p0.Row.Silica⟩:GRow)⟩:Ql4) p1).bind fun x2=>
  Qbl (fun ⟨y3,y4,y5,y6,y7,_,y9⟩=>
    (some (if (w64 (y6*p0.Row.Silica))<p1.Silica then w64 (y6*p0.Row.Silica) else p1.Silica)).bind fun x11=>
    bif (decide (y6>0)) then
     (some (if (w64 (y7-(w64 (y6*p0.Row.Liquid))))>0 then w64 (y7-(w64 (y6*p0.Row.Liquid))) else 0)).bind fun x14=>
     some (⟨(⟨y3,y4,0,y5⟩:Qaa),(⟨y6,y7,x11,y9⟩:Qaa),x14,w64 (p1.Silica-x11)⟩:Qhy)
    else
     some (⟨(⟨y3,y4,0,y5⟩:Qaa),(⟨y6,y7,x11,y9⟩:Qaa),0,w64 (p1.Silica-x11)⟩:Qhy)) fun k10:Int×Int×Int×Int×Int×Int×Int→Option Qhy=>
  bif (x2==0) then
   k10 (0,0,0,p1.Mass,p1.Heat,p1.Silica,p1.Gas)
  else
   bif (x2==p1.Mass) then
    k10 (x2,p1.Heat,p1.Gas,0,0,0,0)
   else
    k10 (x2,w64 (x2*p0.Row.Vapour),p1.Gas,w64 (p1.Mass-x2),w64 (p1.Heat-(w64 (x2*p0.Row.Vapour))),0,0)
def Zds (p0:Ql4):Slot:=.own 5 [[(I p0.Row.T),(I p0.Row.P),(I p0.Row.Liquid),(I p0.Row.Vapour),(I p0.Row.Silica)]]
def Zdr (p1:Qaa):Slot:=.own 4 [[(I p1.Mass),(I p1.Heat),(I p1.Silica),(I p1.Gas)]]
theorem Qqh (N:Nat) (p0:Ql4) (p1:Qaa) (r:Qhy) (h:Qg4 N p0 p1=some r):Spec prog 145 [(.agg (Qyl p0)),(.agg (Qah p1))] [] (.agg (Q5o r)) []:=by
  refine Qan func145 rfl 0 (nle rfl) (fun X φ0 w0 hφ0 hd0=>?_)
  unfold Qg4 at h
  refine wxz ?_
  obtain⟨x2,hf1,h⟩:=bno h
  refine wx tbk [(2,rp _ _)] ⟨apv Zf0 (Qnx N (⟨(⟨p0.Row.T,p0.Row.P,p0.Row.Liquid,p0.Row.Vapour,p0.Row.Silica⟩:GRow)⟩:Ql4) p1 _ hf1) (nlc (NLt.agg _ (nlcc (nlcc (nlc nll nl0)))) (nlc (NLt.agg _ (nlcc (nlcc nl0))) nl0)) nll,tv⟩ ?_
  obtain⟨k10,hk_k10,h⟩:=jko h
  refine wjn (τ:=Int×Int×Int×Int×Int×Int×Int) (fun t=>k10 t=some r) (fun ⟨y3,y4,y5,y6,y7,y8,y9⟩=>⟨mk 87 [(2,.ref 0 5 0 0),(3,.ref 1 4 0 0),(4,.ref 2 10 0 0)],[(Zds p0),(Zdr p1),(.own 10 [[I y3,I y4,I 0,I y5,I y6,I y7,I y8,I y9,I 0,I 0]])]⟩) (fun t h=>?_) ?_
  ·subst hk_k10
   obtain⟨y3,y4,y5,y6,y7,y8,y9⟩:=t
   obtain⟨x11,hl12,h⟩:=bno h
   refine wx tbk [(9,rp [(.tmp 52,I p1.Silica),(.tmp 59,(I (w64 (y6*p0.Row.Silica))))] (I x11))] ⟨Qkz hl12 (Qq9 rfl),tv⟩<|wxe<|wsq<|wxz ?_
   refine bfe h (fun hc13 h=>?_) fun hc13 h=>?_
   ·refine wft hc13 ?_
    obtain⟨x14,hl15,h⟩:=bno h
    refine wx1 tbk [(11,rp [ci 0,(.tmp 83,(I (w64 (y7-(w64 (y6*p0.Row.Liquid))))))] (I x14))] ⟨Qkz hl15 (Qof rfl),tv⟩<|thn<|wxz<|Qaj ?_
    obtain rfl:=osi h
    exact fend ⟨[(.agg [I y3,I y4,I 0,I y5,I y6,I y7,I x11,I y9,I x14,(I (w64 (p1.Silica-x11)))])],⟨Qbu (n:=2) (m:=10) (j:=0) (i:=0) (xs:=[[I y3,I y4,I 0,I y5,I y6,I y7,I x11,I y9,I x14,(I (w64 (p1.Silica-x11)))]]) (by kernel_rfl) (by kernel_rfl) Q1w (by decide) rfl (nle rfl) rfl,tv⟩,rfl⟩ (NLt.agg _ (nlcc (nlcc (nlcc (nlcc (nlcc nl0))))))
   ·refine wfn hc13<|Qap<|thn<|wxz<|Qaj ?_
    obtain rfl:=osi h
    exact fend ⟨[(.agg [I y3,I y4,I 0,I y5,I y6,I y7,I x11,I y9,I 0,(I (w64 (p1.Silica-x11)))])],⟨Qbu (n:=2) (m:=10) (j:=0) (i:=0) (xs:=[[I y3,I y4,I 0,I y5,I y6,I y7,I x11,I y9,I 0,(I (w64 (p1.Silica-x11)))]]) (by kernel_rfl) (by kernel_rfl) Q1w (by decide) rfl (nle rfl) rfl,tv⟩,rfl⟩ (NLt.agg _ (nlcc (nlcc (nlcc (nlcc (nlcc nl0))))))
  ·skip
   refine Qar<|wxz ?_
   refine bfe h (fun hc16 h=>?_) fun hc16 h=>?_
   ·exact wft hc16<|wxz1<|bln<|thn<|⟨(0,0,0,p1.Mass,p1.Heat,p1.Silica,p1.Gas),h,(mto (n:=87) [(2,.ref 0 5 0 0),(3,.ref 1 4 0 0),(4,.ref 2 10 0 0)] [0,1,2] [(Zds p0),(Zdr p1),(.own 10 [[I 0,I 0,I 0,I 0,I p1.Mass,I p1.Heat,I p1.Silica,I p1.Gas,I 0,I 0]])] hφ0 (prr (prr (prr pn))) (qb (lcc (lcc (lc rwl ln))) (qb (lcc (lcc ln)) (qb (lcc (lcc (lcc (lcc (lcc ln))))) qn))))⟩
   ·refine wfn hc16<|wxz ?_
    refine bfe h (fun hc17 h=>?_) fun hc17 h=>?_
    ·exact wft hc17<|wx1 tbk [(5,rp _ _)] ⟨Qa5 (vs:=[I x2,I p1.Heat,I p1.Gas]) rfl ts63 tz63 rfl (by rfl) rfl,tv⟩<|bln<|thn<|⟨(x2,p1.Heat,p1.Gas,0,0,0,0),h,(mto (n:=87) [(2,.ref 0 5 0 0),(3,.ref 1 4 0 0),(4,.ref 2 10 0 0)] [0,1,2] [(Zds p0),(Zdr p1),(.own 10 [[I x2,I p1.Heat,I 0,I p1.Gas,I 0,I 0,I 0,I 0,I 0,I 0]])] hφ0 (prr (prr (prr pn))) (qb (lcc (lcc (lc rwl ln))) (qb (lcc (lcc ln)) (qb (lcc (lcc (lcc (lcc (lcc ln))))) qn))))⟩
    ·refine wfn hc17<|wx tbk [(8,rp _ _)] ⟨Qa5 (vs:=[I x2,(I (w64 (x2*p0.Row.Vapour))),I p1.Gas]) rfl ts63 tz63 rfl (by rfl) rfl,tv⟩ ?_
     exact wx1 tbk [(12,rp _ _)] ⟨Qa5 (vs:=[(I (w64 (p1.Mass-x2))),(I (w64 (p1.Heat-(w64 (x2*p0.Row.Vapour)))))]) rfl ts63 tz63 rfl (by rfl) rfl,tv⟩<|bln<|thn<|⟨(x2,w64 (x2*p0.Row.Vapour),p1.Gas,w64 (p1.Mass-x2),w64 (p1.Heat-(w64 (x2*p0.Row.Vapour))),0,0),h,(mto (n:=87) [(2,.ref 0 5 0 0),(3,.ref 1 4 0 0),(4,.ref 2 10 0 0)] [0,1,2] [(Zds p0),(Zdr p1),(.own 10 [[I x2,(I (w64 (x2*p0.Row.Vapour))),I 0,I p1.Gas,(I (w64 (p1.Mass-x2))),(I (w64 (p1.Heat-(w64 (x2*p0.Row.Vapour))))),I 0,I 0,I 0,I 0]])] hφ0 (prr (prr (prr pn))) (qb (lcc (lcc (lc rwl ln))) (qb (lcc (lcc ln)) (qb (lcc (lcc (lcc (lcc (lcc ln))))) qn))))⟩
def Qj7 (N:Nat) (p0:List GRow) (p1:Int) (p2:Qaa):Option (Qhy×Int):=
  (Qfm N p0).bind fun x2=>
  bif (!x2) then
   some ((⟨(⟨0,0,0,0⟩:Qaa),(⟨0,0,0,0⟩:Qaa),0,0⟩:Qhy),1)
  else
   (Qip N p0 p1).bind fun x5=>
   bif (!x5) then
    some ((⟨(⟨0,0,0,0⟩:Qaa),(⟨0,0,0,0⟩:Qaa),0,0⟩:Qhy),2)
   else
    (Qed N p2).bind fun x8=>
    bif (!x8) then
     some ((⟨(⟨0,0,0,0⟩:Qaa),(⟨0,0,0,0⟩:Qaa),0,0⟩:Qhy),1)
    else
     (Qi6 N p0 p1).bind fun x11=>
     (Qg4 N (⟨(⟨x11.Row.T,x11.Row.P,x11.Row.Liquid,x11.Row.Vapour,x11.Row.Silica⟩:GRow)⟩:Ql4) p2).bind fun x13=>
     some ((⟨(⟨x13.Steam.Mass,x13.Steam.Heat,x13.Steam.Silica,x13.Steam.Gas⟩:Qaa),(⟨x13.Water.Mass,x13.Water.Heat,x13.Water.Silica,x13.Water.Gas⟩:Qaa),x13.Rest,x13.Scale⟩:Qhy),0)
def Zjj:AV:=.agg [(I (0)),(I (0)),(I (0)),(I (0)),(I (0)),(I (0)),(I (0)),(I (0)),(I (0)),(I (0))]
def Zpm (x13:Qhy):AV:=.agg [(I x13.Steam.Mass),(I x13.Steam.Heat),(I x13.Steam.Silica),(I x13.Steam.Gas),(I x13.Water.Mass),(I x13.Water.Heat),(I x13.Water.Silica),(I x13.Water.Gas),(I x13.Rest),(I x13.Scale)]
theorem Qts (N:Nat) (p0:List GRow) (p1:Int) (p2:Qaa) (r:(Qhy×Int)) (h:Qj7 N p0 p1 p2=some r):Spec prog 135 [(.dat 5 (p0.map Qaq)),(I p1),(.agg (Qah p2))] [] (.tup [(.agg (Q5o r.1)),(I r.2)]) []:=by
  refine Qan func135 rfl 0 (nle rfl) (fun X φ0 w0 hφ0 hd0=>?_)
  unfold Qj7 at h
  refine wxz<|wsq<|Qar ?_
  obtain⟨x2,hf1,h⟩:=bno h
  refine wx tbk [(1,rp _ _)] ⟨apv Q5e (Qj5 N p0 _ hf1) (nlc (nld Qag _) nl0) nll,tv⟩ ?_
  refine bfe h (fun hc3 h=>?_) fun hc3 h=>?_
  ·refine wft hc3<|wx tbk [(0,rp _ _)] ⟨Qa5 (vs:=[]) rfl Zka Zel rfl (by rfl) rfl,tv⟩<|Qaj<|Qat<|Qal ?_
   obtain rfl:=osi h
   exact fend ⟨[Zjj,I 1],⟨Qbu (n:=1) (m:=10) (j:=0) (i:=0) (xs:=[[I 0,I 0,I 0,I 0,I 0,I 0,I 0,I 0,I 0,I 0]]) (by kernel_rfl) (by kernel_rfl) Q1w (by decide) rfl (nle rfl) rfl,rot,tv⟩,rfl⟩ (NLt.tup _ (nlc (NLt.agg _ (nlcc (nlcc (nlcc (nlcc (nlcc nl0)))))) (nlc nll nl0)))
  ·refine wfn hc3 ?_
   obtain⟨x5,hf4,h⟩:=bno h
   refine wx tbk [(2,rp _ _)] ⟨apv Zf6 (Qpk N p0 p1 _ hf4) (nlc (nld Qag _) (nlc nll nl0)) nll,tv⟩ ?_
   refine bfe h (fun hc6 h=>?_) fun hc6 h=>?_
   ·refine wft hc6<|wx tbk [(0,rp _ _)] ⟨Qa5 (vs:=[]) rfl Zka Zel rfl (by rfl) rfl,tv⟩<|Qaj<|Qat<|Qal ?_
    obtain rfl:=osi h
    exact fend ⟨[Zjj,I 2],⟨Qbu (n:=1) (m:=10) (j:=0) (i:=0) (xs:=[[I 0,I 0,I 0,I 0,I 0,I 0,I 0,I 0,I 0,I 0]]) (by kernel_rfl) (by kernel_rfl) Q1w (by decide) rfl (nle rfl) rfl,rot,tv⟩,rfl⟩ (NLt.tup _ (nlc (NLt.agg _ (nlcc (nlcc (nlcc (nlcc (nlcc nl0)))))) (nlc nll nl0)))
   ·refine wfn hc6 ?_
    obtain⟨x8,hf7,h⟩:=bno h
    refine wx tbk [(1,rp _ _)] ⟨apv Qyg (Qhv N p2 _ hf7) (nlc (NLt.agg _ (nlcc (nlcc nl0))) nl0) nll,tv⟩ ?_
    refine bfe h (fun hc9 h=>?_) fun hc9 h=>?_
    ·refine wft hc9<|wx tbk [(0,rp _ _)] ⟨Qa5 (vs:=[]) rfl Zka Zel rfl (by rfl) rfl,tv⟩<|Qaj<|Qat<|Qal ?_
     obtain rfl:=osi h
     exact fend ⟨[Zjj,I 1],⟨Qbu (n:=1) (m:=10) (j:=0) (i:=0) (xs:=[[I 0,I 0,I 0,I 0,I 0,I 0,I 0,I 0,I 0,I 0]]) (by kernel_rfl) (by kernel_rfl) Q1w (by decide) rfl (nle rfl) rfl,rot,tv⟩,rfl⟩ (NLt.tup _ (nlc (NLt.agg _ (nlcc (nlcc (nlcc (nlcc (nlcc nl0)))))) (nlc nll nl0)))
    ·refine wfn hc9<|Qap<|bln<|thn ?_
     obtain⟨x11,hf10,h⟩:=bno h
     obtain⟨x13,hf12,h⟩:=bno h
     refine wxd tbk [(2,rp _ _),(4,rp _ _)] ⟨apv Zf5 (Qqi N p0 p1 _ hf10) (nlc (nld Qag _) (nlc nll nl0)) (NLt.agg _ (nlcc (nlcc (nlc nll nl0)))),apv Zf4 (Qqh N (⟨(⟨x11.Row.T,x11.Row.P,x11.Row.Liquid,x11.Row.Vapour,x11.Row.Silica⟩:GRow)⟩:Ql4) p2 _ hf12) (nlc (NLt.agg _ (nlcc (nlcc (nlc nll nl0)))) (nlc (NLt.agg _ (nlcc (nlcc nl0))) nl0)) (NLt.agg _ (nlcc (nlcc (nlcc (nlcc (nlcc nl0)))))),tv⟩<|Qaj ?_
     obtain rfl:=osi h
     exact fend ⟨[(Zpm x13),I 0],⟨Qbu (n:=1) (m:=10) (j:=0) (i:=0) (xs:=[[I x13.Steam.Mass,I x13.Steam.Heat,I x13.Steam.Silica,I x13.Steam.Gas,I x13.Water.Mass,I x13.Water.Heat,I x13.Water.Silica,I x13.Water.Gas,I x13.Rest,I x13.Scale]]) (by kernel_rfl) (by kernel_rfl) Q1w (by decide) rfl (nle rfl) rfl,rot,tv⟩,rfl⟩ (NLt.tup _ (nlc (NLt.agg _ (nlcc (nlcc (nlcc (nlcc (nlcc nl0)))))) (nlc nll nl0)))
def Qfo (N:Nat) (p0:Int) (p1:Qaa) (p2:List Int) (_p3:List GRow) (_p4:List Qae) (_p5 p6 _p7:Nat) (_p8:List Qaa) (_p9:Int) (_p10:List (List Qaa)) (p11:List Qbg) (_p12:List Int):Option ((List Qaa)×(List Qbg)):=
  (Qj6 N p1 p2).bind fun x4=>
  chk (decide (0≤p0)&&decide (p0.toNat<p6))<|
  (p11[p0.toNat]?).bind fun x6=>
  chk (decide (0≤p0)&&decide (p0.toNat<p6))<|
  ((p11.set p0.toNat (⟨x4.2.1.Heat,x6.Silica,x6.Gas,x6.Scale⟩:Qbg))[p0.toNat]?).bind fun x9=>
  chk (decide (0≤p0)&&decide (p0.toNat<p6))<|
  (((p11.set p0.toNat (⟨x4.2.1.Heat,x6.Silica,x6.Gas,x6.Scale⟩:Qbg)).set p0.toNat (⟨x9.Heat,x4.2.1.Silica,x9.Gas,x9.Scale⟩:Qbg))[p0.toNat]?).bind fun x12=>
  some (x4.1,((p11.set p0.toNat (⟨x4.2.1.Heat,x6.Silica,x6.Gas,x6.Scale⟩:Qbg)).set p0.toNat (⟨x9.Heat,x4.2.1.Silica,x9.Gas,x9.Scale⟩:Qbg)).set p0.toNat (⟨x12.Heat,x12.Silica,x4.2.1.Gas,x12.Scale⟩:Qbg))
def Zpl (p1:Qaa):AV:=.agg [(I p1.Mass),(I p1.Heat),(I p1.Silica),(I p1.Gas)]
def Q1b (p3:List GRow) (p4:List Qae) (p5 p6 p7:Nat) (p8:List Qaa) (p9:Int):Slot:=.own 7 [[(.dat 5 (p3.map Qaq)),(.dat 7 (p4.map Qac)),(.own 1 1 (0) p5),(.own 2 4 (0) p6),(.own 3 1 (0) p7),(.dat 4 (p8.map Qah)),(I p9)]]
def Q8q (p11:List Qbg) (p0:Int) (x4:((List Qaa)×Qnp×Int)) (x6:Qbg):Slot:=.own 4 ((p11.set p0.toNat (⟨x4.2.1.Heat,x6.Silica,x6.Gas,x6.Scale⟩:Qbg):List Qbg).map Qa0)
def Q8p (p11:List Qbg) (p0:Int) (x4:((List Qaa)×Qnp×Int)) (x6 x9:Qbg):Slot:=.own 4 (((p11.set p0.toNat (⟨x4.2.1.Heat,x6.Silica,x6.Gas,x6.Scale⟩:Qbg)).set p0.toNat (⟨x9.Heat,x4.2.1.Silica,x9.Gas,x9.Scale⟩:Qbg):List Qbg).map Qa0)
def Zhw (p11:List Qbg) (p0:Int) (x4:((List Qaa)×Qnp×Int)) (x6 x9 x12:Qbg):Slot:=.own 4 ((((p11.set p0.toNat (⟨x4.2.1.Heat,x6.Silica,x6.Gas,x6.Scale⟩:Qbg)).set p0.toNat (⟨x9.Heat,x4.2.1.Silica,x9.Gas,x9.Scale⟩:Qbg)).set p0.toNat (⟨x12.Heat,x12.Silica,x4.2.1.Gas,x12.Scale⟩:Qbg):List Qbg).map Qa0)
theorem Qkj (N:Nat) (p0:Int) (p1:Qaa) (p2:List Int) (p3:List GRow) (p4:List Qae) (p5 p6 p7:Nat) (p8:List Qaa) (p9:Int) (p10:List (List Qaa)) (p11:List Qbg) (p12:List Int) (r:((List Qaa)×(List Qbg))) (h:Qfo N p0 p1 p2 p3 p4 p5 p6 p7 p8 p9 p10 p11 p12=some r):Spec prog 136 [(.ref 0 7 (0) 0),(I p0),(Zpl p1),(.dat 1 (p2.map Qad))] [(Q1b p3 p4 p5 p6 p7 p8 p9),(.own 1 (p10.map Qak)),(.own 4 (p11.map Qa0)),(.own 1 (p12.map Qad))] (.dat 4 (r.1.map Qah)) [(Q1b p3 p4 p5 p6 p7 p8 p9),(.own 1 (p10.map Qak)),(.own 4 (r.2.map Qa0)),(.own 1 (p12.map Qad))]:=by
  refine Qan func136 rfl 4 (nle rfl) (fun X φ0 w0 hφ0 hd0=>?_)
  unfold Qfo at h
  refine Qbw<|wxz ?_
  obtain⟨x4,hf3,h⟩:=bno h
  refine wx tbk [(2,rp _ _)] ⟨apv Zf3 (Qtr N p1 p2 _ hf3) (nlc (NLt.agg _ (nlcc (nlcc nl0))) (nlc (nld Qaf _) nl0)) (NLt.tup _ (nlc (nld Qam _) (nlc (NLt.agg _ (nlcc (nlc nll nl0))) (nlc nll nl0)))),tv⟩ ?_
  obtain⟨hi5,h⟩:=cko h
  obtain⟨hi5a,hi5b⟩:=Qdv hi5
  obtain⟨x6,hg7,h⟩:=bno h
  obtain⟨hi8,h⟩:=cko h
  obtain⟨hi8a,hi8b⟩:=Qdv hi8
  obtain⟨x9,hg10,h⟩:=bno h
  obtain⟨hi11,h⟩:=cko h
  obtain⟨hi11a,hi11b⟩:=Qdv hi11
  obtain⟨x12,hg13,h⟩:=bno h
  refine wxd tbk [(1,rb [(.tmp 19,.ref 0 7 0 0)] [(0,(Q1b p3 p4 p5 p6 p7 p8 p9))] (.ref 0 7 0 0)),(7,rb [(.tmp 25,.ref 0 7 0 0)] [(0,(Q1b p3 p4 p5 p6 p7 p8 p9))] (.ref 0 7 0 0)),(13,rb [(.tmp 31,.ref 0 7 0 0)] [(0,(Q1b p3 p4 p5 p6 p7 p8 p9))] (.ref 0 7 0 0)),(24,rb [(.tmp 23,(.own 2 4 (0) p6)),(.tmp 24,I p0)] [(2,(.own 4 (p11.map Qa0)))] (.ref 2 4 p0.toNat 0)),(26,⟨[(.tmp 44,(.ref 2 4 p0.toNat 0)),(.tmp 38,I x4.2.1.Heat)],[(2,(.own 4 (p11.map Qa0)))],.any,[(2,(Q8q p11 p0 x4 x6))],false⟩),(27,rb [(.tmp 29,(.own 2 4 (0) p6)),(.tmp 30,I p0)] [(2,(Q8q p11 p0 x4 x6))] (.ref 2 4 p0.toNat 0)),(29,⟨[(.tmp 46,(.ref 2 4 p0.toNat 1)),(.tmp 40,I x4.2.1.Silica)],[(2,(Q8q p11 p0 x4 x6))],.any,[(2,(Q8p p11 p0 x4 x6 x9))],false⟩),(30,rb [(.tmp 35,(.own 2 4 (0) p6)),(.tmp 36,I p0)] [(2,(Q8p p11 p0 x4 x6 x9))] (.ref 2 4 p0.toNat 0)),(32,⟨[(.tmp 48,(.ref 2 4 p0.toNat 2)),(.tmp 42,I x4.2.1.Gas)],[(2,(Q8p p11 p0 x4 x6 x9))],.any,[(2,(Zhw p11 p0 x4 x6 x9 x12))],false⟩)] ⟨Qbj rfl,Qbj rfl,Qbj rfl,aio rfl underlying32 ti82 (odt hi5a) (odt hi5b) (Nat.zero_add _),ast rfl ti3 (by rfl) (mgt Qa0 hg7) (nle rfl) (Qf0 Qa0 rfl),aio rfl underlying32 ti82 (odt hi8a) (odt hi8b) (Nat.zero_add _),ast rfl ti3 (by rfl) (mgt Qa0 hg10) (nle rfl) (Qf0 Qa0 rfl),aio rfl underlying32 ti82 (odt hi11a) (odt hi11b) (Nat.zero_add _),ast rfl ti3 (by rfl) (mgt Qa0 hg13) (nle rfl) (Qf0 Qa0 rfl),tv⟩<|wxz ?_
  refine wmr (mto (n:=50) (l':=[(8,(.dat 4 (x4.1.map Qah)))]) (own':=[(Q1b p3 p4 p5 p6 p7 p8 p9),(.own 1 (p10.map Qak)),(.own 4 (((((p11.set p0.toNat (⟨x4.2.1.Heat,x6.Silica,x6.Gas,x6.Scale⟩:Qbg)).set p0.toNat (⟨x9.Heat,x4.2.1.Silica,x9.Gas,x9.Scale⟩:Qbg)).set p0.toNat (⟨x12.Heat,x12.Silica,x4.2.1.Gas,x12.Scale⟩:Qbg)):List Qbg).map Qa0)),(.own 1 (p12.map Qad))]) [(8,(.dat 4 (x4.1.map Qah)))] [0,1,2,3] [(Q1b p3 p4 p5 p6 p7 p8 p9),(.own 1 (p10.map Qak)),(Zhw p11 p0 x4 x6 x9 x12),(.own 1 (p12.map Qad))] hφ0 (pc (rnd Qam) pn) (qb (lc (rnd Qag) (lc (rnd Qab) (lc (.rn (Qa2 rfl)) (lc (.rn (Qa2 rfl)) (lc (.rn (Qa2 rfl)) (lc (rnd Qam) (lc rwl ln))))))) (qc (spr Qai) (qc (spr Qa3) (qc (spr Qaf) qn)))))<|Qaj ?_
  obtain rfl:=osi h
  exact⟨_,Mor.rfl,Qc1 (vs:=[(.dat 4 (x4.1.map Qah))]) ⟨rot,tv⟩ rfl (NLt.of0 (nld Qam _)) (by kernel_rfl) (Qao (Qax (nlc (NLt.of0 (nld Qag _)) (nlc (NLt.of0 (nld Qab _)) (nlc (NLt.own _ _ _ _ (by decide)) (nlc (NLt.own _ _ _ _ (by decide)) (nlc (NLt.own _ _ _ _ (by decide)) (nlc (NLt.of0 (nld Qam _)) (nlc (NLt.of0 nll) nl0)))))))) (Qao (Qb0 Qai _) (Qao (Qb0 Qa3 _) (Qao (Qb0 Qaf _) Qbq))))⟩
def Qfk (N:Nat) (p0:Int) (p1:Qaa) (p2:List GRow) (p3:List Qae) (p4 p5 p6:Nat) (p7:List Qaa) (p8:Int) (p9:List (List Qaa)) (p10:List Qbg) (p11:List Int):Option ((List Qaa)×Int×(List Qbg)×(List Int)):=
  (getI p3 p0).bind fun x5=>
  (Qj7 N p2 x5.Level p1).bind fun x10=>
  chk (decide (0≤p0)&&decide (p0.toNat<p5))<|
  (p10[p0.toNat]?).bind fun x12=>
  chk (decide (0≤p0)&&decide (p0.toNat<p6))<|
  (p11[p0.toNat]?).bind fun x15=>
  chk (decide (0≤p0)&&decide (p0.toNat<p6))<|
  (p11[p0.toNat]?).bind fun _=>
  bif (x5.Amount==0) then
   some ([(⟨x10.1.Steam.Mass,x10.1.Steam.Heat,x10.1.Steam.Silica,x10.1.Steam.Gas⟩:Qaa),(⟨x10.1.Water.Mass,x10.1.Water.Heat,x10.1.Water.Silica,x10.1.Water.Gas⟩:Qaa)],w64 (p8+x10.1.Steam.Mass),p10.set p0.toNat (⟨x12.Heat,x12.Silica,x12.Gas,x10.1.Scale⟩:Qbg),p11.set p0.toNat (w64 (x15+x10.1.Scale)))
  else
   (Qfo N p0 (⟨x10.1.Water.Mass,x10.1.Water.Heat,x10.1.Water.Silica,x10.1.Water.Gas⟩:Qaa) ([w64 (1000-x5.Amount),x5.Amount]) p2 p3 p4 p5 p6 p7 (w64 (p8+x10.1.Steam.Mass)) p9 (p10.set p0.toNat (⟨x12.Heat,x12.Silica,x12.Gas,x10.1.Scale⟩:Qbg)) (p11.set p0.toNat (w64 (x15+x10.1.Scale)))).bind fun x22=>
   (getI x22.1 1).bind fun x23=>
   (Qge N ([(⟨x10.1.Steam.Mass,x10.1.Steam.Heat,x10.1.Steam.Silica,x10.1.Steam.Gas⟩:Qaa),x23])).bind fun x28=>
   (getI x22.1 0).bind fun x29=>
   some ([x28,x29],w64 (p8+x10.1.Steam.Mass),x22.2,p11.set p0.toNat (w64 (x15+x10.1.Scale)))
def Zpn (p1:Qaa):AV:=.agg [(I p1.Mass),(I p1.Heat),(I p1.Silica),(I p1.Gas)]
def Q8t (p3:List Qae):AV:=.dat 7 (p3.map Qac)
def Q8s (p7:List Qaa):AV:=.dat 4 (p7.map Qah)
def Q1c (p2:List GRow) (p3:List Qae) (p4 p5 p6:Nat) (p7:List Qaa) (p8:Int):Slot:=.own 7 [[(.dat 5 (p2.map Qaq)),(Q8t p3),(.own 1 1 (0) p4),(.own 2 4 (0) p5),(.own 3 1 (0) p6),(Q8s p7),(I p8)]]
def Qr4 (p9:List (List Qaa)):Slot:=.own 1 (p9.map Qak)
def Q8r (p10:List Qbg) (p0:Int) (x12:Qbg) (x10:(Qhy×Int)):Slot:=.own 4 ((p10.set p0.toNat (⟨x12.Heat,x12.Silica,x12.Gas,x10.1.Scale⟩:Qbg):List Qbg).map Qa0)
def Qyx (p11:List Int) (p0 x15:Int) (x10:(Qhy×Int)):Slot:=.own 1 ((p11.set p0.toNat (w64 (x15+x10.1.Scale)):List Int).map Qad)
def Q3f (x10:(Qhy×Int)):AV:=.agg [(I x10.1.Steam.Mass),(I x10.1.Steam.Heat),(I x10.1.Steam.Silica),(I x10.1.Steam.Gas)]
def Zh1 (x10:(Qhy×Int)):AV:=.agg [(I x10.1.Water.Mass),(I x10.1.Water.Heat),(I x10.1.Water.Silica),(I x10.1.Water.Gas)]
def Q3e (x10:(Qhy×Int)):AV:=.dat 4 (([(⟨x10.1.Steam.Mass,x10.1.Steam.Heat,x10.1.Steam.Silica,x10.1.Steam.Gas⟩:Qaa),(⟨x10.1.Water.Mass,x10.1.Water.Heat,x10.1.Water.Silica,x10.1.Water.Gas⟩:Qaa)]:List Qaa).map Qah)
def Q3g (p2:List GRow) (p3:List Qae) (p4 p5 p6:Nat) (p7:List Qaa) (p8:Int) (x10:(Qhy×Int)):Slot:=.own 7 [[(.dat 5 (p2.map Qaq)),(Q8t p3),(.own 1 1 (0) p4),(.own 2 4 (0) p5),(.own 3 1 (0) p6),(Q8s p7),(I (w64 (p8+x10.1.Steam.Mass)))]]
def Zh0 (x5:Qae):AV:=.dat 1 (([w64 (1000-x5.Amount),x5.Amount]:List Int).map Qad)
def Zhz (x23:Qaa):AV:=.agg [(I x23.Mass),(I x23.Heat),(I x23.Silica),(I x23.Gas)]
def Zmz (x10:(Qhy×Int)) (x23:Qaa):AV:=.dat 4 (([(⟨x10.1.Steam.Mass,x10.1.Steam.Heat,x10.1.Steam.Silica,x10.1.Steam.Gas⟩:Qaa),x23]:List Qaa).map Qah)
def Zhy (x28:Qaa):AV:=.agg [(I x28.Mass),(I x28.Heat),(I x28.Silica),(I x28.Gas)]
def Zhx (x29:Qaa):AV:=.agg [(I x29.Mass),(I x29.Heat),(I x29.Silica),(I x29.Gas)]
def Q3d (x28 x29:Qaa):AV:=.dat 4 (([x28,x29]:List Qaa).map Qah)
theorem Qmi (N:Nat) (p0:Int) (p1:Qaa) (p2:List GRow) (p3:List Qae) (p4 p5 p6:Nat) (p7:List Qaa) (p8:Int) (p9:List (List Qaa)) (p10:List Qbg) (p11:List Int) (r:((List Qaa)×Int×(List Qbg)×(List Int))) (h:Qfk N p0 p1 p2 p3 p4 p5 p6 p7 p8 p9 p10 p11=some r):Spec prog 119 [(.ref 0 7 (0) 0),(I p0),(Zpn p1)] [(Q1c p2 p3 p4 p5 p6 p7 p8),(Qr4 p9),(.own 4 (p10.map Qa0)),(.own 1 (p11.map Qad))] (.dat 4 (r.1.map Qah)) [(.own 7 [[(.dat 5 (p2.map Qaq)),(Q8t p3),(.own 1 1 (0) p4),(.own 2 4 (0) p5),(.own 3 1 (0) p6),(Q8s p7),(I r.2.1)]]),(Qr4 p9),(.own 4 (r.2.2.1.map Qa0)),(.own 1 (r.2.2.2.map Qad))]:=by
  refine Qan func119 rfl 4 (nle rfl) (fun X φ0 w0 hφ0 hd0=>?_)
  unfold Qfk at h
  refine Qbw<|wxz ?_
  obtain⟨x5,hg6,h⟩:=bno h
  obtain⟨hi7,hj8⟩:=gsm hg6
  refine wx tbk [(1,rb [(.tmp 11,.ref 0 7 0 0)] [(0,(Q1c p2 p3 p4 p5 p6 p7 p8))] (.ref 0 7 0 0)),(6,rp _ _)] ⟨Qbj rfl,aiq underlying40 Qik Qac hi7 hj8,tv⟩ ?_
  obtain⟨x10,hf9,h⟩:=bno h
  refine wxd tbk [(1,rb [(.tmp 20,.ref 0 7 0 0)] [(0,(Q1c p2 p3 p4 p5 p6 p7 p8))] (.ref 0 7 0 0)),(8,rp _ _)] ⟨Qbj rfl,apv Zgb (Qts N p2 x5.Level p1 _ hf9) (nlc (nld Qag _) (nlc nll (nlc (NLt.agg _ (nlcc (nlcc nl0))) nl0))) (NLt.tup _ (nlc (NLt.agg _ (nlcc (nlcc (nlcc (nlcc (nlcc nl0)))))) (nlc nll nl0))),tv⟩ ?_
  obtain⟨hi11,h⟩:=cko h
  obtain⟨hi11a,hi11b⟩:=Qdv hi11
  obtain⟨x12,hg13,h⟩:=bno h
  refine wxd tbk [(1,rb [(.tmp 31,.ref 0 7 0 0)] [(0,(Q1c p2 p3 p4 p5 p6 p7 p8))] (.ref 0 7 0 0)),(8,rb [(.tmp 35,(.own 2 4 (0) p5)),(.tmp 36,I p0)] [(2,(.own 4 (p10.map Qa0)))] (.ref 2 4 p0.toNat 0)),(10,⟨[(.tmp 40,(.ref 2 4 p0.toNat 3)),(.tmp 38,I x10.1.Scale)],[(2,(.own 4 (p10.map Qa0)))],.any,[(2,(Q8r p10 p0 x12 x10))],false⟩)] ⟨Qbj rfl,aio rfl underlying32 ti82 (odt hi11a) (odt hi11b) (Nat.zero_add _),ast rfl ti3 (by rfl) (mgt Qa0 hg13) (nle rfl) (Qf0 Qa0 rfl),tv⟩ ?_
  obtain⟨hi14,h⟩:=cko h
  obtain⟨hi14a,hi14b⟩:=Qdv hi14
  obtain⟨x15,hg16,h⟩:=bno h
  obtain⟨hi17,h⟩:=cko h
  obtain⟨hi17a,hi17b⟩:=Qdv hi17
  obtain⟨x18,hg19,h⟩:=bno h
  refine wxd tbk [(1,rb [(.tmp 41,.ref 0 7 0 0)] [(0,(Q1c p2 p3 p4 p5 p6 p7 p8))] (.ref 0 7 0 0)),(6,rb [(.tmp 45,(.own 3 1 (0) p6)),(.tmp 46,I p0)] [(3,(.own 1 (p11.map Qad)))] (.ref 3 1 p0.toNat 0)),(7,rb [(.tmp 47,(.ref 3 1 p0.toNat 0))] [(3,(.own 1 (p11.map Qad)))] (I x15)),(11,rb [(.tmp 45,(.own 3 1 (0) p6)),(.tmp 46,I p0)] [(3,(.own 1 (p11.map Qad)))] (.ref 3 1 p0.toNat 0)),(12,⟨[(.tmp 52,(.ref 3 1 p0.toNat 0)),(.tmp 51,(I (w64 (x15+x10.1.Scale))))],[(3,(.own 1 (p11.map Qad)))],.any,[(3,(Qyx p11 p0 x15 x10))],false⟩)] ⟨Qbj rfl,aio rfl underlying27 ti3 (odt hi14a) (odt hi14b) (Nat.zero_add _),ald rfl ti3 (by decide) (mgt Qad hg16) (nle rfl) rfl,aio rfl underlying27 ti3 (odt hi17a) (odt hi17b) (Nat.zero_add _),ast rfl ti3 (by rfl) (mgt Qad hg19) (nle rfl) (Qf0 Qad rfl),tv⟩ ?_
  refine wxd tbk [(1,rb [(.tmp 53,.ref 0 7 0 0)] [(0,(Q1c p2 p3 p4 p5 p6 p7 p8))] (.ref 0 7 0 0)),(8,rb [(.tmp 53,.ref 0 7 0 0)] [(0,(Q1c p2 p3 p4 p5 p6 p7 p8))] (.ref 0 7 0 0))] ⟨Qbj rfl,Qbj rfl,tv⟩<|wsq<|wxz ?_
  refine bfe h (fun hc20 h=>?_) fun hc20 h=>?_
  ·refine wft hc20<|wx tbk [(4,rp [(.tmp 67,(Q3f x10)),(.tmp 69,(Zh1 x10))] (Q3e x10))] ⟨Qbz (vs:=[(Q3f x10),(Zh1 x10)]) rfl underlying45 ti63 tz63 rfl (by decide) rfl (by decide) (by rfl) (by rfl) (by rfl) rfl,tv⟩ ?_
   refine wmr (mto (n:=93) (l':=[(6,(Q3e x10))]) (own':=[(.own 7 [[(.dat 5 (p2.map Qaq)),(Q8t p3),(.own 1 1 (0) p4),(.own 2 4 (0) p5),(.own 3 1 (0) p6),(Q8s p7),(I ((w64 (p8+x10.1.Steam.Mass))))]]),(Qr4 p9),(.own 4 (((p10.set p0.toNat (⟨x12.Heat,x12.Silica,x12.Gas,x10.1.Scale⟩:Qbg)):List Qbg).map Qa0)),(.own 1 (((p11.set p0.toNat (w64 (x15+x10.1.Scale))):List Int).map Qad))]) [(6,(Q3e x10))] [0,1,2,3] [(Q3g p2 p3 p4 p5 p6 p7 p8 x10),(Qr4 p9),(Q8r p10 p0 x12 x10),(Qyx p11 p0 x15 x10)] hφ0 (pc (rnd Qam) pn) (qb (lc (rnd Qag) (lc (rnd Qab) (lc (.rn (Qa2 rfl)) (lc (.rn (Qa2 rfl)) (lc (.rn (Qa2 rfl)) (lc (rnd Qam) (lc rwl ln))))))) (qc (spr Qai) (qc (spr Qa3) (qc (spr Qaf) qn)))))<|Qaj<|Qal ?_
   obtain rfl:=osi h
   exact⟨_,Mor.rfl,Qc1 (vs:=[(Q3e x10)]) ⟨rot,tv⟩ rfl (NLt.of0 (nld Qam _)) (by kernel_rfl) (Qao (Qax (nlc (NLt.of0 (nld Qag _)) (nlc (NLt.of0 (nld Qab _)) (nlc (NLt.own _ _ _ _ (by decide)) (nlc (NLt.own _ _ _ _ (by decide)) (nlc (NLt.own _ _ _ _ (by decide)) (nlc (NLt.of0 (nld Qam _)) (nlc (NLt.of0 nll) nl0)))))))) (Qao (Qb0 Qai _) (Qao (Qb0 Qa3 _) (Qao (Qb0 Qaf _) Qbq))))⟩
  ·refine wfn hc20<|Qap<|thn ?_
   obtain⟨x22,hf21,h⟩:=bno h
   refine wx tbk [(9,rp [(.tmp 77,(I (w64 (1000-x5.Amount)))),(.tmp 79,I x5.Amount)] (Zh0 x5)),(10,⟨_,_,_,_,false⟩)] ⟨Qbz (vs:=[(I (w64 (1000-x5.Amount))),I x5.Amount]) rfl underlying27 ti3 tz3 rfl (by decide) rfl (by decide) (by rfl) (by rfl) (by rfl) rfl,Qav (first:=[]) (cap:=[]) (vs:=[.ref 0 7 0 0,I p0,(.agg [(I ((⟨x10.1.Water.Mass,x10.1.Water.Heat,x10.1.Water.Silica,x10.1.Water.Gas⟩:Qaa).Mass)),(I ((⟨x10.1.Water.Mass,x10.1.Water.Heat,x10.1.Water.Silica,x10.1.Water.Gas⟩:Qaa).Heat)),(I ((⟨x10.1.Water.Mass,x10.1.Water.Heat,x10.1.Water.Silica,x10.1.Water.Gas⟩:Qaa).Silica)),(I ((⟨x10.1.Water.Mass,x10.1.Water.Heat,x10.1.Water.Silica,x10.1.Water.Gas⟩:Qaa).Gas))]),(Zh0 x5)]) (σr:=[(Q3g p2 p3 p4 p5 p6 p7 p8 x10),(Qr4 p9),(Q8r p10 p0 x12 x10),(Qyx p11 p0 x15 x10)]) (σr':=[(Q3g p2 p3 p4 p5 p6 p7 p8 x10),(Qr4 p9),(.own 4 (x22.2.map Qa0)),(Qyx p11 p0 x15 x10)]) (res':=(.dat 4 (x22.1.map Qah))) [0,1,2,3] rfl Q5b (Qkj N p0 (⟨x10.1.Water.Mass,x10.1.Water.Heat,x10.1.Water.Silica,x10.1.Water.Gas⟩:Qaa) ([w64 (1000-x5.Amount),x5.Amount]) p2 p3 p4 p5 p6 p7 (w64 (p8+x10.1.Steam.Mass)) p9 (p10.set p0.toNat (⟨x12.Heat,x12.Silica,x12.Gas,x10.1.Scale⟩:Qbg)) (p11.set p0.toNat (w64 (x15+x10.1.Scale))) _ hf21) rfl (Qbs (rnc (Qa1 rfl) (rnc (.plain _ nll) (rnc (.plain _ (NLt.agg _ (nlcc (nlcc nl0)))) (rnc (pld Qaf) rn0))))) (slc (Qas (rnc (pld Qag) (rnc (pld Qab) (rnc (Qc4 rfl) (rnc (Qc4 rfl) (rnc (Qc4 rfl) (rnc (pld Qam) (rnc (.plain _ nll) rn0)))))))) (slc (Qa9 Qai) (slc (Qa9 Qa3) (slc (Qa9 Qaf) Qau)))) (slc (Qas (rnc (pld Qag) (rnc (pld Qab) (rnc (Qc0 rfl) (rnc (Qc0 rfl) (rnc (Qc0 rfl) (rnc (pld Qam) (rnc (.plain _ nll) rn0)))))))) (slc (Qa9 Qai) (slc (Qa9 Qa3) (slc (Qa9 Qaf) Qau)))) (pld Qam) rfl rfl rfl,tv⟩ ?_
   obtain⟨x23,hg24,h⟩:=bno h
   obtain⟨hi25,hj26⟩:=gsm hg24
   obtain⟨x28,hf27,h⟩:=bno h
   obtain⟨x29,hg30,h⟩:=bno h
   obtain⟨hi31,hj32⟩:=gsm hg30
   refine wxd tbk [(3,rp _ _),(5,rp [(.tmp 83,(Q3f x10)),(.tmp 86,(Zhz x23))] (Zmz x10 x23)),(6,rp _ _),(8,rp _ _),(10,rp [(.tmp 88,(Zhy x28)),(.tmp 91,(Zhx x29))] (Q3d x28 x29))] ⟨aiq underlying45 ti63 Qah hi25 hj26,Qbz (vs:=[(Q3f x10),(Zhz x23)]) rfl underlying45 ti63 tz63 rfl (by decide) rfl (by decide) (by rfl) (by rfl) (by rfl) rfl,apv Q2h (Ql9 N ([(⟨x10.1.Steam.Mass,x10.1.Steam.Heat,x10.1.Steam.Silica,x10.1.Steam.Gas⟩:Qaa),x23]) _ hf27) (nlc (nld Qam _) nl0) (NLt.agg _ (nlcc (nlcc nl0))),aiq underlying45 ti63 Qah hi31 hj32,Qbz (vs:=[(Zhy x28),(Zhx x29)]) rfl underlying45 ti63 tz63 rfl (by decide) rfl (by decide) (by rfl) (by rfl) (by rfl) rfl,tv⟩ ?_
   refine wmr (mto (n:=93) (l':=[(6,(Q3d x28 x29))]) (own':=[(.own 7 [[(.dat 5 (p2.map Qaq)),(Q8t p3),(.own 1 1 (0) p4),(.own 2 4 (0) p5),(.own 3 1 (0) p6),(Q8s p7),(I ((w64 (p8+x10.1.Steam.Mass))))]]),(Qr4 p9),(.own 4 (x22.2.map Qa0)),(.own 1 (((p11.set p0.toNat (w64 (x15+x10.1.Scale))):List Int).map Qad))]) [(6,(Q3d x28 x29))] [0,1,2,3] [(Q3g p2 p3 p4 p5 p6 p7 p8 x10),(Qr4 p9),(.own 4 (x22.2.map Qa0)),(Qyx p11 p0 x15 x10)] hφ0 (pc (rnd Qam) pn) (qb (lc (rnd Qag) (lc (rnd Qab) (lc (.rn (Qa2 rfl)) (lc (.rn (Qa2 rfl)) (lc (.rn (Qa2 rfl)) (lc (rnd Qam) (lc rwl ln))))))) (qc (spr Qai) (qc (spr Qa3) (qc (spr Qaf) qn)))))<|Qaj ?_
   obtain rfl:=osi h
   exact⟨_,Mor.rfl,Qc1 (vs:=[(Q3d x28 x29)]) ⟨rot,tv⟩ rfl (NLt.of0 (nld Qam _)) (by kernel_rfl) (Qao (Qax (nlc (NLt.of0 (nld Qag _)) (nlc (NLt.of0 (nld Qab _)) (nlc (NLt.own _ _ _ _ (by decide)) (nlc (NLt.own _ _ _ _ (by decide)) (nlc (NLt.own _ _ _ _ (by decide)) (nlc (NLt.of0 (nld Qam _)) (nlc (NLt.of0 nll) nl0)))))))) (Qao (Qb0 Qai _) (Qao (Qb0 Qa3 _) (Qao (Qb0 Qaf _) Qbq))))⟩
def Qhx (N:Nat) (p0:Int) (p1:Qaa) (p2:List GRow) (p3:List Qae) (p4 p5 p6:Nat) (p7:List Qaa) (p8:Int) (p9:List (List Qaa)) (p10:List Qbg) (p11:List Int):Option ((List Qaa)×(List Qbg)):=
  (getI p3 p0).bind fun x3=>
  (Qfo N p0 p1 x3.Weights p2 p3 p4 p5 p6 p7 p8 p9 p10 p11).bind fun x8=>
  some (x8.1,x8.2)
def Zmy (p1:Qaa):AV:=.agg [(I p1.Mass),(I p1.Heat),(I p1.Silica),(I p1.Gas)]
def Q1a (p2:List GRow) (p3:List Qae) (p4 p5 p6:Nat) (p7:List Qaa) (p8:Int):Slot:=.own 7 [[(.dat 5 (p2.map Qaq)),(.dat 7 (p3.map Qac)),(.own 1 1 (0) p4),(.own 2 4 (0) p5),(.own 3 1 (0) p6),(.dat 4 (p7.map Qah)),(I p8)]]
def Q52 (p9:List (List Qaa)):Slot:=.own 1 (p9.map Qak)
def Q3c (x8:((List Qaa)×(List Qbg))):AV:=.dat 4 (x8.1.map Qah)
theorem Qn4 (N:Nat) (p0:Int) (p1:Qaa) (p2:List GRow) (p3:List Qae) (p4 p5 p6:Nat) (p7:List Qaa) (p8:Int) (p9:List (List Qaa)) (p10:List Qbg) (p11:List Int) (r:((List Qaa)×(List Qbg))) (h:Qhx N p0 p1 p2 p3 p4 p5 p6 p7 p8 p9 p10 p11=some r):Spec prog 120 [(.ref 0 7 (0) 0),(I p0),(Zmy p1)] [(Q1a p2 p3 p4 p5 p6 p7 p8),(Q52 p9),(.own 4 (p10.map Qa0)),(.own 1 (p11.map Qad))] (.dat 4 (r.1.map Qah)) [(Q1a p2 p3 p4 p5 p6 p7 p8),(Q52 p9),(.own 4 (r.2.map Qa0)),(.own 1 (p11.map Qad))]:=by
  refine Qan func120 rfl 4 (nle rfl) (fun X φ0 w0 hφ0 hd0=>?_)
  unfold Qhx at h
  refine Qbw<|wxz ?_
  obtain⟨x3,hg4,h⟩:=bno h
  obtain⟨hi5,hj6⟩:=gsm hg4
  obtain⟨x8,hf7,h⟩:=bno h
  refine wxd tbk [(4,rb [(.tmp 10,.ref 0 7 0 0)] [(0,(Q1a p2 p3 p4 p5 p6 p7 p8))] (.ref 0 7 0 0)),(9,rp _ _),(12,⟨_,_,_,_,false⟩)] ⟨Qbj rfl,aiq underlying40 Qik Qac hi5 hj6,Qav (first:=[]) (cap:=[]) (vs:=[.ref 0 7 0 0,I p0,(Zmy p1),(.dat 1 (x3.Weights.map Qad))]) (σr:=[(Q1a p2 p3 p4 p5 p6 p7 p8),(Q52 p9),(.own 4 (p10.map Qa0)),(.own 1 (p11.map Qad))]) (σr':=[(Q1a p2 p3 p4 p5 p6 p7 p8),(Q52 p9),(.own 4 (x8.2.map Qa0)),(.own 1 (p11.map Qad))]) (res':=(Q3c x8)) [0,1,2,3] rfl Q5b (Qkj N p0 p1 x3.Weights p2 p3 p4 p5 p6 p7 p8 p9 p10 p11 _ hf7) rfl (Qbs (rnc (Qa1 rfl) (rnc (.plain _ nll) (rnc (.plain _ (NLt.agg _ (nlcc (nlcc nl0)))) (rnc (pld Qaf) rn0))))) (slc (Qas (rnc (pld Qag) (rnc (pld Qab) (rnc (Qc4 rfl) (rnc (Qc4 rfl) (rnc (Qc4 rfl) (rnc (pld Qam) (rnc (.plain _ nll) rn0)))))))) (slc (Qa9 Qai) (slc (Qa9 Qa3) (slc (Qa9 Qaf) Qau)))) (slc (Qas (rnc (pld Qag) (rnc (pld Qab) (rnc (Qc0 rfl) (rnc (Qc0 rfl) (rnc (Qc0 rfl) (rnc (pld Qam) (rnc (.plain _ nll) rn0)))))))) (slc (Qa9 Qai) (slc (Qa9 Qa3) (slc (Qa9 Qaf) Qau)))) (pld Qam) rfl rfl rfl,tv⟩ ?_
  refine wmr (mto (n:=20) (l':=[(6,(Q3c x8))]) (own':=[(Q1a p2 p3 p4 p5 p6 p7 p8),(Q52 p9),(.own 4 (x8.2.map Qa0)),(.own 1 (p11.map Qad))]) [(6,(Q3c x8))] [0,1,2,3] [(Q1a p2 p3 p4 p5 p6 p7 p8),(Q52 p9),(.own 4 (x8.2.map Qa0)),(.own 1 (p11.map Qad))] hφ0 (pc (rnd Qam) pn) (qb (lc (rnd Qag) (lc (rnd Qab) (lc (.rn (Qa2 rfl)) (lc (.rn (Qa2 rfl)) (lc (.rn (Qa2 rfl)) (lc (rnd Qam) (lc rwl ln))))))) (qc (spr Qai) (qc (spr Qa3) (qc (spr Qaf) qn)))))<|Qaj ?_
  obtain rfl:=osi h
  exact⟨_,Mor.rfl,Qc1 (vs:=[(Q3c x8)]) ⟨rot,tv⟩ rfl (NLt.of0 (nld Qam _)) (by kernel_rfl) (Qao (Qax (nlc (NLt.of0 (nld Qag _)) (nlc (NLt.of0 (nld Qab _)) (nlc (NLt.own _ _ _ _ (by decide)) (nlc (NLt.own _ _ _ _ (by decide)) (nlc (NLt.own _ _ _ _ (by decide)) (nlc (NLt.of0 (nld Qam _)) (nlc (NLt.of0 nll) nl0)))))))) (Qao (Qb0 Qai _) (Qao (Qb0 Qa3 _) (Qao (Qb0 Qaf _) Qbq))))⟩
def Qc2 (N:Nat) (p0 p1:Int) (p2:List GRow) (p3:List Qae) (p4 p5 p6:Nat) (p7:List Qaa) (p8:Int) (p9:List (List Qaa)) (p10:List Qbg) (p11:List Int):Option ((Int×(List (List Qaa))×(List Qbg)×(List Int))⊕Int):=
  (Qg8 N p0 p2 p3 p4 p5 p6 p7 p8 p9 p10 p11).bind fun _=>
  chk (decide (p4≤p9.length))<|
  chk (decide (p5≤p10.length))<|
  chk (decide (p6≤p11.length))<|
  (Qb4 N p2 p3 (p9.take p4) (p10.take p5) (p11.take p6) p7 p8 p0).bind fun x12=>
  (Qge N x12).bind fun x14=>
  Qbl (fun _=>
    (getI p3 p0).bind fun x16=>
    bif (x16.Kind==0) then
     none
    else
     bif (x16.Kind==1) then
      (Qf8 N p0 x14 p2 p3 p4 p5 p6 p7 p8 p9 p10 p11).bind fun x23=>
      chk (decide (0≤p0)&&decide (p0.toNat<p4))<|
      (p9[p0.toNat]?).bind fun _=>
      some (.inl (p8,p9.set p0.toNat x23,p10,p11))
     else
      bif (x16.Kind==2) then
       (Qf8 N p0 x14 p2 p3 p4 p5 p6 p7 p8 p9 p10 p11).bind fun x29=>
       chk (decide (0≤p0)&&decide (p0.toNat<p4))<|
       (p9[p0.toNat]?).bind fun _=>
       some (.inl (p8,p9.set p0.toNat x29,p10,p11))
      else
       bif (x16.Kind==3) then
        (Qie N p0 x14 p2 p3 p4 p5 p6 p7 p8 p9 p10 p11).bind fun x35=>
        chk (decide (0≤p0)&&decide (p0.toNat<p4))<|
        (p9[p0.toNat]?).bind fun _=>
        some (.inl (p8,p9.set p0.toNat x35.1,x35.2,p11))
       else
        bif (x16.Kind==4) then
         (Qfk N p0 x14 p2 p3 p4 p5 p6 p7 p8 p9 p10 p11).bind fun x41=>
         chk (decide (0≤p0)&&decide (p0.toNat<p4))<|
         (p9[p0.toNat]?).bind fun _=>
         some (.inl (x41.2.1,p9.set p0.toNat x41.1,x41.2.2.1,x41.2.2.2))
        else
         bif (x16.Kind==5) then
          (Qhx N p0 x14 p2 p3 p4 p5 p6 p7 p8 p9 p10 p11).bind fun x47=>
          chk (decide (0≤p0)&&decide (p0.toNat<p4))<|
          (p9[p0.toNat]?).bind fun _=>
          some (.inl (p8,p9.set p0.toNat x47.1,x47.2,p11))
         else
          bif (x16.Kind==6) then
           (Qf8 N p0 x14 p2 p3 p4 p5 p6 p7 p8 p9 p10 p11).bind fun x53=>
           chk (decide (0≤p0)&&decide (p0.toNat<p4))<|
           (p9[p0.toNat]?).bind fun _=>
           some (.inl (p8,p9.set p0.toNat x53,p10,p11))
          else
           none) fun k15:Unit→Option ((Int×(List (List Qaa))×(List Qbg)×(List Int))⊕Int)=>
  bif (decide (x14.Mass>p1)) then
   some (.inr p0)
  else
   k15 ()
def Qla (p3:List Qae):AV:=.dat 7 (p3.map Qac)
def Qta (p7:List Qaa):AV:=.dat 4 (p7.map Qah)
def Qhd (p2:List GRow) (p3:List Qae) (p4 p5 p6:Nat) (p7:List Qaa) (p8:Int):Slot:=.own 7 [[(.dat 5 (p2.map Qaq)),(Qla p3),(.own 1 1 (0) p4),(.own 2 4 (0) p5),(.own 3 1 (0) p6),(Qta p7),(I p8)]]
def Qgn (p9:List (List Qaa)):Slot:=.own 1 (p9.map Qak)
def Qij (p10:List Qbg):Slot:=.own 4 (p10.map Qa0)
def Zm1:AV:=.fn (.func 133) [] [(.ref 4 1 (0) 0),(.ref 5 1 (0) 0)]
def Zm2:Slot:=.own 1 [[(.ref 0 7 (0) 0)]]
def Qi4 (x14:Qaa):AV:=.agg [(I x14.Mass),(I x14.Heat),(I x14.Silica),(I x14.Gas)]
def Qr6 (x14:Qaa):Slot:=.own 4 [[(I x14.Mass),(I x14.Heat),(I x14.Silica),(I x14.Gas)]]
def Qnd:Slot:=.own 7 [[(.lit .nilFunc),(.fn (.func 117) [] []),(.fn (.func 117) [] []),(.fn (.func 118) [] []),(.fn (.func 119) [] []),(.fn (.func 120) [] []),(.fn (.func 117) [] [])]]
def Q3j (p2:List GRow) (p3:List Qae) (p4 p5 p6:Nat) (p7:List Qaa) (x41:((List Qaa)×Int×(List Qbg)×(List Int))):Slot:=.own 7 [[(.dat 5 (p2.map Qaq)),(Qla p3),(.own 1 1 (0) p4),(.own 2 4 (0) p5),(.own 3 1 (0) p6),(Qta p7),(I x41.2.1)]]
theorem Qjf (N:Nat) (p0 p1:Int) (p2:List GRow) (p3:List Qae) (p4 p5 p6:Nat) (p7:List Qaa) (p8:Int) (p9:List (List Qaa)) (p10:List Qbg) (p11:List Int) (r:((Int×(List (List Qaa))×(List Qbg)×(List Int))⊕Int)) (h:Qc2 N p0 p1 p2 p3 p4 p5 p6 p7 p8 p9 p10 p11=some r):Zpc prog 97 [(.ref 0 7 (0) 0),(I p0),(I p1)] [(Qhd p2 p3 p4 p5 p6 p7 p8),(Qgn p9),(Qij p10),(.own 1 (p11.map Qad))]  ((Sum.elim (fun r=>.ret (.tup []) [(.own 7 [[(.dat 5 (p2.map Qaq)),(.dat 7 (p3.map Qac)),(.own 1 1 (0) p4),(.own 2 4 (0) p5),(.own 3 1 (0) p6),(.dat 4 (p7.map Qah)),(I r.1)]]),(.own 1 (r.2.1.map Qak)),(.own 4 (r.2.2.1.map Qa0)),(.own 1 (r.2.2.2.map Qad))]) (fun r=>.pan (.iface 182 (.agg #[(.int .i64 r)]))):((Int×(List (List Qaa))×(List Qbg)×(List Int))⊕Int)→Out) r):=by
  refine Qze func97 rfl 4 (nle rfl) (fun X φ0 w0 hφ0 hd0=>?_)
  unfold Qc2 at h
  obtain⟨x7,hf6,h⟩:=bno h
  obtain⟨hz8,h⟩:=cko h
  obtain⟨hz9,h⟩:=cko h
  obtain⟨hz10,h⟩:=cko h
  obtain⟨x12,hf11,h⟩:=bno h
  obtain⟨x14,hf13,h⟩:=bno h
  refine wx tbk [(2,⟨_,_,_,_,false⟩),(3,⟨[fu 115,(.tmp 10,Zm1)],[(4,Zm2),(0,(Qhd p2 p3 p4 p5 p6 p7 p8)),(1,(Qgn p9)),(2,(Qij p10)),(3,(.own 1 (p11.map Qad))),(5,.own 1 [[I p0]]),(6,.unused)],(.acc 6 63 4 (x12.map Qah)),[(6,.tok)],false⟩),(4,rp [fu 76,(.tmp 11,(.acc 6 63 4 (x12.map Qah)))] (Qi4 x14))] ⟨Qav (first:=[]) (cap:=[]) (vs:=[.ref 0 7 0 0,I p0]) (σr:=[(Qhd p2 p3 p4 p5 p6 p7 p8),(Qgn p9),(Qij p10),(.own 1 (p11.map Qad))]) (σr':=[(Qhd p2 p3 p4 p5 p6 p7 p8),(Qgn p9),(Qij p10),(.own 1 (p11.map Qad)),Zm2,(.own 1 [[I p0]])]) (res':=Zm1) [0,1,2,3,4,5] rfl Zgo (Qoy N p0 p2 p3 p4 p5 p6 p7 p8 p9 p10 p11 _ hf6) rfl (Qbs (rnc (Qa1 rfl) (rnc (.plain _ nll) rn0))) (slc (Qas (rnc (pld Qag) (rnc (pld Qab) (rnc (Qc4 rfl) (rnc (Qc4 rfl) (rnc (Qc4 rfl) (rnc (pld Qam) (rnc (.plain _ nll) rn0)))))))) (slc (Qa9 Qai) (slc (Qa9 Qa3) (slc (Qa9 Qaf) Qau)))) (slc (Qas (rnc (pld Qag) (rnc (pld Qab) (rnc (Qc0 rfl) (rnc (Qc0 rfl) (rnc (Qc0 rfl) (rnc (pld Qam) (rnc (.plain _ nll) rn0)))))))) (slc (Qa9 Qai) (slc (Qa9 Qa3) (slc (Qa9 Qaf) (slc (Qas (rnc (Qbb rfl) rn0)) (slc (Qas (rnc (.plain _ nll) rn0)) Qau)))))) (Qbi rn0 (rnc (Qbb rfl) (rnc (Qbb rfl) rn0))) rfl rfl rfl,Qjp (rd':=[fu 115,(.tmp 10,(.fn (.func 133) [] [(.dptr [(.dptr [(.dat 5 (p2.map Qaq)),(Qla p3),(.dat 1 ((p9.take p4:List (List Qaa)).map Qak)),(.dat 4 ((p10.take p5:List Qbg).map Qa0)),(.dat 1 ((p11.take p6:List Int).map Qad)),(Qta p7),I p8] 0)] 0),(.dptr [I p0] 0)]))]) [(4,1,[[.ref 0 7 0 0]]),(0,7,[[(.dat 5 (p2.map Qaq)),(Qla p3),(.own 1 1 (0) p4),(.own 2 4 (0) p5),(.own 3 1 (0) p6),(Qta p7),I p8]]),(1,1,p9.map Qak),(2,4,p10.map Qa0),(3,1,p11.map Qad),(5,1,[[I p0]])] ⟨rfl,.same _,rfl,(Zg1 tv ⟨(Qq3 0 rfl (lc (Qq3 1 rfl (lc (.same _) (lc (.same _) (lc (Qyi 2 rfl hz8) (lc (Qyi 3 rfl hz9) (lc (Qyi 4 rfl hz10) (lc (.same _) (lc (.same _) ln)))))))) ln)),(Qq3 5 rfl (lc (.same _) ln)),tv⟩),tv⟩ (by rfl) (.acc _ _ _ _ (nin rfl) (by simp) (Q4w Q2b _)) (Q4g .tok Qtu) (Qav (first:=[]) (cap:=[]) (vs:=[(.fn (.func 133) [] [(.dptr [(.dptr [(.dat 5 (p2.map Qaq)),(Qla p3),(.dat 1 ((p9.take p4:List (List Qaa)).map Qak)),(.dat 4 ((p10.take p5:List Qbg).map Qa0)),(.dat 1 ((p11.take p6:List Int).map Qad)),(Qta p7),I p8] 0)] 0),(.dptr [I p0] 0)])]) (σr:=[]) (σr':=[.tok]) (res':=(.acc 6 63 4 (x12.map Qah))) [6] rfl Zgp (Qjc N p2 p3 (p9.take p4) (p10.take p5) (p11.take p6) p7 p8 p0 _ hf11) rfl (Qbs (rnc (.plain _ (NLt.fn _ _ _ nl0 (nlc (NLt.dptr _ _ (nlc (NLt.dptr _ _ (nlc (nld Qag _) (nlc (nld Qab _) (nlc (nld Qai _) (nlc (nld Qa3 _) (nlc (nld Qaf _) (nlc (nld Qam _) (nlc nll nl0)))))))) nl0)) (nlc (NLt.dptr _ _ (nlc nll nl0)) nl0)))) rn0)) Qau (slc .tok Qau) (Zar rfl (Qb5 Qam _)) rfl rfl rfl),awk (rd':=(.func 76,(.fn (.func 76) [] []))::[(.tmp 11,(.dat 4 (x12.map Qah)))]) ⟨rfl,lrf,rfl,Less.acc,tv⟩ (apv Q2h (Ql9 N x12 _ hf13) (nlc (nld Qam _) nl0) (NLt.agg _ (nlcc (nlcc nl0)))),tv⟩ ?_
  obtain⟨k15,hk_k15,h⟩:=jko h
  refine wjn (τ:=Unit) (fun t=>k15 t=some r) (fun _=>⟨mk 43 [(0,.ref 0 7 0 0),(1,I p0),(6,.ref 4 4 0 0)],[(Qhd p2 p3 p4 p5 p6 p7 p8),(Qgn p9),(Qij p10),(.own 1 (p11.map Qad)),(Qr6 x14)]⟩) (fun t h=>?_) ?_
  ·subst hk_k15
   refine wx tbk [(0,rp [fu 117,fu 117,fu 118,fu 119,fu 120,fu 117] (.agg [(.lit .nilFunc),(.fn (.func 117) [] []),(.fn (.func 117) [] []),(.fn (.func 118) [] []),(.fn (.func 119) [] []),(.fn (.func 120) [] []),(.fn (.func 117) [] [])]))] ⟨Qsh (vs:=[(.fn (.func 117) [] []),(.fn (.func 117) [] []),(.fn (.func 118) [] []),(.fn (.func 119) [] []),(.fn (.func 120) [] []),(.fn (.func 117) [] [])]) rfl underlying209 Qqf Zoc rfl (by rfl) rfl,tv⟩ ?_
   obtain⟨x16,hg17,h⟩:=bno h
   obtain⟨hi18,hj19⟩:=gsm hg17
   refine bfe h (fun hb20 h=>?_) fun hb20 h=>?_
   ·cases h
   ·refine bfe h (fun hb21 h=>?_) fun hb21 h=>?_
    ·obtain⟨x23,hf22,h⟩:=bno h
     obtain⟨hi24,h⟩:=cko h
     obtain⟨hi24a,hi24b⟩:=Qdv hi24
     obtain⟨x25,hg26,h⟩:=bno h
     refine Qmy 0 (.own 7 [[(.dat 5 (p2.map Qaq)),(Qla p3),(.own 1 1 (0) p4),(.own 2 4 (0) p5),(.own 3 1 (0) p6),(Qta p7),I p8]]) [mv 0 (.ref 0 7 0 0),⟨[(.tmp 21,.ref 0 7 0 0)],[],.ref 0 7 0 0,[],false⟩,⟨[(.tmp 22,.ref 0 7 0 0)],[],.ref 0 7 0 2,[],false⟩,⟨[(.tmp 23,.ref 0 7 0 2)],[],.ref 0 7 0 2,[],false⟩,⟨[(.tmp 24,.ref 0 7 0 2)],[],(.own 1 1 (0) p4),[],false⟩,mv 1 (I p0),mv 0 (.ref 0 7 0 0),⟨[(.tmp 27,.ref 0 7 0 0)],[],.ref 0 7 0 0,[],false⟩,⟨[(.tmp 28,.ref 0 7 0 0)],[],.ref 0 7 0 0,[],false⟩,⟨[(.tmp 29,.ref 0 7 0 0)],[],.ref 0 7 0 1,[],false⟩,⟨[(.tmp 30,.ref 0 7 0 1)],[],(Qla p3),[],false⟩,mv 1 (I p0),rp [(.tmp 31,(Qla p3)),(.tmp 32,I p0)] (.dptr (Qac x16) 0),mv 33 (.dptr (Qac x16) 0),rp [(.tmp 34,(.dptr (Qac x16) 0))] (K .u8 x16.Kind),rb [(.tmp 7,.ref 5 7 0 0),(.tmp 35,(K .u8 x16.Kind))] [(5,Qnd)] (.ref 5 7 0 1),rb [(.tmp 36,.ref 5 7 0 1)] [(5,Qnd)] (.fn (.func 117) [] []),mv 0 (.ref 0 7 0 0),mv 1 (I p0),rb [(.tmp 6,.ref 4 4 0 0)] [(4,(Qr6 x14))] (Qi4 x14),⟨[(.tmp 37,(.fn (.func 117) [] [])),(.tmp 38,.ref 0 7 0 0),(.tmp 39,I p0),(.tmp 40,(Qi4 x14))],[(0,(Qhd p2 p3 p4 p5 p6 p7 p8)),(1,(Qgn p9)),(2,(Qij p10)),(3,(.own 1 (p11.map Qad)))],(.dat 4 (x23.map Qah)),[(0,(Qhd p2 p3 p4 p5 p6 p7 p8)),(1,(Qgn p9)),(2,(Qij p10)),(3,(.own 1 (p11.map Qad)))],false⟩,rb [(.tmp 25,(.own 1 1 (0) p4)),(.tmp 26,I p0)] [(1,(Qgn p9))] (.ref 1 1 p0.toNat 0),⟨[(.tmp 42,(.ref 1 1 p0.toNat 0)),(.tmp 41,(.dat 4 (x23.map Qah)))],[(1,(Qgn p9))],.any,[(1,(.own 1 ((p9.set p0.toNat x23:List (List Qaa)).map Qak)))],false⟩] (SImp.box ⟨lrf,lrf,lrf,lrf,lrf,lrf,lrf,tv⟩) ⟨tv,tv,tv,tv,tv,tv,tv,tv,tv,tv,tv,tv,tv,tv,tv,tv,tv,tv,tv,tv,⟨(SImp.box ⟨lrf,lrf,lrf,lrf,lrf,lrf,lrf,tv⟩),tv,tv,tv,tv⟩,tv,⟨tv,tv⟩,tv⟩ ?_ ?_
     ·exact⟨hr_ (amv rfl),sf_ (Qbj rfl),sf_ (afa rfl underlying140 rfl rfl ti34 (by decide) rfl),sf_ (afa rfl underlying34 rfl rfl ti31 (by decide) rfl),sf_ (ald rfl ti31 (by decide) rfl (nle rfl) rfl),hr_ (amv rfl),hr_ (amv rfl),sf_ (Qbj rfl),sf_ (afa rfl underlying140 rfl rfl ti42 (by decide) rfl),sf_ (afa rfl underlying42 rfl rfl ti40 (by decide) rfl),sf_ (ald rfl ti40 (by decide) rfl (nle rfl) rfl),hr_ (amv rfl),hr_ (aiq underlying40 Qik Qac hi18 hj19),hr_ (afd rfl underlying133 rfl rfl ti5 (by decide) rfl),hr_ (ald_ rfl ti5 (by decide) (nle rfl) rfl),hr_ (Qk8 hb21 (Qk9 rfl underlying209 Qqf (by decide) (by decide) rfl)),hr_ (ald rfl Qqf (by decide) rfl (nle rfl) rfl),hr_ (amv rfl),hr_ (amv rfl),hr_ (ald rfl ti63 (by decide) rfl (nle rfl) rfl),hr_ (Qav (first:=[]) (cap:=[]) (vs:=[.ref 0 7 0 0,I p0,(Qi4 x14)]) (σr:=[(Qhd p2 p3 p4 p5 p6 p7 p8),(Qgn p9),(Qij p10),(.own 1 (p11.map Qad))]) (σr':=[(Qhd p2 p3 p4 p5 p6 p7 p8),(Qgn p9),(Qij p10),(.own 1 (p11.map Qad))]) (res':=(.dat 4 (x23.map Qah))) [0,1,2,3] rfl Qyh (Qii N p0 x14 p2 p3 p4 p5 p6 p7 p8 p9 p10 p11 _ hf22) rfl (Qbs (rnc (Qa1 rfl) (rnc (.plain _ nll) (rnc (.plain _ (NLt.agg _ (nlcc (nlcc nl0)))) rn0)))) (slc (Qas (rnc (pld Qag) (rnc (pld Qab) (rnc (Qc4 rfl) (rnc (Qc4 rfl) (rnc (Qc4 rfl) (rnc (pld Qam) (rnc (.plain _ nll) rn0)))))))) (slc (Qa9 Qai) (slc (Qa9 Qa3) (slc (Qa9 Qaf) Qau)))) (slc (Qas (rnc (pld Qag) (rnc (pld Qab) (rnc (Qc0 rfl) (rnc (Qc0 rfl) (rnc (Qc0 rfl) (rnc (pld Qam) (rnc (.plain _ nll) rn0)))))))) (slc (Qa9 Qai) (slc (Qa9 Qa3) (slc (Qa9 Qaf) Qau)))) (pld Qam) rfl rfl rfl),hr_ (aio rfl underlying31 ti45 (odt hi24a) (odt hi24b) (Nat.zero_add _)),hr_ (ast rfl ti45 (by rfl) (mgt Qak hg26) (nle rfl) (Qf0 Qak rfl)),tv⟩
     obtain rfl:=osi h
     exact⟨_,(mto (n:=43) (l':=[]) (own':=[(Qhd p2 p3 p4 p5 p6 p7 p8),(.own 1 (((p9.set p0.toNat x23):List (List Qaa)).map Qak)),(Qij p10),(.own 1 (p11.map Qad))]) [] [0,1,2,3] [(Qhd p2 p3 p4 p5 p6 p7 p8),(.own 1 ((p9.set p0.toNat x23:List (List Qaa)).map Qak)),(Qij p10),(.own 1 (p11.map Qad))] hφ0 pn (qb (lc (rnd Qag) (lc (rnd Qab) (lc (.rn (Qa2 rfl)) (lc (.rn (Qa2 rfl)) (lc (.rn (Qa2 rfl)) (lc (rnd Qam) (lc rwl ln))))))) (qc (spr Qai) (qc (spr Qa3) (qc (spr Qaf) qn))))),Ql3 (vs:=[]) tv rfl (NLt.tup _ nl0) (by kernel_rfl) (Qao (Qax (nlc (NLt.of0 (nld Qag _)) (nlc (NLt.of0 (nld Qab _)) (nlc (NLt.own _ _ _ _ (by decide)) (nlc (NLt.own _ _ _ _ (by decide)) (nlc (NLt.own _ _ _ _ (by decide)) (nlc (NLt.of0 (nld Qam _)) (nlc (NLt.of0 nll) nl0)))))))) (Qao (Qb0 Qai _) (Qao (Qb0 Qa3 _) (Qao (Qb0 Qaf _) Qbq))))⟩
    ·refine bfe h (fun hb27 h=>?_) fun hb27 h=>?_
     ·obtain⟨x29,hf28,h⟩:=bno h
      obtain⟨hi30,h⟩:=cko h
      obtain⟨hi30a,hi30b⟩:=Qdv hi30
      obtain⟨x31,hg32,h⟩:=bno h
      refine Qmy 0 (.own 7 [[(.dat 5 (p2.map Qaq)),(Qla p3),(.own 1 1 (0) p4),(.own 2 4 (0) p5),(.own 3 1 (0) p6),(Qta p7),I p8]]) [mv 0 (.ref 0 7 0 0),⟨[(.tmp 21,.ref 0 7 0 0)],[],.ref 0 7 0 0,[],false⟩,⟨[(.tmp 22,.ref 0 7 0 0)],[],.ref 0 7 0 2,[],false⟩,⟨[(.tmp 23,.ref 0 7 0 2)],[],.ref 0 7 0 2,[],false⟩,⟨[(.tmp 24,.ref 0 7 0 2)],[],(.own 1 1 (0) p4),[],false⟩,mv 1 (I p0),mv 0 (.ref 0 7 0 0),⟨[(.tmp 27,.ref 0 7 0 0)],[],.ref 0 7 0 0,[],false⟩,⟨[(.tmp 28,.ref 0 7 0 0)],[],.ref 0 7 0 0,[],false⟩,⟨[(.tmp 29,.ref 0 7 0 0)],[],.ref 0 7 0 1,[],false⟩,⟨[(.tmp 30,.ref 0 7 0 1)],[],(Qla p3),[],false⟩,mv 1 (I p0),rp [(.tmp 31,(Qla p3)),(.tmp 32,I p0)] (.dptr (Qac x16) 0),mv 33 (.dptr (Qac x16) 0),rp [(.tmp 34,(.dptr (Qac x16) 0))] (K .u8 x16.Kind),rb [(.tmp 7,.ref 5 7 0 0),(.tmp 35,(K .u8 x16.Kind))] [(5,Qnd)] (.ref 5 7 0 2),rb [(.tmp 36,.ref 5 7 0 2)] [(5,Qnd)] (.fn (.func 117) [] []),mv 0 (.ref 0 7 0 0),mv 1 (I p0),rb [(.tmp 6,.ref 4 4 0 0)] [(4,(Qr6 x14))] (Qi4 x14),⟨[(.tmp 37,(.fn (.func 117) [] [])),(.tmp 38,.ref 0 7 0 0),(.tmp 39,I p0),(.tmp 40,(Qi4 x14))],[(0,(Qhd p2 p3 p4 p5 p6 p7 p8)),(1,(Qgn p9)),(2,(Qij p10)),(3,(.own 1 (p11.map Qad)))],(.dat 4 (x29.map Qah)),[(0,(Qhd p2 p3 p4 p5 p6 p7 p8)),(1,(Qgn p9)),(2,(Qij p10)),(3,(.own 1 (p11.map Qad)))],false⟩,rb [(.tmp 25,(.own 1 1 (0) p4)),(.tmp 26,I p0)] [(1,(Qgn p9))] (.ref 1 1 p0.toNat 0),⟨[(.tmp 42,(.ref 1 1 p0.toNat 0)),(.tmp 41,(.dat 4 (x29.map Qah)))],[(1,(Qgn p9))],.any,[(1,(.own 1 ((p9.set p0.toNat x29:List (List Qaa)).map Qak)))],false⟩] (SImp.box ⟨lrf,lrf,lrf,lrf,lrf,lrf,lrf,tv⟩) ⟨tv,tv,tv,tv,tv,tv,tv,tv,tv,tv,tv,tv,tv,tv,tv,tv,tv,tv,tv,tv,⟨(SImp.box ⟨lrf,lrf,lrf,lrf,lrf,lrf,lrf,tv⟩),tv,tv,tv,tv⟩,tv,⟨tv,tv⟩,tv⟩ ?_ ?_
      ·exact⟨hr_ (amv rfl),sf_ (Qbj rfl),sf_ (afa rfl underlying140 rfl rfl ti34 (by decide) rfl),sf_ (afa rfl underlying34 rfl rfl ti31 (by decide) rfl),sf_ (ald rfl ti31 (by decide) rfl (nle rfl) rfl),hr_ (amv rfl),hr_ (amv rfl),sf_ (Qbj rfl),sf_ (afa rfl underlying140 rfl rfl ti42 (by decide) rfl),sf_ (afa rfl underlying42 rfl rfl ti40 (by decide) rfl),sf_ (ald rfl ti40 (by decide) rfl (nle rfl) rfl),hr_ (amv rfl),hr_ (aiq underlying40 Qik Qac hi18 hj19),hr_ (afd rfl underlying133 rfl rfl ti5 (by decide) rfl),hr_ (ald_ rfl ti5 (by decide) (nle rfl) rfl),hr_ (Qk8 hb27 (Qk9 rfl underlying209 Qqf (by decide) (by decide) rfl)),hr_ (ald rfl Qqf (by decide) rfl (nle rfl) rfl),hr_ (amv rfl),hr_ (amv rfl),hr_ (ald rfl ti63 (by decide) rfl (nle rfl) rfl),hr_ (Qav (first:=[]) (cap:=[]) (vs:=[.ref 0 7 0 0,I p0,(Qi4 x14)]) (σr:=[(Qhd p2 p3 p4 p5 p6 p7 p8),(Qgn p9),(Qij p10),(.own 1 (p11.map Qad))]) (σr':=[(Qhd p2 p3 p4 p5 p6 p7 p8),(Qgn p9),(Qij p10),(.own 1 (p11.map Qad))]) (res':=(.dat 4 (x29.map Qah))) [0,1,2,3] rfl Qyh (Qii N p0 x14 p2 p3 p4 p5 p6 p7 p8 p9 p10 p11 _ hf28) rfl (Qbs (rnc (Qa1 rfl) (rnc (.plain _ nll) (rnc (.plain _ (NLt.agg _ (nlcc (nlcc nl0)))) rn0)))) (slc (Qas (rnc (pld Qag) (rnc (pld Qab) (rnc (Qc4 rfl) (rnc (Qc4 rfl) (rnc (Qc4 rfl) (rnc (pld Qam) (rnc (.plain _ nll) rn0)))))))) (slc (Qa9 Qai) (slc (Qa9 Qa3) (slc (Qa9 Qaf) Qau)))) (slc (Qas (rnc (pld Qag) (rnc (pld Qab) (rnc (Qc0 rfl) (rnc (Qc0 rfl) (rnc (Qc0 rfl) (rnc (pld Qam) (rnc (.plain _ nll) rn0)))))))) (slc (Qa9 Qai) (slc (Qa9 Qa3) (slc (Qa9 Qaf) Qau)))) (pld Qam) rfl rfl rfl),hr_ (aio rfl underlying31 ti45 (odt hi30a) (odt hi30b) (Nat.zero_add _)),hr_ (ast rfl ti45 (by rfl) (mgt Qak hg32) (nle rfl) (Qf0 Qak rfl)),tv⟩
      obtain rfl:=osi h
      exact⟨_,(mto (n:=43) (l':=[]) (own':=[(Qhd p2 p3 p4 p5 p6 p7 p8),(.own 1 (((p9.set p0.toNat x29):List (List Qaa)).map Qak)),(Qij p10),(.own 1 (p11.map Qad))]) [] [0,1,2,3] [(Qhd p2 p3 p4 p5 p6 p7 p8),(.own 1 ((p9.set p0.toNat x29:List (List Qaa)).map Qak)),(Qij p10),(.own 1 (p11.map Qad))] hφ0 pn (qb (lc (rnd Qag) (lc (rnd Qab) (lc (.rn (Qa2 rfl)) (lc (.rn (Qa2 rfl)) (lc (.rn (Qa2 rfl)) (lc (rnd Qam) (lc rwl ln))))))) (qc (spr Qai) (qc (spr Qa3) (qc (spr Qaf) qn))))),Ql3 (vs:=[]) tv rfl (NLt.tup _ nl0) (by kernel_rfl) (Qao (Qax (nlc (NLt.of0 (nld Qag _)) (nlc (NLt.of0 (nld Qab _)) (nlc (NLt.own _ _ _ _ (by decide)) (nlc (NLt.own _ _ _ _ (by decide)) (nlc (NLt.own _ _ _ _ (by decide)) (nlc (NLt.of0 (nld Qam _)) (nlc (NLt.of0 nll) nl0)))))))) (Qao (Qb0 Qai _) (Qao (Qb0 Qa3 _) (Qao (Qb0 Qaf _) Qbq))))⟩
     ·refine bfe h (fun hb33 h=>?_) fun hb33 h=>?_
      ·obtain⟨x35,hf34,h⟩:=bno h
       obtain⟨hi36,h⟩:=cko h
       obtain⟨hi36a,hi36b⟩:=Qdv hi36
       obtain⟨x37,hg38,h⟩:=bno h
       refine Qmy 0 (.own 7 [[(.dat 5 (p2.map Qaq)),(Qla p3),(.own 1 1 (0) p4),(.own 2 4 (0) p5),(.own 3 1 (0) p6),(Qta p7),I p8]]) [mv 0 (.ref 0 7 0 0),⟨[(.tmp 21,.ref 0 7 0 0)],[],.ref 0 7 0 0,[],false⟩,⟨[(.tmp 22,.ref 0 7 0 0)],[],.ref 0 7 0 2,[],false⟩,⟨[(.tmp 23,.ref 0 7 0 2)],[],.ref 0 7 0 2,[],false⟩,⟨[(.tmp 24,.ref 0 7 0 2)],[],(.own 1 1 (0) p4),[],false⟩,mv 1 (I p0),mv 0 (.ref 0 7 0 0),⟨[(.tmp 27,.ref 0 7 0 0)],[],.ref 0 7 0 0,[],false⟩,⟨[(.tmp 28,.ref 0 7 0 0)],[],.ref 0 7 0 0,[],false⟩,⟨[(.tmp 29,.ref 0 7 0 0)],[],.ref 0 7 0 1,[],false⟩,⟨[(.tmp 30,.ref 0 7 0 1)],[],(Qla p3),[],false⟩,mv 1 (I p0),rp [(.tmp 31,(Qla p3)),(.tmp 32,I p0)] (.dptr (Qac x16) 0),mv 33 (.dptr (Qac x16) 0),rp [(.tmp 34,(.dptr (Qac x16) 0))] (K .u8 x16.Kind),rb [(.tmp 7,.ref 5 7 0 0),(.tmp 35,(K .u8 x16.Kind))] [(5,Qnd)] (.ref 5 7 0 3),rb [(.tmp 36,.ref 5 7 0 3)] [(5,Qnd)] (.fn (.func 118) [] []),mv 0 (.ref 0 7 0 0),mv 1 (I p0),rb [(.tmp 6,.ref 4 4 0 0)] [(4,(Qr6 x14))] (Qi4 x14),⟨[(.tmp 37,(.fn (.func 118) [] [])),(.tmp 38,.ref 0 7 0 0),(.tmp 39,I p0),(.tmp 40,(Qi4 x14))],[(0,(Qhd p2 p3 p4 p5 p6 p7 p8)),(1,(Qgn p9)),(2,(Qij p10)),(3,(.own 1 (p11.map Qad)))],(.dat 4 (x35.1.map Qah)),[(0,(Qhd p2 p3 p4 p5 p6 p7 p8)),(1,(Qgn p9)),(2,(.own 4 (x35.2.map Qa0))),(3,(.own 1 (p11.map Qad)))],false⟩,rb [(.tmp 25,(.own 1 1 (0) p4)),(.tmp 26,I p0)] [(1,(Qgn p9))] (.ref 1 1 p0.toNat 0),⟨[(.tmp 42,(.ref 1 1 p0.toNat 0)),(.tmp 41,(.dat 4 (x35.1.map Qah)))],[(1,(Qgn p9))],.any,[(1,(.own 1 ((p9.set p0.toNat x35.1:List (List Qaa)).map Qak)))],false⟩] (SImp.box ⟨lrf,lrf,lrf,lrf,lrf,lrf,lrf,tv⟩) ⟨tv,tv,tv,tv,tv,tv,tv,tv,tv,tv,tv,tv,tv,tv,tv,tv,tv,tv,tv,tv,⟨(SImp.box ⟨lrf,lrf,lrf,lrf,lrf,lrf,lrf,tv⟩),tv,tv,tv,tv⟩,tv,⟨tv,tv⟩,tv⟩ ?_ ?_
       ·exact⟨hr_ (amv rfl),sf_ (Qbj rfl),sf_ (afa rfl underlying140 rfl rfl ti34 (by decide) rfl),sf_ (afa rfl underlying34 rfl rfl ti31 (by decide) rfl),sf_ (ald rfl ti31 (by decide) rfl (nle rfl) rfl),hr_ (amv rfl),hr_ (amv rfl),sf_ (Qbj rfl),sf_ (afa rfl underlying140 rfl rfl ti42 (by decide) rfl),sf_ (afa rfl underlying42 rfl rfl ti40 (by decide) rfl),sf_ (ald rfl ti40 (by decide) rfl (nle rfl) rfl),hr_ (amv rfl),hr_ (aiq underlying40 Qik Qac hi18 hj19),hr_ (afd rfl underlying133 rfl rfl ti5 (by decide) rfl),hr_ (ald_ rfl ti5 (by decide) (nle rfl) rfl),hr_ (Qk8 hb33 (Qk9 rfl underlying209 Qqf (by decide) (by decide) rfl)),hr_ (ald rfl Qqf (by decide) rfl (nle rfl) rfl),hr_ (amv rfl),hr_ (amv rfl),hr_ (ald rfl ti63 (by decide) rfl (nle rfl) rfl),hr_ (Qav (first:=[]) (cap:=[]) (vs:=[.ref 0 7 0 0,I p0,(Qi4 x14)]) (σr:=[(Qhd p2 p3 p4 p5 p6 p7 p8),(Qgn p9),(Qij p10),(.own 1 (p11.map Qad))]) (σr':=[(Qhd p2 p3 p4 p5 p6 p7 p8),(Qgn p9),(.own 4 (x35.2.map Qa0)),(.own 1 (p11.map Qad))]) (res':=(.dat 4 (x35.1.map Qah))) [0,1,2,3] rfl Zgn (Qoz N p0 x14 p2 p3 p4 p5 p6 p7 p8 p9 p10 p11 _ hf34) rfl (Qbs (rnc (Qa1 rfl) (rnc (.plain _ nll) (rnc (.plain _ (NLt.agg _ (nlcc (nlcc nl0)))) rn0)))) (slc (Qas (rnc (pld Qag) (rnc (pld Qab) (rnc (Qc4 rfl) (rnc (Qc4 rfl) (rnc (Qc4 rfl) (rnc (pld Qam) (rnc (.plain _ nll) rn0)))))))) (slc (Qa9 Qai) (slc (Qa9 Qa3) (slc (Qa9 Qaf) Qau)))) (slc (Qas (rnc (pld Qag) (rnc (pld Qab) (rnc (Qc0 rfl) (rnc (Qc0 rfl) (rnc (Qc0 rfl) (rnc (pld Qam) (rnc (.plain _ nll) rn0)))))))) (slc (Qa9 Qai) (slc (Qa9 Qa3) (slc (Qa9 Qaf) Qau)))) (pld Qam) rfl rfl rfl),hr_ (aio rfl underlying31 ti45 (odt hi36a) (odt hi36b) (Nat.zero_add _)),hr_ (ast rfl ti45 (by rfl) (mgt Qak hg38) (nle rfl) (Qf0 Qak rfl)),tv⟩
       obtain rfl:=osi h
       exact⟨_,(mto (n:=43) (l':=[]) (own':=[(Qhd p2 p3 p4 p5 p6 p7 p8),(.own 1 (((p9.set p0.toNat x35.1):List (List Qaa)).map Qak)),(.own 4 (x35.2.map Qa0)),(.own 1 (p11.map Qad))]) [] [0,1,2,3] [(Qhd p2 p3 p4 p5 p6 p7 p8),(.own 1 ((p9.set p0.toNat x35.1:List (List Qaa)).map Qak)),(.own 4 (x35.2.map Qa0)),(.own 1 (p11.map Qad))] hφ0 pn (qb (lc (rnd Qag) (lc (rnd Qab) (lc (.rn (Qa2 rfl)) (lc (.rn (Qa2 rfl)) (lc (.rn (Qa2 rfl)) (lc (rnd Qam) (lc rwl ln))))))) (qc (spr Qai) (qc (spr Qa3) (qc (spr Qaf) qn))))),Ql3 (vs:=[]) tv rfl (NLt.tup _ nl0) (by kernel_rfl) (Qao (Qax (nlc (NLt.of0 (nld Qag _)) (nlc (NLt.of0 (nld Qab _)) (nlc (NLt.own _ _ _ _ (by decide)) (nlc (NLt.own _ _ _ _ (by decide)) (nlc (NLt.own _ _ _ _ (by decide)) (nlc (NLt.of0 (nld Qam _)) (nlc (NLt.of0 nll) nl0)))))))) (Qao (Qb0 Qai _) (Qao (Qb0 Qa3 _) (Qao (Qb0 Qaf _) Qbq))))⟩
      ·refine bfe h (fun hb39 h=>?_) fun hb39 h=>?_
       ·obtain⟨x41,hf40,h⟩:=bno h
        obtain⟨hi42,h⟩:=cko h
        obtain⟨hi42a,hi42b⟩:=Qdv hi42
        obtain⟨x43,hg44,h⟩:=bno h
        refine Qmy 0 (.own 7 [[(.dat 5 (p2.map Qaq)),(Qla p3),(.own 1 1 (0) p4),(.own 2 4 (0) p5),(.own 3 1 (0) p6),(Qta p7),.any]]) [mv 0 (.ref 0 7 0 0),⟨[(.tmp 21,.ref 0 7 0 0)],[],.ref 0 7 0 0,[],false⟩,⟨[(.tmp 22,.ref 0 7 0 0)],[],.ref 0 7 0 2,[],false⟩,⟨[(.tmp 23,.ref 0 7 0 2)],[],.ref 0 7 0 2,[],false⟩,⟨[(.tmp 24,.ref 0 7 0 2)],[],(.own 1 1 (0) p4),[],false⟩,mv 1 (I p0),mv 0 (.ref 0 7 0 0),⟨[(.tmp 27,.ref 0 7 0 0)],[],.ref 0 7 0 0,[],false⟩,⟨[(.tmp 28,.ref 0 7 0 0)],[],.ref 0 7 0 0,[],false⟩,⟨[(.tmp 29,.ref 0 7 0 0)],[],.ref 0 7 0 1,[],false⟩,⟨[(.tmp 30,.ref 0 7 0 1)],[],(Qla p3),[],false⟩,mv 1 (I p0),rp [(.tmp 31,(Qla p3)),(.tmp 32,I p0)] (.dptr (Qac x16) 0),mv 33 (.dptr (Qac x16) 0),rp [(.tmp 34,(.dptr (Qac x16) 0))] (K .u8 x16.Kind),rb [(.tmp 7,.ref 5 7 0 0),(.tmp 35,(K .u8 x16.Kind))] [(5,Qnd)] (.ref 5 7 0 4),rb [(.tmp 36,.ref 5 7 0 4)] [(5,Qnd)] (.fn (.func 119) [] []),mv 0 (.ref 0 7 0 0),mv 1 (I p0),rb [(.tmp 6,.ref 4 4 0 0)] [(4,(Qr6 x14))] (Qi4 x14),⟨[(.tmp 37,(.fn (.func 119) [] [])),(.tmp 38,.ref 0 7 0 0),(.tmp 39,I p0),(.tmp 40,(Qi4 x14))],[(0,(Qhd p2 p3 p4 p5 p6 p7 p8)),(1,(Qgn p9)),(2,(Qij p10)),(3,(.own 1 (p11.map Qad)))],(.dat 4 (x41.1.map Qah)),[(0,(Q3j p2 p3 p4 p5 p6 p7 x41)),(1,(Qgn p9)),(2,(.own 4 (x41.2.2.1.map Qa0))),(3,(.own 1 (x41.2.2.2.map Qad)))],false⟩,rb [(.tmp 25,(.own 1 1 (0) p4)),(.tmp 26,I p0)] [(1,(Qgn p9))] (.ref 1 1 p0.toNat 0),⟨[(.tmp 42,(.ref 1 1 p0.toNat 0)),(.tmp 41,(.dat 4 (x41.1.map Qah)))],[(1,(Qgn p9))],.any,[(1,(.own 1 ((p9.set p0.toNat x41.1:List (List Qaa)).map Qak)))],false⟩] (SImp.box ⟨lrf,lrf,lrf,lrf,lrf,lrf,Less.any,tv⟩) ⟨tv,tv,tv,tv,tv,tv,tv,tv,tv,tv,tv,tv,tv,tv,tv,tv,tv,tv,tv,tv,⟨(SImp.box ⟨lrf,lrf,lrf,lrf,lrf,lrf,Less.any,tv⟩),tv,tv,tv,tv⟩,tv,⟨tv,tv⟩,tv⟩ ?_ ?_
        ·exact⟨hr_ (amv rfl),sf_ (Qbj rfl),sf_ (afa rfl underlying140 rfl rfl ti34 (by decide) rfl),sf_ (afa rfl underlying34 rfl rfl ti31 (by decide) rfl),sf_ (ald rfl ti31 (by decide) rfl (nle rfl) rfl),hr_ (amv rfl),hr_ (amv rfl),sf_ (Qbj rfl),sf_ (afa rfl underlying140 rfl rfl ti42 (by decide) rfl),sf_ (afa rfl underlying42 rfl rfl ti40 (by decide) rfl),sf_ (ald rfl ti40 (by decide) rfl (nle rfl) rfl),hr_ (amv rfl),hr_ (aiq underlying40 Qik Qac hi18 hj19),hr_ (afd rfl underlying133 rfl rfl ti5 (by decide) rfl),hr_ (ald_ rfl ti5 (by decide) (nle rfl) rfl),hr_ (Qk8 hb39 (Qk9 rfl underlying209 Qqf (by decide) (by decide) rfl)),hr_ (ald rfl Qqf (by decide) rfl (nle rfl) rfl),hr_ (amv rfl),hr_ (amv rfl),hr_ (ald rfl ti63 (by decide) rfl (nle rfl) rfl),hr_ (Qav (first:=[]) (cap:=[]) (vs:=[.ref 0 7 0 0,I p0,(Qi4 x14)]) (σr:=[(Qhd p2 p3 p4 p5 p6 p7 p8),(Qgn p9),(Qij p10),(.own 1 (p11.map Qad))]) (σr':=[(Q3j p2 p3 p4 p5 p6 p7 x41),(Qgn p9),(.own 4 (x41.2.2.1.map Qa0)),(.own 1 (x41.2.2.2.map Qad))]) (res':=(.dat 4 (x41.1.map Qah))) [0,1,2,3] rfl Zgm (Qmi N p0 x14 p2 p3 p4 p5 p6 p7 p8 p9 p10 p11 _ hf40) rfl (Qbs (rnc (Qa1 rfl) (rnc (.plain _ nll) (rnc (.plain _ (NLt.agg _ (nlcc (nlcc nl0)))) rn0)))) (slc (Qas (rnc (pld Qag) (rnc (pld Qab) (rnc (Qc4 rfl) (rnc (Qc4 rfl) (rnc (Qc4 rfl) (rnc (pld Qam) (rnc (.plain _ nll) rn0)))))))) (slc (Qa9 Qai) (slc (Qa9 Qa3) (slc (Qa9 Qaf) Qau)))) (slc (Qas (rnc (pld Qag) (rnc (pld Qab) (rnc (Qc0 rfl) (rnc (Qc0 rfl) (rnc (Qc0 rfl) (rnc (pld Qam) (rnc (.plain _ nll) rn0)))))))) (slc (Qa9 Qai) (slc (Qa9 Qa3) (slc (Qa9 Qaf) Qau)))) (pld Qam) rfl rfl rfl),hr_ (aio rfl underlying31 ti45 (odt hi42a) (odt hi42b) (Nat.zero_add _)),hr_ (ast rfl ti45 (by rfl) (mgt Qak hg44) (nle rfl) (Qf0 Qak rfl)),tv⟩
        obtain rfl:=osi h
        exact⟨_,(mto (n:=43) (l':=[]) (own':=[(Q3j p2 p3 p4 p5 p6 p7 x41),(.own 1 (((p9.set p0.toNat x41.1):List (List Qaa)).map Qak)),(.own 4 (x41.2.2.1.map Qa0)),(.own 1 (x41.2.2.2.map Qad))]) [] [0,1,2,3] [(Q3j p2 p3 p4 p5 p6 p7 x41),(.own 1 ((p9.set p0.toNat x41.1:List (List Qaa)).map Qak)),(.own 4 (x41.2.2.1.map Qa0)),(.own 1 (x41.2.2.2.map Qad))] hφ0 pn (qb (lc (rnd Qag) (lc (rnd Qab) (lc (.rn (Qa2 rfl)) (lc (.rn (Qa2 rfl)) (lc (.rn (Qa2 rfl)) (lc (rnd Qam) (lc rwl ln))))))) (qc (spr Qai) (qc (spr Qa3) (qc (spr Qaf) qn))))),Ql3 (vs:=[]) tv rfl (NLt.tup _ nl0) (by kernel_rfl) (Qao (Qax (nlc (NLt.of0 (nld Qag _)) (nlc (NLt.of0 (nld Qab _)) (nlc (NLt.own _ _ _ _ (by decide)) (nlc (NLt.own _ _ _ _ (by decide)) (nlc (NLt.own _ _ _ _ (by decide)) (nlc (NLt.of0 (nld Qam _)) (nlc (NLt.of0 nll) nl0)))))))) (Qao (Qb0 Qai _) (Qao (Qb0 Qa3 _) (Qao (Qb0 Qaf _) Qbq))))⟩
       ·refine bfe h (fun hb45 h=>?_) fun hb45 h=>?_
        ·obtain⟨x47,hf46,h⟩:=bno h
         obtain⟨hi48,h⟩:=cko h
         obtain⟨hi48a,hi48b⟩:=Qdv hi48
         obtain⟨x49,hg50,h⟩:=bno h
         refine Qmy 0 (.own 7 [[(.dat 5 (p2.map Qaq)),(Qla p3),(.own 1 1 (0) p4),(.own 2 4 (0) p5),(.own 3 1 (0) p6),(Qta p7),I p8]]) [mv 0 (.ref 0 7 0 0),⟨[(.tmp 21,.ref 0 7 0 0)],[],.ref 0 7 0 0,[],false⟩,⟨[(.tmp 22,.ref 0 7 0 0)],[],.ref 0 7 0 2,[],false⟩,⟨[(.tmp 23,.ref 0 7 0 2)],[],.ref 0 7 0 2,[],false⟩,⟨[(.tmp 24,.ref 0 7 0 2)],[],(.own 1 1 (0) p4),[],false⟩,mv 1 (I p0),mv 0 (.ref 0 7 0 0),⟨[(.tmp 27,.ref 0 7 0 0)],[],.ref 0 7 0 0,[],false⟩,⟨[(.tmp 28,.ref 0 7 0 0)],[],.ref 0 7 0 0,[],false⟩,⟨[(.tmp 29,.ref 0 7 0 0)],[],.ref 0 7 0 1,[],false⟩,⟨[(.tmp 30,.ref 0 7 0 1)],[],(Qla p3),[],false⟩,mv 1 (I p0),rp [(.tmp 31,(Qla p3)),(.tmp 32,I p0)] (.dptr (Qac x16) 0),mv 33 (.dptr (Qac x16) 0),rp [(.tmp 34,(.dptr (Qac x16) 0))] (K .u8 x16.Kind),rb [(.tmp 7,.ref 5 7 0 0),(.tmp 35,(K .u8 x16.Kind))] [(5,Qnd)] (.ref 5 7 0 5),rb [(.tmp 36,.ref 5 7 0 5)] [(5,Qnd)] (.fn (.func 120) [] []),mv 0 (.ref 0 7 0 0),mv 1 (I p0),rb [(.tmp 6,.ref 4 4 0 0)] [(4,(Qr6 x14))] (Qi4 x14),⟨[(.tmp 37,(.fn (.func 120) [] [])),(.tmp 38,.ref 0 7 0 0),(.tmp 39,I p0),(.tmp 40,(Qi4 x14))],[(0,(Qhd p2 p3 p4 p5 p6 p7 p8)),(1,(Qgn p9)),(2,(Qij p10)),(3,(.own 1 (p11.map Qad)))],(.dat 4 (x47.1.map Qah)),[(0,(Qhd p2 p3 p4 p5 p6 p7 p8)),(1,(Qgn p9)),(2,(.own 4 (x47.2.map Qa0))),(3,(.own 1 (p11.map Qad)))],false⟩,rb [(.tmp 25,(.own 1 1 (0) p4)),(.tmp 26,I p0)] [(1,(Qgn p9))] (.ref 1 1 p0.toNat 0),⟨[(.tmp 42,(.ref 1 1 p0.toNat 0)),(.tmp 41,(.dat 4 (x47.1.map Qah)))],[(1,(Qgn p9))],.any,[(1,(.own 1 ((p9.set p0.toNat x47.1:List (List Qaa)).map Qak)))],false⟩] (SImp.box ⟨lrf,lrf,lrf,lrf,lrf,lrf,lrf,tv⟩) ⟨tv,tv,tv,tv,tv,tv,tv,tv,tv,tv,tv,tv,tv,tv,tv,tv,tv,tv,tv,tv,⟨(SImp.box ⟨lrf,lrf,lrf,lrf,lrf,lrf,lrf,tv⟩),tv,tv,tv,tv⟩,tv,⟨tv,tv⟩,tv⟩ ?_ ?_
         ·exact⟨hr_ (amv rfl),sf_ (Qbj rfl),sf_ (afa rfl underlying140 rfl rfl ti34 (by decide) rfl),sf_ (afa rfl underlying34 rfl rfl ti31 (by decide) rfl),sf_ (ald rfl ti31 (by decide) rfl (nle rfl) rfl),hr_ (amv rfl),hr_ (amv rfl),sf_ (Qbj rfl),sf_ (afa rfl underlying140 rfl rfl ti42 (by decide) rfl),sf_ (afa rfl underlying42 rfl rfl ti40 (by decide) rfl),sf_ (ald rfl ti40 (by decide) rfl (nle rfl) rfl),hr_ (amv rfl),hr_ (aiq underlying40 Qik Qac hi18 hj19),hr_ (afd rfl underlying133 rfl rfl ti5 (by decide) rfl),hr_ (ald_ rfl ti5 (by decide) (nle rfl) rfl),hr_ (Qk8 hb45 (Qk9 rfl underlying209 Qqf (by decide) (by decide) rfl)),hr_ (ald rfl Qqf (by decide) rfl (nle rfl) rfl),hr_ (amv rfl),hr_ (amv rfl),hr_ (ald rfl ti63 (by decide) rfl (nle rfl) rfl),hr_ (Qav (first:=[]) (cap:=[]) (vs:=[.ref 0 7 0 0,I p0,(Qi4 x14)]) (σr:=[(Qhd p2 p3 p4 p5 p6 p7 p8),(Qgn p9),(Qij p10),(.own 1 (p11.map Qad))]) (σr':=[(Qhd p2 p3 p4 p5 p6 p7 p8),(Qgn p9),(.own 4 (x47.2.map Qa0)),(.own 1 (p11.map Qad))]) (res':=(.dat 4 (x47.1.map Qah))) [0,1,2,3] rfl Zgl (Qn4 N p0 x14 p2 p3 p4 p5 p6 p7 p8 p9 p10 p11 _ hf46) rfl (Qbs (rnc (Qa1 rfl) (rnc (.plain _ nll) (rnc (.plain _ (NLt.agg _ (nlcc (nlcc nl0)))) rn0)))) (slc (Qas (rnc (pld Qag) (rnc (pld Qab) (rnc (Qc4 rfl) (rnc (Qc4 rfl) (rnc (Qc4 rfl) (rnc (pld Qam) (rnc (.plain _ nll) rn0)))))))) (slc (Qa9 Qai) (slc (Qa9 Qa3) (slc (Qa9 Qaf) Qau)))) (slc (Qas (rnc (pld Qag) (rnc (pld Qab) (rnc (Qc0 rfl) (rnc (Qc0 rfl) (rnc (Qc0 rfl) (rnc (pld Qam) (rnc (.plain _ nll) rn0)))))))) (slc (Qa9 Qai) (slc (Qa9 Qa3) (slc (Qa9 Qaf) Qau)))) (pld Qam) rfl rfl rfl),hr_ (aio rfl underlying31 ti45 (odt hi48a) (odt hi48b) (Nat.zero_add _)),hr_ (ast rfl ti45 (by rfl) (mgt Qak hg50) (nle rfl) (Qf0 Qak rfl)),tv⟩
         obtain rfl:=osi h
         exact⟨_,(mto (n:=43) (l':=[]) (own':=[(Qhd p2 p3 p4 p5 p6 p7 p8),(.own 1 (((p9.set p0.toNat x47.1):List (List Qaa)).map Qak)),(.own 4 (x47.2.map Qa0)),(.own 1 (p11.map Qad))]) [] [0,1,2,3] [(Qhd p2 p3 p4 p5 p6 p7 p8),(.own 1 ((p9.set p0.toNat x47.1:List (List Qaa)).map Qak)),(.own 4 (x47.2.map Qa0)),(.own 1 (p11.map Qad))] hφ0 pn (qb (lc (rnd Qag) (lc (rnd Qab) (lc (.rn (Qa2 rfl)) (lc (.rn (Qa2 rfl)) (lc (.rn (Qa2 rfl)) (lc (rnd Qam) (lc rwl ln))))))) (qc (spr Qai) (qc (spr Qa3) (qc (spr Qaf) qn))))),Ql3 (vs:=[]) tv rfl (NLt.tup _ nl0) (by kernel_rfl) (Qao (Qax (nlc (NLt.of0 (nld Qag _)) (nlc (NLt.of0 (nld Qab _)) (nlc (NLt.own _ _ _ _ (by decide)) (nlc (NLt.own _ _ _ _ (by decide)) (nlc (NLt.own _ _ _ _ (by decide)) (nlc (NLt.of0 (nld Qam _)) (nlc (NLt.of0 nll) nl0)))))))) (Qao (Qb0 Qai _) (Qao (Qb0 Qa3 _) (Qao (Qb0 Qaf _) Qbq))))⟩
        ·refine bfe h (fun hb51 h=>?_) fun hb51 h=>?_
         ·obtain⟨x53,hf52,h⟩:=bno h
          obtain⟨hi54,h⟩:=cko h
          obtain⟨hi54a,hi54b⟩:=Qdv hi54
          obtain⟨x55,hg56,h⟩:=bno h
          refine Qmy 0 (.own 7 [[(.dat 5 (p2.map Qaq)),(Qla p3),(.own 1 1 (0) p4),(.own 2 4 (0) p5),(.own 3 1 (0) p6),(Qta p7),I p8]]) [mv 0 (.ref 0 7 0 0),⟨[(.tmp 21,.ref 0 7 0 0)],[],.ref 0 7 0 0,[],false⟩,⟨[(.tmp 22,.ref 0 7 0 0)],[],.ref 0 7 0 2,[],false⟩,⟨[(.tmp 23,.ref 0 7 0 2)],[],.ref 0 7 0 2,[],false⟩,⟨[(.tmp 24,.ref 0 7 0 2)],[],(.own 1 1 (0) p4),[],false⟩,mv 1 (I p0),mv 0 (.ref 0 7 0 0),⟨[(.tmp 27,.ref 0 7 0 0)],[],.ref 0 7 0 0,[],false⟩,⟨[(.tmp 28,.ref 0 7 0 0)],[],.ref 0 7 0 0,[],false⟩,⟨[(.tmp 29,.ref 0 7 0 0)],[],.ref 0 7 0 1,[],false⟩,⟨[(.tmp 30,.ref 0 7 0 1)],[],(Qla p3),[],false⟩,mv 1 (I p0),rp [(.tmp 31,(Qla p3)),(.tmp 32,I p0)] (.dptr (Qac x16) 0),mv 33 (.dptr (Qac x16) 0),rp [(.tmp 34,(.dptr (Qac x16) 0))] (K .u8 x16.Kind),rb [(.tmp 7,.ref 5 7 0 0),(.tmp 35,(K .u8 x16.Kind))] [(5,Qnd)] (.ref 5 7 0 6),rb [(.tmp 36,.ref 5 7 0 6)] [(5,Qnd)] (.fn (.func 117) [] []),mv 0 (.ref 0 7 0 0),mv 1 (I p0),rb [(.tmp 6,.ref 4 4 0 0)] [(4,(Qr6 x14))] (Qi4 x14),⟨[(.tmp 37,(.fn (.func 117) [] [])),(.tmp 38,.ref 0 7 0 0),(.tmp 39,I p0),(.tmp 40,(Qi4 x14))],[(0,(Qhd p2 p3 p4 p5 p6 p7 p8)),(1,(Qgn p9)),(2,(Qij p10)),(3,(.own 1 (p11.map Qad)))],(.dat 4 (x53.map Qah)),[(0,(Qhd p2 p3 p4 p5 p6 p7 p8)),(1,(Qgn p9)),(2,(Qij p10)),(3,(.own 1 (p11.map Qad)))],false⟩,rb [(.tmp 25,(.own 1 1 (0) p4)),(.tmp 26,I p0)] [(1,(Qgn p9))] (.ref 1 1 p0.toNat 0),⟨[(.tmp 42,(.ref 1 1 p0.toNat 0)),(.tmp 41,(.dat 4 (x53.map Qah)))],[(1,(Qgn p9))],.any,[(1,(.own 1 ((p9.set p0.toNat x53:List (List Qaa)).map Qak)))],false⟩] (SImp.box ⟨lrf,lrf,lrf,lrf,lrf,lrf,lrf,tv⟩) ⟨tv,tv,tv,tv,tv,tv,tv,tv,tv,tv,tv,tv,tv,tv,tv,tv,tv,tv,tv,tv,⟨(SImp.box ⟨lrf,lrf,lrf,lrf,lrf,lrf,lrf,tv⟩),tv,tv,tv,tv⟩,tv,⟨tv,tv⟩,tv⟩ ?_ ?_
          ·exact⟨hr_ (amv rfl),sf_ (Qbj rfl),sf_ (afa rfl underlying140 rfl rfl ti34 (by decide) rfl),sf_ (afa rfl underlying34 rfl rfl ti31 (by decide) rfl),sf_ (ald rfl ti31 (by decide) rfl (nle rfl) rfl),hr_ (amv rfl),hr_ (amv rfl),sf_ (Qbj rfl),sf_ (afa rfl underlying140 rfl rfl ti42 (by decide) rfl),sf_ (afa rfl underlying42 rfl rfl ti40 (by decide) rfl),sf_ (ald rfl ti40 (by decide) rfl (nle rfl) rfl),hr_ (amv rfl),hr_ (aiq underlying40 Qik Qac hi18 hj19),hr_ (afd rfl underlying133 rfl rfl ti5 (by decide) rfl),hr_ (ald_ rfl ti5 (by decide) (nle rfl) rfl),hr_ (Qk8 hb51 (Qk9 rfl underlying209 Qqf (by decide) (by decide) rfl)),hr_ (ald rfl Qqf (by decide) rfl (nle rfl) rfl),hr_ (amv rfl),hr_ (amv rfl),hr_ (ald rfl ti63 (by decide) rfl (nle rfl) rfl),hr_ (Qav (first:=[]) (cap:=[]) (vs:=[.ref 0 7 0 0,I p0,(Qi4 x14)]) (σr:=[(Qhd p2 p3 p4 p5 p6 p7 p8),(Qgn p9),(Qij p10),(.own 1 (p11.map Qad))]) (σr':=[(Qhd p2 p3 p4 p5 p6 p7 p8),(Qgn p9),(Qij p10),(.own 1 (p11.map Qad))]) (res':=(.dat 4 (x53.map Qah))) [0,1,2,3] rfl Qyh (Qii N p0 x14 p2 p3 p4 p5 p6 p7 p8 p9 p10 p11 _ hf52) rfl (Qbs (rnc (Qa1 rfl) (rnc (.plain _ nll) (rnc (.plain _ (NLt.agg _ (nlcc (nlcc nl0)))) rn0)))) (slc (Qas (rnc (pld Qag) (rnc (pld Qab) (rnc (Qc4 rfl) (rnc (Qc4 rfl) (rnc (Qc4 rfl) (rnc (pld Qam) (rnc (.plain _ nll) rn0)))))))) (slc (Qa9 Qai) (slc (Qa9 Qa3) (slc (Qa9 Qaf) Qau)))) (slc (Qas (rnc (pld Qag) (rnc (pld Qab) (rnc (Qc0 rfl) (rnc (Qc0 rfl) (rnc (Qc0 rfl) (rnc (pld Qam) (rnc (.plain _ nll) rn0)))))))) (slc (Qa9 Qai) (slc (Qa9 Qa3) (slc (Qa9 Qaf) Qau)))) (pld Qam) rfl rfl rfl),hr_ (aio rfl underlying31 ti45 (odt hi54a) (odt hi54b) (Nat.zero_add _)),hr_ (ast rfl ti45 (by rfl) (mgt Qak hg56) (nle rfl) (Qf0 Qak rfl)),tv⟩
          obtain rfl:=osi h
          exact⟨_,(mto (n:=43) (l':=[]) (own':=[(Qhd p2 p3 p4 p5 p6 p7 p8),(.own 1 (((p9.set p0.toNat x53):List (List Qaa)).map Qak)),(Qij p10),(.own 1 (p11.map Qad))]) [] [0,1,2,3] [(Qhd p2 p3 p4 p5 p6 p7 p8),(.own 1 ((p9.set p0.toNat x53:List (List Qaa)).map Qak)),(Qij p10),(.own 1 (p11.map Qad))] hφ0 pn (qb (lc (rnd Qag) (lc (rnd Qab) (lc (.rn (Qa2 rfl)) (lc (.rn (Qa2 rfl)) (lc (.rn (Qa2 rfl)) (lc (rnd Qam) (lc rwl ln))))))) (qc (spr Qai) (qc (spr Qa3) (qc (spr Qaf) qn))))),Ql3 (vs:=[]) tv rfl (NLt.tup _ nl0) (by kernel_rfl) (Qao (Qax (nlc (NLt.of0 (nld Qag _)) (nlc (NLt.of0 (nld Qab _)) (nlc (NLt.own _ _ _ _ (by decide)) (nlc (NLt.own _ _ _ _ (by decide)) (nlc (NLt.own _ _ _ _ (by decide)) (nlc (NLt.of0 (nld Qam _)) (nlc (NLt.of0 nll) nl0)))))))) (Qao (Qb0 Qai _) (Qao (Qb0 Qa3 _) (Qao (Qb0 Qaf _) Qbq))))⟩
         ·cases h
  ·skip
   refine wxz ?_
   refine bfe h (fun hc57 h=>?_) fun hc57 h=>?_
   ·refine wft hc57<|Zg7 3 [mv 1 (I p0),rp [(.tmp 17,I p0)] (.agg [I p0]),rp [(.tmp 18,(.agg [I p0]))] (.lit (.iface 182 (.agg #[(.int .i64 p0)]))),⟨[(.tmp 19,(.lit (.iface 182 (.agg #[(.int .i64 p0)]))))],[],.any,[],false⟩] (by exact⟨by kernel_rfl,by kernel_rfl⟩) rfl (by kernel_rfl) rfl (Q14 rfl) (⟨fun _ _=>amv rfl,fun _ _=>Qa5 (vs:=[I p0]) rfl Zp9 Zod rfl (by rfl) rfl,fun _ _=>awk (rd':=[(.tmp 18,.lit (.agg #[(.int .i64 p0)]))]) ⟨rfl,(Less.lits [(.int .i64 p0)]),tv⟩ (Q2y rfl underlying182),fun _ h=>absurd rfl h,tv⟩) ?_
    obtain rfl:=osi h
    exact rfl
   ·exact wfn hc57<|Qap<|thn<|⟨(),h,(mto (n:=43) [(0,.ref 0 7 0 0),(1,I p0),(6,.ref 7 4 0 0)] [0,1,2,3,7] [(Qhd p2 p3 p4 p5 p6 p7 p8),(Qgn p9),(Qij p10),(.own 1 (p11.map Qad)),(Qr6 x14)] hφ0 (prr (pw (prr pn))) (qb (lc (rnd Qag) (lc (rnd Qab) (lc (.rn (Qa2 rfl)) (lc (.rn (Qa2 rfl)) (lc (.rn (Qa2 rfl)) (lc (rnd Qam) (lc rwl ln))))))) (qc (spr Qai) (qc (spr Qa3) (qc (spr Qaf) (qb (lcc (lcc ln)) qn))))))⟩
theorem Qmk (N:Nat) (p0 p1:Int) (p2:List GRow) (p3:List Qae) (p4 p5 p6:Nat) (p7:List Qaa) (p8:Int) (p9:List (List Qaa)) (p10:List Qbg) (p11:List Int) (r:(Int×(List (List Qaa))×(List Qbg)×(List Int))) (h:Qc2 N p0 p1 p2 p3 p4 p5 p6 p7 p8 p9 p10 p11=some (.inl r)):Spec prog 97 [.ref 0 7 0 0,I p0,I p1] [(Qhd p2 p3 p4 p5 p6 p7 p8),(Qgn p9),(Qij p10),(.own 1 (p11.map Qad))] (.tup []) [(.own 7 [[(.dat 5 (p2.map Qaq)),(.dat 7 (p3.map Qac)),(.own 1 1 (0) p4),(.own 2 4 (0) p5),(.own 3 1 (0) p6),(.dat 4 (p7.map Qah)),I r.1]]),(.own 1 (r.2.1.map Qak)),(.own 4 (r.2.2.1.map Qa0)),(.own 1 (r.2.2.2.map Qad))]:=Qjf N p0 p1 p2 p3 p4 p5 p6 p7 p8 p9 p10 p11 _ h
theorem Qmj (N:Nat) (p0 p1:Int) (p2:List GRow) (p3:List Qae) (p4 p5 p6:Nat) (p7:List Qaa) (p8:Int) (p9:List (List Qaa)) (p10:List Qbg) (p11:List Int) (r:Int) (h:Qc2 N p0 p1 p2 p3 p4 p5 p6 p7 p8 p9 p10 p11=some (.inr r)):Zhi prog 97 [.ref 0 7 0 0,I p0,I p1] [(Qhd p2 p3 p4 p5 p6 p7 p8),(Qgn p9),(Qij p10),(.own 1 (p11.map Qad))] (.iface 182 (.agg #[(.int .i64 r)])):=Qjf N p0 p1 p2 p3 p4 p5 p6 p7 p8 p9 p10 p11 _ h
def Zmx:Slot:=.own 1 [[(.lit (.pointer none))]]
theorem Qqr (v0:Int):DPan prog 96 [1,1] (.iface 182 (.agg #[(.int .i64 v0)])) [[(.lit (.pointer none))],[(I v0)]]:=by
  refine Qse (t:=5) (args:=[.ref 0 1 0 0,.ref 1 1 0 0]) func96 rfl (fun _ _=>rfl) (by kernel_rfl) Zkp 2 (nle rfl) (fun X φ0 w0 hφ0=>?_)
  refine Qbw<|Qar ?_
  refine wx tbk [(0,rp [(.tmp 5,(.lit (.iface 182 (.agg #[(.int .i64 v0)])))),(.const .nilIface,(.lit .nilIface))] (B false))] ⟨Q2x rfl underlying20,tv⟩<|wfa ?_
  exact wx tbk [(0,rp [(.tmp 5,(.lit (.iface 182 (.agg #[(.int .i64 v0)]))))] (.tup [(.agg [I v0]),B true]))] ⟨Q2t (r:=.lit (.tuple #[(.agg #[(.int .i64 v0)]),(.bool true)])) (Less.trans Zbo (Less.tup ⟨Zbp (l:=[(.int .i64 v0)]),lrf,tv⟩)) (Qyp rfl underlying182),tv⟩<|wtr<|wxz<|wxe1<|bln<|⟨_,(mto (n:=13) (l':=[]) (own':=[Zmx,(.own 1 [[I v0]])]) [] [0,1] [Zmx,(.own 1 [[I v0]])] hφ0 pn (qb (lc rwl ln) (qb (lc rwl ln) qn))),Qc1 (vs:=[]) tv rfl (NLt.tup _ nl0) (by kernel_rfl) (Qao (Qax (nlt0 (nlc nll nl0))) (Qao (Qax (nlt0 (nlc nll nl0))) Qbq))⟩
end
section
set_option maxRecDepth 100000
set_option maxHeartbeats 4000000
open Go.RowKit
def Qdz (N:Nat) (p0:GNet) (p1:List Int) (p2:List Qaa) (k16:(List (List Qaa))×(List Qbg)×(List Int)×Int→Option (Int⊕(Int×Int×(List (List Qaa))×(List Qbg)×(List Int)))):Nat→Int→(List (List Qaa))→(List Qbg)→(List Int)→Int→Option (Int⊕(Int×Int×(List (List Qaa))×(List Qbg)×(List Int)))
  |0,_,_,_,_,_=>none
  |n27+1,y17,y18,y19,y20,y21=>
    bif (decide (y17<(p0.Elements.length:Int))) then
     (getI p0.Elements y17).bind fun x29=>
     (getI p1 y17).bind fun x33=>
     (Qgg N x29 x33).bind fun x38=>
     (Qc2 N y17 x38 p0.Table p0.Elements ((p0.Elements.length:Int).toNat) ((p0.Elements.length:Int).toNat) p1.length p2 y21 y18 y19 y20).bind (
      Sum.elim (fun x41=>
        Qdz N p0 p1 p2 k16 n27 (w64 (y17+1)) x41.2.1 x41.2.2.1 x41.2.2.2 x41.1)
      (fun x42=>
        some (.inl x42)))
    else
     k16 (y18,y19,y20,y21)
def Qf3 (N:Nat) (p0:GNet) (p1:List Int) (p2:List Qaa):Option (Int⊕(Int×Int×(List (List Qaa))×(List Qbg)×(List Int))):=
  chk (decide (0≤(p0.Elements.length:Int))&&decide (24*(p0.Elements.length:Int)≤281474976710656)&&decide ((p0.Elements.length:Int)≤9223372036854775807))<|
  chk (decide (0≤(p0.Elements.length:Int))&&decide (32*(p0.Elements.length:Int)≤281474976710656)&&decide ((p0.Elements.length:Int)≤9223372036854775807))<|
  (Qfz N p1).bind fun _=>
  Qbl (fun ⟨y12,y13,y14,y15⟩=>
    some (.inr ((-1),y15,y12,y13,y14))) fun k16:(List (List Qaa))×(List Qbg)×(List Int)×Int→Option (Int⊕(Int×Int×(List (List Qaa))×(List Qbg)×(List Int)))=>
  Qdz N p0 p1 p2 k16 N 0 (List.replicate (p0.Elements.length:Int).toNat ([])) (List.replicate (p0.Elements.length:Int).toNat (⟨0,0,0,0⟩:Qbg)) p1 0
def Q51 (p0:GNet):AV:=.dat 5 (p0.Table.map Qaq)
def Qvn (p0:GNet):AV:=.dat 7 (p0.Elements.map Qac)
def Zdp (p0:GNet):AV:=.agg [(Q51 p0),(Qvn p0)]
def Qyv (p2:List Qaa):AV:=.dat 4 (p2.map Qah)
def Zmu (p0:GNet):Slot:=.own 1 ((List.replicate (p0.Elements.length:Int).toNat ([]):List (List Qaa)).map Qak)
def Zmt (p0:GNet):Slot:=.own 4 ((List.replicate (p0.Elements.length:Int).toNat (⟨0,0,0,0⟩:Qbg):List Qbg).map Qa0)
def Zpj (p0:GNet) (p1:List Int):AV:=.agg [(.own 3 1 (0) ((p0.Elements.length:Int).toNat)),(.own 4 4 (0) ((p0.Elements.length:Int).toNat)),(.own 5 1 (0) p1.length)]
def Q50 (p0:GNet):Slot:=.own 2 [[(Q51 p0),(Qvn p0)]]
def Qr3:Slot:=.own 1 [[(.ref 6 7 (0) 0)]]
def Q8l (p0:GNet) (p1:List Int) (p2:List Qaa) (y15:Int):Slot:=.own 7 [[(Q51 p0),(Qvn p0),(.own 3 1 (0) ((p0.Elements.length:Int).toNat)),(.own 4 4 (0) ((p0.Elements.length:Int).toNat)),(.own 5 1 (0) p1.length),(Qyv p2),(I y15)]]
def Zhs (p0:GNet) (p1:List Int) (p2:List Qaa):Slot:=.own 7 [[(Q51 p0),(Qvn p0),(.own 3 1 (0) ((p0.Elements.length:Int).toNat)),(.own 4 4 (0) ((p0.Elements.length:Int).toNat)),(.own 5 1 (0) p1.length),(Qyv p2),(I (0))]]
def Qs8 (y18:List (List Qaa)):Slot:=.own 1 (y18.map Qak)
def Qs7 (y19:List Qbg):Slot:=.own 4 (y19.map Qa0)
def Qs9 (p0:GNet) (p1:List Int) (p2:List Qaa) (y21:Int):Slot:=.own 7 [[(Q51 p0),(Qvn p0),(.own 3 1 (0) ((p0.Elements.length:Int).toNat)),(.own 4 4 (0) ((p0.Elements.length:Int).toNat)),(.own 5 1 (0) p1.length),(Qyv p2),(I y21)]]
def Qw7 (x29:Qae):AV:=.agg [(K .u8 x29.Kind),(.dat 2 (x29.From.map Qay)),(I x29.Level),(I x29.Amount),(I x29.Wide),(I x29.Narrow),(.dat 1 (x29.Weights.map Qad))]
def Q8m (p0:GNet) (p1:List Int) (p2:List Qaa) (x41:(Int×(List (List Qaa))×(List Qbg)×(List Int))):Slot:=.own 7 [[(Q51 p0),(Qvn p0),(.own 3 1 (0) (((p0.Elements.length:Int).toNat))),(.own 4 4 (0) (((p0.Elements.length:Int).toNat))),(.own 5 1 (0) p1.length),(Qyv p2),(I x41.1)]]
def Zmv:Slot:=.own 1 [[(.lit (.pointer none))]]
theorem Qmn (N:Nat) (p0:GNet) (p1:List Int) (p2:List Qaa) (r:(Int⊕(Int×Int×(List (List Qaa))×(List Qbg)×(List Int)))) (h:Qf3 N p0 p1 p2=some r):Spec prog 58 [(Zdp p0),(.dat 1 (p1.map Qad)),(Qyv p2)] [] (((Sum.elim (fun r=>(.tup [(.lit (.pointer none)),(I r)])) (fun r=>(.tup [(.ref 2 7 (0) 0),(I r.1)]))):(Int⊕(Int×Int×(List (List Qaa))×(List Qbg)×(List Int)))→AV) r) (((Sum.elim (fun r=>[(.own 1 [[(.lit (.pointer none))]]),(.own 1 [[(I r)]])]) (fun r=>[(.own 1 [[(.ref 2 7 (0) 0)]]),(.own 1 [[(I r.1)]]),(.own 7 [[(.dat 5 (p0.Table.map Qaq)),(.dat 7 (p0.Elements.map Qac)),(.own 3 1 (0) ((p0.Elements.length:Int).toNat)),(.own 4 4 (0) ((p0.Elements.length:Int).toNat)),(.own 5 1 (0) p1.length),(.dat 4 (p2.map Qah)),(I r.2.1)]]),(.own 1 (r.2.2.1.map Qak)),(.own 4 (r.2.2.2.1.map Qa0)),(.own 1 (r.2.2.2.2.map Qad))])):(Int⊕(Int×Int×(List (List Qaa))×(List Qbg)×(List Int)))→List Slot) r):=by
  refine Qzf func58 rfl (fun X φ0 w0 hφ0 hd0=>?_)
  unfold Qf3 at h
  refine Q5t (k:=6) hd0 (fun n hn=>hφ0 n (Nat.le_trans (nle rfl) hn))<|wxz1<|thn ?_
  refine Q5t (k:=6) hd0 (fun n hn=>hφ0 n (Nat.le_trans (nle rfl) hn)) ?_
  obtain⟨hm8,h⟩:=cko h
  obtain⟨hm9,h⟩:=cko h
  obtain⟨x11,hf10,h⟩:=bno h
  refine wy1 tbk [(3,rp _ _),(4,⟨[(.tmp 13,(I ((p0.Elements.length:Int)))),(.tmp 13,(I ((p0.Elements.length:Int))))],[(3,.unused)],(.own 3 1 (0) ((p0.Elements.length:Int).toNat)),[(3,(Zmu p0))],false⟩),(7,rp _ _),(8,⟨[(.tmp 17,(I ((p0.Elements.length:Int)))),(.tmp 17,(I ((p0.Elements.length:Int))))],[(4,.unused)],(.own 4 4 (0) ((p0.Elements.length:Int).toNat)),[(4,(Zmt p0))],false⟩),(10,⟨_,_,_,_,false⟩),(11,rp _ _),(13,rp _ _)] ⟨alq 7 Qac p0.Elements underlying40,Zc9 (c:=Qak) (v:=([])) (z:=[nilS]) (k:=(p0.Elements.length:Int).toNat) ⟨Less.nil,tv⟩ (Qor rfl underlying31 te45 tz45 rfl (Q22 hm8) rfl (Q21 hm8) (Q5x hm8) rfl),alq 7 Qac p0.Elements underlying40,Qor rfl underlying32 te82 tz82 rfl (Q22 hm9) rfl (Q21 hm9) (Q5x hm9) (Q12 Qa0 rfl),Qav (first:=[]) (cap:=[]) (vs:=[(.dat 1 (p1.map Qad))]) (σr:=[]) (σr':=[(.own 1 (p1.map Qad))]) (res':=(.own 5 1 (0) p1.length)) [5] rfl Q2g (Qlu N p1 _ hf10) rfl (Qbs (rnc (pld Qaf) rn0)) Qau (slc (Qa9 Qaf) Qau) (Qc0 rfl) rfl rfl rfl,Qa5 (vs:=[(.own 3 1 (0) ((p0.Elements.length:Int).toNat)),(.own 4 4 (0) ((p0.Elements.length:Int).toNat)),(.own 5 1 (0) p1.length)]) rfl ts34 tz34 rfl (by rfl) rfl,Qa5 (vs:=[(Zdp p0),(Zpj p0 p1),(Qyv p2)]) rfl Zqa Zoe rfl (by rfl) rfl,tv⟩<|thn ?_
  refine Q7b (k:=6) [(1,1),(2,1)] hd0 (fun n hn=>hφ0 n (Nat.le_trans (nle rfl) hn)) Zlb rfl rfl (by kernel_rfl) (by kernel_rfl) (by kernel_rfl) Qrs (fun φ1 w1 hφ1 hd1=>?_)
  obtain⟨k16,hk_k16,h⟩:=jko h
  refine wjn (τ:=(List (List Qaa))×(List Qbg)×(List Int)×Int) (fun t=>k16 t=some r) (fun ⟨y12,y13,y14,y15⟩=>⟨mk 45 [(6,.ref 1 1 0 0),(7,.ref 2 1 0 0)],[(Q50 p0),Qr3,(.own 1 [[I 0]]),(.own 1 (y12.map Qak)),(.own 4 (y13.map Qa0)),(.own 1 (y14.map Qad)),(Q8l p0 p1 p2 y15)]⟩) (fun t h=>?_) ?_
  ·subst hk_k16
   obtain⟨y12,y13,y14,y15⟩:=t
   refine wxz<|Qaj ?_
   obtain rfl:=osi h
   exact⟨_,(mto (n:=45) (l':=[(6,.ref 0 1 0 0),(7,.ref 1 1 0 0)]) (own':=[(.own 1 [[.ref 2 7 0 0]]),(.own 1 [[(I ((-1)))]]),(Q8l p0 p1 p2 y15),(.own 1 (y12.map Qak)),(.own 4 (y13.map Qa0)),(.own 1 (y14.map Qad))]) [(6,.ref 1 1 0 0),(7,.ref 2 1 0 0)] [1,2,6,3,4,5] [Qr3,(.own 1 [[(I ((-1)))]]),(Q8l p0 p1 p2 y15),(.own 1 (y12.map Qak)),(.own 4 (y13.map Qa0)),(.own 1 (y14.map Qad))] hφ0 (prr (prr pn)) (qb (lc (.rn (rqr rfl)) ln) (qb (lc rwl ln) (qb (lc (rnd Qag) (lc (rnd Qab) (lc (.rn (Qa2 rfl)) (lc (.rn (Qa2 rfl)) (lc (.rn (Qa2 rfl)) (lc (rnd Qam) (lc rwl ln))))))) (qc (spr Qai) (qc (spr Qa3) (qc (spr Qaf) qn))))))),Ql3 (vs:=[.ref 2 7 0 0,I (-1)]) ⟨Qbu (n:=0) (m:=1) (j:=0) (i:=0) (xs:=[[.ref 2 7 0 0]]) (by kernel_rfl) (by kernel_rfl) Qot (by decide) rfl (nle rfl) rfl,Qbu (n:=1) (m:=1) (j:=0) (i:=0) (xs:=[[I (-1)]]) (by kernel_rfl) (by kernel_rfl) ti3 (by decide) rfl (nle rfl) rfl,tv⟩ rfl (NLt.tup _ (nlc (NLt.ref _ _ _ _ (by decide)) (nlc (NLt.of0 nll) nl0))) (by kernel_rfl) (Qao (Qax (nlc (NLt.ref _ _ _ _ (by decide)) nl0)) (Qao (Qax (nlc (NLt.of0 nll) nl0)) (Qao (Qax (nlc (NLt.of0 (nld Qag _)) (nlc (NLt.of0 (nld Qab _)) (nlc (NLt.own _ _ _ _ (by decide)) (nlc (NLt.own _ _ _ _ (by decide)) (nlc (NLt.own _ _ _ _ (by decide)) (nlc (NLt.of0 (nld Qam _)) (nlc (NLt.of0 nll) nl0)))))))) (Qao (Qb0 Qai _) (Qao (Qb0 Qa3 _) (Qao (Qb0 Qaf _) Qbq))))))⟩
  ·skip
   refine wx tbk [(2,rp _ _)] ⟨alq 7 Qac p0.Elements underlying40,tv⟩<|Qar ?_
   refine wmr (mto (n:=45) (l':=[(1,(.dat 1 (p1.map Qad))),(6,.ref 1 1 0 0),(7,.ref 2 1 0 0),(27,(Qvn p0)),(28,(I ((p0.Elements.length:Int)))),(29,I 0)]) (own':=[(Q50 p0),Qr3,(.own 1 [[I 0]]),(.own 1 (((List.replicate (p0.Elements.length:Int).toNat ([])):List (List Qaa)).map Qak)),(.own 4 (((List.replicate (p0.Elements.length:Int).toNat (⟨0,0,0,0⟩:Qbg)):List Qbg).map Qa0)),(.own 1 (p1.map Qad)),(Zhs p0 p1 p2)]) [(1,(.dat 1 (p1.map Qad))),(6,.ref 1 1 0 0),(7,.ref 2 1 0 0),(27,(Qvn p0)),(28,(I ((p0.Elements.length:Int)))),(29,I 0)] [0,1,2,3,4,5,6] [(Q50 p0),Qr3,(.own 1 [[I 0]]),(Zmu p0),(Zmt p0),(.own 1 (p1.map Qad)),(Zhs p0 p1 p2)] hφ1 (pc (rnd Qaf) (prr (prr (pc (rnd Qab) (pw (pw pn)))))) (qb (lc (rnd Qag) (lc (rnd Qab) ln)) (qb (lc (.rn (rqr rfl)) ln) (qb (lc rwl ln) (qc (spr Qai) (qc (spr Qa3) (qc (spr Qaf) (qb (lc (rnd Qag) (lc (rnd Qab) (lc (.rn (Qa2 rfl)) (lc (.rn (Qa2 rfl)) (lc (.rn (Qa2 rfl)) (lc (rnd Qam) (lc rwl ln))))))) qn)))))))) ?_
   refine Qbt (τ:=Int×(List (List Qaa))×(List Qbg)×(List Int)×Int) (fun n t=>Qdz N p0 p1 p2 k16 n t.1 t.2.1 t.2.2.1 t.2.2.2.1 t.2.2.2.2=some r) (fun ⟨y17,y18,y19,y20,y21⟩=>⟨mk 45 [(1,(.dat 1 (p1.map Qad))),(6,.ref 1 1 0 0),(7,.ref 2 1 0 0),(27,(Qvn p0)),(28,(I ((p0.Elements.length:Int)))),(29,I y17)],[(Q50 p0),Qr3,(.own 1 [[I 0]]),(Qs8 y18),(Qs7 y19),(.own 1 (y20.map Qad)),(Qs9 p0 p1 p2 y21)]⟩) (fun t h=>by rw[Qdz] at h;cases h) (fun n27 ih t h=>?_) N (0,List.replicate (p0.Elements.length:Int).toNat ([]),List.replicate (p0.Elements.length:Int).toNat (⟨0,0,0,0⟩:Qbg),p1,0) h
   obtain⟨y17,y18,y19,y20,y21⟩:=t
   rw[Qdz] at h
   skip
   refine wxz<|wsq ?_
   refine bfe h (fun hc28 h=>?_) fun hc28 h=>?_
   ·refine wft hc28<|Qap<|thn<|wsq<|Qar ?_
    obtain⟨x29,hg30,h⟩:=bno h
    obtain⟨hi31,hj32⟩:=gsm hg30
    refine wx tbk [(1,rp _ _)] ⟨aiq underlying40 Qik Qac hi31 hj32,tv⟩ ?_
    obtain⟨x33,hg34,h⟩:=bno h
    obtain⟨hi35,hj36⟩:=gsm hg34
    obtain⟨x38,hf37,h⟩:=bno h
    obtain⟨x40,hf39,h⟩:=bno h
    rcases x40 with x41 |x42
    ·replace h:=Zkf h
     refine wy1 tbk [(5,rp _ _),(7,rp _ _),(8,⟨_,_,_,_,false⟩)] ⟨aiq underlying27 ti3 Qad hi35 hj36,apv Zcc (Qjs N x29 x33 _ hf37) (nlc (NLt.agg _ (nlc nll (nlc (nld Qba _) (nlcc (nlcc (nlc (nld Qaf _) nl0)))))) (nlc nll nl0)) nll,Qav (first:=[]) (cap:=[]) (vs:=[.ref 6 7 0 0,I y17,I x38]) (σr:=[(Qs9 p0 p1 p2 y21),(Qs8 y18),(Qs7 y19),(.own 1 (y20.map Qad))]) (σr':=[(Q8m p0 p1 p2 x41),(.own 1 (x41.2.1.map Qak)),(.own 4 (x41.2.2.1.map Qa0)),(.own 1 (x41.2.2.2.map Qad))]) (res':=(.tup [])) [6,3,4,5] rfl Zb6 (Qmk N y17 x38 p0.Table p0.Elements ((p0.Elements.length:Int).toNat) ((p0.Elements.length:Int).toNat) p1.length p2 y21 y18 y19 y20 _ hf39) rfl (Qbs (rnc (Qa1 rfl) (rncc rn0))) (slc (Qas (rnc (pld Qag) (rnc (pld Qab) (rnc (Qc4 rfl) (rnc (Qc4 rfl) (rnc (Qc4 rfl) (rnc (pld Qam) (rnc (.plain _ nll) rn0)))))))) (slc (Qa9 Qai) (slc (Qa9 Qa3) (slc (Qa9 Qaf) Qau)))) (slc (Qas (rnc (pld Qag) (rnc (pld Qab) (rnc (Qc0 rfl) (rnc (Qc0 rfl) (rnc (Qc0 rfl) (rnc (pld Qam) (rnc (.plain _ nll) rn0)))))))) (slc (Qa9 Qai) (slc (Qa9 Qa3) (slc (Qa9 Qaf) Qau)))) (.plain _ (NLt.tup _ nl0)) rfl rfl rfl,tv⟩<|bln<|thn<|wxz1<|thn ?_
     exact arm (mto (n:=45) [(1,(.dat 1 (p1.map Qad))),(6,.ref 1 1 0 0),(7,.ref 2 1 0 0),(27,(Qvn p0)),(28,(I ((p0.Elements.length:Int)))),(29,(I (w64 (y17+1))))] [0,1,2,3,4,5,6] [(Q50 p0),Qr3,(.own 1 [[I 0]]),(.own 1 (x41.2.1.map Qak)),(.own 4 (x41.2.2.1.map Qa0)),(.own 1 (x41.2.2.2.map Qad)),(Q8m p0 p1 p2 x41)] hφ1 (pc (rnd Qaf) (prr (prr (pc (rnd Qab) (pw (pw pn)))))) (qb (lc (rnd Qag) (lc (rnd Qab) ln)) (qb (lc (.rn (rqr rfl)) ln) (qb (lc rwl ln) (qc (spr Qai) (qc (spr Qa3) (qc (spr Qaf) (qb (lc (rnd Qag) (lc (rnd Qab) (lc (.rn (Qa2 rfl)) (lc (.rn (Qa2 rfl)) (lc (.rn (Qa2 rfl)) (lc (rnd Qam) (lc rwl ln))))))) qn)))))))) (ih (w64 (y17+1),x41.2.1,x41.2.2.1,x41.2.2.2,x41.1) h)
    ·replace h:=Zke h
     refine Zc2 8 [rb [(.tmp 6,.ref 1 1 0 0)] [(1,Qr3)] (.ref 6 7 0 0),mv 8 (I y17),rb [(.tmp 9,.ref 7 7 0 0)] [(7,(.own 7 [[(K .u8 x29.Kind),(.dat 2 (x29.From.map Qay)),I x29.Level,I x29.Amount,I x29.Wide,I x29.Narrow,(.dat 1 (x29.Weights.map Qad))]]))] (Qw7 x29),mv 1 (.dat 1 (p1.map Qad)),mv 8 (I y17),rp [(.tmp 37,(.dat 1 (p1.map Qad))),(.tmp 38,I y17)] (.dptr (Qad x33) 0),rp [(.tmp 39,(.dptr (Qad x33) 0))] (I x33),rp [fu 74,(.tmp 36,(Qw7 x29)),(.tmp 40,I x33)] (I x38),⟨[fu 97,(.tmp 34,.ref 6 7 0 0),(.tmp 35,I y17),(.tmp 41,I x38),(.tmp 36,(Qw7 x29)),(.tmp 37,(.dat 1 (p1.map Qad))),(.tmp 38,I y17),(.tmp 39,(.dptr (Qad x33) 0)),(.tmp 40,I x33)],[(6,(Qs9 p0 p1 p2 y21)),(3,(Qs8 y18)),(4,(Qs7 y19)),(5,(.own 1 (y20.map Qad)))],.any,[(6,.dead),(3,.dead),(4,.dead),(5,.dead)],false⟩] (by exact⟨by kernel_rfl,by kernel_rfl⟩) rfl (by kernel_rfl) rfl (PStep.to (by rfl) (PStep.more (rd':=[(.tmp 36,(Qw7 x29)),(.tmp 37,(.dat 1 (p1.map Qad))),(.tmp 38,I y17),(.tmp 39,(.dptr (Qad x33) 0)),(.tmp 40,I x33)]) (Q15 (first:=[]) (cap:=[]) (vs:=[.ref 6 7 0 0,I y17,I x38]) (σr:=[(Qs9 p0 p1 p2 y21),(Qs8 y18),(Qs7 y19),(.own 1 (y20.map Qad))]) [6,3,4,5] rfl Zb6 (Qmj N y17 x38 p0.Table p0.Elements ((p0.Elements.length:Int).toNat) ((p0.Elements.length:Int).toNat) p1.length p2 y21 y18 y19 y20 _ hf39) rfl (Qbs (rnc (Qa1 rfl) (rncc rn0))) (slc (Qas (rnc (pld Qag) (rnc (pld Qab) (rnc (Qc4 rfl) (rnc (Qc4 rfl) (rnc (Qc4 rfl) (rnc (pld Qam) (rnc (.plain _ nll) rn0)))))))) (slc (Qa9 Qai) (slc (Qa9 Qa3) (slc (Qa9 Qaf) Qau)))) rfl rfl rfl))) (⟨fun _ _=>ald rfl Qot (by decide) rfl (nle rfl) rfl,fun _ _=>amv rfl,fun _ _=>ald rfl Qik (by decide) rfl (nle rfl) rfl,fun _ _=>amv rfl,fun _ _=>amv rfl,fun _ _=>aiq underlying27 ti3 Qad hi35 hj36,fun _ _=>ald_ rfl ti3 (by decide) (nle rfl) rfl,fun _ _=>apv Zcc (Qjs N x29 x33 _ hf37) (nlc (NLt.agg _ (nlc nll (nlc (nld Qba _) (nlcc (nlcc (nlc (nld Qaf _) nl0)))))) (nlc nll nl0)) nll,fun _ h=>absurd rfl h,tv⟩) ?_ (by kernel_rfl) (by kernel_rfl) (by kernel_rfl)
     obtain rfl:=osi h
     exact⟨_,[[(.lit (.pointer none))],[I x42]],rfl,(Qqr x42),(Q4l (nlc nll nl0) (Q4l (nlc nll nl0) Zkq)),by kernel_rfl,_,(mto (n:=45) (l':=[(6,.ref 0 1 0 0),(7,.ref 1 1 0 0)]) (own':=[Zmv,(.own 1 [[I x42]])]) [(6,.ref 1 1 0 0),(7,.ref 2 1 0 0)] [1,2] [Zmv,(.own 1 [[I x42]])] hφ0 (prr (prr pn)) (qb (lc rwl ln) (qb (lc rwl ln) qn))),Ql3 (vs:=[(.lit (.pointer none)),I x42]) ⟨Qbu (n:=0) (m:=1) (j:=0) (i:=0) (xs:=[[(.lit (.pointer none))]]) (by kernel_rfl) (by kernel_rfl) Qot (by decide) rfl (nle rfl) rfl,Qbu (n:=1) (m:=1) (j:=0) (i:=0) (xs:=[[I x42]]) (by kernel_rfl) (by kernel_rfl) ti3 (by decide) rfl (nle rfl) rfl,tv⟩ rfl (NLt.tup _ (nlc (NLt.of0 nll) (nlc (NLt.of0 nll) nl0))) (by kernel_rfl) (Qao (Qax (nlc (NLt.of0 nll) nl0)) (Qao (Qax (nlc (NLt.of0 nll) nl0)) Qbq))⟩
   ·exact wfn hc28<|Qbf<|Qaw<|Qaw<|Qbe rfl<|thn<|⟨(y18,y19,y20,y21),h,(mto (n:=45) [(6,.ref 1 1 0 0),(7,.ref 2 1 0 0)] [0,1,2,3,4,5,6] [(Q50 p0),Qr3,(.own 1 [[I 0]]),(Qs8 y18),(Qs7 y19),(.own 1 (y20.map Qad)),(Qs9 p0 p1 p2 y21)] hφ1 (prr (prr pn)) (qb (lc (rnd Qag) (lc (rnd Qab) ln)) (qb (lc (.rn (rqr rfl)) ln) (qb (lc rwl ln) (qc (spr Qai) (qc (spr Qa3) (qc (spr Qaf) (qb (lc (rnd Qag) (lc (rnd Qab) (lc (.rn (Qa2 rfl)) (lc (.rn (Qa2 rfl)) (lc (.rn (Qa2 rfl)) (lc (rnd Qam) (lc rwl ln))))))) qn))))))))⟩
theorem Ql2 (N:Nat) (p0:GNet) (p1:List Int) (p2:List Qaa) (r:Int) (h:Qf3 N p0 p1 p2=some (.inl r)):Spec prog 58 [(Zdp p0),(.dat 1 (p1.map Qad)),(Qyv p2)] [] (.tup [(.lit (.pointer none)),I r]) [(.own 1 [[(.lit (.pointer none))]]),(.own 1 [[I r]])]:=Qmn N p0 p1 p2 _ h
theorem Ql1 (N:Nat) (p0:GNet) (p1:List Int) (p2:List Qaa) (r:(Int×Int×(List (List Qaa))×(List Qbg)×(List Int))) (h:Qf3 N p0 p1 p2=some (.inr r)):Spec prog 58 [(Zdp p0),(.dat 1 (p1.map Qad)),(Qyv p2)] [] (.tup [.ref 2 7 0 0,I r.1]) [(.own 1 [[.ref 2 7 0 0]]),(.own 1 [[I r.1]]),(.own 7 [[(.dat 5 (p0.Table.map Qaq)),(.dat 7 (p0.Elements.map Qac)),(.own 3 1 (0) ((p0.Elements.length:Int).toNat)),(.own 4 4 (0) ((p0.Elements.length:Int).toNat)),(.own 5 1 (0) p1.length),(.dat 4 (p2.map Qah)),I r.2.1]]),(.own 1 (r.2.2.1.map Qak)),(.own 4 (r.2.2.2.1.map Qa0)),(.own 1 (r.2.2.2.2.map Qad))]:=Qmn N p0 p1 p2 _ h
def Qm4 (N:Nat) (p0:GNet) (p1:List Int) (p2:List Qaa):Option (Qhm×Int×Int):=
  (Qlh N p0 p1 p2).bind fun x11=>
  bif (x11 != 0) then
   some ((⟨[],[],[]⟩:Qhm),0,x11)
  else
   (Qf3 N p0 p1 p2).bind (
    Sum.elim (fun x15=>
      bif (decide (x15≥0)) then
       some ((⟨[],[],[]⟩:Qhm),x15,11)
      else
       none)
    (fun x17=>
      bif (decide (x17.1≥0)) then
       some ((⟨[],[],[]⟩:Qhm),x17.1,11)
      else
       chk (decide ((p0.Elements.length:Int).toNat≤x17.2.2.1.length))<|
       chk (decide ((p0.Elements.length:Int).toNat≤x17.2.2.2.1.length))<|
       chk (decide (p1.length≤x17.2.2.2.2.length))<|
       some ((⟨x17.2.2.1.take ((p0.Elements.length:Int).toNat),x17.2.2.2.1.take ((p0.Elements.length:Int).toNat),x17.2.2.2.2.take p1.length⟩:Qhm),0,0)))
def Zjh (p0:GNet):AV:=.dat 5 (p0.Table.map Qaq)
def Zjg (p0:GNet):AV:=.dat 7 (p0.Elements.map Qac)
def Zmw (p0:GNet):AV:=.agg [(Zjh p0),(Zjg p0)]
def Zjd (p2:List Qaa):AV:=.dat 4 (p2.map Qah)
def Q8o:Slot:=.own 3 [[(.dat 1 ((((⟨[],[],[]⟩:Qhm).Out):List (List Qaa)).map Qak)),(.dat 4 ((((⟨[],[],[]⟩:Qhm).Lost):List Qbg).map Qa0)),(.dat 1 ((((⟨[],[],[]⟩:Qhm).State):List Int).map Qad))]]
def Zje:Slot:=.own 3 [[nilS,nilS,nilS]]
def Q3b:AV:=.dat 1 (((⟨[],[],[]⟩:Qhm).Out:List (List Qaa)).map Qak)
def Q3a:AV:=.dat 4 (((⟨[],[],[]⟩:Qhm).Lost:List Qbg).map Qa0)
def Q29:AV:=.dat 1 (((⟨[],[],[]⟩:Qhm).State:List Int).map Qad)
def Q8n:AV:=.agg [Q3b,Q3a,Q29]
def Zpk:Slot:=.own 1 [[(.lit (.pointer none))]]
def Zdq:Slot:=.own 1 [[(.ref 4 7 (0) 0)]]
def Qyw (p0:GNet) (p1:List Int) (p2:List Qaa) (x17:(Int×Int×(List (List Qaa))×(List Qbg)×(List Int))):Slot:=.own 7 [[(Zjh p0),(Zjg p0),(.own 5 1 (0) ((p0.Elements.length:Int).toNat)),(.own 6 4 (0) ((p0.Elements.length:Int).toNat)),(.own 7 1 (0) p1.length),(Zjd p2),(I x17.2.1)]]
def Qp5 (x17:(Int×Int×(List (List Qaa))×(List Qbg)×(List Int))) (p0:GNet):AV:=.dat 1 ((x17.2.2.1.take ((p0.Elements.length:Int).toNat):List (List Qaa)).map Qak)
def Zjf (p0:GNet):Slot:=.own 2 [[(Zjh p0),(Zjg p0)]]
def Qvv (x17:(Int×Int×(List (List Qaa))×(List Qbg)×(List Int))) (p0:GNet):AV:=.dat 4 ((x17.2.2.2.1.take ((p0.Elements.length:Int).toNat):List Qbg).map Qa0)
def Zhv (x17:(Int×Int×(List (List Qaa))×(List Qbg)×(List Int))) (p0:GNet) (p1:List Int):AV:=.dat 1 (((⟨x17.2.2.1.take ((p0.Elements.length:Int).toNat),x17.2.2.2.1.take ((p0.Elements.length:Int).toNat),x17.2.2.2.2.take p1.length⟩:Qhm).Out:List (List Qaa)).map Qak)
def Zhu (x17:(Int×Int×(List (List Qaa))×(List Qbg)×(List Int))) (p0:GNet) (p1:List Int):AV:=.dat 4 (((⟨x17.2.2.1.take ((p0.Elements.length:Int).toNat),x17.2.2.2.1.take ((p0.Elements.length:Int).toNat),x17.2.2.2.2.take p1.length⟩:Qhm).Lost:List Qbg).map Qa0)
def Zht (x17:(Int×Int×(List (List Qaa))×(List Qbg)×(List Int))) (p0:GNet) (p1:List Int):AV:=.dat 1 (((⟨x17.2.2.1.take ((p0.Elements.length:Int).toNat),x17.2.2.2.1.take ((p0.Elements.length:Int).toNat),x17.2.2.2.2.take p1.length⟩:Qhm).State:List Int).map Qad)
theorem Qt9 (N:Nat) (p0:GNet) (p1:List Int) (p2:List Qaa) (r:(Qhm×Int×Int)) (h:Qm4 N p0 p1 p2=some r):Spec prog 16 [(.agg (Qf6 p0)),(.dat 1 (p1.map Qad)),(.dat 4 (p2.map Qah))] [] (.tup [(.agg [(.dat 1 (r.1.Out.map Qak)),(.dat 4 (r.1.Lost.map Qa0)),(.dat 1 (r.1.State.map Qad))]),(I r.2.1),(I r.2.2)]) []:=by
  refine Qan func16 rfl 0 (nle rfl) (fun X φ0 w0 hφ0 hd0=>?_)
  unfold Qm4 at h
  refine Qbw<|wxz<|wsq ?_
  obtain⟨x11,hf10,h⟩:=bno h
  refine wx tbk [(3,rp _ _)] ⟨apv Zlo (Qvq N p0 p1 p2 _ hf10) (nlc (NLt.agg _ (nlc (nld Qag _) (nlc (nld Qab _) nl0))) (nlc (nld Qaf _) (nlc (nld Qam _) nl0))) nll,tv⟩<|wxz ?_
  refine bfe h (fun hc12 h=>?_) fun hc12 h=>?_
  ·refine wft hc12<|wx tbk [(0,rp _ _)] ⟨Qa5 (vs:=[]) rfl ts34 tz34 rfl (by rfl) rfl,tv⟩ ?_
   refine wmr (mto (n:=35) (l':=[(6,.ref 0 3 0 0),(7,I 0),(8,I x11)]) (own':=[Q8o]) [(6,.ref 1 3 0 0),(7,I 0),(8,I x11)] [1] [Zje] hφ0 (prr (pw (pw pn))) (qb (lc (.nil _) (lc (.nil _) (lc (.nil _) ln))) qn))<|Qaj<|Qal ?_
   obtain rfl:=osi h
   exact⟨_,Mor.rfl,⟨⟨[Q8n,I 0,I x11],⟨Qbu (n:=0) (m:=3) (j:=0) (i:=0) (xs:=[[Q3b,Q3a,Q29]]) (by kernel_rfl) (by kernel_rfl) ti34 (by decide) rfl (nle rfl) rfl,rot,rot,tv⟩,rfl⟩,(NLt.tup _ (nlc (NLt.agg _ (nlc (nld Qai _) (nlc (nld Qa3 _) (nlc (nld Qaf _) nl0)))) (nlcc nl0))),Nat.le_refl _,fun n hn=>absurd hn (Nat.not_lt_zero n)⟩⟩
  ·refine wfn hc12<|Qap<|thn ?_
   obtain⟨x14,hf13,h⟩:=bno h
   rcases x14 with x15 |x17
   ·replace h:=Zkf h
    refine wx tbk [(3,⟨_,_,_,_,false⟩)] ⟨Qav (first:=[]) (cap:=[]) (vs:=[(Zmw p0),(.dat 1 (p1.map Qad)),(Zjd p2)]) (σr:=[]) (σr':=[Zpk,(.own 1 [[I x15]])]) (res':=(.tup [(.lit (.pointer none)),I x15])) [2,3] rfl Qye (Ql2 N p0 p1 p2 _ hf13) rfl (Qbs (rnc (.plain _ (NLt.agg _ (nlc (nld Qag _) (nlc (nld Qab _) nl0)))) (rnc (pld Qaf) (rnc (pld Qam) rn0)))) Qau (slc (Qas (rnc (.plain _ nll) rn0)) (slc (Qas (rnc (.plain _ nll) rn0)) Qau)) (.plain _ (NLt.tup _ (nlcc nl0))) rfl rfl rfl,tv⟩<|wsq<|wxz ?_
    refine bfe h (fun hc16 h=>?_) fun hc16 h=>?_
    ·refine wft hc16<|wx tbk [(0,rp _ _)] ⟨Qa5 (vs:=[]) rfl ts34 tz34 rfl (by rfl) rfl,tv⟩ ?_
     refine wmr (mto (n:=35) (l':=[(6,.ref 0 3 0 0),(7,I x15),(8,I 11)]) (own':=[Q8o]) [(6,.ref 1 3 0 0),(7,I x15),(8,I 11)] [1] [Zje] hφ0 (prr (pw (pw pn))) (qb (lc (.nil _) (lc (.nil _) (lc (.nil _) ln))) qn))<|Qaj<|Qal ?_
     obtain rfl:=osi h
     exact⟨_,Mor.rfl,⟨⟨[Q8n,I x15,I 11],⟨Qbu (n:=0) (m:=3) (j:=0) (i:=0) (xs:=[[Q3b,Q3a,Q29]]) (by kernel_rfl) (by kernel_rfl) ti34 (by decide) rfl (nle rfl) rfl,rot,rot,tv⟩,rfl⟩,(NLt.tup _ (nlc (NLt.agg _ (nlc (nld Qai _) (nlc (nld Qa3 _) (nlc (nld Qaf _) nl0)))) (nlcc nl0))),Nat.le_refl _,fun n hn=>absurd hn (Nat.not_lt_zero n)⟩⟩
    ·refine wfn hc16<|Qap<|thn ?_
     cases h
   ·replace h:=Zke h
    refine wx tbk [(3,⟨_,_,_,_,false⟩)] ⟨Qav (first:=[]) (cap:=[]) (vs:=[(Zmw p0),(.dat 1 (p1.map Qad)),(Zjd p2)]) (σr:=[]) (σr':=[Zdq,(.own 1 [[I x17.1]]),(Qyw p0 p1 p2 x17),(.own 1 (x17.2.2.1.map Qak)),(.own 4 (x17.2.2.2.1.map Qa0)),(.own 1 (x17.2.2.2.2.map Qad))]) (res':=(.tup [.ref 4 7 0 0,I x17.1])) [2,3,4,5,6,7] rfl Qye (Ql1 N p0 p1 p2 _ hf13) rfl (Qbs (rnc (.plain _ (NLt.agg _ (nlc (nld Qag _) (nlc (nld Qab _) nl0)))) (rnc (pld Qaf) (rnc (pld Qam) rn0)))) Qau (slc (Qas (rnc (Qbb rfl) rn0)) (slc (Qas (rnc (.plain _ nll) rn0)) (slc (Qas (rnc (pld Qag) (rnc (pld Qab) (rnc (Qc0 rfl) (rnc (Qc0 rfl) (rnc (Qc0 rfl) (rnc (pld Qam) (rnc (.plain _ nll) rn0)))))))) (slc (Qa9 Qai) (slc (Qa9 Qa3) (slc (Qa9 Qaf) Qau)))))) (Zis (rnc (Qbb rfl) (rnc (.plain _ nll) rn0))) rfl rfl rfl,tv⟩<|wsq<|wxz ?_
    refine bfe h (fun hc18 h=>?_) fun hc18 h=>?_
    ·refine wft hc18<|wx tbk [(0,rp _ _)] ⟨Qa5 (vs:=[]) rfl ts34 tz34 rfl (by rfl) rfl,tv⟩ ?_
     refine wmr (mto (n:=35) (l':=[(6,.ref 0 3 0 0),(7,I x17.1),(8,I 11)]) (own':=[Q8o]) [(6,.ref 1 3 0 0),(7,I x17.1),(8,I 11)] [1] [Zje] hφ0 (prr (pw (pw pn))) (qb (lc (.nil _) (lc (.nil _) (lc (.nil _) ln))) qn))<|Qaj<|Qal ?_
     obtain rfl:=osi h
     exact⟨_,Mor.rfl,⟨⟨[Q8n,I x17.1,I 11],⟨Qbu (n:=0) (m:=3) (j:=0) (i:=0) (xs:=[[Q3b,Q3a,Q29]]) (by kernel_rfl) (by kernel_rfl) ti34 (by decide) rfl (nle rfl) rfl,rot,rot,tv⟩,rfl⟩,(NLt.tup _ (nlc (NLt.agg _ (nlc (nld Qai _) (nlc (nld Qa3 _) (nlc (nld Qaf _) nl0)))) (nlcc nl0))),Nat.le_refl _,fun n hn=>absurd hn (Nat.not_lt_zero n)⟩⟩
    ·refine wfn hc18<|Qap<|thn ?_
     refine wx tbk [(1,rb [(.tmp 31,.ref 4 7 0 0)] [(4,(Qyw p0 p1 p2 x17))] (.ref 4 7 0 0))] ⟨Qbj rfl,tv⟩ ?_
     obtain⟨hz19,h⟩:=cko h
     refine wmr (Quj (n:=35) (mp:=3) (m:=1) (xs:=x17.2.2.1.map Qak) (c:=[(.own 5 1 (0) ((p0.Elements.length:Int).toNat)),(.own 6 4 (0) ((p0.Elements.length:Int).toNat)),(.own 7 1 (0) p1.length)]) (l':=[(6,.ref 1 3 0 0),(7,I 0),(8,I 0)]) (c':=[(Qp5 x17 p0),(.own 6 4 (0) ((p0.Elements.length:Int).toNat)),(.own 7 1 (0) p1.length)]) (own':=[(Zjf p0),(.own 3 [[(Qp5 x17 p0),(.own 6 4 (0) ((p0.Elements.length:Int).toNat)),(.own 7 1 (0) p1.length)]]),Zdq,(.own 1 [[I x17.1]]),(Qyw p0 p1 p2 x17),.dead,(.own 4 (x17.2.2.2.1.map Qa0)),(.own 1 (x17.2.2.2.2.map Qad))]) 5 1 [(6,.ref 1 3 0 0),(7,I 0),(8,I 0)] (by kernel_rfl) (by kernel_rfl) (by kernel_rfl) (by kernel_rfl) ⟨(Qmc hz19),(.same _),(.same _),tv⟩ ⟨rfl,(.same _),rfl,(.same _),rfl,(.same _),tv⟩ (by kernel_rfl)) ?_
     obtain⟨hz20,h⟩:=cko h
     refine wmr (Quj (n:=35) (mp:=3) (m:=4) (xs:=x17.2.2.2.1.map Qa0) (c:=[(Qp5 x17 p0),(.own 6 4 (0) ((p0.Elements.length:Int).toNat)),(.own 7 1 (0) p1.length)]) (l':=[(6,.ref 1 3 0 0),(7,I 0),(8,I 0)]) (c':=[(Qp5 x17 p0),(Qvv x17 p0),(.own 7 1 (0) p1.length)]) (own':=[(Zjf p0),(.own 3 [[(Qp5 x17 p0),(Qvv x17 p0),(.own 7 1 (0) p1.length)]]),Zdq,(.own 1 [[I x17.1]]),(Qyw p0 p1 p2 x17),.dead,.dead,(.own 1 (x17.2.2.2.2.map Qad))]) 6 1 [(6,.ref 1 3 0 0),(7,I 0),(8,I 0)] (by kernel_rfl) (by kernel_rfl) (by kernel_rfl) (by kernel_rfl) ⟨(.same _),(Qmc hz20),(.same _),tv⟩ ⟨rfl,(.same _),rfl,(.same _),rfl,(.same _),tv⟩ (by kernel_rfl)) ?_
     obtain⟨hz21,h⟩:=cko h
     refine wmr (Quj (n:=35) (mp:=3) (m:=1) (xs:=x17.2.2.2.2.map Qad) (c:=[(Qp5 x17 p0),(Qvv x17 p0),(.own 7 1 (0) p1.length)]) (l':=[(6,.ref 1 3 0 0),(7,I 0),(8,I 0)]) (c':=[(Qp5 x17 p0),(Qvv x17 p0),(.dat 1 ((x17.2.2.2.2.take p1.length:List Int).map Qad))]) (own':=[(Zjf p0),(.own 3 [[(Qp5 x17 p0),(Qvv x17 p0),(.dat 1 ((x17.2.2.2.2.take p1.length:List Int).map Qad))]]),Zdq,(.own 1 [[I x17.1]]),(Qyw p0 p1 p2 x17),.dead,.dead,.dead]) 7 1 [(6,.ref 1 3 0 0),(7,I 0),(8,I 0)] (by kernel_rfl) (by kernel_rfl) (by kernel_rfl) (by kernel_rfl) ⟨(.same _),(.same _),(Qmc hz21),tv⟩ ⟨rfl,(.same _),rfl,(.same _),rfl,(.same _),tv⟩ (by kernel_rfl)) ?_
     refine wmr (mto (n:=35) (l':=[(6,.ref 0 3 0 0),(7,I 0),(8,I 0)]) (own':=[(.own 3 [[(.dat 1 ((((⟨x17.2.2.1.take ((p0.Elements.length:Int).toNat),x17.2.2.2.1.take ((p0.Elements.length:Int).toNat),x17.2.2.2.2.take p1.length⟩:Qhm).Out):List (List Qaa)).map Qak)),(.dat 4 ((((⟨x17.2.2.1.take ((p0.Elements.length:Int).toNat),x17.2.2.2.1.take ((p0.Elements.length:Int).toNat),x17.2.2.2.2.take p1.length⟩:Qhm).Lost):List Qbg).map Qa0)),(.dat 1 ((((⟨x17.2.2.1.take ((p0.Elements.length:Int).toNat),x17.2.2.2.1.take ((p0.Elements.length:Int).toNat),x17.2.2.2.2.take p1.length⟩:Qhm).State):List Int).map Qad))]])]) [(6,.ref 1 3 0 0),(7,I 0),(8,I 0)] [1] [(.own 3 [[(Qp5 x17 p0),(Qvv x17 p0),(.dat 1 ((x17.2.2.2.2.take p1.length:List Int).map Qad))]])] hφ0 (prr (pw (pw pn))) (qb (lc (rnd Qai) (lc (rnd Qa3) (lc (rnd Qaf) ln))) qn))<|Qaj ?_
     obtain rfl:=osi h
     exact⟨_,Mor.rfl,⟨⟨[(.agg [(Zhv x17 p0 p1),(Zhu x17 p0 p1),(Zht x17 p0 p1)]),I 0,I 0],⟨Qbu (n:=0) (m:=3) (j:=0) (i:=0) (xs:=[[(Zhv x17 p0 p1),(Zhu x17 p0 p1),(Zht x17 p0 p1)]]) (by kernel_rfl) (by kernel_rfl) ti34 (by decide) rfl (nle rfl) rfl,rot,rot,tv⟩,rfl⟩,(NLt.tup _ (nlc (NLt.agg _ (nlc (nld Qai _) (nlc (nld Qa3 _) (nlc (nld Qaf _) nl0)))) (nlcc nl0))),Nat.le_refl _,fun n hn=>absurd hn (Nat.not_lt_zero n)⟩⟩
def Qpt (_N:Nat):Option (GNet×(List Qaa)):=
  some ((⟨[(⟨100,101,419,2676,150⟩:GRow),(⟨150,476,632,2746,300⟩:GRow),(⟨200,1555,852,2793,600⟩:GRow)],[(⟨1,[],2,0,1000,1000000,[]⟩:Qae),(⟨3,[(⟨0,0⟩:Qbk)],2,2000,1000,1000000,[]⟩:Qae),(⟨4,[(⟨1,0⟩:Qbk)],0,100,1000,1000000,[]⟩:Qae)]⟩:GNet),[(⟨1000,852000,250000,50⟩:Qaa)])
def Zms:AV:=.agg [(I (100)),(I (101)),(I (419)),(I (2676)),(I (150))]
def Zmr:AV:=.agg [(I (150)),(I (476)),(I (632)),(I (2746)),(I (300))]
def Zmp:AV:=.agg [(I (200)),(I (1555)),(I (852)),(I (2793)),(I (600))]
def Zdn:AV:=.dat 5 (([(⟨100,101,419,2676,150⟩:GRow),(⟨150,476,632,2746,300⟩:GRow),(⟨200,1555,852,2793,600⟩:GRow)]:List GRow).map Qaq)
def Zph:AV:=.agg [(K .u8 (1)),nilS,(I (2)),(I (0)),(I (1000)),(I (1000000)),nilS]
def Zmo:AV:=.agg [(I (0)),(I (0))]
def Zdm:AV:=.dat 2 (([(⟨0,0⟩:Qbk)]:List Qbk).map Qay)
def Zpg:AV:=.agg [(K .u8 (3)),Zdm,(I (2)),(I (2000)),(I (1000)),(I (1000000)),nilS]
def Zmn:AV:=.agg [(I (1)),(I (0))]
def Zdl:AV:=.dat 2 (([(⟨1,0⟩:Qbk)]:List Qbk).map Qay)
def Zmq:AV:=.agg [(K .u8 (4)),Zdl,(I (0)),(I (100)),(I (1000)),(I (1000000)),nilS]
def Q28:AV:=.dat 7 (([(⟨1,[],2,0,1000,1000000,[]⟩:Qae),(⟨3,[(⟨0,0⟩:Qbk)],2,2000,1000,1000000,[]⟩:Qae),(⟨4,[(⟨1,0⟩:Qbk)],0,100,1000,1000000,[]⟩:Qae)]:List Qae).map Qac)
def Q8b:AV:=.dat 1 (([]:List Int).map Qad)
def Zhp:AV:=.agg [(K .u8 (1)),(.dat 2 (([]:List Qbk).map Qay)),(I (2)),(I (0)),(I (1000)),(I (1000000)),Q8b]
def Zho:AV:=.agg [(K .u8 (3)),Zdm,(I (2)),(I (2000)),(I (1000)),(I (1000000)),Q8b]
def Zhn:AV:=.agg [(K .u8 (4)),Zdl,(I (0)),(I (100)),(I (1000)),(I (1000000)),Q8b]
def Zhm:AV:=.agg [(I (1000)),(I (852000)),(I (250000)),(I (50))]
def Zhl:AV:=.dat 4 (([(⟨1000,852000,250000,50⟩:Qaa)]:List Qaa).map Qah)
theorem Qvr (N:Nat) (r:(GNet×(List Qaa))) (h:Qpt N=some r):Spec prog 55 [] [] (.tup [(.agg (Qf6 r.1)),(.dat 4 (r.2.map Qah))]) []:=by
  refine Qan func55 rfl 0 (nle rfl) (fun X φ0 w0 hφ0 hd0=>?_)
  unfold Qpt at h
  refine wxz<|wx tbk [(0,rp _ _),(1,rp _ _),(2,rp _ _),(3,rp [(.tmp 4,Zms),(.tmp 5,Zmr),(.tmp 6,Zmp)] Zdn)] ⟨Qa5 (vs:=[I 100,I 101,I 419,I 2676,I 150]) rfl Zem Qxj rfl (by rfl) rfl,Qa5 (vs:=[I 150,I 476,I 632,I 2746,I 300]) rfl Zem Qxj rfl (by rfl) rfl,Qa5 (vs:=[I 200,I 1555,I 852,I 2793,I 600]) rfl Zem Qxj rfl (by rfl) rfl,Qbz (vs:=[Zms,Zmr,Zmp]) rfl underlying39 Qsp Qxj rfl (by decide) rfl (by decide) (by rfl) (by rfl) (by rfl) rfl,tv⟩ ?_
  refine wx tbk [(0,rp _ _),(1,rp _ _),(2,rp [(.tmp 9,Zmo)] Zdm),(3,rp _ _),(4,rp _ _),(5,rp [(.tmp 12,Zmn)] Zdl),(6,rp _ _),(7,rp [(.tmp 8,Zph),(.tmp 11,Zpg),(.tmp 14,Zmq)] Q28)] ⟨Qa5 (vs:=[(K .u8 (1)),I 2,I 1000,I 1000000]) rfl Zen Qza rfl (by rfl) rfl,Qa5 (vs:=[]) rfl Q97 Qso rfl (by rfl) rfl,Qbz (vs:=[Zmo]) rfl underlying116 Qpi Qso rfl (by decide) rfl (by decide) (by rfl) (by rfl) (by rfl) rfl,Qa5 (vs:=[(K .u8 (3)),Zdm,I 2,I 2000,I 1000,I 1000000]) rfl Zen Qza rfl (by rfl) rfl,Qa5 (vs:=[I 1]) rfl Q97 Qso rfl (by rfl) rfl,Qbz (vs:=[Zmn]) rfl underlying116 Qpi Qso rfl (by decide) rfl (by decide) (by rfl) (by rfl) (by rfl) rfl,Qa5 (vs:=[(K .u8 (4)),Zdl,I 100,I 1000,I 1000000]) rfl Zen Qza rfl (by rfl) rfl,awk (rd':=[(.tmp 8,Zhp),(.tmp 11,Zho),(.tmp 14,Zhn)]) ⟨rfl,(Less.agg ⟨lrf,Less.nil,lrf,lrf,lrf,lrf,Less.nil,tv⟩),rfl,(Less.agg ⟨lrf,lrf,lrf,lrf,lrf,lrf,Less.nil,tv⟩),rfl,(Less.agg ⟨lrf,lrf,lrf,lrf,lrf,lrf,Less.nil,tv⟩),tv⟩ (Qbz (vs:=[Zhp,Zho,Zhn]) rfl underlying40 Qik Qza rfl (by decide) rfl (by decide) (by rfl) (by rfl) (by rfl) rfl),tv⟩ ?_
  refine wx tbk [(2,rp _ _),(3,rp _ _),(4,rp [(.tmp 19,Zhm)] Zhl)] ⟨Qa5 (vs:=[Zdn,Q28]) rfl ts42 tz42 rfl (by rfl) rfl,Qa5 (vs:=[I 1000,I 852000,I 250000,I 50]) rfl ts63 tz63 rfl (by rfl) rfl,Qbz (vs:=[Zhm]) rfl underlying45 ti63 tz63 rfl (by decide) rfl (by decide) (by rfl) (by rfl) (by rfl) rfl,tv⟩<|Qaj ?_
  obtain rfl:=osi h
  exact fend ⟨[(.agg [Zdn,Q28]),Zhl],⟨Qbu (n:=0) (m:=2) (j:=0) (i:=0) (xs:=[[Zdn,Q28]]) (by kernel_rfl) (by kernel_rfl) ti42 (by decide) rfl (nle rfl) rfl,rot,tv⟩,rfl⟩ (NLt.tup _ (nlc (NLt.agg _ (nlc (nld Qag _) (nlc (nld Qab _) nl0))) (nlc (nld Qam _) nl0)))
def Qej (N:Nat):Option Bool:=
  (Qpt 2000 ).bind fun x2=>
  (Qrt N (⟨x2.1.Table,x2.1.Elements⟩:GNet)).bind fun x4=>
  (Qm4 N (⟨x2.1.Table,x2.1.Elements⟩:GNet) ([0,0,0]) x2.2).bind fun x6=>
  bif (x4.2==0) then
   bif (x6.2.2==0) then
    bif ((x4.1.length:Int)==2) then
     (getI x4.1 1).bind fun x10=>
     bif (([x10.Element,x10.Outlet]:List Int)==[2,1]) then
      bif ((x6.1.Out.length:Int)==3) then
       (getI x6.1.Out 2).bind fun x16=>
       bif ((x16.length:Int)==2) then
        bif ((x6.1.Lost.length:Int)==3) then
         (getI x16 0).bind fun x22=>
         bif (([x22.Mass,x22.Heat,x22.Silica,x22.Gas]:List Int)==[271,542596,12150,50]) then
          (getI x16 1).bind fun x27=>
          bif (([x27.Mass,x27.Heat,x27.Silica,x27.Gas]:List Int)==[729,307404,109350,0]) then
           (getI x6.1.Lost 1).bind fun x32=>
           bif (x32.Heat==2000) then
            (getI x6.1.Lost 2).bind fun x37=>
            some (x37.Scale==128500)
           else
            some false
          else
           some false
         else
          some false
        else
         some false
       else
        some false
      else
       some false
     else
      some false
    else
     some false
   else
    some false
  else
   some false
def Zpi:AV:=.dat 1 (([0,0,0]:List Int).map Qad)
def Zdo (x6:(Qhm×Int×Int)):AV:=.dat 1 (x6.1.Out.map Qak)
def Zjc (x6:(Qhm×Int×Int)):AV:=.dat 4 (x6.1.Lost.map Qa0)
def Q8k (x4:((List Qbk)×Int)):List (Nat×Rec):=[(2,rp [((.tmp 26),(B ((x4.2==0))))] (B true))]
def Q8j x4 (x6:(Qhm×Int×Int)):=hcat (Q8k x4) [(6,rp [((.tmp 30),(B ((x6.2.2==0))))] (B true)),(8,rp [((.tmp 31),(B true)),((.tmp 32),(.dat 2 (x4.1.map Qay)))] (I ((x4.1.length:Int))))]
def Q8i x4 x6 (x10:Qbk):=hcat (Q8j x4 x6) [(11,rp [((.tmp 35),(B (((x4.1.length:Int)==2))))] (B true)),(13,rp [((.tmp 36),(B true)),((.tmp 37),(.dat 2 (x4.1.map Qay))),ci 1] (.dptr (Qay x10) 0)),(15,rp [((.tmp 36),(B true)),ci 2,ci 1] (.agg [(I (2)),(I (1))])),(16,rp [((.tmp 36),(B true)),((.tmp 39),(.agg [(I x10.Element),(I x10.Outlet)])),((.tmp 40),(.agg [(I (2)),(I (1))]))] (B ((([x10.Element,x10.Outlet]:List Int)==[2,1]))))]
def Q8h x4 x6 x10:=hcat (Q8i x4 x6 x10) [(18,rp [((.tmp 42),(B ((([x10.Element,x10.Outlet]:List Int)==[2,1]))))] (B true)),(21,rp [((.tmp 43),(B true)),((.tmp 45),(Zdo x6))] (I ((x6.1.Out.length:Int))))]
def Q8g x4 x6 x10 (x16:List Qaa):=hcat (Q8h x4 x6 x10) [(24,rp [((.tmp 48),(B (((x6.1.Out.length:Int)==3))))] (B true)),(27,rp [((.tmp 49),(B true)),((.tmp 51),(Zdo x6)),ci 2] (.dptr (Qak x16) 0)),(29,rp [((.tmp 49),(B true)),((.tmp 53),(.dat 4 (x16.map Qah)))] (I ((x16.length:Int))))]
def Q8f x4 x6 x10 x16:=hcat (Q8g x4 x6 x10 x16) [(32,rp [((.tmp 56),(B (((x16.length:Int)==2))))] (B true)),(35,rp [((.tmp 57),(B true)),((.tmp 59),(Zjc x6))] (I ((x6.1.Lost.length:Int))))]
def Zhr:AV:=.agg [(I (271)),(I (542596)),(I (12150)),(I (50))]
def Q8e x4 x6 x10 x16 (x22:Qaa):=hcat (Q8f x4 x6 x10 x16) [(38,rp [((.tmp 62),(B (((x6.1.Lost.length:Int)==3))))] (B true)),(41,rp [((.tmp 63),(B true)),((.tmp 65),(Zdo x6)),ci 2] (.dptr (Qak x16) 0)),(43,rp [((.tmp 63),(B true)),((.tmp 67),(.dat 4 (x16.map Qah))),ci 0] (.dptr (Qah x22) 0)),(45,rp [((.tmp 63),(B true)),ci 271,ci 542596,ci 12150,ci 50] Zhr),(46,rp [((.tmp 63),(B true)),((.tmp 69),(.agg [(I x22.Mass),(I x22.Heat),(I x22.Silica),(I x22.Gas)])),((.tmp 70),Zhr)] (B ((([x22.Mass,x22.Heat,x22.Silica,x22.Gas]:List Int)==[271,542596,12150,50]))))]
def Zhq:AV:=.agg [(I (729)),(I (307404)),(I (109350)),(I (0))]
def Q8d x4 x6 x10 x16 x22 (x27:Qaa):=hcat (Q8e x4 x6 x10 x16 x22) [(48,rp [((.tmp 72),(B ((([x22.Mass,x22.Heat,x22.Silica,x22.Gas]:List Int)==[271,542596,12150,50]))))] (B true)),(51,rp [((.tmp 73),(B true)),((.tmp 75),(Zdo x6)),ci 2] (.dptr (Qak x16) 0)),(53,rp [((.tmp 73),(B true)),((.tmp 77),(.dat 4 (x16.map Qah))),ci 1] (.dptr (Qah x27) 0)),(55,rp [((.tmp 73),(B true)),ci 729,ci 307404,ci 109350] Zhq),(56,rp [((.tmp 73),(B true)),((.tmp 79),(.agg [(I x27.Mass),(I x27.Heat),(I x27.Silica),(I x27.Gas)])),((.tmp 80),Zhq)] (B ((([x27.Mass,x27.Heat,x27.Silica,x27.Gas]:List Int)==[729,307404,109350,0]))))]
def Q8c x4 x6 x10 x16 x22 x27 (x32:Qbg):=hcat (Q8d x4 x6 x10 x16 x22 x27) [(58,rp [((.tmp 82),(B ((([x27.Mass,x27.Heat,x27.Silica,x27.Gas]:List Int)==[729,307404,109350,0]))))] (B true)),(61,rp [((.tmp 83),(B true)),((.tmp 85),(Zjc x6)),ci 1] (.dptr (Qa0 x32) 0))]
theorem Qd9 (N:Nat) (r:Bool) (h:Qej N=some r):Spec prog 15 [] [] (B r) []:=by
  refine Qan func15 rfl 0 (nle rfl) (fun X φ0 w0 hφ0 hd0=>?_)
  unfold Qej at h
  refine wxz ?_
  obtain⟨x2,hf1,h⟩:=bno h
  refine wx tbk [(0,rp _ _)] ⟨apv Zlp (Qvr 2000  _ hf1) nl0 (NLt.tup _ (nlc (NLt.agg _ (nlc (nld Qag _) (nlc (nld Qab _) nl0))) (nlc (nld Qam _) nl0))),tv⟩ ?_
  obtain⟨x4,hf3,h⟩:=bno h
  refine wx tbk [(1,rp _ _)] ⟨apv Zls (Qxw N (⟨x2.1.Table,x2.1.Elements⟩:GNet) _ hf3) (nlc (NLt.agg _ (nlc (nld Qag _) (nlc (nld Qab _) nl0))) nl0) (NLt.tup _ (nlc (nld Qba _) (nlc nll nl0))),tv⟩ ?_
  obtain⟨x6,hf5,h⟩:=bno h
  refine wx tbk [(1,rp [ci 0,ci 0,ci 0] Zpi),(3,rp _ _)] ⟨Qbz (vs:=[I 0,I 0,I 0]) rfl underlying27 ti3 tz3 rfl (by decide) rfl (by decide) (by rfl) (by rfl) (by rfl) rfl,apv Zcj (Qt9 N (⟨x2.1.Table,x2.1.Elements⟩:GNet) ([0,0,0]) x2.2 _ hf5) (nlc (NLt.agg _ (nlc (nld Qag _) (nlc (nld Qab _) nl0))) (nlc (nld Qaf _) (nlc (nld Qam _) nl0))) (NLt.tup _ (nlc (NLt.agg _ (nlc (nld Qai _) (nlc (nld Qa3 _) (nlc (nld Qaf _) nl0)))) (nlcc nl0))),tv⟩ ?_
  refine bfe h (fun hb7 h=>?_) fun hb7 h=>?_
  ·refine hpre (A:=(Q8k x4)) ⟨asb hb7 (amv rfl),tv⟩ fun q1_=>?_
   refine bfe h (fun hb8 h=>?_) fun hb8 h=>?_
   ·refine hpre (A:=(Q8j x4 x6)) (hap q1_ ⟨asb hb8 (amv rfl),ag_ (alq 2 Qay x4.1 underlying116),tv⟩) fun q2_=>?_
    refine bfe h (fun hb9 h=>?_) fun hb9 h=>?_
    ·obtain⟨x10,hg11,h⟩:=bno h
     obtain⟨hi12,hj13⟩:=gsm hg11
     refine hpre (A:=(Q8i x4 x6 x10)) (hap q2_ ⟨asb hb9 (amv rfl),ag_ (aiq underlying116 Qpi Qay hi12 hj13),ag_ (Qa5 (vs:=[I 2,I 1]) rfl Q97 Qso rfl (by rfl) rfl),ag_ (Qra (ls:=[x10.Element,x10.Outlet]) (ks:=[2,1]) rfl rfl Quv (by kernel_rfl) rfl rfl),tv⟩) fun q3_=>?_
     refine bfe h (fun hb14 h=>?_) fun hb14 h=>?_
     ·refine hpre (A:=(Q8h x4 x6 x10)) (hap q3_ ⟨asb hb14 (amv rfl),ag_ (alq 1 Qak x6.1.Out underlying31),tv⟩) fun q4_=>?_
      refine bfe h (fun hb15 h=>?_) fun hb15 h=>?_
      ·obtain⟨x16,hg17,h⟩:=bno h
       obtain⟨hi18,hj19⟩:=gsm hg17
       refine hpre (A:=(Q8g x4 x6 x10 x16)) (hap q4_ ⟨asb hb15 (amv rfl),ag_ (aiq underlying31 ti45 Qak hi18 hj19),ag_ (alq 4 Qah x16 underlying45),tv⟩) fun q5_=>?_
       refine bfe h (fun hb20 h=>?_) fun hb20 h=>?_
       ·refine hpre (A:=(Q8f x4 x6 x10 x16)) (hap q5_ ⟨asb hb20 (amv rfl),ag_ (alq 4 Qa0 x6.1.Lost underlying32),tv⟩) fun q6_=>?_
        refine bfe h (fun hb21 h=>?_) fun hb21 h=>?_
        ·obtain⟨x22,hg23,h⟩:=bno h
         obtain⟨hi24,hj25⟩:=gsm hg23
         refine hpre (A:=(Q8e x4 x6 x10 x16 x22)) (hap q6_ ⟨asb hb21 (amv rfl),ag_ (aiq underlying31 ti45 Qak hi18 hj19),ag_ (aiq underlying45 ti63 Qah hi24 hj25),ag_ (Qa5 (vs:=[I 271,I 542596,I 12150,I 50]) rfl ts63 tz63 rfl (by rfl) rfl),ag_ (Qra (ls:=[x22.Mass,x22.Heat,x22.Silica,x22.Gas]) (ks:=[271,542596,12150,50]) rfl rfl Zo2 (by kernel_rfl) rfl rfl),tv⟩) fun q7_=>?_
         refine bfe h (fun hb26 h=>?_) fun hb26 h=>?_
         ·obtain⟨x27,hg28,h⟩:=bno h
          obtain⟨hi29,hj30⟩:=gsm hg28
          refine hpre (A:=(Q8d x4 x6 x10 x16 x22 x27)) (hap q7_ ⟨asb hb26 (amv rfl),ag_ (aiq underlying31 ti45 Qak hi18 hj19),ag_ (aiq underlying45 ti63 Qah hi29 hj30),ag_ (Qa5 (vs:=[I 729,I 307404,I 109350]) rfl ts63 tz63 rfl (by rfl) rfl),ag_ (Qra (ls:=[x27.Mass,x27.Heat,x27.Silica,x27.Gas]) (ks:=[729,307404,109350,0]) rfl rfl Zo2 (by kernel_rfl) rfl rfl),tv⟩) fun q8_=>?_
          refine bfe h (fun hb31 h=>?_) fun hb31 h=>?_
          ·obtain⟨x32,hg33,h⟩:=bno h
           obtain⟨hi34,hj35⟩:=gsm hg33
           refine hpre (A:=(Q8c x4 x6 x10 x16 x22 x27 x32)) (hap q8_ ⟨asb hb31 (amv rfl),ag_ (aiq underlying32 ti82 Qa0 hi34 hj35),tv⟩) fun q9_=>?_
           refine bfe h (fun hb36 h=>?_) fun hb36 h=>?_
           ·obtain⟨x37,hg38,h⟩:=bno h
            obtain⟨hi39,hj40⟩:=gsm hg38
            refine wx tbk (hcat (Q8c x4 x6 x10 x16 x22 x27 x32) [(66,rp [(.tmp 90,(B ((x32.Heat==2000))))] (B true)),(69,rp [(.tmp 91,B true),(.tmp 93,(Zjc x6)),ci 2] (.dptr (Qa0 x37) 0))]) (hap q9_ ⟨asb hb36 (amv rfl),ag_ (aiq underlying32 ti82 Qa0 hi39 hj40),tv⟩)<|Qaj ?_
            obtain rfl:=osi h
            exact fend ⟨[(B ((x37.Scale==128500)))],⟨rot,tv⟩,rfl⟩ nll
           ·exact wx tbk (hcat (Q8c x4 x6 x10 x16 x22 x27 x32) [(66,rp [(.tmp 90,(B ((x32.Heat==2000))))] (B false))]) (hap q9_ ⟨asb hb36 (amv rfl),tv⟩)<|Qaj<|frb h
          ·exact wx tbk (hcat (Q8d x4 x6 x10 x16 x22 x27) [(58,rp [(.tmp 82,(B ((([x27.Mass,x27.Heat,x27.Silica,x27.Gas]:List Int)==[729,307404,109350,0]))))] (B false))]) (hap q8_ ⟨asb hb31 (amv rfl),tv⟩)<|Qaj<|frb h
         ·exact wx tbk (hcat (Q8e x4 x6 x10 x16 x22) [(48,rp [(.tmp 72,(B ((([x22.Mass,x22.Heat,x22.Silica,x22.Gas]:List Int)==[271,542596,12150,50]))))] (B false))]) (hap q7_ ⟨asb hb26 (amv rfl),tv⟩)<|Qaj<|frb h
        ·exact wx tbk (hcat (Q8f x4 x6 x10 x16) [(38,rp [(.tmp 62,(B (((x6.1.Lost.length:Int)==3))))] (B false))]) (hap q6_ ⟨asb hb21 (amv rfl),tv⟩)<|Qaj<|frb h
       ·exact wx tbk (hcat (Q8g x4 x6 x10 x16) [(32,rp [(.tmp 56,(B (((x16.length:Int)==2))))] (B false))]) (hap q5_ ⟨asb hb20 (amv rfl),tv⟩)<|Qaj<|frb h
      ·exact wx tbk (hcat (Q8h x4 x6 x10) [(24,rp [(.tmp 48,(B (((x6.1.Out.length:Int)==3))))] (B false))]) (hap q4_ ⟨asb hb15 (amv rfl),tv⟩)<|Qaj<|frb h
     ·exact wx tbk (hcat (Q8i x4 x6 x10) [(18,rp [(.tmp 42,(B ((([x10.Element,x10.Outlet]:List Int)==[2,1]))))] (B false))]) (hap q3_ ⟨asb hb14 (amv rfl),tv⟩)<|Qaj<|frb h
    ·exact wx tbk (hcat (Q8j x4 x6) [(11,rp [(.tmp 35,(B (((x4.1.length:Int)==2))))] (B false))]) (hap q2_ ⟨asb hb9 (amv rfl),tv⟩)<|Qaj<|frb h
   ·exact wx tbk (hcat (Q8k x4) [(6,rp [(.tmp 30,(B ((x6.2.2==0))))] (B false))]) (hap q1_ ⟨asb hb8 (amv rfl),tv⟩)<|Qaj<|frb h
  ·exact wx tbk [(2,rp [(.tmp 26,(B ((x4.2==0))))] (B false))] ⟨asb hb7 (amv rfl),tv⟩<|Qaj<|frb h
end
section
set_option maxRecDepth 100000
set_option maxHeartbeats 4000000
open Go.RowKit
def Qd6 (_N:Nat) (p0 p1 p2:Int):Option Bool:=
  bif (decide (p0≥p1)) then
   some (decide (p0≤p2))
  else
   some false
theorem Qc8 (N:Nat) (p0 p1 p2:Int) (r:Bool) (h:Qd6 N p0 p1 p2=some r):Spec prog 25 [(I p0),(I p1),(I p2)] [] (B r) []:=by
  refine Qan func25 rfl 0 (nle rfl) (fun X φ0 w0 hφ0 hd0=>?_)
  unfold Qd6 at h
  refine wxz ?_
  refine bfe h (fun hb1 h=>?_) fun hb1 h=>?_
  ·refine wx tbk [(3,rp [(.tmp 9,(B ((decide (p0≥p1)))))] (B true))] ⟨asb hb1 (amv rfl),tv⟩<|Qaj ?_
   obtain rfl:=osi h
   exact fend ⟨[(B ((decide (p0≤p2))))],⟨rot,tv⟩,rfl⟩ nll
  ·exact wx tbk [(3,rp [(.tmp 9,(B ((decide (p0≥p1)))))] (B false))] ⟨asb hb1 (amv rfl),tv⟩<|Qaj<|frb h
def Qd3 (N:Nat) (p0:List GRow) (k1:Unit→Option Bool):Nat→Int→Option Bool
  |0,_=>none
  |n5+1,y3=>
    bif (decide (y3<(p0.length:Int))) then
     (getI p0 y3).bind fun x7=>
     Qbl (fun _=>
       bif (decide (y3>0)) then
        (getI p0 (w64 (y3-1))).bind fun x13=>
        bif (decide (x7.T≤x13.T)) then
         some false
        else
         bif (decide (x7.P≤x13.P)) then
          some false
         else
          bif (decide (x7.Liquid≤x13.Liquid)) then
           some false
          else
           bif (decide (x7.Silica<x13.Silica)) then
            some false
           else
            Qd3 N p0 k1 n5 (w64 (y3+1))
       else
        Qd3 N p0 k1 n5 (w64 (y3+1))) fun k11:Unit→Option Bool=>
     (Qd6 N x7.T 0 400).bind fun x22=>
     bif (!x22) then
      some false
     else
      (Qd6 N x7.P 1 10000).bind fun x25=>
      bif (!x25) then
       some false
      else
       (Qd6 N x7.Liquid 0 4000).bind fun x28=>
       bif (!x28) then
        some false
       else
        (Qd6 N x7.Silica 0 2000).bind fun x31=>
        bif (!x31) then
         some false
        else
         bif (decide (x7.Vapour≤x7.Liquid)) then
          some false
         else
          bif (decide (x7.Vapour>4000)) then
           some false
          else
           k11 ()
    else
     k1 ()
def Qki (N:Nat) (p0:List GRow):Option Bool:=
  Qbl (fun _=>
    bif (decide ((p0.length:Int)≥2)) then
     some (decide ((p0.length:Int)≤20))
    else
     some false) fun k1:Unit→Option Bool=>
  Qd3 N p0 k1 N 0
def Zhk (x7:GRow):Slot:=.own 5 [[(I x7.T),(I x7.P),(I x7.Liquid),(I x7.Vapour),(I x7.Silica)]]
def Q8a (y3:Int) (p0:List GRow) (x13:GRow):List (Nat×Rec):=[(2,rp [((.tmp 50),(B ((decide (y3>0)))))] (B true)),(8,rp [((.tmp 51),(B true)),((.tmp 54),(.dat 5 (p0.map Qaq))),((.tmp 56),(I (w64 (y3-1))))] (.dptr (Qaq x13) 0))]
def Q79 y3 p0 x13 (x7:GRow):=hcat (Q8a y3 p0 x13) [(12,rp [((.tmp 51),(B true)),((.tmp 60),(B ((decide (x7.T≤x13.T)))))] (B false)),(18,rp [((.tmp 61),(B false)),((.tmp 64),(.dat 5 (p0.map Qaq))),((.tmp 66),(I (w64 (y3-1))))] (.dptr (Qaq x13) 0))]
def Q78 y3 p0 x13 x7:=hcat (Q79 y3 p0 x13 x7) [(23,rp [((.tmp 51),(B true)),((.tmp 71),(B ((decide (x7.P≤x13.P)))))] (B false)),(29,rp [((.tmp 72),(B false)),((.tmp 75),(.dat 5 (p0.map Qaq))),((.tmp 77),(I (w64 (y3-1))))] (.dptr (Qaq x13) 0))]
def Q77 (x7:GRow) (x22:Bool):List (Nat×Rec):=[(2,rp [fu 25,((.tmp 16),(I x7.T)),ci 0,ci 400] (B x22))]
def Q76 x7 x22 (x25:Bool):=hcat (Q77 x7 x22) [(4,rp [((.tmp 18),(B ((!x22))))] (B false)),(7,rp [((.tmp 19),(B false)),fu 25,((.tmp 21),(I x7.P)),ci 1,ci 10000] (B x25))]
def Q75 x7 x22 x25 (x28:Bool):=hcat (Q76 x7 x22 x25) [(10,rp [((.tmp 24),(B ((!x25))))] (B false)),(13,rp [((.tmp 25),(B false)),fu 25,((.tmp 27),(I x7.Liquid)),ci 0,ci 4000] (B x28))]
def Q27 x7 x22 x25 x28 (x31:Bool):=hcat (Q75 x7 x22 x25 x28) [(16,rp [((.tmp 30),(B ((!x28))))] (B false)),(19,rp [((.tmp 31),(B false)),fu 25,((.tmp 33),(I x7.Silica)),ci 0,ci 2000] (B x31))]
theorem Qt2 (N:Nat) (p0:List GRow) (r:Bool) (h:Qki N p0=some r):Spec prog 69 [(.dat 5 (p0.map Qaq))] [] (B r) []:=by
  refine Qan func69 rfl 0 (nle rfl) (fun X φ0 w0 hφ0 hd0=>?_)
  unfold Qki at h
  refine wxz ?_
  obtain⟨k1,hk_k1,h⟩:=jko h
  refine wjn (τ:=Unit) (fun t=>k1 t=some r) (fun _=>⟨mk 103 [(0,(.dat 5 (p0.map Qaq)))],[]⟩) (fun t h=>?_) ?_
  ·subst hk_k1
   refine bfe h (fun hb2 h=>?_) fun hb2 h=>?_
   ·refine wx tbk [(1,rp _ _),(3,rp [(.tmp 97,(B ((decide ((p0.length:Int)≥2)))))] (B true)),(5,rp [(.tmp 98,B true),(.tmp 99,(.dat 5 (p0.map Qaq)))] (I ((p0.length:Int))))] ⟨alq 5 Qaq p0 underlying23,asb hb2 (amv rfl),ag_ (alq 5 Qaq p0 underlying23),tv⟩<|Qaj ?_
    obtain rfl:=osi h
    exact fend ⟨[(B ((decide ((p0.length:Int)≤20))))],⟨rot,tv⟩,rfl⟩ nll
   ·exact wx tbk [(1,rp _ _),(3,rp [(.tmp 97,(B ((decide ((p0.length:Int)≥2)))))] (B false))] ⟨alq 5 Qaq p0 underlying23,asb hb2 (amv rfl),tv⟩<|Qaj<|frb h
  ·skip
   refine wxz<|Qar ?_
   refine wmr (mto (n:=103) (l':=[(0,(.dat 5 (p0.map Qaq))),(3,I 0)]) (own':=[]) [(0,(.dat 5 (p0.map Qaq))),(3,I 0)] [] [] hφ0 (pc (rnd Qag) (pw pn)) qn) ?_
   refine Qbt (τ:=Int) (fun n t=>Qd3 N p0 k1 n t=some r) (fun y3=>⟨mk 103 [(0,(.dat 5 (p0.map Qaq))),(3,I y3)],[]⟩) (fun t h=>by rw[Qd3] at h;cases h) (fun n5 ih y3 h=>?_) N (0) h
   rw[Qd3] at h
   skip
   refine wsq<|wx tbk [(2,rp _ _)] ⟨alq 5 Qaq p0 underlying23,tv⟩ ?_
   refine bfe h (fun hc6 h=>?_) fun hc6 h=>?_
   ·refine wft hc6<|Qap<|thn<|wsq<|Qar ?_
    obtain⟨x7,hg8,h⟩:=bno h
    obtain⟨hi9,hj10⟩:=gsm hg8
    refine wx tbk [(2,rp _ _)] ⟨aiq underlying23 Qto Qaq hi9 hj10,tv⟩ ?_
    obtain⟨k11,hk_k11,h⟩:=jko h
    refine wjn (τ:=Unit) (fun t=>k11 t=some r) (fun _=>⟨mk 103 [(0,(.dat 5 (p0.map Qaq))),(3,I y3),(4,.ref 0 5 0 0)],[(Zhk x7)]⟩) (fun t h=>?_) ?_
    ·subst hk_k11
     refine bfe h (fun hb12 h=>?_) fun hb12 h=>?_
     ·obtain⟨x13,hg14,h⟩:=bno h
      obtain⟨hi15,hj16⟩:=gsm hg14
      refine hpre (A:=(Q8a y3 p0 x13)) ⟨asb hb12 (amv rfl),ag_ (aiq underlying23 Qto Qaq hi15 hj16),tv⟩ fun q1_=>?_
      refine bfe h (fun hb17 h=>?_) fun hb17 h=>?_
      ·exact wxd tbk (hcat (Q8a y3 p0 x13) [(12,rp [(.tmp 51,B true),(.tmp 60,(B ((decide (x7.T≤x13.T)))))] (B true))]) (hap q1_ ⟨asb hb17 (ag_ (amv rfl)),tv⟩)<|wtr<|wxz<|Qaj<|Qat<|Qal<|Qal<|Qat<|Qal<|frb h
      ·refine hpre (A:=(Q79 y3 p0 x13 x7)) (hap q1_ ⟨asb hb17 (ag_ (amv rfl)),ag_ (aiq underlying23 Qto Qaq hi15 hj16),tv⟩) fun q2_=>?_
       refine bfe h (fun hb18 h=>?_) fun hb18 h=>?_
       ·exact wxd tbk (hcat (Q79 y3 p0 x13 x7) [(23,rp [(.tmp 51,B true),(.tmp 71,(B ((decide (x7.P≤x13.P)))))] (B true))]) (hap q2_ ⟨asb hb18 (ag_ (amv rfl)),tv⟩)<|wtr<|wxz<|Qaj<|Qat<|Qal<|Qal<|Qat<|Qal<|frb h
       ·refine hpre (A:=(Q78 y3 p0 x13 x7)) (hap q2_ ⟨asb hb18 (ag_ (amv rfl)),ag_ (aiq underlying23 Qto Qaq hi15 hj16),tv⟩) fun q3_=>?_
        refine bfe h (fun hb19 h=>?_) fun hb19 h=>?_
        ·exact wxd tbk (hcat (Q78 y3 p0 x13 x7) [(34,rp [(.tmp 51,B true),(.tmp 82,(B ((decide (x7.Liquid≤x13.Liquid)))))] (B true))]) (hap q3_ ⟨asb hb19 (ag_ (amv rfl)),tv⟩)<|wtr<|wxz<|Qaj<|Qat<|Qal<|Qal<|Qat<|Qal<|frb h
        ·refine wxd tbk (hcat (Q78 y3 p0 x13 x7) [(34,rp [(.tmp 51,B true),(.tmp 82,(B ((decide (x7.Liquid≤x13.Liquid)))))] (B false)),(40,rp [(.tmp 83,B false),(.tmp 86,(.dat 5 (p0.map Qaq))),(.tmp 88,(I (w64 (y3-1))))] (.dptr (Qaq x13) 0))]) (hap q3_ ⟨asb hb19 (ag_ (amv rfl)),ag_ (aiq underlying23 Qto Qaq hi15 hj16),tv⟩) ?_
         refine bfe h (fun hc20 h=>?_) fun hc20 h=>?_
         ·exact wft hc20<|wxz<|Qaj<|Qat<|Qal<|Qal<|Qat<|Qal<|frb h
         ·exact wfn hc20<|Qap<|bln<|thn<|wxz1<|thn<|arm (mto (n:=103) [(0,(.dat 5 (p0.map Qaq))),(3,(I (w64 (y3+1))))] [] [] hφ0 (pc (rnd Qag) (pw pn)) qn) (ih (w64 (y3+1)) h)
     ·exact wxd tbk [(2,rp [(.tmp 50,(B ((decide (y3>0)))))] (B false))] ⟨asb hb12 (amv rfl),tv⟩<|wfa<|Qap<|bln<|thn<|wxz1<|thn<|arm (mto (n:=103) [(0,(.dat 5 (p0.map Qaq))),(3,(I (w64 (y3+1))))] [] [] hφ0 (pc (rnd Qag) (pw pn)) qn) (ih (w64 (y3+1)) h)
    ·skip
     obtain⟨x22,hf21,h⟩:=bno h
     refine hpre (A:=(Q77 x7 x22)) ⟨apv Qh9 (Qc8 N x7.T 0 400 _ hf21) (nlcc (nlc nll nl0)) nll,tv⟩ fun q4_=>?_
     refine bfe h (fun hb23 h=>?_) fun hb23 h=>?_
     ·refine wx tbk (hcat (Q77 x7 x22) [(4,rp [(.tmp 18,(B ((!x22))))] (B true))]) (hap q4_ ⟨asb hb23 (amv rfl),tv⟩)<|wtr<|wxz<|Qaj<|Qal<|Qat<|Qal<|Qal<|Qat<|Qal ?_
      exact frb h
     ·obtain⟨x25,hf24,h⟩:=bno h
      refine hpre (A:=(Q76 x7 x22 x25)) (hap q4_ ⟨asb hb23 (amv rfl),ag_ (apv Qh9 (Qc8 N x7.P 1 10000 _ hf24) (nlcc (nlc nll nl0)) nll),tv⟩) fun q5_=>?_
      refine bfe h (fun hb26 h=>?_) fun hb26 h=>?_
      ·refine wx tbk (hcat (Q76 x7 x22 x25) [(10,rp [(.tmp 24,(B ((!x25))))] (B true))]) (hap q5_ ⟨asb hb26 (amv rfl),tv⟩)<|wtr<|wxz<|Qaj<|Qal<|Qat<|Qal<|Qal<|Qat<|Qal ?_
       exact frb h
      ·obtain⟨x28,hf27,h⟩:=bno h
       refine hpre (A:=(Q75 x7 x22 x25 x28)) (hap q5_ ⟨asb hb26 (amv rfl),ag_ (apv Qh9 (Qc8 N x7.Liquid 0 4000 _ hf27) (nlcc (nlc nll nl0)) nll),tv⟩) fun q6_=>?_
       refine bfe h (fun hb29 h=>?_) fun hb29 h=>?_
       ·refine wx tbk (hcat (Q75 x7 x22 x25 x28) [(16,rp [(.tmp 30,(B ((!x28))))] (B true))]) (hap q6_ ⟨asb hb29 (amv rfl),tv⟩)<|wtr<|wxz<|Qaj<|Qal<|Qat<|Qal<|Qal<|Qat<|Qal ?_
        exact frb h
       ·obtain⟨x31,hf30,h⟩:=bno h
        refine hpre (A:=(Q27 x7 x22 x25 x28 x31)) (hap q6_ ⟨asb hb29 (amv rfl),ag_ (apv Qh9 (Qc8 N x7.Silica 0 2000 _ hf30) (nlcc (nlc nll nl0)) nll),tv⟩) fun q7_=>?_
        refine bfe h (fun hb32 h=>?_) fun hb32 h=>?_
        ·refine wx tbk (hcat (Q27 x7 x22 x25 x28 x31) [(22,rp [(.tmp 36,(B ((!x31))))] (B true))]) (hap q7_ ⟨asb hb32 (amv rfl),tv⟩)<|wtr<|wxz<|Qaj<|Qal<|Qat<|Qal<|Qal<|Qat<|Qal ?_
         exact frb h
        ·refine bfe h (fun hb33 h=>?_) fun hb33 h=>?_
         ·refine wx tbk (hcat (Q27 x7 x22 x25 x28 x31) [(22,rp [(.tmp 36,(B ((!x31))))] (B false)),(29,rp [(.tmp 43,(B ((decide (x7.Vapour≤x7.Liquid)))))] (B true))]) (hap q7_ ⟨asb hb32 (amv rfl),asb hb33 (amv rfl),tv⟩)<|wtr<|wxz<|Qaj<|Qal<|Qat<|Qal<|Qal<|Qat<|Qal ?_
          exact frb h
         ·refine wx tbk (hcat (Q27 x7 x22 x25 x28 x31) [(22,rp [(.tmp 36,(B ((!x31))))] (B false)),(29,rp [(.tmp 43,(B ((decide (x7.Vapour≤x7.Liquid)))))] (B false))]) (hap q7_ ⟨asb hb32 (amv rfl),asb hb33 (amv rfl),tv⟩) ?_
          refine bfe h (fun hc34 h=>?_) fun hc34 h=>?_
          ·exact wft hc34<|wxz<|Qaj<|Qal<|Qat<|Qal<|Qal<|Qat<|Qal<|frb h
          ·exact wfn hc34<|Qap<|thn<|⟨(),h,(mto (n:=103) [(0,(.dat 5 (p0.map Qaq))),(3,I y3),(4,.ref 0 5 0 0)] [0] [(Zhk x7)] hφ0 (pc (rnd Qag) (pw (prr pn))) (qb (lcc (lcc (lc rwl ln))) qn))⟩
   ·exact wfn hc6<|Qbf<|Qaw<|Qaw<|Qbe rfl<|thn<|⟨(),h,(mto (n:=103) [(0,(.dat 5 (p0.map Qaq)))] [] [] hφ0 (pc (rnd Qag) pn) qn)⟩
def Qe0 (N:Nat) (p0:List GRow) (k2:(List GRow)→Option (List GRow)):Nat→(List GRow)→Int→Option (List GRow)
  |0,_,_=>none
  |n7+1,y3,y4=>
    bif (decide (y4<(p0.length:Int))) then
     (getI p0 y4).bind fun x9=>
     chk (decide ((y3.length+([x9]).length)*40≤140737488355328))<|
     Qe0 N p0 k2 n7 (y3++([x9])) (w64 (y4+1))
    else
     k2 (y3)
def Qkk (N:Nat) (p0:List GRow):Option (List GRow):=
  Qbl (fun y1=>
    some y1) fun k2:(List GRow)→Option (List GRow)=>
  Qe0 N p0 k2 N ([]) 0
def Zhj (x9:GRow):AV:=.agg [(I x9.T),(I x9.P),(I x9.Liquid),(I x9.Vapour),(I x9.Silica)]
theorem Qun (N:Nat) (p0 r:List GRow) (h:Qkk N p0=some r):Spec prog 59 [(.dat 5 (p0.map Qaq))] [] (.dat 5 (r.map Qaq)) []:=by
  refine Qan func59 rfl 0 (nle rfl) (fun X φ0 w0 hφ0 hd0=>?_)
  unfold Qkk at h
  refine wxz<|wxz ?_
  obtain⟨k2,hk_k2,h⟩:=jko h
  refine wjn (τ:=(List GRow)) (fun t=>k2 t=some r) (fun y1=>⟨mk 41 [(3,(.acc 0 160 5 (y1.map Qaq)))],[.tok]⟩) (fun y1 h=>?_) ?_
  ·subst hk_k2
   refine wxz<|Qaj ?_
   obtain rfl:=osi h
   exact fend ⟨[(.dat 5 (y1.map Qaq))],⟨Qb3 (v:=(.acc 0 160 5 (y1.map Qaq))) rot Less.acc,tv⟩,rfl⟩ (nld Qag _)
  ·skip
   refine wxz<|Qar ?_
   refine wmr (Mor.trans (Qps 0 160 5 3 (by kernel_rfl) (by kernel_rfl)) (mto (n:=41) (l':=[(0,(.dat 5 (p0.map Qaq))),(3,(.acc 0 160 5 ((([]):List GRow).map Qaq))),(4,I 0)]) (own':=[.tok]) [(0,(.dat 5 (p0.map Qaq))),(3,(.acc 0 160 5 (([]:List GRow).map Qaq))),(4,I 0)] [0] [.tok] hφ0 (pc (rnd Qag) (pc (.rn (Qcv rfl (Qb5 Qag _))) (pw pn))) (qc .tok qn))) ?_
   refine Qbt (τ:=(List GRow)×Int) (fun n t=>Qe0 N p0 k2 n t.1 t.2=some r) (fun ⟨y3,y4⟩=>⟨mk 41 [(0,(.dat 5 (p0.map Qaq))),(3,(.acc 0 160 5 (y3.map Qaq))),(4,I y4)],[.tok]⟩) (fun t h=>by rw[Qe0] at h;cases h) (fun n7 ih t h=>?_) N ([],0) h
   obtain⟨y3,y4⟩:=t
   rw[Qe0] at h
   skip
   refine wsq<|wx tbk [(2,rp _ _)] ⟨alq 5 Qaq p0 underlying23,tv⟩ ?_
   refine bfe h (fun hc8 h=>?_) fun hc8 h=>?_
   ·refine wft hc8<|Qap<|thn<|wsq<|Qar ?_
    obtain⟨x9,hg10,h⟩:=bno h
    obtain⟨hi11,hj12⟩:=gsm hg10
    obtain⟨ha13,h⟩:=cko h
    refine wy1 tbk [(3,rp _ _),(8,rp _ _),(13,rp _ _),(18,rp _ _),(23,rp _ _),(26,rp _ _),(27,rp [(.tmp 37,(Zhj x9))] (.dat 5 (([x9]:List GRow).map Qaq))),(28,⟨[(.tmp 11,(.acc 0 160 5 (y3.map Qaq))),(.tmp 38,(.dat 5 (([x9]:List GRow).map Qaq)))],[(0,.tok),(1,.unused)],(.acc 1 160 5 ((y3++([x9]):List GRow).map Qaq)),[(0,.dead),(1,.tok)],false⟩)] ⟨aiq underlying23 Qto Qaq hi11 hj12,aiq underlying23 Qto Qaq hi11 hj12,aiq underlying23 Qto Qaq hi11 hj12,aiq underlying23 Qto Qaq hi11 hj12,aiq underlying23 Qto Qaq hi11 hj12,Qa5 (vs:=[I x9.T,I x9.P,I x9.Liquid,I x9.Vapour,I x9.Silica]) rfl Zem Qxj rfl (by rfl) rfl,Qbz (vs:=[(Zhj x9)]) rfl underlying39 Qsp Qxj rfl (by decide) rfl (by decide) (by rfl) (by rfl) (by rfl) rfl,Qek rfl underlying39 Zkd (Base.acc _ _) rfl rfl (by rfl) (Qhl Qaq ha13) (Qhk Qaq ha13 (by decide)) (Qhj Qaq) rfl rfl,tv⟩<|bln<|thn<|wxz1<|thn ?_
    exact arm (mto (n:=41) [(0,(.dat 5 (p0.map Qaq))),(3,(.acc 1 160 5 ((y3++([x9]):List GRow).map Qaq))),(4,(I (w64 (y4+1))))] [1] [.tok] hφ0 (pc (rnd Qag) (pc (.rn (Qcv rfl (Qb5 Qag _))) (pw pn))) (qc .tok qn)) (ih (y3++([x9]),w64 (y4+1)) h)
   ·exact wfn hc8<|Qbf<|Qaw<|Qaw<|Qbe rfl<|thn<|⟨(y3),h,(mto (n:=41) [(3,(.acc 0 160 5 (y3.map Qaq)))] [0] [.tok] hφ0 (pc (.rn (Qcv rfl (Qb5 Qag _))) pn) (qc .tok qn))⟩
def Qfu (N:Nat) (x13:Qae) (k21:(List Qae)×(List Qbk)×(List Int)→Option GNet):Nat→Int→(List Qae)→(List Qbk)→(List Int)→Option GNet
  |0,_,_,_,_=>none
  |n31+1,y23,y24,y25,y26=>
    bif (decide (y23<(x13.From.length:Int))) then
     (getI x13.From y23).bind fun x33=>
     chk (decide ((y25.length+([x33]).length)*16≤140737488355328))<|
     Qfu N x13 k21 n31 (w64 (y23+1)) y24 (y25++([x33])) y26
    else
     k21 (y24,y25,y26)
def Qfv (N:Nat) (p0:GNet) (k4:(List Qae)→Option GNet):Nat→Int→(List Qae)→Option GNet
  |0,_,_=>none
  |n9+1,y5,y6=>
    bif (decide (y5<(p0.Elements.length:Int))) then
     Qbl (fun y11=>
       Qfv N p0 k4 n9 (w64 (y5+1)) y11) fun k12:(List Qae)→Option GNet=>
     (getI p0.Elements y5).bind fun x13=>
     chk (decide ((([]:List Int).length+x13.Weights.length)*8≤140737488355328))<|
     Qbl (fun ⟨y18,y19,y20⟩=>
       chk (decide ((y18.length+([(⟨x13.Kind,y19,x13.Level,x13.Amount,x13.Wide,x13.Narrow,y20⟩:Qae)]).length)*88≤140737488355328))<|
       k12 (y18++([(⟨x13.Kind,y19,x13.Level,x13.Amount,x13.Wide,x13.Narrow,y20⟩:Qae)]))) fun k21:(List Qae)×(List Qbk)×(List Int)→Option GNet=>
     Qfu N x13 k21 N 0 y6 ([]) (([]:List Int)++x13.Weights)
    else
     k4 (y6)
def Qi1 (N:Nat) (p0:GNet):Option GNet:=
  (Qkk N p0.Table).bind fun x2=>
  Qbl (fun y3=>
    some (⟨x2,y3⟩:GNet)) fun k4:(List Qae)→Option GNet=>
  Qfv N p0 k4 N 0 ([])
def Zpf (p0:GNet):AV:=.dat 5 (p0.Table.map Qaq)
def Zpe (p0:GNet):AV:=.dat 7 (p0.Elements.map Qac)
def Qsj (p0:GNet):Slot:=.own 2 [[(Zpf p0),(Zpe p0)]]
def Q74:AV:=.acc 5 3 1 ((([]:List Int):List Int).map Qad)
def Qw5 (x13:Qae):AV:=.acc 6 3 1 ((([]:List Int)++x13.Weights:List Int).map Qad)
def Q73 (y20:List Int):AV:=.acc 6 3 1 (y20.map Qad)
def Q71 (x13:Qae) (y19:List Qbk) (y20:List Int):AV:=.dat 7 (([(⟨x13.Kind,y19,x13.Level,x13.Amount,x13.Wide,x13.Narrow,y20⟩:Qae)]:List Qae).map Qac)
def Q72 (x13:Qae) (y19:List Qbk) (y20:List Int):AV:=.agg [(K .u8 x13.Kind),(.dat 2 (y19.map Qay)),(I x13.Level),(I x13.Amount),(I x13.Wide),(I x13.Narrow),(.dat 1 (y20.map Qad))]
def Zi9 (x13:Qae):AV:=.dat 2 (x13.From.map Qay)
def Qw6 (x13:Qae):Slot:=.own 7 [[(K .u8 x13.Kind),(Zi9 x13),(I x13.Level),(I x13.Amount),(I x13.Wide),(I x13.Narrow),(.dat 1 (x13.Weights.map Qad))]]
def Zja:AV:=.acc 6 120 2 ((([]):List Qbk).map Qay)
def Zjb:AV:=.acc 8 120 2 (([]:List Qbk).map Qay)
def Q70 (x13:Qae) (y25:List Qbk) (y26:List Int):Slot:=.own 7 [[(K .u8 x13.Kind),(.acc 6 120 2 (y25.map Qay)),(I x13.Level),(I x13.Amount),(I x13.Wide),(I x13.Narrow),(.acc 7 3 1 (y26.map Qad))]]
def Q7z (x33:Qbk):AV:=.agg [(I x33.Element),(I x33.Outlet)]
theorem Qm8 (N:Nat) (p0 r:GNet) (h:Qi1 N p0=some r):Spec prog 17 [(.agg (Qf6 p0))] [] (.agg (Qf6 r)) []:=by
  refine Qan func17 rfl 0 (nle rfl) (fun X φ0 w0 hφ0 hd0=>?_)
  unfold Qi1 at h
  refine wxz ?_
  obtain⟨x2,hf1,h⟩:=bno h
  refine wx tbk [(2,rp _ _),(3,rp _ _)] ⟨apv Zln (Qun N p0.Table _ hf1) (nlc (nld Qag _) nl0) (nld Qag _),Qa5 (vs:=[(.dat 5 (x2.map Qaq))]) rfl ts42 tz42 rfl (by rfl) rfl,tv⟩ ?_
  obtain⟨k4,hk_k4,h⟩:=jko h
  refine wjn (τ:=(List Qae)) (fun t=>k4 t=some r) (fun y3=>⟨mk 71 [(2,.ref 0 2 0 0),(3,.ref 1 2 0 0)],[(.own 2 [[nilS,nilS]]),(.own 2 [[(.dat 5 (x2.map Qaq)),(.acc 2 133 7 (y3.map Qac))]]),.tok]⟩) (fun y3 h=>?_) ?_
  ·subst hk_k4
   refine wxz<|Qaj ?_
   obtain rfl:=osi h
   exact fend ⟨[(.agg [(.dat 5 (x2.map Qaq)),(.dat 7 (y3.map Qac))])],⟨Qb3 (v:=(.agg [(.dat 5 (x2.map Qaq)),(.acc 2 133 7 (y3.map Qac))])) (Qbu (n:=0) (m:=2) (j:=0) (i:=0) (xs:=[[(.dat 5 (x2.map Qaq)),(.acc 2 133 7 (y3.map Qac))]]) (by kernel_rfl) (by kernel_rfl) ti42 (by decide) rfl (nle rfl) rfl) (Less.agg ⟨lrf,Less.acc,tv⟩),tv⟩,rfl⟩ (NLt.agg _ (nlc (nld Qag _) (nlc (nld Qab _) nl0)))
  ·skip
   refine wxz<|Qar ?_
   refine wmr (Mor.trans (Qs0 (n:=3) (ty:=133) (m:=7) (q:=2) (mq:=2) (c:=[(.dat 5 (x2.map Qaq)),nilS]) 1 (by kernel_rfl) (by kernel_rfl) (by kernel_rfl) (by decide)) (mto (n:=71) (l':=[(1,.ref 0 2 0 0),(2,.ref 1 2 0 0),(3,.ref 2 2 0 0),(4,I 0)]) (own':=[(Qsj p0),(.own 2 [[nilS,nilS]]),(.own 2 [[(.dat 5 (x2.map Qaq)),(.acc 3 133 7 ((([]):List Qae).map Qac))]]),.tok]) [(1,.ref 0 2 0 0),(2,.ref 1 2 0 0),(3,.ref 2 2 0 0),(4,I 0)] [0,1,2,3] [(Qsj p0),(.own 2 [[nilS,nilS]]),(.own 2 [[(.dat 5 (x2.map Qaq)),(.acc 3 133 7 (([]:List Qae).map Qac))]]),.tok] hφ0 (prr (prr (prr (pw pn)))) (qb (lc (rnd Qag) (lc (rnd Qab) ln)) (qb (lcc ln) (qb (lc (rnd Qag) (lc (.rn (Qcv rfl (Qb5 Qab _))) ln)) (qc .tok qn)))))) ?_
   refine Qbt (τ:=Int×(List Qae)) (fun n t=>Qfv N p0 k4 n t.1 t.2=some r) (fun ⟨y5,y6⟩=>⟨mk 71 [(1,.ref 0 2 0 0),(2,.ref 1 2 0 0),(3,.ref 2 2 0 0),(4,I y5)],[(Qsj p0),(.own 2 [[nilS,nilS]]),(.own 2 [[(.dat 5 (x2.map Qaq)),(.acc 3 133 7 (y6.map Qac))]]),.tok]⟩) (fun t h=>by rw[Qfv] at h;cases h) (fun n9 ih t h=>?_) N (0,[]) h
   obtain⟨y5,y6⟩:=t
   rw[Qfv] at h
   skip
   refine wsq<|wx tbk [(3,rp _ _)] ⟨alq 7 Qac p0.Elements underlying24,tv⟩ ?_
   refine bfe h (fun hc10 h=>?_) fun hc10 h=>?_
   ·refine wft hc10<|Qap<|thn ?_
    obtain⟨k12,hk_k12,h⟩:=jko h
    refine wjn (τ:=(List Qae)) (fun t=>k12 t=some r) (fun y11=>⟨mk 71 [(1,.ref 0 2 0 0),(2,.ref 1 2 0 0),(3,.ref 2 2 0 0),(4,I y5)],[(Qsj p0),(.own 2 [[nilS,nilS]]),(.own 2 [[(.dat 5 (x2.map Qaq)),(.acc 3 133 7 (y11.map Qac))]]),.tok]⟩) (fun y11 h=>?_) ?_
    ·subst hk_k12
     exact wxz1<|thn<|arm (mto (n:=71) [(1,.ref 0 2 0 0),(2,.ref 1 2 0 0),(3,.ref 2 2 0 0),(4,(I (w64 (y5+1))))] [0,1,2,3] [(Qsj p0),(.own 2 [[nilS,nilS]]),(.own 2 [[(.dat 5 (x2.map Qaq)),(.acc 3 133 7 (y11.map Qac))]]),.tok] hφ0 (prr (prr (prr (pw pn)))) (qb (lc (rnd Qag) (lc (rnd Qab) ln)) (qb (lcc ln) (qb (lc (rnd Qag) (lc (.rn (Qcv rfl (Qb5 Qab _))) ln)) (qc .tok qn))))) (ih (w64 (y5+1),y11) h)
    ·skip
     refine Qar ?_
     obtain⟨x13,hg14,h⟩:=bno h
     obtain⟨hi15,hj16⟩:=gsm hg14
     refine wx tbk [(3,rp _ _)] ⟨aiq underlying24 ti59 Qac hi15 hj16,tv⟩ ?_
     obtain⟨ha17,h⟩:=cko h
     refine wxd tbk [(10,⟨[],[(5,.unused)],Q74,[(5,.tok)],false⟩),(13,⟨[(.tmp 34,Q74),(.tmp 36,(.dat 1 (x13.Weights.map Qad)))],[(5,.tok),(6,.unused)],(Qw5 x13),[(5,.dead),(6,.tok)],false⟩),(14,rp _ _)] ⟨Qfg rfl underlying27 ti3 tz3,Qek rfl underlying27 te3 (Base.acc _ _) rfl rfl (Qji Qad Qh3 _) (Qhl Qad ha17) (Qhk Qad ha17 (by decide)) (Qhj Qad) rfl rfl,Qa5 (vs:=[(K .u8 x13.Kind),I x13.Level,I x13.Amount,I x13.Wide,I x13.Narrow,(Qw5 x13)]) rfl Zen Qza rfl (by rfl) rfl,tv⟩ ?_
     obtain⟨k21,hk_k21,h⟩:=jko h
     refine wjn (τ:=(List Qae)×(List Qbk)×(List Int)) (fun t=>k21 t=some r) (fun ⟨y18,y19,y20⟩=>⟨mk 71 [(1,.ref 0 2 0 0),(2,.ref 1 2 0 0),(3,.ref 2 2 0 0),(4,I y5),(6,.ref 3 7 0 0)],[(Qsj p0),(.own 2 [[nilS,nilS]]),(.own 2 [[(.dat 5 (x2.map Qaq)),(.acc 4 133 7 (y18.map Qac))]]),(.own 7 [[(K .u8 x13.Kind),(.acc 5 120 2 (y19.map Qay)),I x13.Level,I x13.Amount,I x13.Wide,I x13.Narrow,(Q73 y20)]]),.tok,.tok,.tok]⟩) (fun t h=>?_) ?_
     ·subst hk_k21
      obtain⟨y18,y19,y20⟩:=t
      obtain⟨ha22,h⟩:=cko h
      refine wx1 tbk [(3,rp [(.tmp 66,(.agg [(K .u8 x13.Kind),(.acc 5 120 2 (y19.map Qay)),I x13.Level,I x13.Amount,I x13.Wide,I x13.Narrow,(Q73 y20)]))] (Q71 x13 y19 y20)),(4,⟨[(.tmp 65,(.acc 4 133 7 (y18.map Qac))),(.tmp 67,(Q71 x13 y19 y20))],[(4,.tok),(7,.unused)],(.acc 7 133 7 ((y18++([(⟨x13.Kind,y19,x13.Level,x13.Amount,x13.Wide,x13.Narrow,y20⟩:Qae)]):List Qae).map Qac)),[(4,.dead),(7,.tok)],false⟩)] ⟨awk (rd':=[(.tmp 66,(Q72 x13 y19 y20))]) ⟨rfl,(Less.agg ⟨lrf,Less.acc,lrf,lrf,lrf,lrf,Less.acc,tv⟩),tv⟩ (Qbz (vs:=[(Q72 x13 y19 y20)]) rfl underlying40 Qik Qza rfl (by decide) rfl (by decide) (by rfl) (by rfl) (by rfl) rfl),Qek rfl underlying40 Zol (Base.acc _ _) rfl rfl (by rfl) (Qhl Qac ha22) (Qhk Qac ha22 (by decide)) (Qhj Qac) rfl rfl,tv⟩<|bln<|thn ?_
      exact⟨(y18++([(⟨x13.Kind,y19,x13.Level,x13.Amount,x13.Wide,x13.Narrow,y20⟩:Qae)])),h,(mto (n:=71) [(1,.ref 0 2 0 0),(2,.ref 1 2 0 0),(3,.ref 2 2 0 0),(4,I y5)] [0,1,2,7] [(Qsj p0),(.own 2 [[nilS,nilS]]),(.own 2 [[(.dat 5 (x2.map Qaq)),(.acc 7 133 7 ((y18++([(⟨x13.Kind,y19,x13.Level,x13.Amount,x13.Wide,x13.Narrow,y20⟩:Qae)]):List Qae).map Qac))]]),.tok] hφ0 (prr (prr (prr (pw pn)))) (qb (lc (rnd Qag) (lc (rnd Qab) ln)) (qb (lcc ln) (qb (lc (rnd Qag) (lc (.rn (Qcv rfl (Qb5 Qab _))) ln)) (qc .tok qn)))))⟩
     ·skip
      refine wxz<|Qar ?_
      refine wmr (Mor.trans (Qs0 (n:=8) (ty:=120) (m:=2) (q:=7) (mq:=7) (c:=[(K .u8 x13.Kind),nilS,I x13.Level,I x13.Amount,I x13.Wide,I x13.Narrow,(Qw5 x13)]) 1 (by kernel_rfl) (by kernel_rfl) (by kernel_rfl) (by decide)) (mto (n:=71) (l':=[(1,.ref 0 2 0 0),(2,.ref 1 2 0 0),(3,.ref 2 2 0 0),(4,I y5),(5,.ref 3 7 0 0),(6,.ref 4 7 0 0),(7,I 0)]) (own':=[(Qsj p0),(.own 2 [[nilS,nilS]]),(.own 2 [[(.dat 5 (x2.map Qaq)),(.acc 5 133 7 (y6.map Qac))]]),(Qw6 x13),(.own 7 [[(K .u8 x13.Kind),Zja,I x13.Level,I x13.Amount,I x13.Wide,I x13.Narrow,(.acc 7 3 1 (((([]:List Int)++x13.Weights):List Int).map Qad))]]),.tok,.tok,.tok]) [(1,.ref 0 2 0 0),(2,.ref 1 2 0 0),(3,.ref 2 2 0 0),(4,I y5),(5,.ref 4 7 0 0),(6,.ref 7 7 0 0),(7,I 0)] [0,1,2,4,7,3,8,6] [(Qsj p0),(.own 2 [[nilS,nilS]]),(.own 2 [[(.dat 5 (x2.map Qaq)),(.acc 3 133 7 (y6.map Qac))]]),(Qw6 x13),(.own 7 [[(K .u8 x13.Kind),Zjb,I x13.Level,I x13.Amount,I x13.Wide,I x13.Narrow,(Qw5 x13)]]),.tok,.tok,.tok] hφ0 (prr (prr (prr (pw (prr (prr (pw pn))))))) (qb (lc (rnd Qag) (lc (rnd Qab) ln)) (qb (lcc ln) (qb (lc (rnd Qag) (lc (.rn (Qcv rfl (Qb5 Qab _))) ln)) (qb (lc rwl (lc (rnd Qba) (lcc (lcc (lc (rnd Qaf) ln))))) (qb (lc rwl (lc (.rn (Qcv rfl (Qb5 Qba _))) (lcc (lcc (lc (.rn (Qcv rfl (Qb5 Qaf _))) ln))))) (qc .tok (qc .tok (qc .tok qn)))))))))) ?_
      refine Qbt (τ:=Int×(List Qae)×(List Qbk)×(List Int)) (fun n t=>Qfu N x13 k21 n t.1 t.2.1 t.2.2.1 t.2.2.2=some r) (fun ⟨y23,y24,y25,y26⟩=>⟨mk 71 [(1,.ref 0 2 0 0),(2,.ref 1 2 0 0),(3,.ref 2 2 0 0),(4,I y5),(5,.ref 3 7 0 0),(6,.ref 4 7 0 0),(7,I y23)],[(Qsj p0),(.own 2 [[nilS,nilS]]),(.own 2 [[(.dat 5 (x2.map Qaq)),(.acc 5 133 7 (y24.map Qac))]]),(Qw6 x13),(Q70 x13 y25 y26),.tok,.tok,.tok]⟩) (fun t h=>by rw[Qfu] at h;cases h) (fun n31 ih t h=>?_) N (0,y6,[],([]:List Int)++x13.Weights) h
      obtain⟨y23,y24,y25,y26⟩:=t
      rw[Qfu] at h
      skip
      refine wsq<|wx tbk [(3,rp _ _)] ⟨alq 2 Qay x13.From underlying57,tv⟩ ?_
      refine bfe h (fun hc32 h=>?_) fun hc32 h=>?_
      ·refine wft hc32<|Qap<|thn<|wsq<|Qar ?_
       obtain⟨x33,hg34,h⟩:=bno h
       obtain⟨hi35,hj36⟩:=gsm hg34
       obtain⟨ha37,h⟩:=cko h
       refine wy1 tbk [(5,rp _ _),(11,rp _ _),(14,rp _ _),(15,rp [(.tmp 60,(Q7z x33))] (.dat 2 (([x33]:List Qbk).map Qay))),(16,⟨[(.tmp 47,(.acc 6 120 2 (y25.map Qay))),(.tmp 61,(.dat 2 (([x33]:List Qbk).map Qay)))],[(6,.tok),(8,.unused)],(.acc 8 120 2 ((y25++([x33]):List Qbk).map Qay)),[(6,.dead),(8,.tok)],false⟩)] ⟨aiq underlying57 ti61 Qay hi35 hj36,aiq underlying57 ti61 Qay hi35 hj36,Qa5 (vs:=[I x33.Element,I x33.Outlet]) rfl Q97 Qso rfl (by rfl) rfl,Qbz (vs:=[(Q7z x33)]) rfl underlying116 Qpi Qso rfl (by decide) rfl (by decide) (by rfl) (by rfl) (by rfl) rfl,Qek rfl underlying116 Zep (Base.acc _ _) rfl rfl (by rfl) (Qhl Qay ha37) (Qhk Qay ha37 (by decide)) (Qhj Qay) rfl rfl,tv⟩<|bln<|thn<|wxz1<|thn ?_
       exact arm (mto (n:=71) [(1,.ref 0 2 0 0),(2,.ref 1 2 0 0),(3,.ref 2 2 0 0),(4,I y5),(5,.ref 3 7 0 0),(6,.ref 4 7 0 0),(7,(I (w64 (y23+1))))] [0,1,2,3,4,5,8,7] [(Qsj p0),(.own 2 [[nilS,nilS]]),(.own 2 [[(.dat 5 (x2.map Qaq)),(.acc 5 133 7 (y24.map Qac))]]),(Qw6 x13),(.own 7 [[(K .u8 x13.Kind),(.acc 8 120 2 ((y25++([x33]):List Qbk).map Qay)),I x13.Level,I x13.Amount,I x13.Wide,I x13.Narrow,(.acc 7 3 1 (y26.map Qad))]]),.tok,.tok,.tok] hφ0 (prr (prr (prr (pw (prr (prr (pw pn))))))) (qb (lc (rnd Qag) (lc (rnd Qab) ln)) (qb (lcc ln) (qb (lc (rnd Qag) (lc (.rn (Qcv rfl (Qb5 Qab _))) ln)) (qb (lc rwl (lc (rnd Qba) (lcc (lcc (lc (rnd Qaf) ln))))) (qb (lc rwl (lc (.rn (Qcv rfl (Qb5 Qba _))) (lcc (lcc (lc (.rn (Qcv rfl (Qb5 Qaf _))) ln))))) (qc .tok (qc .tok (qc .tok qn))))))))) (ih (w64 (y23+1),y24,y25++([x33]),y26) h)
      ·exact wfn hc32<|Qbf<|Qaw<|Qaw<|Qbe rfl<|thn<|⟨(y24,y25,y26),h,(mto (n:=71) [(1,.ref 0 2 0 0),(2,.ref 1 2 0 0),(3,.ref 2 2 0 0),(4,I y5),(6,.ref 4 7 0 0)] [0,1,2,4,5,6,7] [(Qsj p0),(.own 2 [[nilS,nilS]]),(.own 2 [[(.dat 5 (x2.map Qaq)),(.acc 5 133 7 (y24.map Qac))]]),(Q70 x13 y25 y26),.tok,.tok,.tok] hφ0 (prr (prr (prr (pw (prr pn))))) (qb (lc (rnd Qag) (lc (rnd Qab) ln)) (qb (lcc ln) (qb (lc (rnd Qag) (lc (.rn (Qcv rfl (Qb5 Qab _))) ln)) (qb (lc rwl (lc (.rn (Qcv rfl (Qb5 Qba _))) (lcc (lcc (lc (.rn (Qcv rfl (Qb5 Qaf _))) ln))))) (qc .tok (qc .tok (qc .tok qn))))))))⟩
   ·exact wfn hc10<|Qbf<|Qaw<|Qaw<|Qbe rfl<|thn<|⟨(y6),h,(mto (n:=71) [(2,.ref 1 2 0 0),(3,.ref 2 2 0 0)] [1,2,3] [(.own 2 [[nilS,nilS]]),(.own 2 [[(.dat 5 (x2.map Qaq)),(.acc 3 133 7 (y6.map Qac))]]),.tok] hφ0 (prr (prr pn)) (qb (lcc ln) (qb (lc (rnd Qag) (lc (.rn (Qcv rfl (Qb5 Qab _))) ln)) (qc .tok qn))))⟩
def Qgz (_N:Nat) (p0:List Int):Option (List Int):=
  chk (decide ((([]:List Int).length+p0.length)*8≤140737488355328))<|
  some (([]:List Int)++p0)
def Zmm:AV:=.acc 0 3 1 ((([]:List Int):List Int).map Qad)
def Zml (p0:List Int):AV:=.acc 1 3 1 ((([]:List Int)++p0:List Int).map Qad)
theorem Qio (N:Nat) (p0 r:List Int) (h:Qgz N p0=some r):Spec prog 18 [(.dat 1 (p0.map Qad))] [] (.dat 1 (r.map Qad)) []:=by
  refine Qan func18 rfl 0 (nle rfl) (fun X φ0 w0 hφ0 hd0=>?_)
  unfold Qgz at h
  refine wxz ?_
  obtain⟨ha1,h⟩:=cko h
  refine wx tbk [(0,⟨[],[(0,.unused)],Zmm,[(0,.tok)],false⟩),(2,⟨[(.tmp 3,Zmm),(.tmp 4,(.dat 1 (p0.map Qad)))],[(0,.tok),(1,.unused)],(Zml p0),[(0,.dead),(1,.tok)],false⟩)] ⟨Qfg rfl underlying27 ti3 tz3,Qek rfl underlying27 te3 (Base.acc _ _) rfl rfl (Qji Qad Qh3 _) (Qhl Qad ha1) (Qhk Qad ha1 (by decide)) (Qhj Qad) rfl rfl,tv⟩<|Qaj ?_
  obtain rfl:=osi h
  exact fend ⟨[(.dat 1 ((([]:List Int)++p0:List Int).map Qad))],⟨Qb3 (v:=(Zml p0)) rot Less.acc,tv⟩,rfl⟩ (nld Qaf _)
def Qfw (N:Nat) (p0:GNet) (k1:Unit→Option Bool):Nat→Int→Option Bool
  |0,_=>none
  |n6+1,y4=>
    bif (decide (y4<(p0.Elements.length:Int))) then
     (getI p0.Elements y4).bind fun x8=>
     bif (decide ((x8.From.length:Int)>25)) then
      some false
     else
      bif (decide ((x8.Weights.length:Int)>25)) then
       some false
      else
       Qfw N p0 k1 n6 (w64 (y4+1))
    else
     k1 ()
def Qk7 (N:Nat) (p0:GNet) (p1:List Qaa):Option Bool:=
  Qbl (fun _=>
    bif (decide ((p0.Elements.length:Int)≤18)) then
     bif (decide ((p0.Table.length:Int)≤25)) then
      some (decide ((p1.length:Int)≤25))
     else
      some false
    else
     some false) fun k1:Unit→Option Bool=>
  Qfw N p0 k1 N 0
def Q09 (p1:List Qaa):AV:=.dat 4 (p1.map Qah)
def Zmk (p0:GNet):AV:=.dat 5 (p0.Table.map Qaq)
def Zdk (p0:GNet):AV:=.dat 7 (p0.Elements.map Qac)
def Q5z (p0:GNet):Slot:=.own 2 [[(Zmk p0),(Zdk p0)]]
def Q7y (p0:GNet):List (Nat×Rec):=[(2,rp [((.tmp 32),(Zdk p0))] (I ((p0.Elements.length:Int))))]
def Q7x p0:=hcat (Q7y p0) [(4,rp [((.tmp 34),(B ((decide ((p0.Elements.length:Int)≤18)))))] (B true)),(7,rp [((.tmp 35),(B true)),((.tmp 37),(Zmk p0))] (I ((p0.Table.length:Int))))]
def Q7w (p0:GNet) (y4:Int) (x8:Qae):List (Nat×Rec):=[(3,rp [((.tmp 14),(Zdk p0)),((.tmp 15),(I y4))] (.dptr (Qac x8) 0)),(6,rp [((.tmp 18),(.dat 2 (x8.From.map Qay)))] (I ((x8.From.length:Int))))]
theorem Qx8 (N:Nat) (p0:GNet) (p1:List Qaa) (r:Bool) (h:Qk7 N p0 p1=some r):Spec prog 14 [(.agg (Qf6 p0)),(.dat 4 (p1.map Qah))] [] (B r) []:=by
  refine Qan func14 rfl 0 (nle rfl) (fun X φ0 w0 hφ0 hd0=>?_)
  unfold Qk7 at h
  refine wxz ?_
  obtain⟨k1,hk_k1,h⟩:=jko h
  refine wjn (τ:=Unit) (fun t=>k1 t=some r) (fun _=>⟨mk 46 [(1,(Q09 p1)),(2,.ref 0 2 0 0)],[(Q5z p0)]⟩) (fun t h=>?_) ?_
  ·subst hk_k1
   refine hpre (A:=(Q7y p0)) ⟨alq 7 Qac p0.Elements underlying24,tv⟩ fun q1_=>?_
   refine bfe h (fun hb2 h=>?_) fun hb2 h=>?_
   ·refine hpre (A:=(Q7x p0)) (hap q1_ ⟨asb hb2 (amv rfl),ag_ (alq 5 Qaq p0.Table underlying23),tv⟩) fun q2_=>?_
    refine bfe h (fun hb3 h=>?_) fun hb3 h=>?_
    ·refine wx tbk (hcat (Q7x p0) [(10,rp [(.tmp 40,(B ((decide ((p0.Table.length:Int)≤25)))))] (B true)),(12,rp [(.tmp 41,B true),(.tmp 42,(Q09 p1))] (I ((p1.length:Int))))]) (hap q2_ ⟨asb hb3 (amv rfl),ag_ (alq 4 Qah p1 underlying28),tv⟩)<|Qaj ?_
     obtain rfl:=osi h
     exact fend ⟨[(B ((decide ((p1.length:Int)≤25))))],⟨rot,tv⟩,rfl⟩ nll
    ·exact wx tbk (hcat (Q7x p0) [(10,rp [(.tmp 40,(B ((decide ((p0.Table.length:Int)≤25)))))] (B false))]) (hap q2_ ⟨asb hb3 (amv rfl),tv⟩)<|Qaj<|frb h
   ·exact wx tbk (hcat (Q7y p0) [(4,rp [(.tmp 34,(B ((decide ((p0.Elements.length:Int)≤18)))))] (B false))]) (hap q1_ ⟨asb hb2 (amv rfl),tv⟩)<|Qaj<|frb h
  ·skip
   refine wxz<|Qar ?_
   refine wmr (mto (n:=46) (l':=[(1,(Q09 p1)),(2,.ref 0 2 0 0),(5,I 0)]) (own':=[(Q5z p0)]) [(1,(Q09 p1)),(2,.ref 0 2 0 0),(5,I 0)] [0] [(Q5z p0)] hφ0 (pc (rnd Qam) (prr (pw pn))) (qb (lc (rnd Qag) (lc (rnd Qab) ln)) qn)) ?_
   refine Qbt (τ:=Int) (fun n t=>Qfw N p0 k1 n t=some r) (fun y4=>⟨mk 46 [(1,(Q09 p1)),(2,.ref 0 2 0 0),(5,I y4)],[(Q5z p0)]⟩) (fun t h=>by rw[Qfw] at h;cases h) (fun n6 ih y4 h=>?_) N (0) h
   rw[Qfw] at h
   skip
   refine wsq<|wx tbk [(3,rp _ _)] ⟨alq 7 Qac p0.Elements underlying24,tv⟩ ?_
   refine bfe h (fun hc7 h=>?_) fun hc7 h=>?_
   ·refine wft hc7<|Qap<|thn<|wsq<|Qar ?_
    obtain⟨x8,hg9,h⟩:=bno h
    obtain⟨hi10,hj11⟩:=gsm hg9
    refine hpre (A:=(Q7w p0 y4 x8)) ⟨aiq underlying24 ti59 Qac hi10 hj11,alq 2 Qay x8.From underlying57,tv⟩ fun q3_=>?_
    refine bfe h (fun hb12 h=>?_) fun hb12 h=>?_
    ·exact wx tbk (hcat (Q7w p0 y4 x8) [(8,rp [(.tmp 20,(B ((decide ((x8.From.length:Int)>25)))))] (B true))]) (hap q3_ ⟨asb hb12 (amv rfl),tv⟩)<|wtr<|wxz<|Qaj<|Qat<|Qal<|Qal<|Qat<|Qal<|frb h
    ·refine wx tbk (hcat (Q7w p0 y4 x8) [(8,rp [(.tmp 20,(B ((decide ((x8.From.length:Int)>25)))))] (B false)),(12,rp [(.tmp 21,B false),(.tmp 23,(Zdk p0)),(.tmp 24,I y4)] (.dptr (Qac x8) 0)),(15,rp [(.tmp 21,B false),(.tmp 27,(.dat 1 (x8.Weights.map Qad)))] (I ((x8.Weights.length:Int))))]) (hap q3_ ⟨asb hb12 (amv rfl),ag_ (aiq underlying24 ti59 Qac hi10 hj11),ag_ (alq 1 Qad x8.Weights underlying27),tv⟩) ?_
     refine bfe h (fun hc13 h=>?_) fun hc13 h=>?_
     ·exact wft hc13<|wxz<|Qaj<|Qat<|Qal<|Qal<|Qat<|Qal<|frb h
     ·exact wfn hc13<|Qap<|bln<|thn<|wxz1<|thn<|arm (mto (n:=46) [(1,(Q09 p1)),(2,.ref 0 2 0 0),(5,(I (w64 (y4+1))))] [0] [(Q5z p0)] hφ0 (pc (rnd Qam) (prr (pw pn))) (qb (lc (rnd Qag) (lc (rnd Qab) ln)) qn)) (ih (w64 (y4+1)) h)
   ·exact wfn hc7<|Qbf<|Qaw<|Qaw<|Qbe rfl<|thn<|⟨(),h,(mto (n:=46) [(1,(Q09 p1)),(2,.ref 0 2 0 0)] [0] [(Q5z p0)] hφ0 (pc (rnd Qam) (prr pn)) (qb (lc (rnd Qag) (lc (rnd Qab) ln)) qn))⟩
def Qcz (N:Nat) (p0:List Int) (k2:Int→Option Bool):Nat→Int→Int→Option Bool
  |0,_,_=>none
  |n8+1,y4,y5=>
    bif (decide (y5<(p0.length:Int))) then
     (getI p0 y5).bind fun x10=>
     (Qd6 N x10 0 1000).bind fun x15=>
     bif (!x15) then
      some false
     else
      Qcz N p0 k2 n8 (w64 (y4+x10)) (w64 (y5+1))
    else
     k2 (y4)
def Qgd (N:Nat) (p0:List Int):Option Bool:=
  Qbl (fun y1=>
    bif (decide ((p0.length:Int)≤20)) then
     some (decide (y1>0))
    else
     some false) fun k2:Int→Option Bool=>
  Qcz N p0 k2 N 0 0
theorem Qnm (N:Nat) (p0:List Int) (r:Bool) (h:Qgd N p0=some r):Spec prog 107 [(.dat 1 (p0.map Qad))] [] (B r) []:=by
  refine Qan func107 rfl 0 (nle rfl) (fun X φ0 w0 hφ0 hd0=>?_)
  unfold Qgd at h
  refine wxz<|wxz ?_
  obtain⟨k2,hk_k2,h⟩:=jko h
  refine wjn (τ:=Int) (fun t=>k2 t=some r) (fun y1=>⟨mk 30 [(0,(.dat 1 (p0.map Qad))),(3,I y1)],[]⟩) (fun y1 h=>?_) ?_
  ·subst hk_k2
   refine bfe h (fun hb3 h=>?_) fun hb3 h=>?_
   ·refine wx tbk [(1,rp _ _),(3,rp [(.tmp 25,(B ((decide ((p0.length:Int)≤20)))))] (B true))] ⟨alq 1 Qad p0 underlying27,asb hb3 (amv rfl),tv⟩<|Qaj ?_
    obtain rfl:=osi h
    exact fend ⟨[(B ((decide (y1>0))))],⟨rot,tv⟩,rfl⟩ nll
   ·exact wx tbk [(1,rp _ _),(3,rp [(.tmp 25,(B ((decide ((p0.length:Int)≤20)))))] (B false))] ⟨alq 1 Qad p0 underlying27,asb hb3 (amv rfl),tv⟩<|Qaj<|frb h
  ·skip
   refine wxz<|Qar ?_
   refine wmr (mto (n:=30) (l':=[(0,(.dat 1 (p0.map Qad))),(3,I 0),(4,I 0)]) (own':=[]) [(0,(.dat 1 (p0.map Qad))),(3,I 0),(4,I 0)] [] [] hφ0 (pc (rnd Qaf) (pw (pw pn))) qn) ?_
   refine Qbt (τ:=Int×Int) (fun n t=>Qcz N p0 k2 n t.1 t.2=some r) (fun ⟨y4,y5⟩=>⟨mk 30 [(0,(.dat 1 (p0.map Qad))),(3,I y4),(4,I y5)],[]⟩) (fun t h=>by rw[Qcz] at h;cases h) (fun n8 ih t h=>?_) N (0,0) h
   obtain⟨y4,y5⟩:=t
   rw[Qcz] at h
   skip
   refine wsq<|wx tbk [(2,rp _ _)] ⟨alq 1 Qad p0 underlying27,tv⟩ ?_
   refine bfe h (fun hc9 h=>?_) fun hc9 h=>?_
   ·refine wft hc9<|Qap<|thn<|wsq<|Qar<|wsq ?_
    obtain⟨x10,hg11,h⟩:=bno h
    obtain⟨hi12,hj13⟩:=gsm hg11
    obtain⟨x15,hf14,h⟩:=bno h
    refine wx tbk [(2,rp _ _),(4,rp _ _)] ⟨aiq underlying27 ti3 Qad hi12 hj13,apv Qh9 (Qc8 N x10 0 1000 _ hf14) (nlcc (nlc nll nl0)) nll,tv⟩ ?_
    refine bfe h (fun hc16 h=>?_) fun hc16 h=>?_
    ·exact wft hc16<|wxz<|Qaj<|Qal<|Qat<|Qal<|Qal<|Qat<|Qal<|frb h
    ·refine wfn hc16<|Qap<|thn ?_
     exact wx1 tbk [(3,rp _ _)] ⟨aiq underlying27 ti3 Qad hi12 hj13,tv⟩<|bln<|thn<|wxz1<|thn<|arm (mto (n:=30) [(0,(.dat 1 (p0.map Qad))),(3,(I (w64 (y4+x10)))),(4,(I (w64 (y5+1))))] [] [] hφ0 (pc (rnd Qaf) (pw (pw pn))) qn) (ih (w64 (y4+x10),w64 (y5+1)) h)
   ·exact wfn hc9<|Qbf<|Qaw<|Qaw<|Qbe rfl<|thn<|⟨(y4),h,(mto (n:=30) [(0,(.dat 1 (p0.map Qad))),(3,I y4)] [] [] hφ0 (pc (rnd Qaf) (pw pn)) qn)⟩
def Qkg (N:Nat) (p0:Qae):Option Bool:=
  Qbl (fun _=>
    Qbl (fun ⟨y2,y3⟩=>
      Qbl (fun y5=>
        Qbl (fun y7=>
          Qbl (fun y9=>
            Qbl (fun _=>
              bif (p0.Kind==5) then
               (Qgd N p0.Weights).bind fun x14=>
               some x14
              else
               some ((p0.Weights.length:Int)==0)) fun k11:Unit→Option Bool=>
            (Qd6 N (p0.From.length:Int) y2 y5).bind fun x16=>
            bif (!x16) then
             some false
            else
             (Qd6 N p0.Amount 0 y9).bind fun x19=>
             bif (!x19) then
              some false
             else
              k11 ()) fun k10:Int→Option Bool=>
          bif (p0.Kind==4) then
           k10 (1000)
          else
           k10 y7) fun k8:Int→Option Bool=>
        bif (p0.Kind==3) then
         k8 (1000000000)
        else
         k8 (0)) fun k6:Int→Option Bool=>
      bif (p0.Kind==2) then
       k6 (6)
      else
       k6 y3) fun k4:Int×Int→Option Bool=>
    bif (p0.Kind==1) then
     k4 (0,0)
    else
     k4 (1,1)) fun k1:Unit→Option Bool=>
  bif (decide (p0.Kind<1)) then
   some false
  else
   bif (decide (p0.Kind>6)) then
    some false
   else
    (Qd6 N p0.Wide 0 1000000).bind fun x28=>
    bif (!x28) then
     some false
    else
     (Qd6 N p0.Narrow 1 1000000000).bind fun x31=>
     bif (!x31) then
      some false
     else
      k1 ()
def Zn8 (p0:Qae):AV:=.dat 1 (p0.Weights.map Qad)
def Qk1 (p0:Qae):Slot:=.own 7 [[(K .u8 p0.Kind),(.dat 2 (p0.From.map Qay)),(I p0.Level),(I p0.Amount),(I p0.Wide),(I p0.Narrow),(Zn8 p0)]]
def Q9x (p0:Qae) (y2 y5:Int) (x16:Bool):List (Nat×Rec):=[(2,rp [((.tmp 39),(.dat 2 (p0.From.map Qay)))] (I ((p0.From.length:Int)))),(5,rp [fu 25,((.tmp 40),(I ((p0.From.length:Int)))),((.tmp 41),(I y2)),((.tmp 42),(I y5))] (B x16))]
def Q9w (p0:Qae):List (Nat×Rec):=[(3,rp [((.tmp 8),(B ((decide (p0.Kind<1)))))] (B false))]
def Q9v p0 (x28:Bool):=hcat (Q9w p0) [(8,rp [((.tmp 13),(B ((decide (p0.Kind>6)))))] (B false)),(11,rp [((.tmp 14),(B false)),fu 25,((.tmp 16),(I p0.Wide)),ci 0,ci 1000000] (B x28))]
theorem Qt0 (N:Nat) (p0:Qae) (r:Bool) (h:Qkg N p0=some r):Spec prog 70 [(.agg (Qac p0))] [] (B r) []:=by
  refine Qan func70 rfl 0 (nle rfl) (fun X φ0 w0 hφ0 hd0=>?_)
  unfold Qkg at h
  refine wxz ?_
  obtain⟨k1,hk_k1,h⟩:=jko h
  refine wjn (τ:=Unit) (fun t=>k1 t=some r) (fun _=>⟨mk 62 [(1,.ref 0 7 0 0)],[(Qk1 p0)]⟩) (fun t h=>?_) ?_
  ·subst hk_k1
   refine wxz ?_
   obtain⟨k4,hk_k4,h⟩:=jko h
   refine wjn (τ:=Int×Int) (fun t=>k4 t=some r) (fun ⟨y2,y3⟩=>⟨mk 62 [(1,.ref 0 7 0 0),(3,I y2),(4,I y3),(5,I 0)],[(Qk1 p0)]⟩) (fun t h=>?_) ?_
   ·subst hk_k4
    obtain⟨y2,y3⟩:=t
    obtain⟨k6,hk_k6,h⟩:=jko h
    refine wjn (τ:=Int) (fun t=>k6 t=some r) (fun y5=>⟨mk 62 [(1,.ref 0 7 0 0),(3,I y2),(4,I y5),(5,I 0)],[(Qk1 p0)]⟩) (fun y5 h=>?_) ?_
    ·subst hk_k6
     obtain⟨k8,hk_k8,h⟩:=jko h
     refine wjn (τ:=Int) (fun t=>k8 t=some r) (fun y7=>⟨mk 62 [(1,.ref 0 7 0 0),(3,I y2),(4,I y5),(5,I y7)],[(Qk1 p0)]⟩) (fun y7 h=>?_) ?_
     ·subst hk_k8
      obtain⟨k10,hk_k10,h⟩:=jko h
      refine wjn (τ:=Int) (fun t=>k10 t=some r) (fun y9=>⟨mk 62 [(1,.ref 0 7 0 0),(3,I y2),(4,I y5),(5,I y9)],[(Qk1 p0)]⟩) (fun y9 h=>?_) ?_
      ·subst hk_k10
       obtain⟨k11,hk_k11,h⟩:=jko h
       refine wjn (τ:=Unit) (fun t=>k11 t=some r) (fun _=>⟨mk 62 [(1,.ref 0 7 0 0)],[(Qk1 p0)]⟩) (fun t h=>?_) ?_
       ·subst hk_k11
        refine wsq<|wxz ?_
        refine bfe h (fun hc12 h=>?_) fun hc12 h=>?_
        ·refine wft hc12 ?_
         obtain⟨x14,hf13,h⟩:=bno h
         exact wx tbk [(2,rp _ _)] ⟨apv Zgw (Qnm N p0.Weights _ hf13) (nlc (nld Qaf _) nl0) nll,tv⟩<|Qaj<|Qal<|frb h
        ·refine wfn hc12<|Qap<|thn ?_
         refine wx tbk [(2,rp _ _)] ⟨alq 1 Qad p0.Weights underlying27,tv⟩<|Qaj ?_
         obtain rfl:=osi h
         exact fend ⟨[(B (((p0.Weights.length:Int)==0)))],⟨rot,tv⟩,rfl⟩ nll
       ·skip
        obtain⟨x16,hf15,h⟩:=bno h
        refine hpre (A:=(Q9x p0 y2 y5 x16)) ⟨alq 2 Qay p0.From underlying57,apv Qh9 (Qc8 N (p0.From.length:Int) y2 y5 _ hf15) (nlcc (nlc nll nl0)) nll,tv⟩ fun q1_=>?_
        refine bfe h (fun hb17 h=>?_) fun hb17 h=>?_
        ·exact wx tbk (hcat (Q9x p0 y2 y5 x16) [(7,rp [(.tmp 44,(B ((!x16))))] (B true))]) (hap q1_ ⟨asb hb17 (amv rfl),tv⟩)<|wtr<|wxz<|Qaj<|Qal<|frb h
        ·obtain⟨x19,hf18,h⟩:=bno h
         refine wx tbk (hcat (Q9x p0 y2 y5 x16) [(7,rp [(.tmp 44,(B ((!x16))))] (B false)),(11,rp [(.tmp 45,B false),fu 25,(.tmp 47,I p0.Amount),ci 0,(.tmp 48,I y9)] (B x19))]) (hap q1_ ⟨asb hb17 (amv rfl),ag_ (apv Qh9 (Qc8 N p0.Amount 0 y9 _ hf18) (nlcc (nlc nll nl0)) nll),tv⟩) ?_
         refine bfe h (fun hc20 h=>?_) fun hc20 h=>?_
         ·exact wft hc20<|wxz<|Qaj<|Qal<|frb h
         ·exact wfn hc20<|Qap<|thn<|⟨(),h,(mto (n:=62) [(1,.ref 0 7 0 0)] [0] [(Qk1 p0)] hφ0 (prr pn) (qb (lc rwl (lc (rnd Qba) (lcc (lcc (lc (rnd Qaf) ln))))) qn))⟩
      ·skip
       refine wxz ?_
       refine bfe h (fun hc21 h=>?_) fun hc21 h=>?_
       ·exact wft hc21<|wxz1<|thn<|⟨(1000),h,(mto (n:=62) [(1,.ref 0 7 0 0),(3,I y2),(4,I y5),(5,I 1000)] [0] [(Qk1 p0)] hφ0 (prr (pw (pw (pw pn)))) (qb (lc rwl (lc (rnd Qba) (lcc (lcc (lc (rnd Qaf) ln))))) qn))⟩
       ·exact wfn hc21<|Qap<|thn<|⟨(y7),h,(mto (n:=62) [(1,.ref 0 7 0 0),(3,I y2),(4,I y5),(5,I y7)] [0] [(Qk1 p0)] hφ0 (prr (pw (pw (pw pn)))) (qb (lc rwl (lc (rnd Qba) (lcc (lcc (lc (rnd Qaf) ln))))) qn))⟩
     ·skip
      refine wxz ?_
      refine bfe h (fun hc22 h=>?_) fun hc22 h=>?_
      ·exact wft hc22<|wxz1<|thn<|⟨(1000000000),h,(mto (n:=62) [(1,.ref 0 7 0 0),(3,I y2),(4,I y5),(5,I 1000000000)] [0] [(Qk1 p0)] hφ0 (prr (pw (pw (pw pn)))) (qb (lc rwl (lc (rnd Qba) (lcc (lcc (lc (rnd Qaf) ln))))) qn))⟩
      ·exact wfn hc22<|Qap<|thn<|⟨(0),h,(mto (n:=62) [(1,.ref 0 7 0 0),(3,I y2),(4,I y5),(5,I 0)] [0] [(Qk1 p0)] hφ0 (prr (pw (pw (pw pn)))) (qb (lc rwl (lc (rnd Qba) (lcc (lcc (lc (rnd Qaf) ln))))) qn))⟩
    ·skip
     refine wxz ?_
     refine bfe h (fun hc23 h=>?_) fun hc23 h=>?_
     ·exact wft hc23<|wxz1<|thn<|⟨(6),h,(mto (n:=62) [(1,.ref 0 7 0 0),(3,I y2),(4,I 6),(5,I 0)] [0] [(Qk1 p0)] hφ0 (prr (pw (pw (pw pn)))) (qb (lc rwl (lc (rnd Qba) (lcc (lcc (lc (rnd Qaf) ln))))) qn))⟩
     ·exact wfn hc23<|Qap<|thn<|⟨(y3),h,(mto (n:=62) [(1,.ref 0 7 0 0),(3,I y2),(4,I y3),(5,I 0)] [0] [(Qk1 p0)] hφ0 (prr (pw (pw (pw pn)))) (qb (lc rwl (lc (rnd Qba) (lcc (lcc (lc (rnd Qaf) ln))))) qn))⟩
   ·skip
    refine wxz ?_
    refine bfe h (fun hc24 h=>?_) fun hc24 h=>?_
    ·exact wft hc24<|wxz1<|thn<|⟨(0,0),h,(mto (n:=62) [(1,.ref 0 7 0 0),(3,I 0),(4,I 0),(5,I 0)] [0] [(Qk1 p0)] hφ0 (prr (pw (pw (pw pn)))) (qb (lc rwl (lc (rnd Qba) (lcc (lcc (lc (rnd Qaf) ln))))) qn))⟩
    ·exact wfn hc24<|Qap<|thn<|⟨(1,1),h,(mto (n:=62) [(1,.ref 0 7 0 0),(3,I 1),(4,I 1),(5,I 0)] [0] [(Qk1 p0)] hφ0 (prr (pw (pw (pw pn)))) (qb (lc rwl (lc (rnd Qba) (lcc (lcc (lc (rnd Qaf) ln))))) qn))⟩
  ·skip
   refine bfe h (fun hb25 h=>?_) fun hb25 h=>?_
   ·exact wx tbk [(3,rp [(.tmp 8,(B ((decide (p0.Kind<1)))))] (B true))] ⟨asb hb25 (amv rfl),tv⟩<|wtr<|wxz<|Qaj<|Qal<|frb h
   ·refine hpre (A:=(Q9w p0)) ⟨asb hb25 (amv rfl),tv⟩ fun q2_=>?_
    refine bfe h (fun hb26 h=>?_) fun hb26 h=>?_
    ·exact wx tbk (hcat (Q9w p0) [(8,rp [(.tmp 13,(B ((decide (p0.Kind>6)))))] (B true))]) (hap q2_ ⟨asb hb26 (amv rfl),tv⟩)<|wtr<|wxz<|Qaj<|Qal<|frb h
    ·obtain⟨x28,hf27,h⟩:=bno h
     refine hpre (A:=(Q9v p0 x28)) (hap q2_ ⟨asb hb26 (amv rfl),ag_ (apv Qh9 (Qc8 N p0.Wide 0 1000000 _ hf27) (nlcc (nlc nll nl0)) nll),tv⟩) fun q3_=>?_
     refine bfe h (fun hb29 h=>?_) fun hb29 h=>?_
     ·exact wx tbk (hcat (Q9v p0 x28) [(14,rp [(.tmp 19,(B ((!x28))))] (B true))]) (hap q3_ ⟨asb hb29 (amv rfl),tv⟩)<|wtr<|wxz<|Qaj<|Qal<|frb h
     ·obtain⟨x31,hf30,h⟩:=bno h
      refine wx tbk (hcat (Q9v p0 x28) [(14,rp [(.tmp 19,(B ((!x28))))] (B false)),(17,rp [(.tmp 20,B false),fu 25,(.tmp 22,I p0.Narrow),ci 1,ci 1000000000] (B x31))]) (hap q3_ ⟨asb hb29 (amv rfl),ag_ (apv Qh9 (Qc8 N p0.Narrow 1 1000000000 _ hf30) (nlcc (nlc nll nl0)) nll),tv⟩) ?_
      refine bfe h (fun hc32 h=>?_) fun hc32 h=>?_
      ·exact wft hc32<|wxz<|Qaj<|Qal<|frb h
      ·exact wfn hc32<|Qap<|thn<|⟨(),h,(mto (n:=62) [(1,.ref 0 7 0 0)] [0] [(Qk1 p0)] hφ0 (prr pn) (qb (lc rwl (lc (rnd Qba) (lcc (lcc (lc (rnd Qaf) ln))))) qn))⟩
def Qil (_N:Nat) (p0:Qae):Option Int:=
  bif (p0.Kind==4) then
   some 2
  else
   bif (p0.Kind==5) then
    (some (p0.Weights.length:Int)).bind fun x3=>
    some x3
   else
    some 1
theorem Qrn (N:Nat) (p0:Qae) (r:Int) (h:Qil N p0=some r):Spec prog 71 [(.agg (Qac p0))] [] (I r) []:=by
  refine Qan func71 rfl 0 (nle rfl) (fun X φ0 w0 hφ0 hd0=>?_)
  unfold Qil at h
  refine wxz<|wsq<|wxz ?_
  refine bfe h (fun hc1 h=>?_) fun hc1 h=>?_
  ·refine wft hc1<|wxz<|Qaj<|Qal ?_
   obtain rfl:=osi h
   exact fend ⟨[I 2],⟨rot,tv⟩,rfl⟩ nll
  ·refine wfn hc1<|Qap<|thn<|wsq<|wxz ?_
   refine bfe h (fun hc2 h=>?_) fun hc2 h=>?_
   ·refine wft hc2 ?_
    obtain⟨x3,hl4,h⟩:=bno h
    refine wx tbk [(2,rp _ _),(3,rp [(.tmp 11,(I ((p0.Weights.length:Int))))] (I x3))] ⟨alq 1 Qad p0.Weights underlying27,Qkz hl4 (aas rfl),tv⟩<|Qaj<|Qal ?_
    obtain rfl:=osi h
    exact fend ⟨[I x3],⟨rot,tv⟩,rfl⟩ nll
   ·refine wfn hc2<|Qap<|thn<|wxz<|Qaj ?_
    obtain rfl:=osi h
    exact fend ⟨[I 1],⟨rot,tv⟩,rfl⟩ nll
def Qet (N:Nat) (p0:List Qbk) (k1:Unit→Option Bool) (p1:Qbk):Nat→Int→Option Bool
  |0,_=>none
  |n4+1,y2=>
    bif (decide (y2<(p0.length:Int))) then
     (getI p0 y2).bind fun x6=>
     bif (([x6.Element,x6.Outlet]:List Int)==[p1.Element,p1.Outlet]) then
      some true
     else
      Qet N p0 k1 p1 n4 (w64 (y2+1))
    else
     k1 ()
def Qkf (N:Nat) (p0:List Qbk) (p1:Qbk):Option Bool:=
  Qbl (fun _=>
    some false) fun k1:Unit→Option Bool=>
  Qet N p0 k1 p1 N 0
def Q38 (p0:List Qbk):AV:=.dat 2 (p0.map Qay)
def Q39 (p1:Qbk):Slot:=.own 2 [[(I p1.Element),(I p1.Outlet)]]
theorem Qtz (N:Nat) (p0:List Qbk) (p1:Qbk) (r:Bool) (h:Qkf N p0 p1=some r):Spec prog 72 [(.dat 2 (p0.map Qay)),(.agg (Qay p1))] [] (B r) []:=by
  refine Qan func72 rfl 0 (nle rfl) (fun X φ0 w0 hφ0 hd0=>?_)
  unfold Qkf at h
  refine wxz ?_
  obtain⟨k1,hk_k1,h⟩:=jko h
  refine wjn (τ:=Unit) (fun t=>k1 t=some r) (fun _=>⟨mk 18 [],[]⟩) (fun t h=>?_) ?_
  ·subst hk_k1
   exact wxz<|Qaj<|frb h
  ·skip
   refine wxz<|Qar ?_
   refine wmr (mto (n:=18) (l':=[(0,(Q38 p0)),(3,.ref 0 2 0 0),(5,I 0)]) (own':=[(Q39 p1)]) [(0,(Q38 p0)),(3,.ref 0 2 0 0),(5,I 0)] [0] [(Q39 p1)] hφ0 (pc (rnd Qba) (prr (pw pn))) (qb (lcc ln) qn)) ?_
   refine Qbt (τ:=Int) (fun n t=>Qet N p0 k1 p1 n t=some r) (fun y2=>⟨mk 18 [(0,(Q38 p0)),(3,.ref 0 2 0 0),(5,I y2)],[(Q39 p1)]⟩) (fun t h=>by rw[Qet] at h;cases h) (fun n4 ih y2 h=>?_) N (0) h
   rw[Qet] at h
   skip
   refine wsq<|wx tbk [(2,rp _ _)] ⟨alq 2 Qay p0 underlying57,tv⟩ ?_
   refine bfe h (fun hc5 h=>?_) fun hc5 h=>?_
   ·refine wft hc5<|Qap<|thn<|wsq<|Qar ?_
    obtain⟨x6,hg7,h⟩:=bno h
    obtain⟨hi8,hj9⟩:=gsm hg7
    refine wxd tbk [(2,rp _ _),(5,rp [(.tmp 15,(.agg [I x6.Element,I x6.Outlet])),(.tmp 16,(.agg [I p1.Element,I p1.Outlet]))] (B ((([x6.Element,x6.Outlet]:List Int)==[p1.Element,p1.Outlet]))))] ⟨aiq underlying57 ti61 Qay hi8 hj9,Qra (ls:=[x6.Element,x6.Outlet]) (ks:=[p1.Element,p1.Outlet]) rfl rfl Zq5 (by kernel_rfl) rfl rfl,tv⟩ ?_
    refine bfe h (fun hc10 h=>?_) fun hc10 h=>?_
    ·exact wft hc10<|wxz<|Qaj<|Qat<|Qal<|Qal<|Qat<|Qal<|frb h
    ·exact wfn hc10<|Qap<|bln<|thn<|wxz1<|thn<|arm (mto (n:=18) [(0,(Q38 p0)),(3,.ref 0 2 0 0),(5,(I (w64 (y2+1))))] [0] [(Q39 p1)] hφ0 (pc (rnd Qba) (prr (pw pn))) (qb (lcc ln) qn)) (ih (w64 (y2+1)) h)
   ·exact wfn hc5<|Qbf<|Qaw<|Qaw<|Qbe rfl<|thn<|⟨(),h,(mto (n:=18) [] [] [] hφ0 pn qn)⟩
def Qeu (N:Nat) (p0:GNet) (y4:Int) (k10:(List Qbk)→Option Bool) (x11:Qae):Nat→(List Qbk)→Int→Option Bool
  |0,_,_=>none
  |n21+1,y17,y18=>
    bif (decide (y18<(x11.From.length:Int))) then
     (getI x11.From y18).bind fun x23=>
     (Qd6 N x23.Element 0 (w64 (y4-1))).bind fun x28=>
     bif (!x28) then
      some false
     else
      (getI p0.Elements x23.Element).bind fun x30=>
      (Qil N x30).bind fun x35=>
      (Qd6 N x23.Outlet 0 (w64 (x35-1))).bind fun x37=>
      bif (!x37) then
       some false
      else
       bif (decide (x11.Level>x30.Level)) then
        some false
       else
        (Qkf N y17 x23).bind fun x41=>
        bif x41 then
         some false
        else
         chk (decide ((y17.length+([x23]).length)*16≤140737488355328))<|
         Qeu N p0 y4 k10 x11 n21 (y17++([x23])) (w64 (y18+1))
    else
     k10 (y17)
def Qd1 (N:Nat) (p0:GNet) (k2:Unit→Option Bool):Nat→(List Qbk)→Int→Option Bool
  |0,_,_=>none
  |n7+1,y3,y4=>
    bif (decide (y4<(p0.Elements.length:Int))) then
     Qbl (fun y9=>
       Qd1 N p0 k2 n7 y9 (w64 (y4+1))) fun k10:(List Qbk)→Option Bool=>
     (getI p0.Elements y4).bind fun x11=>
     Qbl (fun y15=>
       Qeu N p0 y4 k10 x11 N y15 0) fun k16:(List Qbk)→Option Bool=>
     (Qkg N x11).bind fun x45=>
     bif (!x45) then
      some false
     else
      (Qd6 N x11.Level 0 (w64 ((p0.Table.length:Int)-1))).bind fun x48=>
      bif (!x48) then
       some false
      else
       k16 (y3)
    else
     k2 ()
def Qkh (N:Nat) (p0:GNet):Option Bool:=
  Qbl (fun _=>
    Qbl (fun _=>
      some true) fun k2:Unit→Option Bool=>
    Qd1 N p0 k2 N ([]) 0) fun k1:Unit→Option Bool=>
  (Qki N p0.Table).bind fun x51=>
  bif (!x51) then
   some false
  else
   bif (decide ((p0.Elements.length:Int)<1)) then
    some false
   else
    bif (decide ((p0.Elements.length:Int)>16)) then
     some false
    else
     k1 ()
def Zi8 (p0:GNet):AV:=.dat 5 (p0.Table.map Qaq)
def Q7v (p0:GNet):AV:=.dat 7 (p0.Elements.map Qac)
def Qp4 (p0:GNet):Slot:=.own 2 [[(Zi8 p0),(Q7v p0)]]
def Q7u (x11:Qae):AV:=.dat 2 (x11.From.map Qay)
def Qre (x11:Qae):Slot:=.own 7 [[(K .u8 x11.Kind),(Q7u x11),(I x11.Level),(I x11.Amount),(I x11.Wide),(I x11.Narrow),(.dat 1 (x11.Weights.map Qad))]]
def Qw4 (y17:List Qbk):AV:=.acc 1 61 2 (y17.map Qay)
def Q08 (x23:Qbk) (y4:Int) (x28:Bool):List (Nat×Rec):=[(4,rp [fu 25,((.tmp 62),(I x23.Element)),ci 0,((.tmp 64),(I (w64 (y4-1))))] (B x28))]
def Zi6 (x30:Qae):AV:=.agg [(K .u8 x30.Kind),(.dat 2 (x30.From.map Qay)),(I x30.Level),(I x30.Amount),(I x30.Wide),(I x30.Narrow),(.dat 1 (x30.Weights.map Qad))]
def Q07 x23 y4 x28 (p0:GNet) (x30:Qae) (x35:Int) (x37:Bool):=hcat (Q08 x23 y4 x28) [(6,rp [((.tmp 66),(B ((!x28))))] (B false)),(13,rp [((.tmp 67),(B false)),((.tmp 71),(Q7v p0)),((.tmp 73),(I x23.Element))] (.dptr (Qac x30) 0)),(15,rp [((.tmp 67),(B false)),fu 71,((.tmp 75),(Zi6 x30))] (I x35)),(17,rp [((.tmp 67),(B false)),fu 25,((.tmp 69),(I x23.Outlet)),ci 0,((.tmp 77),(I (w64 (x35-1))))] (B x37))]
def Q06 x23 y4 x28 p0 x30 x35 x37:=hcat (Q07 x23 y4 x28 p0 x30 x35 x37) [(20,rp [((.tmp 80),(B ((!x37))))] (B false)),(27,rp [((.tmp 81),(B false)),((.tmp 85),(Q7v p0)),((.tmp 87),(I x23.Element))] (.dptr (Qac x30) 0))]
def Qw3 (x23:Qbk):AV:=.agg [(I x23.Element),(I x23.Outlet)]
def Zi7 (x11:Qae):AV:=.agg [(K .u8 x11.Kind),(Q7u x11),(I x11.Level),(I x11.Amount),(I x11.Wide),(I x11.Narrow),(.dat 1 (x11.Weights.map Qad))]
def Q05 (x11:Qae) (x45:Bool):List (Nat×Rec):=[(1,rp [fu 70,((.tmp 36),(Zi7 x11))] (B x45))]
def Q04 (p0:GNet) (x51:Bool):List (Nat×Rec):=[(2,rp [fu 69,((.tmp 9),(Zi8 p0))] (B x51))]
def Q03 p0 x51:=hcat (Q04 p0 x51) [(4,rp [((.tmp 11),(B ((!x51))))] (B false)),(7,rp [((.tmp 12),(B false)),((.tmp 14),(Q7v p0))] (I ((p0.Elements.length:Int))))]
theorem Qt1 (N:Nat) (p0:GNet) (r:Bool) (h:Qkh N p0=some r):Spec prog 28 [(.agg (Qf6 p0))] [] (B r) []:=by
  refine Qan func28 rfl 0 (nle rfl) (fun X φ0 w0 hφ0 hd0=>?_)
  unfold Qkh at h
  refine wxz ?_
  obtain⟨k1,hk_k1,h⟩:=jko h
  refine wjn (τ:=Unit) (fun t=>k1 t=some r) (fun _=>⟨mk 102 [(1,.ref 0 2 0 0)],[(Qp4 p0)]⟩) (fun t h=>?_) ?_
  ·subst hk_k1
   refine wxz ?_
   obtain⟨k2,hk_k2,h⟩:=jko h
   refine wjn (τ:=Unit) (fun t=>k2 t=some r) (fun _=>⟨mk 102 [],[]⟩) (fun t h=>?_) ?_
   ·subst hk_k2
    exact wxz<|Qaj<|frb h
   ·skip
    refine wxz<|Qar ?_
    refine wmr (Mor.trans (Qps 1 61 2 3 (by kernel_rfl) (by kernel_rfl)) (mto (n:=102) (l':=[(1,.ref 0 2 0 0),(3,(.acc 1 61 2 ((([]):List Qbk).map Qay))),(4,I 0)]) (own':=[(Qp4 p0),.tok]) [(1,.ref 0 2 0 0),(3,(.acc 1 61 2 (([]:List Qbk).map Qay))),(4,I 0)] [0,1] [(Qp4 p0),.tok] hφ0 (prr (pc (.rn (Qcv rfl (Qb5 Qba _))) (pw pn))) (qb (lc (rnd Qag) (lc (rnd Qab) ln)) (qc .tok qn)))) ?_
    refine Qbt (τ:=(List Qbk)×Int) (fun n t=>Qd1 N p0 k2 n t.1 t.2=some r) (fun ⟨y3,y4⟩=>⟨mk 102 [(1,.ref 0 2 0 0),(3,(.acc 1 61 2 (y3.map Qay))),(4,I y4)],[(Qp4 p0),.tok]⟩) (fun t h=>by rw[Qd1] at h;cases h) (fun n7 ih t h=>?_) N ([],0) h
    obtain⟨y3,y4⟩:=t
    rw[Qd1] at h
    skip
    refine wsq<|wx tbk [(3,rp _ _)] ⟨alq 7 Qac p0.Elements underlying24,tv⟩ ?_
    refine bfe h (fun hc8 h=>?_) fun hc8 h=>?_
    ·refine wft hc8<|Qap<|thn ?_
     obtain⟨k10,hk_k10,h⟩:=jko h
     refine wjn (τ:=(List Qbk)) (fun t=>k10 t=some r) (fun y9=>⟨mk 102 [(1,.ref 0 2 0 0),(3,(.acc 1 61 2 (y9.map Qay))),(4,I y4)],[(Qp4 p0),.tok]⟩) (fun y9 h=>?_) ?_
     ·subst hk_k10
      exact wxz1<|thn<|arm (mto (n:=102) [(1,.ref 0 2 0 0),(3,(.acc 1 61 2 (y9.map Qay))),(4,(I (w64 (y4+1))))] [0,1] [(Qp4 p0),.tok] hφ0 (prr (pc (.rn (Qcv rfl (Qb5 Qba _))) (pw pn))) (qb (lc (rnd Qag) (lc (rnd Qab) ln)) (qc .tok qn))) (ih (y9,w64 (y4+1)) h)
     ·skip
      refine Qar ?_
      obtain⟨x11,hg12,h⟩:=bno h
      obtain⟨hi13,hj14⟩:=gsm hg12
      refine wx tbk [(3,rp _ _)] ⟨aiq underlying24 ti59 Qac hi13 hj14,tv⟩ ?_
      obtain⟨k16,hk_k16,h⟩:=jko h
      refine wjn (τ:=(List Qbk)) (fun t=>k16 t=some r) (fun y15=>⟨mk 102 [(1,.ref 0 2 0 0),(3,(.acc 1 61 2 (y15.map Qay))),(4,I y4),(5,.ref 2 7 0 0)],[(Qp4 p0),.tok,(Qre x11)]⟩) (fun y15 h=>?_) ?_
      ·subst hk_k16
       refine wxz<|Qar ?_
       refine wmr (mto (n:=102) (l':=[(1,.ref 0 2 0 0),(3,(.acc 1 61 2 (y15.map Qay))),(4,I y4),(5,.ref 2 7 0 0),(6,I 0)]) (own':=[(Qp4 p0),.tok,(Qre x11)]) [(1,.ref 0 2 0 0),(3,(.acc 1 61 2 (y15.map Qay))),(4,I y4),(5,.ref 2 7 0 0),(6,I 0)] [0,1,2] [(Qp4 p0),.tok,(Qre x11)] hφ0 (prr (pc (.rn (Qcv rfl (Qb5 Qba _))) (pw (prr (pw pn))))) (qb (lc (rnd Qag) (lc (rnd Qab) ln)) (qc .tok (qb (lc rwl (lc (rnd Qba) (lcc (lcc (lc (rnd Qaf) ln))))) qn)))) ?_
       refine Qbt (τ:=(List Qbk)×Int) (fun n t=>Qeu N p0 y4 k10 x11 n t.1 t.2=some r) (fun ⟨y17,y18⟩=>⟨mk 102 [(1,.ref 0 2 0 0),(3,(Qw4 y17)),(4,I y4),(5,.ref 2 7 0 0),(6,I y18)],[(Qp4 p0),.tok,(Qre x11)]⟩) (fun t h=>by rw[Qeu] at h;cases h) (fun n21 ih t h=>?_) N (y15,0) h
       obtain⟨y17,y18⟩:=t
       rw[Qeu] at h
       skip
       refine wsq<|wx tbk [(3,rp _ _)] ⟨alq 2 Qay x11.From underlying57,tv⟩ ?_
       refine bfe h (fun hc22 h=>?_) fun hc22 h=>?_
       ·refine wft hc22<|Qap<|thn<|wsq<|Qar ?_
        obtain⟨x23,hg24,h⟩:=bno h
        obtain⟨hi25,hj26⟩:=gsm hg24
        refine wx tbk [(3,rp _ _)] ⟨aiq underlying57 ti61 Qay hi25 hj26,tv⟩<|wsq ?_
        obtain⟨x28,hf27,h⟩:=bno h
        refine hpre (A:=(Q08 x23 y4 x28)) ⟨apv Qh9 (Qc8 N x23.Element 0 (w64 (y4-1)) _ hf27) (nlcc (nlc nll nl0)) nll,tv⟩ fun q1_=>?_
        refine bfe h (fun hb29 h=>?_) fun hb29 h=>?_
        ·refine wxd tbk (hcat (Q08 x23 y4 x28) [(6,rp [(.tmp 66,(B ((!x28))))] (B true))]) (hap q1_ ⟨asb hb29 (amv rfl),tv⟩)<|wtr<|wxz<|Qaj<|Qal<|Qat<|Qal<|Qal<|Qat<|Qat ?_
         exact Qal<|Qal<|Qat<|Qal<|frb h
        ·obtain⟨x30,hg31,h⟩:=bno h
         obtain⟨hi32,hj33⟩:=gsm hg31
         obtain⟨x35,hf34,h⟩:=bno h
         obtain⟨x37,hf36,h⟩:=bno h
         refine hpre (A:=(Q07 x23 y4 x28 p0 x30 x35 x37)) (hap q1_ ⟨asb hb29 (amv rfl),ag_ (aiq underlying24 ti59 Qac hi32 hj33),ag_ (apv Zli (Qrn N x30 _ hf34) (nlc (NLt.agg _ (nlc nll (nlc (nld Qba _) (nlcc (nlcc (nlc (nld Qaf _) nl0)))))) nl0) nll),ag_ (apv Qh9 (Qc8 N x23.Outlet 0 (w64 (x35-1)) _ hf36) (nlcc (nlc nll nl0)) nll),tv⟩) fun q2_=>?_
         refine bfe h (fun hb38 h=>?_) fun hb38 h=>?_
         ·refine wxd tbk (hcat (Q07 x23 y4 x28 p0 x30 x35 x37) [(20,rp [(.tmp 80,(B ((!x37))))] (B true))]) (hap q2_ ⟨asb hb38 (amv rfl),tv⟩)<|wtr<|wxz<|Qaj<|Qal<|Qat<|Qal<|Qal<|Qat<|Qat ?_
          exact Qal<|Qal<|Qat<|Qal<|frb h
         ·refine hpre (A:=(Q06 x23 y4 x28 p0 x30 x35 x37)) (hap q2_ ⟨asb hb38 (amv rfl),ag_ (aiq underlying24 ti59 Qac hi32 hj33),tv⟩) fun q3_=>?_
          refine bfe h (fun hb39 h=>?_) fun hb39 h=>?_
          ·refine wxd tbk (hcat (Q06 x23 y4 x28 p0 x30 x35 x37) [(32,rp [(.tmp 92,(B ((decide (x11.Level>x30.Level)))))] (B true))]) (hap q3_ ⟨asb hb39 (amv rfl),tv⟩)<|wtr<|wxz<|Qaj<|Qal<|Qat<|Qal<|Qal<|Qat<|Qat ?_
           exact Qal<|Qal<|Qat<|Qal<|frb h
          ·obtain⟨x41,hf40,h⟩:=bno h
           refine wxd tbk (hcat (Q06 x23 y4 x28 p0 x30 x35 x37) [(32,rp [(.tmp 92,(B ((decide (x11.Level>x30.Level)))))] (B false)),(35,rp [(.tmp 93,B false),fu 72,(.tmp 94,(Qw4 y17)),(.tmp 95,(Qw3 x23))] (B x41))]) (hap q3_ ⟨asb hb39 (amv rfl),ag_ (awk (rd':=(.func 72,(.fn (.func 72) [] []))::[(.tmp 94,(.dat 2 (y17.map Qay))),(.tmp 95,(Qw3 x23))]) ⟨rfl,lrf,rfl,Less.acc,rfl,lrf,tv⟩ (apv Zlh (Qtz N y17 x23 _ hf40) (nlc (nld Qba _) (nlc (NLt.agg _ (nlcc nl0)) nl0)) nll)),tv⟩) ?_
           refine bfe h (fun hc42 h=>?_) fun hc42 h=>?_
           ·refine wft hc42<|wxz<|Qaj<|Qal<|Qat<|Qal<|Qal<|Qat<|Qat<|Qal ?_
            exact Qal<|Qat<|Qal<|frb h
           ·refine wfn hc42<|Qap<|thn ?_
            obtain⟨ha43,h⟩:=cko h
            refine wx1 tbk [(2,rp [(.tmp 99,(Qw3 x23))] (.dat 2 (([x23]:List Qbk).map Qay))),(3,⟨[(.tmp 98,(Qw4 y17)),(.tmp 100,(.dat 2 (([x23]:List Qbk).map Qay)))],[(1,.tok),(4,.unused)],(.acc 4 61 2 ((y17++([x23]):List Qbk).map Qay)),[(1,.dead),(4,.tok)],false⟩)] ⟨Qbz (vs:=[(Qw3 x23)]) rfl underlying57 ti61 tz61 rfl (by decide) rfl (by decide) (by rfl) (by rfl) (by rfl) rfl,Qek rfl underlying57 te61 (Base.acc _ _) rfl rfl (by rfl) (Qhl Qay ha43) (Qhk Qay ha43 (by decide)) (Qhj Qay) rfl rfl,tv⟩<|bln<|thn<|wxz1<|thn ?_
            exact arm (mto (n:=102) [(1,.ref 0 2 0 0),(3,(.acc 4 61 2 ((y17++([x23]):List Qbk).map Qay))),(4,I y4),(5,.ref 2 7 0 0),(6,(I (w64 (y18+1))))] [0,4,2] [(Qp4 p0),.tok,(Qre x11)] hφ0 (prr (pc (.rn (Qcv rfl (Qb5 Qba _))) (pw (prr (pw pn))))) (qb (lc (rnd Qag) (lc (rnd Qab) ln)) (qc .tok (qb (lc rwl (lc (rnd Qba) (lcc (lcc (lc (rnd Qaf) ln))))) qn)))) (ih (y17++([x23]),w64 (y18+1)) h)
       ·exact wfn hc22<|Qbf<|Qaw<|Qaw<|Qbe rfl<|bln<|thn<|⟨(y17),h,(mto (n:=102) [(1,.ref 0 2 0 0),(3,(Qw4 y17)),(4,I y4)] [0,1] [(Qp4 p0),.tok] hφ0 (prr (pc (.rn (Qcv rfl (Qb5 Qba _))) (pw pn))) (qb (lc (rnd Qag) (lc (rnd Qab) ln)) (qc .tok qn)))⟩
      ·skip
       obtain⟨x45,hf44,h⟩:=bno h
       refine hpre (A:=(Q05 x11 x45)) ⟨apv Zlj (Qt0 N x11 _ hf44) (nlc (NLt.agg _ (nlc nll (nlc (nld Qba _) (nlcc (nlcc (nlc (nld Qaf _) nl0)))))) nl0) nll,tv⟩ fun q4_=>?_
       refine bfe h (fun hb46 h=>?_) fun hb46 h=>?_
       ·refine wx tbk (hcat (Q05 x11 x45) [(3,rp [(.tmp 38,(B ((!x45))))] (B true))]) (hap q4_ ⟨asb hb46 (amv rfl),tv⟩)<|wtr<|wxz<|Qaj<|Qal<|Qat<|Qal<|Qal<|Qat<|Qal ?_
        exact frb h
       ·obtain⟨x48,hf47,h⟩:=bno h
        refine wx tbk (hcat (Q05 x11 x45) [(3,rp [(.tmp 38,(B ((!x45))))] (B false)),(8,rp [(.tmp 39,B false),(.tmp 43,(Zi8 p0))] (I ((p0.Table.length:Int)))),(10,rp [(.tmp 39,B false),fu 25,(.tmp 41,I x11.Level),ci 0,(.tmp 45,(I (w64 ((p0.Table.length:Int)-1))))] (B x48))]) (hap q4_ ⟨asb hb46 (amv rfl),ag_ (alq 5 Qaq p0.Table underlying23),ag_ (apv Qh9 (Qc8 N x11.Level 0 (w64 ((p0.Table.length:Int)-1)) _ hf47) (nlcc (nlc nll nl0)) nll),tv⟩) ?_
        refine bfe h (fun hc49 h=>?_) fun hc49 h=>?_
        ·exact wft hc49<|wxz<|Qaj<|Qal<|Qat<|Qal<|Qal<|Qat<|Qal<|frb h
        ·exact wfn hc49<|Qap<|thn<|⟨(y3),h,(mto (n:=102) [(1,.ref 0 2 0 0),(3,(.acc 1 61 2 (y3.map Qay))),(4,I y4),(5,.ref 2 7 0 0)] [0,1,2] [(Qp4 p0),.tok,(Qre x11)] hφ0 (prr (pc (.rn (Qcv rfl (Qb5 Qba _))) (pw (prr pn)))) (qb (lc (rnd Qag) (lc (rnd Qab) ln)) (qc .tok (qb (lc rwl (lc (rnd Qba) (lcc (lcc (lc (rnd Qaf) ln))))) qn))))⟩
    ·exact wfn hc8<|Qbf<|Qaw<|Qaw<|Qbe rfl<|thn<|⟨(),h,(mto (n:=102) [] [] [] hφ0 pn qn)⟩
  ·skip
   obtain⟨x51,hf50,h⟩:=bno h
   refine hpre (A:=(Q04 p0 x51)) ⟨apv Zlk (Qt2 N p0.Table _ hf50) (nlc (nld Qag _) nl0) nll,tv⟩ fun q5_=>?_
   refine bfe h (fun hb52 h=>?_) fun hb52 h=>?_
   ·exact wx tbk (hcat (Q04 p0 x51) [(4,rp [(.tmp 11,(B ((!x51))))] (B true))]) (hap q5_ ⟨asb hb52 (amv rfl),tv⟩)<|wtr<|wxz<|Qaj<|Qal<|frb h
   ·refine hpre (A:=(Q03 p0 x51)) (hap q5_ ⟨asb hb52 (amv rfl),ag_ (alq 7 Qac p0.Elements underlying24),tv⟩) fun q6_=>?_
    refine bfe h (fun hb53 h=>?_) fun hb53 h=>?_
    ·exact wx tbk (hcat (Q03 p0 x51) [(10,rp [(.tmp 17,(B ((decide ((p0.Elements.length:Int)<1)))))] (B true))]) (hap q6_ ⟨asb hb53 (amv rfl),tv⟩)<|wtr<|wxz<|Qaj<|Qal<|frb h
    ·refine wx tbk (hcat (Q03 p0 x51) [(10,rp [(.tmp 17,(B ((decide ((p0.Elements.length:Int)<1)))))] (B false)),(13,rp [(.tmp 18,B false),(.tmp 20,(Q7v p0))] (I ((p0.Elements.length:Int))))]) (hap q6_ ⟨asb hb53 (amv rfl),ag_ (alq 7 Qac p0.Elements underlying24),tv⟩) ?_
     refine bfe h (fun hc54 h=>?_) fun hc54 h=>?_
     ·exact wft hc54<|wxz<|Qaj<|Qal<|frb h
     ·exact wfn hc54<|Qap<|thn<|⟨(),h,(mto (n:=102) [(1,.ref 0 2 0 0)] [0] [(Qp4 p0)] hφ0 (prr pn) (qb (lc (rnd Qag) (lc (rnd Qab) ln)) qn))⟩
def Qdb (N:Nat) (k1:Unit→Option Bool) (p1:List Int):Nat→Int→Option Bool
  |0,_=>none
  |n4+1,y2=>
    bif (decide (y2<(p1.length:Int))) then
     (getI p1 y2).bind fun x6=>
     (Qd6 N x6 0 1000000000000).bind fun x11=>
     bif (!x11) then
      some false
     else
      Qdb N k1 p1 n4 (w64 (y2+1))
    else
     k1 ()
def Qg6 (N:Nat) (p0:GNet) (p1:List Int):Option Bool:=
  Qbl (fun _=>
    some ((p1.length:Int)==(p0.Elements.length:Int))) fun k1:Unit→Option Bool=>
  Qdb N k1 p1 N 0
def Zn7 (p0:GNet):AV:=.dat 7 (p0.Elements.map Qac)
def Qv4 (p0:GNet):Slot:=.own 2 [[(.dat 5 (p0.Table.map Qaq)),(Zn7 p0)]]
theorem Qov (N:Nat) (p0:GNet) (p1:List Int) (r:Bool) (h:Qg6 N p0 p1=some r):Spec prog 33 [(.agg (Qf6 p0)),(.dat 1 (p1.map Qad))] [] (B r) []:=by
  refine Qan func33 rfl 0 (nle rfl) (fun X φ0 w0 hφ0 hd0=>?_)
  unfold Qg6 at h
  refine wxz ?_
  obtain⟨k1,hk_k1,h⟩:=jko h
  refine wjn (τ:=Unit) (fun t=>k1 t=some r) (fun _=>⟨mk 24 [(1,(.dat 1 (p1.map Qad))),(2,.ref 0 2 0 0)],[(Qv4 p0)]⟩) (fun t h=>?_) ?_
  ·subst hk_k1
   refine wx tbk [(1,rp _ _),(4,rp _ _)] ⟨alq 1 Qad p1 underlying27,alq 7 Qac p0.Elements underlying24,tv⟩<|Qaj ?_
   obtain rfl:=osi h
   exact fend ⟨[(B (((p1.length:Int)==(p0.Elements.length:Int))))],⟨rot,tv⟩,rfl⟩ nll
  ·skip
   refine wxz<|Qar ?_
   refine wmr (mto (n:=24) (l':=[(1,(.dat 1 (p1.map Qad))),(2,.ref 0 2 0 0),(5,I 0)]) (own':=[(Qv4 p0)]) [(1,(.dat 1 (p1.map Qad))),(2,.ref 0 2 0 0),(5,I 0)] [0] [(Qv4 p0)] hφ0 (pc (rnd Qaf) (prr (pw pn))) (qb (lc (rnd Qag) (lc (rnd Qab) ln)) qn)) ?_
   refine Qbt (τ:=Int) (fun n t=>Qdb N k1 p1 n t=some r) (fun y2=>⟨mk 24 [(1,(.dat 1 (p1.map Qad))),(2,.ref 0 2 0 0),(5,I y2)],[(Qv4 p0)]⟩) (fun t h=>by rw[Qdb] at h;cases h) (fun n4 ih y2 h=>?_) N (0) h
   rw[Qdb] at h
   skip
   refine wsq<|wx tbk [(2,rp _ _)] ⟨alq 1 Qad p1 underlying27,tv⟩ ?_
   refine bfe h (fun hc5 h=>?_) fun hc5 h=>?_
   ·refine wft hc5<|Qap<|thn<|wsq<|Qar ?_
    obtain⟨x6,hg7,h⟩:=bno h
    obtain⟨hi8,hj9⟩:=gsm hg7
    obtain⟨x11,hf10,h⟩:=bno h
    refine wx tbk [(2,rp _ _),(4,rp _ _)] ⟨aiq underlying27 ti3 Qad hi8 hj9,apv Qh9 (Qc8 N x6 0 1000000000000 _ hf10) (nlcc (nlc nll nl0)) nll,tv⟩ ?_
    refine bfe h (fun hc12 h=>?_) fun hc12 h=>?_
    ·exact wft hc12<|wxz<|Qaj<|Qat<|Qal<|Qal<|Qat<|Qal<|frb h
    ·exact wfn hc12<|Qap<|bln<|thn<|wxz1<|thn<|arm (mto (n:=24) [(1,(.dat 1 (p1.map Qad))),(2,.ref 0 2 0 0),(5,(I (w64 (y2+1))))] [0] [(Qv4 p0)] hφ0 (pc (rnd Qaf) (prr (pw pn))) (qb (lc (rnd Qag) (lc (rnd Qab) ln)) qn)) (ih (w64 (y2+1)) h)
   ·exact wfn hc5<|Qbf<|Qaw<|Qaw<|Qbe rfl<|thn<|⟨(),h,(mto (n:=24) [(1,(.dat 1 (p1.map Qad))),(2,.ref 0 2 0 0)] [0] [(Qv4 p0)] hφ0 (pc (rnd Qaf) (prr pn)) (qb (lc (rnd Qag) (lc (rnd Qab) ln)) qn))⟩
def Qgu (N:Nat) (p0:Qaa):Option Bool:=
  (Qd6 N p0.Mass 0 1000000).bind fun x2=>
  bif x2 then
   (Qd6 N p0.Heat 0 (w64 (4000*p0.Mass))).bind fun x5=>
   bif x5 then
    (Qd6 N p0.Silica 0 (w64 (10000*p0.Mass))).bind fun x8=>
    bif x8 then
     (Qd6 N p0.Gas 0 1000000000).bind fun x11=>
     some x11
    else
     some false
   else
    some false
  else
   some false
def Q9u (p0:Qaa) (x2:Bool):List (Nat×Rec):=[(2,rp [fu 25,((.tmp 4),(I p0.Mass)),ci 0,ci 1000000] (B x2))]
def Q9t p0 x2 (x5:Bool):=hcat (Q9u p0 x2) [(3,rp [((.tmp 5),(B x2))] (B true)),(9,rp [((.tmp 6),(B true)),fu 25,((.tmp 8),(I p0.Heat)),ci 0,((.tmp 11),(I (w64 (4000*p0.Mass))))] (B x5))]
def Q9s p0 x2 x5 (x8:Bool):=hcat (Q9t p0 x2 x5) [(11,rp [((.tmp 13),(B x5))] (B true)),(17,rp [((.tmp 14),(B true)),fu 25,((.tmp 16),(I p0.Silica)),ci 0,((.tmp 19),(I (w64 (10000*p0.Mass))))] (B x8))]
theorem Qn3 (N:Nat) (p0:Qaa) (r:Bool) (h:Qgu N p0=some r):Spec prog 121 [(.agg (Qah p0))] [] (B r) []:=by
  refine Qan func121 rfl 0 (nle rfl) (fun X φ0 w0 hφ0 hd0=>?_)
  unfold Qgu at h
  refine wxz ?_
  obtain⟨x2,hf1,h⟩:=bno h
  refine hpre (A:=(Q9u p0 x2)) ⟨apv Qh9 (Qc8 N p0.Mass 0 1000000 _ hf1) (nlcc (nlc nll nl0)) nll,tv⟩ fun q1_=>?_
  refine bfe h (fun hb3 h=>?_) fun hb3 h=>?_
  ·obtain⟨x5,hf4,h⟩:=bno h
   refine hpre (A:=(Q9t p0 x2 x5)) (hap q1_ ⟨asb hb3 (amv rfl),ag_ (apv Qh9 (Qc8 N p0.Heat 0 (w64 (4000*p0.Mass)) _ hf4) (nlcc (nlc nll nl0)) nll),tv⟩) fun q2_=>?_
   refine bfe h (fun hb6 h=>?_) fun hb6 h=>?_
   ·obtain⟨x8,hf7,h⟩:=bno h
    refine hpre (A:=(Q9s p0 x2 x5 x8)) (hap q2_ ⟨asb hb6 (amv rfl),ag_ (apv Qh9 (Qc8 N p0.Silica 0 (w64 (10000*p0.Mass)) _ hf7) (nlcc (nlc nll nl0)) nll),tv⟩) fun q3_=>?_
    refine bfe h (fun hb9 h=>?_) fun hb9 h=>?_
    ·obtain⟨x11,hf10,h⟩:=bno h
     exact wx tbk (hcat (Q9s p0 x2 x5 x8) [(19,rp [(.tmp 21,B x8)] (B true)),(22,rp [(.tmp 22,B true),fu 25,(.tmp 24,I p0.Gas),ci 0,ci 1000000000] (B x11))]) (hap q3_ ⟨asb hb9 (amv rfl),ag_ (apv Qh9 (Qc8 N p0.Gas 0 1000000000 _ hf10) (nlcc (nlc nll nl0)) nll),tv⟩)<|Qaj<|frb h
    ·exact wx tbk (hcat (Q9s p0 x2 x5 x8) [(19,rp [(.tmp 21,B x8)] (B false))]) (hap q3_ ⟨asb hb9 (amv rfl),tv⟩)<|Qaj<|frb h
   ·exact wx tbk (hcat (Q9t p0 x2 x5) [(11,rp [(.tmp 13,B x5)] (B false))]) (hap q2_ ⟨asb hb6 (amv rfl),tv⟩)<|Qaj<|frb h
  ·exact wx tbk (hcat (Q9u p0 x2) [(3,rp [(.tmp 5,B x2)] (B false))]) (hap q1_ ⟨asb hb3 (amv rfl),tv⟩)<|Qaj<|frb h
def Qk4 (_N:Nat) (p0:Qaa):Option Qaa:=
  some p0
def Zn6 (p0:Qaa):AV:=.agg [(I p0.Mass),(I p0.Heat),(I p0.Silica),(I p0.Gas)]
theorem Qst (N:Nat) (p0 r:Qaa) (h:Qk4 N p0=some r):Spec prog 60 [(.agg (Qah p0))] [] (.agg (Qah r)) []:=by
  refine Qan func60 rfl 0 (nle rfl) (fun X φ0 w0 hφ0 hd0=>?_)
  unfold Qk4 at h
  refine wxz<|wx tbk [(8,rp _ _)] ⟨Qa5 (vs:=[I p0.Mass,I p0.Heat,I p0.Silica,I p0.Gas]) rfl ts63 tz63 rfl (by rfl) rfl,tv⟩<|Qaj ?_
  obtain rfl:=osi h
  exact fend ⟨[(Zn6 p0)],⟨Qbu (n:=1) (m:=4) (j:=0) (i:=0) (xs:=[[I p0.Mass,I p0.Heat,I p0.Silica,I p0.Gas]]) (by kernel_rfl) (by kernel_rfl) ti63 (by decide) rfl (nle rfl) rfl,tv⟩,rfl⟩ (NLt.agg _ (nlcc (nlcc nl0)))
def Qd0 (N:Nat) (p0:List Qaa) (k2:(List Qaa)→Option (List Qaa)):Nat→(List Qaa)→Int→Option (List Qaa)
  |0,_,_=>none
  |n7+1,y3,y4=>
    bif (decide (y4<(p0.length:Int))) then
     (getI p0 y4).bind fun x9=>
     (Qk4 N x9).bind fun x14=>
     chk (decide ((y3.length+([x14]).length)*32≤140737488355328))<|
     Qd0 N p0 k2 n7 (y3++([x14])) (w64 (y4+1))
    else
     k2 (y3)
def Qhu (N:Nat) (p0:List Qaa):Option (List Qaa):=
  Qbl (fun y1=>
    some y1) fun k2:(List Qaa)→Option (List Qaa)=>
  Qd0 N p0 k2 N ([]) 0
def Q37 (p0:List Qaa):AV:=.dat 4 (p0.map Qah)
def Q9r (x14:Qaa):AV:=.agg [(I x14.Mass),(I x14.Heat),(I x14.Silica),(I x14.Gas)]
theorem Qmu (N:Nat) (p0 r:List Qaa) (h:Qhu N p0=some r):Spec prog 19 [(.dat 4 (p0.map Qah))] [] (.dat 4 (r.map Qah)) []:=by
  refine Qan func19 rfl 0 (nle rfl) (fun X φ0 w0 hφ0 hd0=>?_)
  unfold Qhu at h
  refine wxz<|wxz ?_
  obtain⟨k2,hk_k2,h⟩:=jko h
  refine wjn (τ:=(List Qaa)) (fun t=>k2 t=some r) (fun y1=>⟨mk 20 [(3,(.acc 0 63 4 (y1.map Qah)))],[.tok]⟩) (fun y1 h=>?_) ?_
  ·subst hk_k2
   refine wxz<|Qaj ?_
   obtain rfl:=osi h
   exact fend ⟨[(.dat 4 (y1.map Qah))],⟨Qb3 (v:=(.acc 0 63 4 (y1.map Qah))) rot Less.acc,tv⟩,rfl⟩ (nld Qam _)
  ·skip
   refine wxz<|Qar ?_
   refine wmr (Mor.trans (Qps 0 63 4 3 (by kernel_rfl) (by kernel_rfl)) (mto (n:=20) (l':=[(0,(Q37 p0)),(3,(.acc 0 63 4 ((([]):List Qaa).map Qah))),(4,I 0)]) (own':=[.tok]) [(0,(Q37 p0)),(3,(.acc 0 63 4 (([]:List Qaa).map Qah))),(4,I 0)] [0] [.tok] hφ0 (pc (rnd Qam) (pc (.rn (Qcv rfl (Qb5 Qam _))) (pw pn))) (qc .tok qn))) ?_
   refine Qbt (τ:=(List Qaa)×Int) (fun n t=>Qd0 N p0 k2 n t.1 t.2=some r) (fun ⟨y3,y4⟩=>⟨mk 20 [(0,(Q37 p0)),(3,(.acc 0 63 4 (y3.map Qah))),(4,I y4)],[.tok]⟩) (fun t h=>by rw[Qd0] at h;cases h) (fun n7 ih t h=>?_) N ([],0) h
   obtain⟨y3,y4⟩:=t
   rw[Qd0] at h
   skip
   refine wsq<|wx tbk [(2,rp _ _)] ⟨alq 4 Qah p0 underlying28,tv⟩ ?_
   refine bfe h (fun hc8 h=>?_) fun hc8 h=>?_
   ·refine wft hc8<|Qap<|thn<|wsq<|Qar ?_
    obtain⟨x9,hg10,h⟩:=bno h
    obtain⟨hi11,hj12⟩:=gsm hg10
    obtain⟨x14,hf13,h⟩:=bno h
    obtain⟨ha15,h⟩:=cko h
    refine wx1 tbk [(3,rp _ _),(5,rp _ _),(6,rp [(.tmp 16,(Q9r x14))] (.dat 4 (([x14]:List Qaa).map Qah))),(7,⟨[(.tmp 11,(.acc 0 63 4 (y3.map Qah))),(.tmp 17,(.dat 4 (([x14]:List Qaa).map Qah)))],[(0,.tok),(1,.unused)],(.acc 1 63 4 ((y3++([x14]):List Qaa).map Qah)),[(0,.dead),(1,.tok)],false⟩)] ⟨aiq underlying28 ti89 Qah hi11 hj12,apv Zlm (Qst N x9 _ hf13) (nlc (NLt.agg _ (nlcc (nlcc nl0))) nl0) (NLt.agg _ (nlcc (nlcc nl0))),Qbz (vs:=[(Q9r x14)]) rfl underlying45 ti63 tz63 rfl (by decide) rfl (by decide) (by rfl) (by rfl) (by rfl) rfl,Qek rfl underlying45 te63 (Base.acc _ _) rfl rfl (by rfl) (Qhl Qah ha15) (Qhk Qah ha15 (by decide)) (Qhj Qah) rfl rfl,tv⟩<|bln<|thn<|wxz1<|thn ?_
    exact arm (mto (n:=20) [(0,(Q37 p0)),(3,(.acc 1 63 4 ((y3++([x14]):List Qaa).map Qah))),(4,(I (w64 (y4+1))))] [1] [.tok] hφ0 (pc (rnd Qam) (pc (.rn (Qcv rfl (Qb5 Qam _))) (pw pn))) (qc .tok qn)) (ih (y3++([x14]),w64 (y4+1)) h)
   ·exact wfn hc8<|Qbf<|Qaw<|Qaw<|Qbe rfl<|thn<|⟨(y3),h,(mto (n:=20) [(3,(.acc 0 63 4 (y3.map Qah)))] [0] [.tok] hφ0 (pc (.rn (Qcv rfl (Qb5 Qam _))) pn) (qc .tok qn))⟩
end
section
open Go.RowKit
theorem Qcg {x:Int}(h:-9223372036854775808≤x) (h':x≤9223372036854775807):w64 x=x:=by
 unfold w64
 rw[IntKind.wrap_i64]
 omega
theorem w64S {i:Nat}(h:(i:Int)+1≤9223372036854775807):w64 ((i:Int)+1)=((i+1:Nat):Int):=Qcg (by omega) h
theorem dlt {α:Type}{l q:List α}{x:α}{i m:Nat}(hd:l.drop i=x::q) (hd':l.drop (i+1)=q) (h:(l.drop i).length<m+1):(l.drop (i+1)).length<m:=by
 rw[hd']
 rw[hd] at h
 simp at h
 omega
theorem dlI {α:Type}{l:List α}{i:Nat}(h:i<l.length):decide ((i:Int)<(l.length:Int))=true:=by simpa using h
theorem Qb1 {α:Type}{l:List α}{i:Nat}{x:α}(h:l[i]? = some x):getI l (i:Int)=some x:=by
 simp[getI,h]
def btw (a lo hi:Int):Bool:=decide (lo≤a)&&decide (a≤hi)
theorem Qgj {a lo hi:Int}:btw a lo hi=true↔lo≤a∧a≤hi:=by simp[btw]
theorem Qnv (a b:Int):w64 (w64 a+b)=w64 (a+b):=by
 unfold w64
 rw[IntKind.wrap_i64,IntKind.wrap_i64,IntKind.wrap_i64]
 omega
theorem Qz6:maxLen=9223372036854775807:=rfl
theorem Qe1 {κ β:Type}(k:κ) (f:κ→Option β):Qbl k f=f k:=by rw[Qbl]
def rowB (r:GRow):Bool:=btw r.T 0 400&&btw r.P 1 10000&&btw r.Liquid 0 4000&&btw r.Silica 0 2000&&decide (r.Liquid<r.Vapour)&&decide (r.Vapour≤4000)
def Zag (o r:GRow):Bool:=decide (o.T<r.T)&&decide (o.P<r.P)&&decide (o.Liquid<r.Liquid)&&decide (o.Silica≤r.Silica)
def Qqg:List GRow→Bool
 |a::b::l=>Zag a b&&Qqg (b::l)
 |_=>true
def tabB (t:List GRow):Bool:=btw t.length 2 20&&t.all rowB&&Qqg t
theorem Q2d (N:Nat) (a lo hi:Int):Qd6 N a lo hi=some (btw a lo hi):=by
 unfold Qd6 btw
 by_cases h:lo≤a<;>simp[h]
theorem Qmf (N:Nat) (a lo hi:Int):Qda N a lo hi=some (btw a lo hi):=by
 unfold Qda btw
 by_cases h:lo≤a<;>simp[h]
theorem Zhh (N:Nat) (r:GRow):Qho N r=some (rowB r):=by
 unfold Qho rowB
 simp only[Qmf,Option.bind_some]
 cases btw r.T 0 400<;>cases btw r.P 1 10000<;>cases btw r.Liquid 0 4000<;>cases btw r.Silica 0 2000<;>by_cases h:r.Liquid<r.Vapour<;>simp[h]
theorem Qbp {α:Type}{t:List α}{i:Nat}{a:α}{l:List α}(h:t.drop i=a::l):t[i]? = some a∧t.drop (i+1)=l∧i<t.length:=by
 have hlt:i<t.length:=by
  rcases Nat.lt_or_ge i t.length with h' |h'
  ·exact h'
  ·rw[List.drop_eq_nil_of_le h'] at h;cases h
 rw[List.drop_eq_getElem_cons hlt] at h
 injection h with h1 h2
 exact⟨by rw[List.getElem?_eq_getElem hlt,h1],h2,hlt⟩
theorem Qb2 {α:Type}{t:List α}{i:Nat}(h:t.drop i=[]):t.length≤i:=List.drop_eq_nil_iff.1 h
theorem Q2p (N:Nat) (t:List GRow) (k:Unit→Option Int) (hl:t.length≤1000):∀(n i:Nat),(t.drop i).length<n→i≤t.length →
  Qbd N t k n i=bif (t.drop i).all rowB then k () else some ((i:Int)+((t.drop i).findIdx fun r=>!rowB r:Nat)):=by
 intro n
 induction n with
 |zero=>intro i h;omega
 |succ n ih=>
  intro i h hi
  unfold Qbd
  cases hd:t.drop i with
  |nil=>
   have:=Qb2 hd
   rw[show(decide ((i:Int)<(t.length:Int)))=false by simp;omega]
   rfl
  |cons a l=>
   obtain⟨h1,h2,h3⟩:=Qbp hd
   rw[show(decide ((i:Int)<(t.length:Int)))=true by simp;omega]
   simp only[cond_true,Qb1 h1,Option.bind_some,Qfl,Zhh]
   cases hr:rowB a with
   |false=>simp[hr,List.findIdx_cons]
   |true=>
    have e:w64 ((i:Int)+1)=((i+1:Nat):Int):=by rw[Qcg]<;>omega
    rw[e]
    have:=ih (i+1) (by rw[h2];rw[hd] at h;simpa using h) (by omega)
    simp only[Bool.not_true,cond_false,this,h2,List.all_cons,hr,Bool.true_and,List.findIdx_cons]
    congr 2
    push_cast
    omega
theorem Zdi {N:Nat}{t:List GRow}(hl:t.length≤1000) (hN:1001≤N):Qe6 N t=some (t.all rowB):=by
 have:=Q2p N t (fun _=>some (-1)) hl N 0 (by simp;omega) (Nat.zero_le _)
 rw[show((0:Nat):Int)=0 from rfl,List.drop_zero] at this
 unfold Qe6 Qcl Qct Qbl
 dsimp only
 rw[this]
 cases h:t.all rowB with
 |true=>simp
 |false=>simp
theorem Q6m (N:Nat) (t:List GRow) (k:Unit→Option Bool) (hl:t.length≤1000):∀(n i:Nat),(t.drop i).length<n→i<t.length →
  Qc3 N t k n i=bif Qqg (t.drop i) then k () else some false:=by
 intro n
 induction n with
 |zero=>intro i h;omega
 |succ n ih=>
  intro i h hi
  unfold Qc3
  have hdr:∀x,(t.drop (1:Int).toNat)[i]? = some x↔t[i+1]? = some x:=fun x=>by
   rw[show(1:Int).toNat=1 from rfl,List.getElem?_drop,Nat.add_comm]
  have hlen:(t.drop (1:Int).toNat).length=t.length-1:=by simp
  cases hd:t.drop i with
  |nil=>have:=Qb2 hd;omega
  |cons a l=>
   obtain⟨h1,h2,h3⟩:=Qbp hd
   cases l with
   |nil=>
    have:=Qb2 h2
    rw[show(decide ((i:Int)<((t.drop (1:Int).toNat).length:Int)))=false by rw[hlen];simp;omega]
    rfl
   |cons b l=>
    obtain⟨h4,h5,h6⟩:=Qbp h2
    rw[show(decide ((i:Int)<((t.drop (1:Int).toNat).length:Int)))=true by rw[hlen];simp;omega]
    have e:w64 ((i:Int)+1)=((i+1:Nat):Int):=by rw[Qcg]<;>omega
    simp only[cond_true,Qb1 ((hdr b).2 h4),Qb1 h1,Option.bind_some,e]
    have:=ih (i+1) (by rw[h2];rw[hd] at h;simpa using h) (by omega)
    simp only[this,h2,Qqg,Zag]
    by_cases c1:b.T≤a.T
    ·simp[c1,Int.not_lt.2 c1]
    ·by_cases c2:b.P≤a.P
     ·simp[c1,c2,Int.not_lt.2 c2]
     ·by_cases c3:b.Liquid≤a.Liquid
      ·simp[c1,c2,c3,Int.not_lt.2 c3]
      ·by_cases c4:b.Silica<a.Silica
       ·simp[c1,c2,c3,c4,Int.not_le.2 c4]
       ·simp[c1,c2,c3,c4,Int.not_le.1 c1,Int.not_le.1 c2,Int.not_le.1 c3,Int.not_lt.1 c4]
theorem Qy7 {N:Nat}{t:List GRow}(hl:t.length≤1000) (hN:1001≤N):Qfm N t=some (tabB t):=by
 unfold Qfm tabB
 rw[Qmf,Zdi hl hN]
 cases hb:btw t.length 2 20 with
 |false=>rfl
 |true=>
  have h2:2≤t.length:=by simp[btw] at hb;omega
  cases ha:t.all rowB with
  |false=>rfl
  |true=>
   have:=Q6m N t (fun _=>some true) hl N 0 (by simp;omega) (by omega)
   rw[show((0:Nat):Int)=0 from rfl,List.drop_zero] at this
   simp only[Option.bind_some,Bool.not_true,cond_false,Qbl,Bool.true_and]
   rw[this]
   rw[show(decide ((1:Int)≤(t.length:Int)))=true by rw[decide_eq_true_eq];omega]
   cases Qqg t<;>simp[chk]
def Q19:Option GRow→List GRow→Bool
 |_,[]=>true
 |o,a::l=>rowB a&&(match o with |none=>true |some p=>Zag p a)&&Q19 (some a) l
theorem Qwi:∀(a:GRow) (l:List GRow),Q19 (some a) l=(l.all rowB&&Qqg (a::l))
 |_,[]=>rfl
 |a,b::l=>by
  rw[Q19,Qwi b l,List.all_cons,Qqg]
  cases rowB b<;>cases l.all rowB<;>cases Zag a b<;>simp
theorem Q6z:∀(t:List GRow),Q19 none t=(t.all rowB&&Qqg t)
 |[]=>rfl
 |a::l=>by
  rw[Q19,Qwi a l,List.all_cons]
  cases rowB a<;>simp
theorem Q10 (N:Nat) (t:List GRow) (k:Unit→Option Bool) (hl:t.length≤9223372036854775807):∀(n i:Nat),(t.drop i).length<n→i≤t.length →
  Qd3 N t k n i=bif Q19 (if i=0 then none else t[i-1]?) (t.drop i) then k () else some false:=by
 intro n
 induction n with
 |zero=>intro i h;omega
 |succ n ih=>
  intro i h hi
  unfold Qd3
  cases hd:t.drop i with
  |nil=>
   have:=Qb2 hd
   rw[show(decide ((i:Int)<(t.length:Int)))=false by simp;omega]
   rfl
  |cons a l=>
   obtain⟨h1,h2,h3⟩:=Qbp hd
   rw[show(decide ((i:Int)<(t.length:Int)))=true by simp;omega]
   have e:w64 ((i:Int)+1)=((i+1:Nat):Int):=by rw[Qcg]<;>omega
   have:=ih (i+1) (by rw[h2];rw[hd] at h;simpa using h) (by omega)
   simp only[Nat.add_sub_cancel,Nat.succ_ne_zero,if_false,h1,h2] at this
   simp only[cond_true,Qb1 h1,Option.bind_some,e,Q2d,this,Q19,rowB,Qbl]
   cases btw a.T 0 400
   ·rfl
   cases btw a.P 1 10000
   ·rfl
   cases btw a.Liquid 0 4000
   ·rfl
   cases btw a.Silica 0 2000
   ·rfl
   by_cases c1:a.Vapour≤a.Liquid
   ·simp[c1,Int.not_lt.2 c1]
   by_cases c2:a.Vapour>4000
   ·simp[c1,c2,Int.not_le.2 c2]
   cases i with
   |zero=>simp[c1,c2,Int.not_le.1 c1,Int.not_lt.1 c2]
   |succ i=>
    have hp:t[i]? = some t[i]:=List.getElem?_eq_getElem (by omega)
    have e2:w64 (((i+1:Nat):Int)-1)=(i:Int):=by rw[Qcg]<;>omega
    have e3:(decide (((i+1:Nat):Int)>0))=true:=by rw[decide_eq_true_eq];omega
    generalize t[i]=b at hp
    simp only[Bool.not_true,cond_false,e3,cond_true,e2,Qb1 hp,Option.bind_some,Nat.add_sub_cancel,hp,Zag,show ¬(i+1=0) by omega,if_false,decide_eq_false c1,decide_eq_false c2,decide_eq_true (Int.not_le.1 c1),decide_eq_true (Int.not_lt.1 c2),Bool.true_and]
    by_cases d1:a.T≤b.T
    ·simp[d1,Int.not_lt.2 d1]
    ·by_cases d2:a.P≤b.P
     ·simp[d1,d2,Int.not_lt.2 d2]
     ·by_cases d3:a.Liquid≤b.Liquid
      ·simp[d1,d2,d3,Int.not_lt.2 d3]
      ·by_cases d4:a.Silica<b.Silica
       ·simp[d1,d2,d3,d4,Int.not_le.2 d4]
       ·simp[d1,d2,d3,d4,Int.not_le.1 d1,Int.not_le.1 d2,Int.not_le.1 d3,Int.not_lt.1 d4]
theorem Zau {N:Nat}{t:List GRow}(hl:t.length≤9223372036854775807) (hN:t.length<N):Qki N t=some (tabB t):=by
 have:=fun k=>Q10 N t k hl N 0 (by simp;omega) (Nat.zero_le _)
 unfold Qki Qbl tabB
 rw[show((0:Nat):Int)=0 from rfl] at this
 dsimp only
 rw[this]
 simp only[List.drop_zero,if_true,Q6z,btw]
 by_cases h:(2:Int)≤t.length<;>cases t.all rowB<;>cases Qqg t<;>simp[h]
theorem Q65 (N:Nat) (t:List GRow) (k:List GRow→Option (List GRow)) (hl:t.length≤1000):∀(n i:Nat) (acc:List GRow),(t.drop i).length<n→i≤t.length→acc.length=i →
  Qe0 N t k n acc i=k (acc++t.drop i):=by
 intro n
 induction n with
 |zero=>intro i acc h;omega
 |succ n ih=>
  intro i acc h hi ha
  unfold Qe0
  cases hd:t.drop i with
  |nil=>
   have:=Qb2 hd
   rw[show(decide ((i:Int)<(t.length:Int)))=false by simp;omega]
   simp
  |cons a l=>
   obtain⟨h1,h2,h3⟩:=Qbp hd
   rw[show(decide ((i:Int)<(t.length:Int)))=true by simp;omega]
   have e:w64 ((i:Int)+1)=((i+1:Nat):Int):=by rw[Qcg]<;>omega
   have hc:decide ((acc.length+[a].length)*40≤140737488355328)=true:=by simp;omega
   simp only[cond_true,Qb1 h1,Option.bind_some,e,hc,chk]
   rw[ih (i+1) _ (by rw[h2];rw[hd] at h;simpa using h) (by omega) (by simp[ha]),h2]
   simp
theorem Zeq {N:Nat}{t:List GRow}(hl:t.length≤1000) (hN:1001≤N):Qkk N t=some t:=by
 have:=Q65 N t (fun y=>some y) hl N 0 [] (by simp;omega) (Nat.zero_le _) rfl
 rw[show((0:Nat):Int)=0 from rfl] at this
 unfold Qkk Qbl
 dsimp only
 rw[this]
 simp
def strB (s:Qaa):Bool:=btw s.Mass 0 1000000&&btw s.Heat 0 (4000*s.Mass)&&btw s.Silica 0 (10000*s.Mass)&&btw s.Gas 0 1000000000
theorem Qsw {s:Qaa}(h:btw s.Mass 0 1000000=true):w64 (4000*s.Mass)=4000*s.Mass∧w64 (10000*s.Mass)=10000*s.Mass:=by
 simp only[btw,Bool.and_eq_true,decide_eq_true_eq] at h
 exact⟨Qcg (by omega) (by omega),Qcg (by omega) (by omega)⟩
theorem Zav (N:Nat) (s:Qaa):Qgu N s=some (strB s):=by
 unfold Qgu strB
 simp only[Q2d,Option.bind_some]
 cases h:btw s.Mass 0 1000000 with
 |false=>rfl
 |true=>
  rw[(Qsw h).1,(Qsw h).2]
  cases btw s.Heat 0 (4000*s.Mass)<;>cases btw s.Silica 0 (10000*s.Mass)<;>cases btw s.Gas 0 1000000000<;>rfl
theorem Qxh (N:Nat) (s:Qaa):Qed N s=some (strB s):=by
 unfold Qed strB
 simp only[Qmf,Option.bind_some]
 cases h:btw s.Mass 0 1000000 with
 |false=>rfl
 |true=>
  rw[(Qsw h).1,(Qsw h).2]
  cases btw s.Heat 0 (4000*s.Mass)<;>cases btw s.Silica 0 (10000*s.Mass)<;>cases btw s.Gas 0 1000000000<;>rfl
structure RowV (r:GRow):Prop where
 l0:0≤r.Liquid
 l1:r.Liquid≤4000
 lv:r.Liquid<r.Vapour
 v1:r.Vapour≤4000
 s0:0≤r.Silica
 s1:r.Silica≤2000
theorem Zkl {r:GRow}(h:rowB r=true):RowV r:=by
 simp[rowB,btw] at h
 exact⟨by omega,by omega,by omega,by omega,by omega,by omega⟩
structure StrV (s:Qaa):Prop where
 m0:0≤s.Mass
 m1:s.Mass≤1000000
 h0:0≤s.Heat
 h1:s.Heat≤4000*s.Mass
 s0:0≤s.Silica
 s1:s.Silica≤10000*s.Mass
 g0:0≤s.Gas
 g1:s.Gas≤1000000000
theorem Qol {s:Qaa}:strB s=true↔StrV s:=by
 simp only[strB,btw,Bool.and_eq_true,decide_eq_true_eq]
 exact⟨fun h=>⟨by omega,by omega,by omega,by omega,by omega,by omega,by omega,by omega⟩,fun h=>by obtain⟨_,_,_,_,_,_,_,_⟩:=h;omega⟩
theorem bdp {x y a b:Int}(hx:0≤x) (hx':x≤a) (hy:0≤y) (hy':y≤b) (ha:0≤a):0≤x*y∧x*y≤a*b:=
 ⟨Int.mul_nonneg hx hy,Int.mul_le_mul hx' hy' hy ha⟩
def stm (r:GRow) (s:Qaa):Int:=
 if s.Heat-s.Mass*r.Liquid≤0 then 0 else if s.Mass*r.Vapour≤s.Heat then s.Mass else(s.Heat-s.Mass*r.Liquid).tdiv (r.Vapour-r.Liquid)
def flG (r:GRow) (s:Qaa):Qhy:=
 if stm r s=0 then⟨⟨0,0,0,0⟩,⟨s.Mass,s.Heat,min (s.Mass*r.Silica) s.Silica,s.Gas⟩,if 0<s.Mass then max (s.Heat-s.Mass*r.Liquid) 0 else 0,s.Silica-min (s.Mass*r.Silica) s.Silica⟩
 else if stm r s=s.Mass then⟨⟨s.Mass,s.Heat,0,s.Gas⟩,⟨0,0,0,0⟩,0,s.Silica⟩
 else⟨⟨stm r s,stm r s*r.Vapour,0,s.Gas⟩,⟨s.Mass-stm r s,s.Heat-stm r s*r.Vapour,min ((s.Mass-stm r s)*r.Silica) s.Silica,0⟩,s.Heat-stm r s*r.Vapour-(s.Mass-stm r s)*r.Liquid,s.Silica-min ((s.Mass-stm r s)*r.Silica) s.Silica⟩
theorem Qtq {r:GRow}{s:Qaa}(hr:RowV r) (hs:StrV s) :
  (s.Heat-s.Mass*r.Liquid≤0∧stm r s=0) ∨
  (0<s.Heat-s.Mass*r.Liquid∧s.Mass*r.Vapour≤s.Heat∧stm r s=s.Mass∧0<s.Mass) ∨
  (0<s.Heat-s.Mass*r.Liquid∧s.Heat<s.Mass*r.Vapour∧stm r s=(s.Heat-s.Mass*r.Liquid).tdiv (r.Vapour-r.Liquid)∧0≤stm r s∧stm r s<s.Mass∧stm r s*(r.Vapour-r.Liquid)≤s.Heat-s.Mass*r.Liquid∧s.Heat-s.Mass*r.Liquid<stm r s*(r.Vapour-r.Liquid)+(r.Vapour-r.Liquid)):=by
 obtain⟨l0,l1,lv,v1,s0,s1⟩:=hr
 obtain⟨m0,m1,h0,h1,_,_,_,_⟩:=hs
 by_cases c1:s.Heat-s.Mass*r.Liquid≤0
 ·exact .inl ⟨c1,by unfold stm;rw[if_pos c1]⟩
 ·by_cases c2:s.Mass*r.Vapour≤s.Heat
  ·refine .inr (.inl ⟨by omega,c2,by unfold stm;rw[if_neg c1,if_pos c2],?_⟩)
   rcases Int.lt_or_eq_of_le m0 with h |h
   ·exact h
   ·rw[←h] at h1 c1
    simp at h1 c1
    omega
  ·have e:stm r s=(s.Heat-s.Mass*r.Liquid).tdiv (r.Vapour-r.Liquid):=by unfold stm;rw[if_neg c1,if_neg c2]
   have e2:stm r s=(s.Heat-s.Mass*r.Liquid)/(r.Vapour-r.Liquid):=by rw[e,Int.tdiv_eq_ediv_of_nonneg (by omega)]
   have d0:0<r.Vapour-r.Liquid:=by omega
   have q1:=Int.ediv_mul_le (s.Heat-s.Mass*r.Liquid) (b:=r.Vapour-r.Liquid) (by omega)
   have q2:=Int.lt_mul_ediv_self_add (x:=s.Heat-s.Mass*r.Liquid) (k:=r.Vapour-r.Liquid) d0
   have q3:0≤stm r s:=by rw[e2];exact Int.ediv_nonneg (by omega) (by omega)
   rw[←e2] at q1 q2
   rw[Int.mul_comm (r.Vapour-r.Liquid)] at q2
   refine .inr (.inr ⟨by omega,by omega,e,q3,?_,q1,q2⟩)
   rw[e2]
   refine Int.ediv_lt_of_lt_mul d0 ?_
   rw[Int.mul_sub]
   omega
structure Zq7 (r:GRow) (s:Qaa):Prop where
 a:w64 (s.Mass*r.Liquid)=s.Mass*r.Liquid
 b:w64 (s.Heat-s.Mass*r.Liquid)=s.Heat-s.Mass*r.Liquid
 c:w64 (s.Mass*r.Vapour)=s.Mass*r.Vapour
 d:w64 (r.Vapour-r.Liquid)=r.Vapour-r.Liquid
theorem Zj5 {r:GRow}{s:Qaa}(hr:RowV r) (hs:StrV s):Zq7 r s:=by
 obtain⟨l0,l1,lv,v1,s0,s1⟩:=hr
 obtain⟨m0,m1,h0,h1,_,_,_,_⟩:=hs
 have p1:=bdp m0 m1 l0 l1 (by omega)
 have p2:=bdp (y:=r.Vapour) m0 m1 (by omega) v1 (by omega)
 exact⟨Qcg (by omega) (by omega),Qcg (by omega) (by omega),Qcg (by omega) (by omega),Qcg (by omega) (by omega)⟩
theorem Zes (N:Nat) {r:GRow}{s:Qaa}(hr:RowV r) (hs:StrV s):Qgo N ⟨r⟩ s=some (stm r s):=by
 obtain⟨wa,wb,wc,wd⟩:=Zj5 hr hs
 have hlv:=hr.lv
 have hd:((r.Vapour-r.Liquid) != 0)=true:=by simp;omega
 have hs':=hs
 obtain⟨m0,m1,h0,h1,_,_,_,_⟩:=hs'
 unfold Qgo
 simp only[wa,wb,wc,wd,Option.bind_some,hd,chk,cond_true]
 rcases Qtq hr hs with ⟨a,b⟩ |⟨a,b,c,d⟩ |⟨a,b,c,d,e,_,_⟩
 ·rw[decide_eq_true a,b];rfl
 ·rw[decide_eq_false (show ¬s.Heat-s.Mass*r.Liquid≤0 by omega),decide_eq_true (show s.Heat≥s.Mass*r.Vapour from b),c];rfl
 ·rw[decide_eq_false (show ¬s.Heat-s.Mass*r.Liquid≤0 by omega),decide_eq_false (show ¬s.Heat≥s.Mass*r.Vapour by omega),←c,Qcg (by omega) (by omega)];rfl
theorem Zq3 (N:Nat) {r:GRow}{s:Qaa}(hr:RowV r) (hs:StrV s):Qg4 N ⟨r⟩ s=some (flG r s):=by
 have hw:=Zj5 hr hs
 have hc:=Qtq hr hs
 have he:=Zes N hr hs
 obtain⟨l0,l1,lv,v1,s0,s1⟩:=hr
 obtain⟨m0,m1,h0,h1,q0,q1,_,_⟩:=hs
 unfold Qg4
 have:(⟨⟨r.T,r.P,r.Liquid,r.Vapour,r.Silica⟩⟩:Ql4)=⟨r⟩:=rfl
 dsimp only at this ⊢
 rw[he]
 have p1:=bdp m0 m1 s0 s1 (by omega)
 simp only[Option.bind_some,Qbl]
 unfold flG
 generalize hm:stm r s=m at *
 by_cases z:m=0
 ·subst z
  rw[if_pos rfl,hw.a,Qcg (x:=s.Mass*r.Silica) (by omega) (by omega),hw.b]
  simp only[beq_self_eq_true,cond_true]
  have:w64 (s.Silica-(if s.Mass*r.Silica<s.Silica then s.Mass*r.Silica else s.Silica))=s.Silica-min (s.Mass*r.Silica) s.Silica:=by
   rw[Qcg]<;>(repeat split)<;>omega
  rw[this]
  by_cases c:0<s.Mass
  ·rw[decide_eq_true (show s.Mass>0 from c),if_pos c]
   simp only[cond_true]
   congr 2
   ·congr 1;split<;>omega
   ·split<;>omega
  ·rw[decide_eq_false (show ¬s.Mass>0 from c),if_neg c]
   simp only[cond_false]
   congr 2
   congr 1;split<;>omega
 ·have z1:(m==0)=false:=by simpa using z
  rw[if_neg z,z1]
  by_cases f:m=s.Mass
  ·have f1:(m==s.Mass)=true:=by simpa using f
   rw[f1,if_pos f]
   have:w64 (0*r.Silica)=0:=by rw[Int.zero_mul];rfl
   simp only[cond_false,cond_true,this]
   have:w64 (s.Silica-(if 0<s.Silica then 0 else s.Silica))=s.Silica:=by rw[Qcg]<;>split<;>omega
   rw[this]
   simp only[show decide ((0:Int)>0)=false from rfl,cond_false]
   congr 2
   ·rw[f]
   ·congr 1;split<;>omega
  ·have f1:(m==s.Mass)=false:=by simpa using f
   rw[f1,if_neg f]
   rcases hc with ⟨a,b⟩ |⟨a,b,c,d⟩ |⟨a,b,c,d,e,g1,g2⟩
   ·exact absurd b z
   ·exact absurd c f
   ·have k1:=bdp d (show m≤1000000 by omega) (show 0≤r.Vapour by omega) v1 (by omega)
    have k2:=bdp (show 0≤s.Mass-m by omega) (show s.Mass-m≤1000000 by omega) s0 s1 (by omega)
    have k3:=bdp (show 0≤s.Mass-m by omega) (show s.Mass-m≤1000000 by omega) l0 l1 (by omega)
    rw[Int.mul_sub] at g1
    have k4:0≤s.Heat-m*r.Vapour-(s.Mass-m)*r.Liquid:=by rw[Int.sub_mul];omega
    simp only[cond_false]
    rw[Qcg (x:=s.Mass-m) (by omega) (by omega),Qcg (x:=m*r.Vapour) (by omega) (by omega),Qcg (x:=s.Heat-m*r.Vapour) (by omega) (by omega),Qcg (x:=(s.Mass-m)*r.Silica) (by omega) (by omega),Qcg (x:=(s.Mass-m)*r.Liquid) (by omega) (by omega),Qcg (x:=s.Heat-m*r.Vapour-(s.Mass-m)*r.Liquid) (by omega) (by omega),decide_eq_true (show s.Mass-m>0 by omega)]
    have:w64 (s.Silica-(if (s.Mass-m)*r.Silica<s.Silica then(s.Mass-m)*r.Silica else s.Silica))=s.Silica-min ((s.Mass-m)*r.Silica) s.Silica:=by
     rw[Qcg]<;>(repeat split)<;>omega
    rw[this]
    simp only[cond_true]
    congr 2
    ·congr 1;split<;>omega
    ·split<;>omega
structure Zq9 (s:Qaa) (p:Qhy):Prop where
 st:StrV p.Steam
 wa:StrV p.Water
 km:p.Steam.Mass+p.Water.Mass=s.Mass
 kh:p.Steam.Heat+p.Water.Heat=s.Heat
 ks:p.Water.Silica+p.Scale=s.Silica
 kg:p.Steam.Gas+p.Water.Gas=s.Gas
 z:p.Steam.Silica=0
 sc:0≤p.Scale
theorem Q45 {r:GRow}{s:Qaa}(hr:RowV r) (hs:StrV s):Zq9 s (flG r s):=by
 have hc:=Qtq hr hs
 obtain⟨l0,l1,lv,v1,s0,s1⟩:=hr
 obtain⟨m0,m1,h0,h1,q0,q1,y0,y1⟩:=hs
 have p1:=bdp m0 m1 s0 s1 (by omega)
 unfold flG
 by_cases z:stm r s=0
 ·rw[if_pos z]
  refine⟨⟨?_,?_,?_,?_,?_,?_,?_,?_⟩,⟨?_,?_,?_,?_,?_,?_,?_,?_⟩,?_,?_,?_,?_,?_,?_⟩<;>dsimp only<;>omega
 ·rw[if_neg z]
  by_cases f:stm r s=s.Mass
  ·rw[if_pos f]
   refine⟨⟨?_,?_,?_,?_,?_,?_,?_,?_⟩,⟨?_,?_,?_,?_,?_,?_,?_,?_⟩,?_,?_,?_,?_,?_,?_⟩<;>dsimp only<;>omega
  ·rw[if_neg f]
   rcases hc with ⟨a,b⟩ |⟨a,b,c,d⟩ |⟨a,b,c,d,e,g1,g2⟩
   ·exact absurd b z
   ·exact absurd c f
   ·generalize stm r s=m at *
    have k1:=bdp d (show m≤1000000 by omega) (show 0≤r.Vapour by omega) v1 (by omega)
    have k2:=bdp (show 0≤s.Mass-m by omega) (show s.Mass-m≤1000000 by omega) s0 s1 (by omega)
    have k5:m*r.Vapour≤m*4000:=Int.mul_le_mul_of_nonneg_left v1 d
    have k6:(s.Mass-m)*r.Silica≤(s.Mass-m)*2000:=Int.mul_le_mul_of_nonneg_left s1 (by omega)
    have k7:(s.Mass-m-1)*(r.Vapour-r.Liquid)≥0:=Int.mul_nonneg (by omega) (by omega)
    have k8:(s.Mass-m)*r.Vapour≤(s.Mass-m)*4000:=Int.mul_le_mul_of_nonneg_left v1 (by omega)
    have k9:0≤s.Mass*r.Liquid-m*r.Liquid:=by rw[←Int.sub_mul];exact Int.mul_nonneg (by omega) l0
    simp only[Int.mul_sub,Int.sub_mul,Int.one_mul] at g1 g2 k7 k8 k6 k2
    refine⟨⟨?_,?_,?_,?_,?_,?_,?_,?_⟩,⟨?_,?_,?_,?_,?_,?_,?_,?_⟩,?_,?_,?_,?_,?_,?_⟩<;>dsimp only<;>(try simp only[Int.sub_mul])<;>omega
theorem Zap {t:List GRow}(ht:tabB t=true) {l:Int}(h:btw l 0 (t.length-1)=true):getI t l=some ((getI t l).getD ⟨0,0,0,0,0⟩)∧RowV ((getI t l).getD ⟨0,0,0,0,0⟩):=by
 simp only[btw,Bool.and_eq_true,decide_eq_true_eq] at h
 have hi:l.toNat<t.length:=by omega
 have e:getI t l=some t[l.toNat]:=by unfold getI;rw[if_pos h.1,List.getElem?_eq_getElem hi]
 rw[e]
 refine⟨rfl,?_⟩
 simp only[tabB,Bool.and_eq_true] at ht
 exact Zkl (List.all_eq_true.1 ht.1.2 _ (List.getElem_mem hi))
def Zks:Qhy:=⟨⟨0,0,0,0⟩,⟨0,0,0,0⟩,0,0⟩
def Q44 (t:List GRow) (l:Int) (s:Qaa):Qhy×Int:=
 bif !tabB t then(Zks,1) else bif !btw l 0 (t.length-1) then(Zks,2) else bif !strB s then(Zks,1) else(flG ((getI t l).getD ⟨0,0,0,0,0⟩) s,0)
theorem Zfi {N:Nat}(hN:1001≤N) {t:List GRow}(ht:t.length≤1000) (l:Int) (s:Qaa):Qj7 N t l s=some (Q44 t l s):=by
 have e0:w64 ((t.length:Int)-1)=(t.length:Int)-1:=by rw[Qcg]<;>omega
 unfold Qj7 Q44
 rw[Qy7 ht hN]
 cases hT:tabB t with
 |false=>rfl
 |true=>
  simp only[Option.bind_some,Bool.not_true,cond_false,Qip,Qmf,e0,Qxh]
  cases h1:btw l 0 ((t.length:Int)-1) with
  |false=>rfl
  |true=>
   cases h2:strB s with
   |false=>rfl
   |true=>
    obtain⟨g1,g2⟩:=Zap hT h1
    simp only[Bool.not_true,cond_false,Qi6]
    rw[g1]
    simp only[Option.getD_some,Option.bind_some]
    generalize (getI t l).getD ⟨0,0,0,0,0⟩=r at g2
    have ho:Qg4 N ⟨⟨r.T,r.P,r.Liquid,r.Vapour,r.Silica⟩⟩ s=some (flG r s):=Zq3 N g2 (Qol.1 h2)
    rw[ho]
    rfl
end
section
open Go.RowKit
def Qk0 (key:Int→Int) (ls:List Int) (i k:Int):Prop:=key (ls.getD k.toNat 0)<key (ls.getD i.toNat 0)∨(key (ls.getD k.toNat 0)=key (ls.getD i.toNat 0)∧i<k)
theorem Qp2 {key:Int→Int}{ls:List Int}{i k:Int}(h:Qk0 key ls i k) (h':Qk0 key ls k i):False:=by
 unfold Qk0 at h h'
 omega
theorem Q24 {key:Int→Int}{ls:List Int}{i k m:Int}(h:Qk0 key ls i k) (h':Qk0 key ls k m):Qk0 key ls i m:=by
 unfold Qk0 at *
 omega
def ixs (n:Nat):List Int:=(List.range n).map fun j:Nat=>(j:Int)
theorem Qjn (n:Nat):(ixs n).length=n:=by simp[ixs]
theorem Qx9 {n i:Nat}(h:i<n):(ixs n)[i]? = some (i:Int):=by simp[ixs,h]
theorem Quo {n:Nat}{x:Int}:x∈ixs n↔0≤x∧x<n:=by
 unfold ixs
 rw[List.mem_map]
 constructor
 ·rintro ⟨j,hj,rfl⟩
  have:=List.mem_range.1 hj
  omega
 ·rintro ⟨h0,h1⟩
  exact⟨x.toNat,List.mem_range.2 (by omega),by omega⟩
theorem Zbt (n:Nat):(ixs n).Nodup:=List.pairwise_map.2 ((List.nodup_range (n:=n)).imp fun h e=>h (by omega))
section
variable {N L : Nat} {ws : List Int} {M W : Int}
def rkey (M W w:Int):Int:=M*w % W
structure WOk (ws:List Int) (M W:Int):Prop where
 w:∀x∈ws,0≤x∧x≤1000
 m0:0≤M
 m1:M≤1000000
 p0:0<W
 p1:W≤20000
theorem Zas (h:WOk ws M W) (x:Int):0≤rkey M W x∧rkey M W x<20000:=by
 have:=h.p0
 have:=h.p1
 have a:=Int.emod_nonneg (M*x) (show W≠0 by omega)
 have b:=Int.emod_lt_of_pos (M*x) h.p0
 unfold rkey
 omega
theorem Q4t (h:WOk ws M W) {x:Int}(hx:x∈ws):Qf7 N x M W=some (rkey M W x):=by
 obtain⟨x0,x1⟩:=h.w x hx
 have h0:=h.m0
 have h1:=h.m1
 have p:=h.p0
 have:=bdp h0 h1 x0 x1 (by omega)
 unfold Qf7 chk rkey
 rw[show(W != 0)=true by rw[bne_iff_ne];omega,cond_true,Qcg (by omega) (by omega),Int.tmod_eq_emod_of_nonneg this.1]
theorem Zo5 (h:WOk ws M W) {a b:Int}(ha:0≤a∧a<ws.length) (hb:0≤b∧b<ws.length):Qfh N a b ws M W=some (rkey M W (ws.getD b.toNat 0)-rkey M W (ws.getD a.toNat 0)):=by
 have ga:ws[a.toNat]? = some (ws.getD a.toNat 0):=by rw[List.getD_eq_getElem?_getD,List.getElem?_eq_getElem (by omega)];rfl
 have gb:ws[b.toNat]? = some (ws.getD b.toNat 0):=by rw[List.getD_eq_getElem?_getD,List.getElem?_eq_getElem (by omega)];rfl
 have ka:=Zas h (ws.getD a.toNat 0)
 have kb:=Zas h (ws.getD b.toNat 0)
 unfold Qfh
 rw[show getI ws b=some (ws.getD b.toNat 0) from by rw[←gb];unfold getI;rw[if_pos hb.1],show getI ws a=some (ws.getD a.toNat 0) from by rw[←ga];unfold getI;rw[if_pos ha.1]]
 simp only[Option.bind_some,Q4t h (List.mem_of_getElem? ga),Q4t h (List.mem_of_getElem? gb)]
 rw[Qcg (by omega) (by omega)]
theorem Zk5 (h:WOk ws M W) (hL:L≤20) (hLw:L=ws.length) (k:List Int→Option (List Int)) (x:Int) (R:List Int) (hx:0≤x∧x<ws.length):∀(n:Nat) (P S:List Int),P.length<n→(P++x::S++R).length=L →
  (P++S).Pairwise (Qk0 (rkey M W) ws)→(∀s∈S,Qk0 (rkey M W) ws x s)→(∀y∈P++S,0≤y∧y<x) →
  ∃Q,Qbh N L 0 ws M W k n P.length (P++x::S++R)=k (Q++R)∧Q.Perm (P++x::S)∧Q.Pairwise (Qk0 (rkey M W) ws):=by
 intro n
 induction n with
 |zero=>intro P S hn;exact absurd hn (Nat.not_lt_zero _)
 |succ n ih=>
  intro P S hn hl hp hs hb
  rw[Qbh]
  simp only[Qbl]
  rcases List.eq_nil_or_concat P with rfl |⟨P',y,rfl⟩
  ·refine⟨x::S,by simp,.refl _,?_⟩
   rw[List.pairwise_cons]
   exact⟨hs,by simpa using hp⟩
  ·simp only[List.concat_eq_append] at *
   have hlen:(P'++[y]).length=P'.length+1:=by simp
   have hl2:P'.length+1<L:=by rw[←hl];simp
   have e1:w64 (((P'++[y]).length:Nat)-1:Int)=(P'.length:Int):=by rw[hlen,Qcg (by omega) (by omega)];omega
   have e2:(((P'++[y]).length:Nat):Int).toNat=P'.length+1:=by rw[hlen];omega
   have e3:(P'.length:Int).toNat=P'.length:=by omega
   have gx:(P'++[y]++x::S++R)[P'.length+1]? = some x:=by
    rw[List.append_assoc,List.append_assoc,List.getElem?_append_right (by omega)]
    simp
   have gy:(P'++[y]++x::S++R)[P'.length]? = some y:=by
    rw[List.append_assoc,List.append_assoc,List.getElem?_append_right (by omega)]
    simp
   have hy:=hb y (by simp)
   have c1:(decide ((0:Int)≤(((P'++[y]).length:Nat):Int))&&decide (P'.length+1<L))=true:=by simp;omega
   have c2:(decide ((0:Int)≤(P'.length:Int))&&decide (P'.length<L))=true:=by simp;omega
   have hs1:((P'++[y]++x::S++R).set (P'.length+1) y)[P'.length]? = some y:=by rw[List.getElem?_set_ne (by omega)];exact gy
   have hsw:((P'++[y]++x::S++R).set (P'.length+1) y).set P'.length x=P'++x::(y::S)++R:=by
    have a1:(P'++[y]++x::S++R).set (P'.length+1) y=P'++[y]++y::S++R:=by
     rw[List.append_assoc,List.append_assoc,List.set_append_right _ _ (by omega),show P'.length+1-P'.length=1 by omega]
     simp
    rw[a1,List.append_assoc,List.append_assoc,List.set_append_right _ _ (by omega),Nat.sub_self]
    simp
   have hcmp:=Zo5 (N:=N) h hx (show 0≤y∧y<ws.length by omega)
   simp only[show decide ((((P'++[y]).length:Nat):Int)>0)=true from decide_eq_true (by rw[hlen];omega),cond_true,e1,e2,e3,chk,c1,c2,gx,gy,Option.bind_some,hcmp,hs1,hsw]
   by_cases hlt:rkey M W (ws.getD y.toNat 0)-rkey M W (ws.getD x.toNat 0)<0
   ·rw[decide_eq_true hlt,cond_true]
    obtain⟨Q,q1,q2,q3⟩:=ih P' (y::S) (by rw[hlen] at hn;omega) (by rw[←hl];simp) (by simpa using hp) (fun s hs'=>by
     rcases List.mem_cons.1 hs' with rfl |hs'
     ·exact .inl (by omega)
     ·exact hs s hs') (fun z hz=>hb z (by simpa using hz))
    refine⟨Q,q1,q2.trans ?_,q3⟩
    rw[List.append_assoc]
    exact List.Perm.append_left P' (List.Perm.swap y x S)
   ·rw[decide_eq_false hlt,cond_false]
    refine⟨P'++[y]++x::S,rfl,.refl _,?_⟩
    have hyx:Qk0 (rkey M W) ws y x:=by unfold Qk0;omega
    rw[List.pairwise_append] at hp ⊢
    obtain⟨p1,p2,p3⟩:=hp
    refine⟨p1,List.pairwise_cons.2 ⟨hs,p2⟩,fun a ha b hb'=>?_⟩
    have hax:Qk0 (rkey M W) ws a x:=by
     rcases List.mem_append.1 ha with ha |ha
     ·rw[List.pairwise_append] at p1
      exact Q24 (p1.2.2 a ha y (by simp)) hyx
     ·simp at ha;subst ha;exact hyx
    rcases List.mem_cons.1 hb' with rfl |hb'
    ·exact hax
    ·exact p3 a ha b hb'
theorem Ze6 (h:WOk ws M W) (hL:L≤20) (hLw:L=ws.length) (hN:1000≤N):∀(n i:Nat) (Q:List Int),L-i<n→i≤L→Q.Perm ((ixs L).take i)→Q.Pairwise (Qk0 (rkey M W) ws) →
  ∃Q',Qa6 N L 0 L ws M W n i (Q++(ixs L).drop i)=some Q'∧Q'.Perm (ixs L)∧Q'.Pairwise (Qk0 (rkey M W) ws):=by
 intro n
 induction n with
 |zero=>intro i _ h;cases h
 |succ n ih=>
  intro i Q hn hi hp hq
  rw[Qa6]
  simp only[Qbl]
  by_cases hlt:i<L
  ·have hql:Q.length=i:=by rw[hp.length_eq,List.length_take,Qjn];omega
   have hd:(ixs L).drop i=(i:Int)::(ixs L).drop (i+1):=by
    have:=Qx9 hlt
    have hi2:i<(ixs L).length:=by rw[Qjn];exact hlt
    rw[List.drop_eq_getElem_cons hi2]
    rw[List.getElem?_eq_getElem hi2] at this
    rw[Option.some.inj this]
   rw[show decide ((i:Int)<(L:Int))=true from by simpa using hlt,cond_true]
   have hmem:∀y∈Q,0≤y∧y<(i:Int):=fun y hy=>by
    have h1:=hp.mem_iff.1 hy
    obtain⟨j,hj,e⟩:=List.mem_take_iff_getElem.1 h1
    have hj2:j<L:=by rw[Qjn] at hj;omega
    have:=Qx9 hj2
    rw[List.getElem?_eq_getElem (by rw[Qjn];exact hj2),e] at this
    cases this
    omega
   obtain⟨Q',q1,q2,q3⟩:=Zk5 (N:=N) h hL hLw (fun y8=>Qa6 N L 0 L ws M W n (w64 ((i:Int)+1)) y8) (i:Int) ((ixs L).drop (i+1)) (by omega) N Q [] (by omega) (by simp[Qjn,hql];omega) (by simpa using hq) (by simp) (by simpa using hmem)
   rw[hql] at q1
   rw[hd]
   have e:Q++(i:Int)::(ixs L).drop (i+1)=Q++[(i:Int)]++(ixs L).drop (i+1):=by simp
   rw[e]
   have t:(ixs L).take (i+1)=(ixs L).take i++[(i:Int)]:=by
    rw[List.take_add_one,Qx9 hlt];rfl
   obtain⟨Q2,r1,r2,r3⟩:=ih (i+1) Q' (by omega) (by omega) (q2.trans (by rw[t];exact hp.append_right _)) q3
   refine⟨Q2,q1.trans ?_,r2,r3⟩
   rw[w64S (i:=i) (by omega)]
   exact r1
  ·rw[show decide ((i:Int)<(L:Int))=false from by simpa using hlt,cond_false]
   have hiL:i=L:=by omega
   subst hiL
   rw[List.take_of_length_le (by rw[Qjn];exact Nat.le_refl _)] at hp
   exact⟨Q,by rw[List.drop_of_length_le (by rw[Qjn];exact Nat.le_refl _),List.append_nil],hp,hq⟩
theorem Zeu (h:WOk ws M W) (hL:ws.length≤20) (h1:1≤ws.length) (hN:1000≤N):∃Q,Qci N ws.length (ixs ws.length) ws M W=some Q∧Q.Perm (ixs ws.length)∧Q.Pairwise (Qk0 (rkey M W) ws):=by
 have ht:(ixs ws.length).take 1=[0]:=by
  rw[List.take_add_one,Qx9 (by omega)];rfl
 have hd:(ixs ws.length)=[0]++(ixs ws.length).drop 1:=by rw[←ht,List.take_append_drop]
 obtain⟨Q,q1,q2,q3⟩:=Ze6 (N:=N) (L:=ws.length) h hL rfl hN N 1 [0] (by omega) h1 (by rw[ht]) (by simp)
 rw[←hd] at q1
 refine⟨Q,?_,q2,q3⟩
 obtain⟨m,rfl⟩:∃m,N=m+2:=⟨N-2,by omega⟩
 have hins:Qbm (m+2) ws.length 0 (ws.length:Int) (ixs ws.length) ws M W=some Q:=by
  unfold Qbm
  rw[show w64 ((0:Int)+1)=((1:Nat):Int) from Qcg (by decide) (by decide)]
  exact q1
 unfold Qci Qen
 simp only[Qbl]
 rw[Qbv]
 by_cases h20:ws.length=20
 ·rw[show decide ((20:Int)≤(ws.length:Int))=true from by simp;omega,cond_true]
  have e20:(20:Int)=(ws.length:Int):=by omega
  rw[show Qbm (m+2) ws.length 0 20 (ixs ws.length) ws M W=some Q from by rw[e20];exact hins,Option.bind_some,Qbv,show w64 ((20:Int)+20)=40 from Qcg (by decide) (by decide),show decide ((40:Int)≤(ws.length:Int))=false from by simp;omega,cond_false]
  dsimp only
  unfold Qbm
  rw[show w64 ((20:Int)+1)=21 from Qcg (by decide) (by decide),Qa6,show decide ((21:Int)<(ws.length:Int))=false from by simp;omega,cond_false,Option.bind_some,Qb6,show decide ((20:Int)<(ws.length:Int))=false from by simp;omega,cond_false]
  rfl
 ·rw[show decide ((20:Int)≤(ws.length:Int))=false from by simp;omega,cond_false]
  dsimp only
  rw[hins,Option.bind_some,Qb6,show decide ((20:Int)<(ws.length:Int))=false from by simp;omega,cond_false]
  rfl
theorem Ze8 (ls:List Int) (k:List Int→Option (List Int)) (h8:ls.length≤20):∀(n i:Nat) (l:List Int),ls.length-i<n→i≤ls.length→l=ixs i →
  Qcy N ls k n i l=k (ixs ls.length):=by
 intro n
 induction n with
 |zero=>intro i _ h;cases h
 |succ n ih=>
  intro i l hn hi hl
  rw[Qcy]
  by_cases h:i<ls.length
  ·have e1:w64 ((i:Int)+1)=((i+1:Nat):Int):=Qcg (by omega) (by omega)
   rw[show decide ((i:Int)<(ls.length:Int))=true from by simpa using h,cond_true,e1]
   simp only[chk]
   rw[show decide ((l.length+[(i:Int)].length)*8≤140737488355328)=true from by rw[hl,Qjn];simp;omega,cond_true]
   exact ih (i+1) _ (by omega) (by omega) (by rw[hl];simp[ixs,List.range_succ])
  ·rw[show decide ((i:Int)<(ls.length:Int))=false from by simpa using h,cond_false,hl,show i=ls.length by omega]
theorem Qzo (h:WOk ws M W) (hL:ws.length≤20) (h1:1≤ws.length) (hN:1000≤N):∃Q,Qf9 N ws M W=some Q∧Q.Perm (ixs ws.length)∧Q.Pairwise (Qk0 (rkey M W) ws):=by
 obtain⟨Q,q1,q2,q3⟩:=Zeu (N:=N) h hL h1 hN
 refine⟨Q,?_,q2,q3⟩
 have hlen:=q2.length_eq
 rw[Qjn] at hlen
 unfold Qf9
 simp only[Qbl]
 have:=Ze8 (N:=N) ws (fun y3=>chk (!y3.isEmpty)<|(Qci N y3.length y3 ws M W).bind fun x7=>chk (decide (y3.length≤x7.length))<|some (x7.take y3.length)) hL N 0 [] (by omega) (by omega) rfl
 refine this.trans ?_
 have he:(!(ixs ws.length).isEmpty)=true:=by
  cases hh:ixs ws.length with
  |nil=>have:=Qjn ws.length;rw[hh] at this;simp at this;omega
  |cons=>rfl
 simp only[chk,he,cond_true,Qjn,q1,Option.bind_some]
 rw[show decide (ws.length≤Q.length)=true by simp;omega,cond_true,List.take_of_length_le (by omega)]
end
end
section
open Go.RowKit
theorem Q0j {α:Type}{F:Nat→Int→Option Int}{p:List α}{q:α→Option Bool}{b:α→Bool}{k:Unit→Option Int}
  (h:∀n y,F (n+1) y=bif decide (y<(p.length:Int)) then(getI p y).bind fun x=>(q x).bind fun c=>bif c then some y else F n (w64 (y+1)) else k ())
  (hq:∀x,q x=some (b x)) (hk:k ()=some (-1)) (hl:p.length≤1000000):∀(n i:Nat),(p.drop i).length<n→(F n i).bind (fun x=>some (decide (x≥0)))=some ((p.drop i).any b):=by
 intro n
 induction n with
 |zero=>intro i h;cases h
 |succ n ih=>
  intro i hn
  rw[h]
  cases hd:p.drop i with
  |nil=>
   have:=Qb2 hd
   rw[show decide ((i:Int)<(p.length:Int))=false by simp;omega,cond_false,hk]
   rfl
  |cons a l=>
   obtain⟨h1,h2,h3⟩:=Qbp hd
   rw[show decide ((i:Int)<(p.length:Int))=true by simp;omega,cond_true,Qb1 h1,Option.bind_some,hq,Option.bind_some]
   cases hb:b a with
   |true=>simp[hb]
   |false=>
    rw[cond_false,show w64 ((i:Int)+1)=((i+1:Nat):Int) by rw[Qcg]<;>omega,ih (i+1) (by rw[h2];rw[hd] at hn;simp at hn;omega),h2]
    simp[hb]
theorem Qi3 {α:Type}{F:Nat→Int→Option Int}{p:List α}{q:α→Option Bool}{b:α→Bool}{k:Unit→Option Int}{N:Nat}
  (h:∀n y,F (n+1) y=bif decide (y<(p.length:Int)) then(getI p y).bind fun x=>(q x).bind fun c=>bif c then some y else F n (w64 (y+1)) else k ())
  (hq:∀x,q x=some (b x)) (hk:k ()=some (-1)) (hl:p.length≤1000000) (hN:p.length<N):(F N 0).bind (fun x=>some (decide (x≥0)))=some (p.any b):=by
 have:=Q0j h hq hk hl N 0 (by simpa using hN)
 simpa using this
theorem Qjt (N:Nat) (a lo hi:Int):Qcw N a lo hi=some (btw a lo hi):=by
 unfold Qcw btw
 by_cases h:lo≤a<;>simp[h]
theorem Qvk {α:Type}(l:List α) (b:α→Bool):(!l.any fun x=>!b x)=l.all b:=by
 induction l with
 |nil=>rfl
 |cons a l ih=>simp only[List.any_cons,List.all_cons,Bool.not_or,Bool.not_not,ih]
def wtsB (w:List Int):Bool:=btw w.length 1 20&&(w.all (fun x=>btw x 0 1000)&&w.any fun x=>decide (x>0))
def outl (x:Qae):Int:=if x.Kind=4 then 2 else if x.Kind=5 then x.Weights.length else 1
def Qih (x:Qae):Bool:=
 btw x.Kind 1 6&&btw x.Wide 0 1000000&&btw x.Narrow 1 1000000000&&btw x.From.length (if x.Kind=1 then 0 else 1) (if x.Kind=1 then 0 else if x.Kind=2 then 6 else 1) &&
 btw x.Amount 0 (if x.Kind=3 then 1000000000 else if x.Kind=4 then 1000 else 0)&&(if x.Kind=5 then wtsB x.Weights else decide (x.Weights.length=0))
theorem Zmf {N:Nat}{w:List Int}(hl:w.length≤1000) (hN:1001≤N):Qhb N w=some (w.all fun x=>btw x 0 1000):=by
 have hc:Qc7 N w=some (w.any fun x=>!btw x 0 1000):=by
  unfold Qc7 Qes Qbl
  refine Qi3 (F:=Qcd N w fun _=>some (-1)) (k:=fun _=>some (-1)) (q:=Qha N) (fun n y=>rfl) (fun x=>?_) rfl (by omega) (by omega)
  simp only[Qha,Qgx,Qjt,Option.bind_some]
 unfold Qhb
 rw[hc,Option.bind_some,Qvk]
theorem Zmd {N:Nat}{w:List Int}(hl:w.length≤1000) (hN:1001≤N):Qcr N w=some (w.any fun x=>decide (x>0)):=by
 unfold Qcr Qer Qbl
 exact Qi3 (F:=Qcc N w fun _=>some (-1)) (k:=fun _=>some (-1)) (q:=Qgw N) (fun n y=>rfl) (fun x=>rfl) rfl (by omega) (by omega)
theorem Zdh {N:Nat}{x:Qae}(hw:x.Weights.length≤1000) (hN:1001≤N):Qgh N x=some (Qih x):=by
 have key:∀(a b:Int),(bif ((x.From.length:Int) != a) then some false else
   (Qcw N x.Amount 0 b).bind fun x16=>bif (!x16) then some false else(Qcw N x.Wide 0 1000000).bind fun x19=>bif (!x19) then some false else
    (Qcw N x.Narrow 1 1000000000).bind fun x22=>bif (!x22) then some false else
    bif (x.Kind != 5) then some ((x.Weights.length:Int)==0) else(Qcw N (x.Weights.length:Int) 1 20).bind fun x7=>bif x7 then(Qhb N x.Weights).bind fun x10=>
    bif x10 then(Qcr N x.Weights).bind fun x13=>some x13 else some false else some false) =
   some (decide ((x.From.length:Int)=a)&&btw x.Amount 0 b&&btw x.Wide 0 1000000&&btw x.Narrow 1 1000000000&&(if x.Kind=5 then wtsB x.Weights else decide (x.Weights.length=0))):=fun a b=>by
  simp only[Qjt,Zmf hw hN,Zmd hw hN,Option.bind_some]
  by_cases h1:(x.From.length:Int)=a
  ·rw[show((x.From.length:Int) != a)=false by simpa using h1,cond_false,decide_eq_true h1]
   cases btw x.Amount 0 b<;>cases btw x.Wide 0 1000000<;>cases btw x.Narrow 1 1000000000<;>simp only[Bool.not_true,Bool.not_false,cond_true,cond_false,Bool.and_true,Bool.true_and,Bool.false_and,Bool.and_false]
   by_cases h5:x.Kind=5
   ·rw[show(x.Kind != 5)=false by simpa using h5,if_pos h5,wtsB]
    cases btw x.Weights.length 1 20<;>cases (x.Weights.all fun x=>btw x 0 1000)<;>cases (x.Weights.any fun x=>decide (x>0))<;>rfl
   ·rw[show(x.Kind != 5)=true by simpa using h5,if_neg h5,cond_true]
    congr 1
    by_cases h0:x.Weights.length=0
    ·rw[h0];rfl
    ·rw[decide_eq_false h0,beq_eq_false_iff_ne];omega
  ·rw[show((x.From.length:Int) != a)=true by simpa using h1,cond_true,decide_eq_false h1]
   simp
 unfold Qgh Qih
 simp only[Qbl]
 simp only[key]
 have hkd:∀a b:Int,decide (((x.From.length:Int))=a)=btw x.From.length a a:=fun a _=>by
  unfold btw
  by_cases h:(x.From.length:Int)=a
  ·rw[h];simp
  ·rw[decide_eq_false h]
   symm
   rw[Bool.and_eq_false_iff,decide_eq_false_iff_not,decide_eq_false_iff_not];omega
 have fin:∀(a b c d e:Bool),some (a&&b&&c&&d&&e)=some (true&&c&&d&&a&&b&&e):=by
  intro a b c d e;cases a<;>cases b<;>cases c<;>cases d<;>rfl
 by_cases h1:x.Kind=1
 ·rw[h1]
  simp only[beq_self_eq_true,cond_true,hkd 0 0]
  exact fin _ _ _ _ _
 ·have b1:(x.Kind==1)=false:=by simpa using h1
  by_cases h2:x.Kind=2
  ·rw[h2]
   have e:∀c:Int,decide (((x.From.length:Int))=(if (if (6:Int)<x.From.length then 6 else(x.From.length:Int))>1 then(if (6:Int)<x.From.length then 6 else(x.From.length:Int)) else 1))=btw x.From.length 1 6:=fun _=>by
    unfold btw
    by_cases h6:(6:Int)<x.From.length
    ·rw[if_pos h6,if_pos (by decide),decide_eq_false (by omega)]
     symm;rw[Bool.and_eq_false_iff,decide_eq_false_iff_not,decide_eq_false_iff_not];omega
    ·rw[if_neg h6]
     by_cases h7:(x.From.length:Int)>1
     ·rw[if_pos h7];simp;omega
     ·rw[if_neg h7]
      by_cases h8:(x.From.length:Int)=1
      ·rw[h8];rfl
      ·rw[decide_eq_false h8]
       symm;rw[Bool.and_eq_false_iff,decide_eq_false_iff_not,decide_eq_false_iff_not];omega
   simp only[show((2:Int)==1)=false from rfl,beq_self_eq_true,cond_true,cond_false,Option.bind_some,e 0]
   exact fin _ _ _ _ _
  ·have b2:(x.Kind==2)=false:=by simpa using h2
   by_cases h3:x.Kind=3
   ·rw[h3]
    simp only[show((3:Int)==1)=false from rfl,show((3:Int)==2)=false from rfl,beq_self_eq_true,cond_true,cond_false,hkd 1 0]
    exact fin _ _ _ _ _
   ·have b3:(x.Kind==3)=false:=by simpa using h3
    by_cases h4:x.Kind=4
    ·rw[h4]
     simp only[show((4:Int)==1)=false from rfl,show((4:Int)==2)=false from rfl,show((4:Int)==3)=false from rfl,beq_self_eq_true,cond_true,cond_false,hkd 1 0]
     exact fin _ _ _ _ _
    ·have b4:(x.Kind==4)=false:=by simpa using h4
     by_cases h5:x.Kind=5
     ·rw[h5]
      simp only[show((5:Int)==1)=false from rfl,show((5:Int)==2)=false from rfl,show((5:Int)==3)=false from rfl,show((5:Int)==4)=false from rfl,beq_self_eq_true,cond_true,cond_false,hkd 1 0]
      exact fin _ _ _ _ _
     ·have b5:(x.Kind==5)=false:=by simpa using h5
      by_cases h6:x.Kind=6
      ·rw[h6]
       simp only[show((6:Int)==1)=false from rfl,show((6:Int)==2)=false from rfl,show((6:Int)==3)=false from rfl,show((6:Int)==4)=false from rfl,show((6:Int)==5)=false from rfl,beq_self_eq_true,cond_true,cond_false,hkd 1 0]
       exact fin _ _ _ _ _
      ·have b6:(x.Kind==6)=false:=by simpa using h6
       simp only[b1,b2,b3,b4,b5,b6,cond_false]
       have:btw x.Kind 1 6=false:=by
        unfold btw
        rw[Bool.and_eq_false_iff,decide_eq_false_iff_not,decide_eq_false_iff_not];omega
       rw[this];simp
theorem Zej {N:Nat}(w:List Int) (k:Int→Option Bool) (hl:w.length≤1000):∀(n i:Nat) (s:Int),(w.drop i).length<n→0≤s→s≤1000*i →
  Qcz N w k n s i=bif (w.drop i).all (fun x=>btw x 0 1000) then k (s+(w.drop i).sum) else some false:=by
 intro n
 induction n with
 |zero=>intro i _ h;cases h
 |succ n ih=>
  intro i s h h0 h1
  rw[Qcz]
  cases hd:w.drop i with
  |nil=>
   have:=Qb2 hd
   simp[show ¬((i:Int)<w.length) from by omega]
  |cons a l=>
   obtain⟨hg,hd',hlt⟩:=Qbp hd
   simp only[dlI hlt,cond_true,Qb1 hg,Option.bind_some,Q2d,List.all_cons]
   cases hb:btw a 0 1000 with
   |false=>rfl
   |true=>
    have hb':=Qgj.1 hb
    simp only[Bool.not_true,cond_false,Bool.true_and,List.sum_cons]
    rw[Qcg (x:=(i:Int)+1) (by omega) (by omega),Qcg (x:=s+a) (by omega) (by omega),show(i:Int)+1=((i+1:Nat):Int) by omega,ih (i+1) (s+a) (dlt hd hd' h) (by omega) (by omega),hd',Int.add_assoc]
theorem Q1x {w:List Int}(h:∀x∈w,0≤x):0≤w.sum∧(w.sum>0↔∃x∈w,x>0):=by
 induction w with
 |nil=>simp
 |cons a l ih=>
  obtain⟨h1,h2⟩:=ih fun x hx=>h x (List.mem_cons_of_mem _ hx)
  have ha:=h a List.mem_cons_self
  simp only[List.sum_cons,List.mem_cons,exists_eq_or_imp]
  refine⟨by omega,⟨fun hs=>?_,fun hs=>?_⟩⟩
  ·by_cases h3:a>0
   ·exact .inl h3
   ·exact .inr (h2.1 (by omega))
  ·rcases hs with hs |hs
   ·omega
   ·have:=h2.2 hs;omega
theorem Zat {N:Nat}{w:List Int}(hl:w.length≤1000) (hN:1001≤N):Qgd N w=some (wtsB w):=by
 unfold Qgd wtsB
 simp only[Qbl]
 have:=Zej (N:=N) w (fun y1=>bif (decide ((w.length:Int)≤20)) then some (decide (y1>0)) else some false) hl N 0 0 (by simp;omega) (by omega) (by omega)
 rw[List.drop_zero,Int.zero_add] at this
 refine this.trans ?_
 cases ha:w.all fun x=>btw x 0 1000 with
 |false=>simp
 |true=>
  have ha':∀x∈w,0≤x:=fun x hx=>(Qgj.1 (List.all_eq_true.1 ha x hx)).1
  have hs:=(Q1x ha').2
  have e:(w.any fun x=>decide (x>0))=decide (w.sum>0):=by
   by_cases h:w.sum>0
   ·rw[decide_eq_true h,List.any_eq_true]
    obtain⟨x,h1,h2⟩:=hs.1 h
    exact⟨x,h1,by simpa using h2⟩
   ·rw[decide_eq_false h]
    rw[List.any_eq_false]
    exact fun x hx h2=>h (hs.2 ⟨x,hx,by simpa using h2⟩)
  rw[e,cond_true,Bool.true_and]
  by_cases h1:w.length=0
  ·have:w=[]:=List.length_eq_zero_iff.1 h1
   subst this
   rfl
  ·by_cases h2:(w.length:Int)≤20
   ·rw[show btw (w.length:Int) 1 20=true from Qgj.2 ⟨by omega,h2⟩,decide_eq_true h2];rfl
   ·rw[show btw (w.length:Int) 1 20=false by unfold btw;rw[decide_eq_false h2,Bool.and_false],decide_eq_false h2];rfl
theorem Zdg {N:Nat}{x:Qae}(hw:x.Weights.length≤1000) (hN:1001≤N):Qkg N x=some (Qih x):=by
 unfold Qkg Qih
 simp only[Qbl,Q2d,Zat hw hN,Option.bind_some]
 have hk:btw x.Kind 1 6=(!decide (x.Kind<1)&&!decide (x.Kind>6)):=by
  unfold btw
  by_cases h1:x.Kind<1
  ·rw[decide_eq_true h1,decide_eq_false (by omega)];rfl
  ·by_cases h2:x.Kind>6
   ·rw[decide_eq_true h2,decide_eq_false (show ¬x.Kind≤6 by omega)];simp
   ·rw[decide_eq_false h1,decide_eq_false h2,decide_eq_true (by omega),decide_eq_true (by omega)];rfl
 have hw0:((x.Weights.length:Int)==0)=decide (x.Weights.length=0):=by
  by_cases h0:x.Weights.length=0
  ·rw[h0];rfl
  ·rw[decide_eq_false h0,beq_eq_false_iff_ne];omega
 have fin2:∀(a b c:Bool),(bif !a then some false else bif !b then some false else some c)=some (a&&b&&c):=by
  intro a b c;cases a<;>cases b<;>cases c<;>rfl
 rw[hk,hw0]
 cases decide (x.Kind<1) with
 |true=>rfl
 |false=>
  cases decide (x.Kind>6) with
  |true=>rfl
  |false=>
   simp only[cond_false,Bool.not_false,Bool.true_and]
   cases btw x.Wide 0 1000000 with
   |false=>rfl
   |true=>
    cases btw x.Narrow 1 1000000000 with
    |false=>rfl
    |true=>
     simp only[Bool.not_true,cond_false,Bool.true_and]
     by_cases h1:x.Kind=1
     ·rw[h1]
      simp only[beq_self_eq_true,cond_true,show((1:Int)==2)=false from rfl,show((1:Int)==3)=false from rfl,show((1:Int)==4)=false from rfl,show((1:Int)==5)=false from rfl,cond_false]
      exact fin2 _ _ _
     ·have b1:(x.Kind==1)=false:=by simpa using h1
      simp only[b1,cond_false,if_neg h1]
      by_cases h2:x.Kind=2
      ·rw[h2]
       simp only[beq_self_eq_true,cond_true,show((2:Int)==3)=false from rfl,show((2:Int)==4)=false from rfl,show((2:Int)==5)=false from rfl,cond_false]
       exact fin2 _ _ _
      ·have b2:(x.Kind==2)=false:=by simpa using h2
       simp only[b2,cond_false,if_neg h2]
       by_cases h3:x.Kind=3
       ·rw[h3]
        simp only[beq_self_eq_true,cond_true,show((3:Int)==4)=false from rfl,show((3:Int)==5)=false from rfl,cond_false]
        exact fin2 _ _ _
       ·have b3:(x.Kind==3)=false:=by simpa using h3
        simp only[b3,cond_false,if_neg h3]
        by_cases h4:x.Kind=4
        ·rw[h4]
         simp only[beq_self_eq_true,cond_true,show((4:Int)==5)=false from rfl,cond_false]
         exact fin2 _ _ _
        ·have b4:(x.Kind==4)=false:=by simpa using h4
         simp only[b4,cond_false,if_neg h4]
         by_cases h5:x.Kind=5
         ·rw[h5]
          simp only[beq_self_eq_true,cond_true]
          exact fin2 _ _ _
         ·have b5:(x.Kind==5)=false:=by simpa using h5
          simp only[b5,cond_false,if_neg h5]
          exact fin2 _ _ _
theorem Zku (N:Nat) (x:Qae):Qeg N x=some (outl x):=by
 unfold Qeg outl
 by_cases h4:x.Kind=4
 ·rw[h4];rfl
 ·by_cases h5:x.Kind=5
  ·rw[h5];rfl
  ·rw[show(x.Kind==4)=false by simpa using h4,show(x.Kind==5)=false by simpa using h5,if_neg h4,if_neg h5];rfl
theorem Zkt (N:Nat) (x:Qae):Qil N x=some (outl x):=by
 unfold Qil outl
 by_cases h4:x.Kind=4
 ·rw[h4];rfl
 ·by_cases h5:x.Kind=5
  ·rw[h5];rfl
  ·rw[show(x.Kind==4)=false by simpa using h4,show(x.Kind==5)=false by simpa using h5,if_neg h4,if_neg h5];rfl
end
end Go.Proofs.YtmbhnllcfmiajaaGreat
