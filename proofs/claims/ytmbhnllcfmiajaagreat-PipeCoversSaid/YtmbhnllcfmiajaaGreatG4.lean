/-
  The texts X4, X5, X6, PB6, PSa6, PV6 of the proof, one behind the other. No conditions.
-/
import Derived.Test.YtmbhnllcfmiajaaGreatG3
namespace Go.Proofs.YtmbhnllcfmiajaaGreat
open _root_.Go.Proofs.Tryz
section
set_option maxRecDepth 100000
set_option maxHeartbeats 4000000
open Go.RowKit
def Qga (_N:Nat) (p0:List Int):Option Unit:=
  chk (!p0.isEmpty)<|
  chk (!p0.isEmpty)<|
  chk (decide ((0+p0.length)*8≤140737488355328))<|
  some ()
def Zph:AV:=.acc 0 3 1 ((([]:List Int):List Int).map Qad)
theorem Qm5 (N:Nat) (p0:List Int) (r:Unit) (h:Qga N p0=some r):Spec prog 95 [(.dat 1 (p0.map Qad))] [] (.own 0 1 (0) p0.length) [(.own 1 (p0.map Qad))]:=by
  refine Qak func95 rfl 1 (nle rfl) (fun X φ0 w0 hφ0 hd0=>?_)
  unfold Qga at h
  refine Qby<|wxz<|wsq ?_
  obtain⟨hz1,h⟩:=cko h
  refine wx tbk [(1,rp [(.tmp 3,(.dat 1 (p0.map Qad))),((.const (.slice none 0 0)),nilS)] (B false))] ⟨Q49 rfl underlying27 rfl (Qon hz1),tv⟩<|wfa<|Qaq<|thn ?_
  obtain⟨ha3,h⟩:=cko h
  obtain⟨ha2,h⟩:=cko h
  refine wx tbk [(0,⟨[],[(0,.unused)],Zph,[(0,.tok)],false⟩),(2,⟨[(.tmp 5,Zph),(.tmp 6,(.dat 1 (p0.map Qad)))],[(0,.tok),(1,.unused)],(.own 1 1 (0) p0.length),[(0,.dead),(1,(.own 1 (p0.map Qad)))],false⟩)] ⟨Ql7 rfl underlying27 ti3 tz3,Q9r rfl underlying27 te3 (Base.acc _ _) rfl rfl (Qon ha3) (Qol Qad Qkw _) (Zjk Qad ha2) (Zjj Qad ha2 (by decide)) (List.length_map _),tv⟩ ?_
  refine wmr (mto (n:=8) (l':=[(2,(.own 0 1 (0) p0.length))]) (own':=[(.own 1 (p0.map Qad))]) [(2,(.own 1 1 (0) p0.length))] [1] [(.own 1 (p0.map Qad))] hφ0 (pc (.rn (Qa7 rfl)) pn) (qc (spr Qag) qn))<|Qah ?_
  obtain rfl:=osi h
  exact⟨_,Mor.rfl,Qcy (vs:=[(.own 0 1 (0) p0.length)]) ⟨rot,tv⟩ rfl (NLt.own _ _ _ _ (by decide)) (by kernel_rfl) (Qar (Qcw Qag _) Qbx)⟩
theorem Qti:DRet prog 96 [1,1]:=by
  refine Que (t:=5) (args:=[.any,.any]) func96 rfl (fun _ _=>rfl) (by kernel_rfl) Zmx 0 (nle rfl) (fun X φ0 w0 hφ0=>?_)
  exact Qap<|wx tbk [(0,rp [(.tmp 5,(.lit .nilIface)),(.const .nilIface,(.lit .nilIface))] (B true))] ⟨Q25 rfl underlying20,tv⟩<|wtr<|wxz1<|bln<|fend ⟨[],tv,rfl⟩ (.tup _ nl0)
def Qgp (_N:Nat) (p0:Qam) (p1:Int):Option Int:=
  chk (p0.Narrow != 0)<|
  (some (if (w64 (p0.Wide-(w64 (p1.tdiv p0.Narrow))))>0 then w64 (p0.Wide-(w64 (p1.tdiv p0.Narrow))) else 0)).bind fun x2=>
  some x2
theorem Qkt (N:Nat) (p0:Qam) (p1 r:Int) (h:Qgp N p0 p1=some r):Spec prog 74 [(.agg (Qal p0)),(I p1)] [] (I r) []:=by
  refine Qak func74 rfl 0 (nle rfl) (fun X φ0 w0 hφ0 hd0=>?_)
  unfold Qgp at h
  refine wxz ?_
  obtain⟨hz1,h⟩:=cko h
  obtain⟨x2,hl3,h⟩:=bno h
  refine wxd tbk [(5,rp [(.tmp 7,I p1),(.tmp 9,I p0.Narrow)] (I (w64 (p1.tdiv p0.Narrow)))),(7,rp [ci 0,(.tmp 11,(I (w64 (p0.Wide-(w64 (p1.tdiv p0.Narrow))))))] (I x2))] ⟨Qlu rfl (Qmy hz1),Qin hl3 (Qiu rfl),tv⟩<|Qah ?_
  obtain rfl:=osi h
  exact fend ⟨[I x2],⟨rot,tv⟩,rfl⟩ nll
def Qhw (_N:Nat) (_p0:Int) (_p1:List GRow) (_p2:List Qam) (_p3 _p4 _p5:Nat) (_p6:List Qaa) (_p7:Int) (_p8:List (List Qaa)) (_p9:List Qa9) (_p10:List Int):Option Unit:=
  some ()
def Zf6 (p1:List GRow) (p2:List Qam) (p3 p4 p5:Nat) (p6:List Qaa) (p7:Int):Slot:=.own 7 [[(.dat 5 (p1.map Qav)),(.dat 7 (p2.map Qal)),(.own 1 1 (0) p3),(.own 2 4 (0) p4),(.own 3 1 (0) p5),(.dat 4 (p6.map Qac)),(I p7)]]
def Za1:AV:=.fn (.func 133) [] [(.ref 4 1 (0) 0),(.ref 5 1 (0) 0)]
def Zls:Slot:=.own 1 [[(.ref 0 7 (0) 0)]]
theorem Qqf (N:Nat) (p0:Int) (p1:List GRow) (p2:List Qam) (p3 p4 p5:Nat) (p6:List Qaa) (p7:Int) (p8:List (List Qaa)) (p9:List Qa9) (p10:List Int) (r:Unit) (h:Qhw N p0 p1 p2 p3 p4 p5 p6 p7 p8 p9 p10=some r):Spec prog 116 [(.ref 0 7 (0) 0),(I p0)] [(Zf6 p1 p2 p3 p4 p5 p6 p7),(.own 1 (p8.map Qae)),(.own 4 (p9.map Qax)),(.own 1 (p10.map Qad))] Za1 [(Zf6 p1 p2 p3 p4 p5 p6 p7),(.own 1 (p8.map Qae)),(.own 4 (p9.map Qax)),(.own 1 (p10.map Qad)),Zls,(.own 1 [[(I p0)]])]:=by
  refine Qak func116 rfl 6 (nle rfl) (fun X φ0 w0 hφ0 hd0=>?_)
  unfold Qhw at h
  refine Qby<|wxz ?_
  refine wx tbk [(0,rp [(.tmp 2,.ref 4 1 0 0),(.tmp 3,.ref 5 1 0 0)] Za1)] ⟨Qew (fs:=[]) (cs:=[.ref 4 1 0 0,.ref 5 1 0 0]) rfl rfl rfl rfl,tv⟩ ?_
  refine wmr (mto (n:=6) (l':=[(4,Za1)]) (own':=[(Zf6 p1 p2 p3 p4 p5 p6 p7),(.own 1 (p8.map Qae)),(.own 4 (p9.map Qax)),(.own 1 (p10.map Qad)),Zls,(.own 1 [[I p0]])]) [(4,Za1)] [0,1,2,3,4,5] [(Zf6 p1 p2 p3 p4 p5 p6 p7),(.own 1 (p8.map Qae)),(.own 4 (p9.map Qax)),(.own 1 (p10.map Qad)),Zls,(.own 1 [[I p0]])] hφ0 (pc (.rn (Qbl rn0 (rnc (rqr rfl) (rnc (rqr rfl) rn0)))) pn) (qb (lc (rnd Qao) (lc (rnd Qab) (lc (.rn (Qa7 rfl)) (lc (.rn (Qa7 rfl)) (lc (.rn (Qa7 rfl)) (lc (rnd Qaf) (lc rwl ln))))))) (qc (spr Qai) (qc (spr Qa2) (qc (spr Qag) (qb (lc (.rn (rqr rfl)) ln) (qb (lc rwl ln) qn)))))))<|Qah ?_
  obtain rfl:=osi h
  exact⟨_,Mor.rfl,Qcy (vs:=[Za1]) ⟨rot,tv⟩ rfl (NLt.fn _ _ _ nl0 (nlc (NLt.ref _ _ _ _ (by decide)) (nlc (NLt.ref _ _ _ _ (by decide)) nl0))) (by kernel_rfl) (Qar (Qa8 (nlc (NLt.of0 (nld Qao _)) (nlc (NLt.of0 (nld Qab _)) (nlc (NLt.own _ _ _ _ (by decide)) (nlc (NLt.own _ _ _ _ (by decide)) (nlc (NLt.own _ _ _ _ (by decide)) (nlc (NLt.of0 (nld Qaf _)) (nlc (NLt.of0 nll) nl0)))))))) (Qar (Qcw Qai _) (Qar (Qcw Qa2 _) (Qar (Qcw Qag _) (Qar (Qa8 (nlc (NLt.ref _ _ _ _ (by decide)) nl0)) (Qar (Qa8 (nlc (NLt.of0 nll) nl0)) Qbx))))))⟩
def Qcs (N:Nat) (p0:List Int) (k1:Unit→Option Int) (p1:Int):Nat→Int→Option Int
  |0,_=>none
  |n4+1,y2=>
    bif (decide (y2<(p0.length:Int))) then
     (getI p0 y2).bind fun x6=>
     bif (p1==x6) then
      some y2
     else
      Qcs N p0 k1 p1 n4 (w64 (y2+1))
    else
     k1 ()
def Qfv (N:Nat) (p0:List Int) (p1:Int):Option Int:=
  Qbi (fun _=>
    some (-1)) fun k1:Unit→Option Int=>
  Qcs N p0 k1 p1 N 0
theorem Qjh (N:Nat) (p0:List Int) (p1 r:Int) (h:Qfv N p0 p1=some r):Spec prog 134 [(.dat 1 (p0.map Qad)),(I p1)] [] (I r) []:=by
  refine Qak func134 rfl 0 (nle rfl) (fun X φ0 w0 hφ0 hd0=>?_)
  unfold Qfv at h
  refine wxz ?_
  obtain⟨k1,hk_k1,h⟩:=jko h
  refine wjn (τ:=Unit) (fun t=>k1 t=some r) (fun _=>⟨mk 19 [],[]⟩) (fun t h=>?_) ?_
  ·subst hk_k1
   refine wxz<|Qah ?_
   obtain rfl:=osi h
   exact fend ⟨[(I ((-1)))],⟨rot,tv⟩,rfl⟩ nll
  ·skip
   refine wx tbk [(1,rp _ _)] ⟨alq 1 Qad p0 underlying27,tv⟩<|Qap ?_
   refine wmr (mto (n:=19) (l':=[(0,(.dat 1 (p0.map Qad))),(1,I p1),(7,(I ((p0.length:Int)))),(8,I 0)]) (own':=[]) [(0,(.dat 1 (p0.map Qad))),(1,I p1),(7,(I ((p0.length:Int)))),(8,I 0)] [] [] hφ0 (pc (rnd Qag) (pw (pw (pw pn)))) qn) ?_
   refine Qbv (τ:=Int) (fun n t=>Qcs N p0 k1 p1 n t=some r) (fun y2=>⟨mk 19 [(0,(.dat 1 (p0.map Qad))),(1,I p1),(7,(I ((p0.length:Int)))),(8,I y2)],[]⟩) (fun t h=>by rw[Qcs] at h;cases h) (fun n4 ih y2 h=>?_) N (0) h
   rw[Qcs] at h
   skip
   refine wxz<|wsq ?_
   refine bfe h (fun hc5 h=>?_) fun hc5 h=>?_
   ·refine wft hc5<|Qaq<|thn<|wsq<|Qap<|wxz ?_
    obtain⟨x6,hg7,h⟩:=bno h
    obtain⟨hi8,hj9⟩:=gsm hg7
    refine wx tbk [(3,rp _ _)] ⟨aiq underlying27 ti3 Qad hi8 hj9,tv⟩ ?_
    refine bfe h (fun hc10 h=>?_) fun hc10 h=>?_
    ·refine wft hc10<|wxz<|Qah<|Qau<|Qaj<|Qaj<|Qau<|Qaj ?_
     obtain rfl:=osi h
     exact fend ⟨[I y2],⟨rot,tv⟩,rfl⟩ nll
    ·exact wfn hc10<|Qaq<|bln<|thn<|wxz1<|thn<|arm (mto (n:=19) [(0,(.dat 1 (p0.map Qad))),(1,I p1),(7,(I ((p0.length:Int)))),(8,(I (w64 (y2+1))))] [] [] hφ0 (pc (rnd Qag) (pw (pw (pw pn)))) qn) (ih (w64 (y2+1)) h)
   ·exact wfn hc5<|Qbg<|Qay<|Qay<|Qbf rfl<|thn<|⟨(),h,(mto (n:=19) [] [] [] hφ0 pn qn)⟩
def Qdn (N:Nat) (x1:Qam) (p2:List (List Qaa)):Nat→Int→Option (List Qaa)
  |0,_=>none
  |n19+1,y15=>
    bif (decide (y15<(x1.From.length:Int))) then
     (getI x1.From y15).bind fun x21=>
     (getI p2 x21.Element).bind fun x25=>
     (getI x25 x21.Outlet).bind fun x29=>
     yld x29<|
     Qdn N x1 p2 n19 (w64 (y15+1))
    else
     some ([])
def Qhv (N:Nat) (p0:List GRow) (p1:List Qam) (p2:List (List Qaa)) (_p3:List Qa9) (_p4:List Int) (p5:List Qaa) (_p6 p7:Int):Option (List Qaa):=
  (getI p1 p7).bind fun x1=>
  bif (x1.Kind==1) then
   (Qjm N (⟨p0,p1⟩:GNet) 1).bind fun x7=>
   (Qfv N x7 p7).bind fun x9=>
   (getI p5 x9).bind fun x10=>
   yld x10<|
   some ([])
  else
   Qdn N x1 p2 N 0
def Qhp (p1:List Qam):AV:=.dat 7 (p1.map Qal)
def Qgz (p2:List (List Qaa)):AV:=.dat 1 (p2.map Qae)
def Qhq (p3:List Qa9):AV:=.dat 4 (p3.map Qax)
def Qgy (p5:List Qaa):AV:=.dat 4 (p5.map Qac)
def Zf4 (p0:List GRow) (p1:List Qam):AV:=.agg [(.dat 5 (p0.map Qav)),(Qhp p1)]
def Zf3 (x10:Qaa):AV:=.agg [(I x10.Mass),(I x10.Heat),(I x10.Silica),(I x10.Gas)]
def Zf2 (x1:Qam):AV:=.dat 2 (x1.From.map Qaw)
def Qt5 (x21:Qa6):Slot:=.own 2 [[(I x21.Element),(I x21.Outlet)]]
def Q5s (x29:Qaa):AV:=.agg [(I x29.Mass),(I x29.Heat),(I x29.Silica),(I x29.Gas)]
theorem Qqe (N:Nat) (p0:List GRow) (p1:List Qam) (p2:List (List Qaa)) (p3:List Qa9) (p4:List Int) (p5:List Qaa) (p6 p7:Int) (r:List Qaa) (h:Qhv N p0 p1 p2 p3 p4 p5 p6 p7=some r):Qw9 prog 133 [(.dptr [(.dptr [(.dat 5 (p0.map Qav)),(Qhp p1),(Qgz p2),(Qhq p3),(.dat 1 (p4.map Qad)),(Qgy p5),(I p6)] 0)] 0),(.dptr [(I p7)] 0)] [] (fun x=>[(.agg #[(.int .i64 x.Mass),(.int .i64 x.Heat),(.int .i64 x.Silica),(.int .i64 x.Gas)])]) r:=by
  refine Qx0 func133 rfl rfl (fun X φ0 w0 l J hφ0 hy=>?_)
  unfold Qhv at h
  refine wsq ?_
  obtain⟨x1,hg2,h⟩:=bno h
  obtain⟨hi3,hj4⟩:=gsm hg2
  refine wxd tbk [(6,rp _ _)] ⟨aiq underlying40 Qmk Qal hi3 hj4,tv⟩ ?_
  refine bfe h (fun hc5 h=>?_) fun hc5 h=>?_
  ·refine wft hc5 ?_
   obtain⟨x7,hf6,h⟩:=bno h
   obtain⟨x9,hf8,h⟩:=bno h
   obtain⟨x10,hg11,h⟩:=bno h
   obtain⟨hi12,hj13⟩:=gsm hg11
   obtain⟨q14,hy_,hq_⟩:=Q3r h
   clear h
   subst hq_
   have h:=hy_
   clear hy_
   refine Q22 14 [mv 0 (.lit (.func (.yield l) #[] #[])),rp [(.tmp 1,(.dptr [(.dptr [(.dat 5 (p0.map Qav)),(Qhp p1),(Qgz p2),(Qhq p3),(.dat 1 (p4.map Qad)),(Qgy p5),I p6] 0)] 0))] (.dptr [(.dat 5 (p0.map Qav)),(Qhp p1),(Qgz p2),(Qhq p3),(.dat 1 (p4.map Qad)),(Qgy p5),I p6] 0),mv 17 (.dptr [(.dat 5 (p0.map Qav)),(Qhp p1),(Qgz p2),(Qhq p3),(.dat 1 (p4.map Qad)),(Qgy p5),I p6] 0),rp [(.tmp 18,(.dptr [(.dat 5 (p0.map Qav)),(Qhp p1),(Qgz p2),(Qhq p3),(.dat 1 (p4.map Qad)),(Qgy p5),I p6] 0))] (.dptr [(.dat 5 (p0.map Qav)),(Qhp p1),(Qgz p2),(Qhq p3),(.dat 1 (p4.map Qad)),(Qgy p5),I p6] 5),rp [(.tmp 19,(.dptr [(.dat 5 (p0.map Qav)),(Qhp p1),(Qgz p2),(Qhq p3),(.dat 1 (p4.map Qad)),(Qgy p5),I p6] 5))] (Qgy p5),rp [(.tmp 1,(.dptr [(.dptr [(.dat 5 (p0.map Qav)),(Qhp p1),(Qgz p2),(Qhq p3),(.dat 1 (p4.map Qad)),(Qgy p5),I p6] 0)] 0))] (.dptr [(.dat 5 (p0.map Qav)),(Qhp p1),(Qgz p2),(Qhq p3),(.dat 1 (p4.map Qad)),(Qgy p5),I p6] 0),mv 21 (.dptr [(.dat 5 (p0.map Qav)),(Qhp p1),(Qgz p2),(Qhq p3),(.dat 1 (p4.map Qad)),(Qgy p5),I p6] 0),mv 22 (.dptr [(.dat 5 (p0.map Qav)),(Qhp p1),(Qgz p2),(Qhq p3),(.dat 1 (p4.map Qad)),(Qgy p5),I p6] 0),rp [(.tmp 23,(.dptr [(.dat 5 (p0.map Qav)),(Qhp p1),(Qgz p2),(Qhq p3),(.dat 1 (p4.map Qad)),(Qgy p5),I p6] 0))] (Zf4 p0 p1),rp [fu 67,(.tmp 24,(Zf4 p0 p1)),(.const (.int .u8 1),(K .u8 (1)))] (.dat 1 (x7.map Qad)),rp [(.tmp 2,(.dptr [I p7] 0))] (I p7),rp [fu 134,(.tmp 25,(.dat 1 (x7.map Qad))),(.tmp 26,I p7)] (I x9),rp [(.tmp 20,(Qgy p5)),(.tmp 27,I x9)] (.dptr (Qac x10) 0),rp [(.tmp 28,(.dptr (Qac x10) 0))] (Zf3 x10),⟨[(.tmp 16,(.lit (.func (.yield l) #[] #[]))),(.tmp 29,(Zf3 x10))],[(0,(.far (J (some (x10::q14)))))],B true,[(0,(.far (J (some q14))))],false⟩] [mv 0 (.lit (.func (.yield l) #[] #[])),rp [(.tmp 1,(.dptr [(.dptr [(.dat 5 (p0.map Qav)),(Qhp p1),(Qgz p2),(Qhq p3),(.dat 1 (p4.map Qad)),(Qgy p5),I p6] 0)] 0))] (.dptr [(.dat 5 (p0.map Qav)),(Qhp p1),(Qgz p2),(Qhq p3),(.dat 1 (p4.map Qad)),(Qgy p5),I p6] 0),mv 17 (.dptr [(.dat 5 (p0.map Qav)),(Qhp p1),(Qgz p2),(Qhq p3),(.dat 1 (p4.map Qad)),(Qgy p5),I p6] 0),rp [(.tmp 18,(.dptr [(.dat 5 (p0.map Qav)),(Qhp p1),(Qgz p2),(Qhq p3),(.dat 1 (p4.map Qad)),(Qgy p5),I p6] 0))] (.dptr [(.dat 5 (p0.map Qav)),(Qhp p1),(Qgz p2),(Qhq p3),(.dat 1 (p4.map Qad)),(Qgy p5),I p6] 5),rp [(.tmp 19,(.dptr [(.dat 5 (p0.map Qav)),(Qhp p1),(Qgz p2),(Qhq p3),(.dat 1 (p4.map Qad)),(Qgy p5),I p6] 5))] (Qgy p5),rp [(.tmp 1,(.dptr [(.dptr [(.dat 5 (p0.map Qav)),(Qhp p1),(Qgz p2),(Qhq p3),(.dat 1 (p4.map Qad)),(Qgy p5),I p6] 0)] 0))] (.dptr [(.dat 5 (p0.map Qav)),(Qhp p1),(Qgz p2),(Qhq p3),(.dat 1 (p4.map Qad)),(Qgy p5),I p6] 0),mv 21 (.dptr [(.dat 5 (p0.map Qav)),(Qhp p1),(Qgz p2),(Qhq p3),(.dat 1 (p4.map Qad)),(Qgy p5),I p6] 0),mv 22 (.dptr [(.dat 5 (p0.map Qav)),(Qhp p1),(Qgz p2),(Qhq p3),(.dat 1 (p4.map Qad)),(Qgy p5),I p6] 0),rp [(.tmp 23,(.dptr [(.dat 5 (p0.map Qav)),(Qhp p1),(Qgz p2),(Qhq p3),(.dat 1 (p4.map Qad)),(Qgy p5),I p6] 0))] (Zf4 p0 p1),rp [fu 67,(.tmp 24,(Zf4 p0 p1)),(.const (.int .u8 1),(K .u8 (1)))] (.dat 1 (x7.map Qad)),rp [(.tmp 2,(.dptr [I p7] 0))] (I p7),rp [fu 134,(.tmp 25,(.dat 1 (x7.map Qad))),(.tmp 26,I p7)] (I x9),rp [(.tmp 20,(Qgy p5)),(.tmp 27,I x9)] (.dptr (Qac x10) 0),rp [(.tmp 28,(.dptr (Qac x10) 0))] (Zf3 x10),⟨[(.tmp 16,(.lit (.func (.yield l) #[] #[]))),(.tmp 29,(Zf3 x10))],[(0,(.far (J (some (x10::q14)))))],B false,[(0,(.far (J none)))],false⟩] (by exact⟨by kernel_rfl,by kernel_rfl⟩) (by exact⟨by kernel_rfl,by kernel_rfl⟩) rfl rfl rfl rfl (Qrn (rd':=(.tmp 16,.lit (.func (.yield l) #[] #[]))::[(.tmp 29,.lit (.agg #[(.int .i64 x10.Mass),(.int .i64 x10.Heat),(.int .i64 x10.Silica),(.int .i64 x10.Gas)]))]) ⟨rfl,lrf,rfl,(Less.lits [(.int .i64 x10.Mass),(.int .i64 x10.Heat),(.int .i64 x10.Silica),(.int .i64 x10.Gas)]),tv⟩ (Qpy (x:=x10) (rest:=q14) rfl rfl hy rfl)) (⟨fun _ _=>amv rfl,fun _ _=>ald_ rfl Qkj (by decide) (nle rfl) rfl,fun _ _=>anc rfl rfl,fun _ _=>afd rfl underlying140 rfl rfl ti45 (by decide) rfl,fun _ _=>ald_ rfl ti45 (by decide) (nle rfl) rfl,fun _ _=>ald_ rfl Qkj (by decide) (nle rfl) rfl,fun _ _=>anc rfl rfl,fun _ _=>afd rfl underlying140 rfl rfl ti42 (by decide) rfl,fun _ _=>ald_ rfl ti42 (by decide) (nle rfl) rfl,fun _ _=>apv Q4q (Qms N (⟨p0,p1⟩:GNet) 1 _ hf6) (nlc (NLt.agg _ (nlc (nld Qao _) (nlc (nld Qab _) nl0))) (nlc nll nl0)) (nld Qag _),fun _ _=>ald_ rfl ti3 (by decide) (nle rfl) rfl,fun _ _=>apv Q7e (Qjh N x7 p7 _ hf8) (nlc (nld Qag _) (nlc nll nl0)) nll,fun _ _=>aiq underlying45 ti63 Qac hi12 hj13,fun _ _=>ald_ rfl ti63 (by decide) (nle rfl) rfl,fun _ h=>absurd rfl h,tv⟩) (⟨fun _ _=>amv rfl,fun _ _=>ald_ rfl Qkj (by decide) (nle rfl) rfl,fun _ _=>anc rfl rfl,fun _ _=>afd rfl underlying140 rfl rfl ti45 (by decide) rfl,fun _ _=>ald_ rfl ti45 (by decide) (nle rfl) rfl,fun _ _=>ald_ rfl Qkj (by decide) (nle rfl) rfl,fun _ _=>anc rfl rfl,fun _ _=>afd rfl underlying140 rfl rfl ti42 (by decide) rfl,fun _ _=>ald_ rfl ti42 (by decide) (nle rfl) rfl,fun _ _=>apv Q4q (Qms N (⟨p0,p1⟩:GNet) 1 _ hf6) (nlc (NLt.agg _ (nlc (nld Qao _) (nlc (nld Qab _) nl0))) (nlc nll nl0)) (nld Qag _),fun _ _=>ald_ rfl ti3 (by decide) (nle rfl) rfl,fun _ _=>apv Q7e (Qjh N x7 p7 _ hf8) (nlc (nld Qag _) (nlc nll nl0)) nll,fun _ _=>aiq underlying45 ti63 Qac hi12 hj13,fun _ _=>ald_ rfl ti63 (by decide) (nle rfl) rfl,fun _ h=>absurd rfl h,tv⟩) ?_ ?_
   ·skip
    refine Qah<|Qaj ?_
    obtain rfl:=osi h
    exact Or.inl rfl
   ·clear h
    exact Qah<|Qaj<|Or.inr (by kernel_rfl)
  ·refine wfn hc5<|Qaq<|thn ?_
   refine wxd tbk [(6,rp _ _),(9,rp _ _)] ⟨aiq underlying40 Qmk Qal hi3 hj4,alq 2 Qaw x1.From underlying116,tv⟩<|Qap ?_
   refine wmr (mto (n:=62) (l':=[(0,(.lit (.func (.yield l) #[] #[]))),(1,(.dptr [(.dptr [(.dat 5 (p0.map Qav)),(Qhp p1),(Qgz p2),(Qhq p3),(.dat 1 (p4.map Qad)),(Qgy p5),I p6] 0)] 0)),(39,(Zf2 x1)),(40,(I ((x1.From.length:Int)))),(41,I 0)]) (own':=[(.far (J (some r)))]) [(0,(.lit (.func (.yield l) #[] #[]))),(1,(.dptr [(.dptr [(.dat 5 (p0.map Qav)),(Qhp p1),(Qgz p2),(Qhq p3),(.dat 1 (p4.map Qad)),(Qgy p5),I p6] 0)] 0)),(39,(Zf2 x1)),(40,(I ((x1.From.length:Int)))),(41,I 0)] [0] [(.far (J (some r)))] hφ0 (pw (pc (.rn (.plain _ (NLt.dptr _ _ (nlc (NLt.dptr _ _ (nlc (nld Qao _) (nlc (nld Qab _) (nlc (nld Qai _) (nlc (nld Qa2 _) (nlc (nld Qag _) (nlc (nld Qaf _) (nlc nll nl0)))))))) nl0)))) (pc (rnd Qa1) (pw (pw pn))))) (qc (.far _) qn)) ?_
   refine Qbv (τ:=(Int)×List Qaa) (fun n t=>Qdn N x1 p2 n t.1=some t.2) (fun ⟨y15,q16⟩=>⟨mk 62 [(0,(.lit (.func (.yield l) #[] #[]))),(1,(.dptr [(.dptr [(.dat 5 (p0.map Qav)),(Qhp p1),(Qgz p2),(Qhq p3),(.dat 1 (p4.map Qad)),(Qgy p5),I p6] 0)] 0)),(39,(Zf2 x1)),(40,(I ((x1.From.length:Int)))),(41,I y15)],[(.far (J (some q16)))]⟩) (fun t h=>by rw[Qdn] at h;cases h) (fun n19 ih t h=>?_) N ((0),r) h
   obtain⟨y15,q16⟩:=t
   rw[Qdn] at h
   try dsimp only at h
   refine wxz<|wsq ?_
   refine bfe h (fun hc20 h=>?_) fun hc20 h=>?_
   ·refine wft hc20<|Qaq<|thn<|wsq<|Qap ?_
    obtain⟨x21,hg22,h⟩:=bno h
    obtain⟨hi23,hj24⟩:=gsm hg22
    refine wx tbk [(0,rp _ _)] ⟨aiq underlying116 Qta Qaw hi23 hj24,tv⟩ ?_
    obtain⟨x25,hg26,h⟩:=bno h
    obtain⟨hi27,hj28⟩:=gsm hg26
    obtain⟨x29,hg30,h⟩:=bno h
    obtain⟨hi31,hj32⟩:=gsm hg30
    obtain⟨q33,hy_,hq_⟩:=Q3r h
    clear h
    subst hq_
    have h:=hy_
    clear hy_
    refine Q22 14 [mv 0 (.lit (.func (.yield l) #[] #[])),rp [(.tmp 1,(.dptr [(.dptr [(.dat 5 (p0.map Qav)),(Qhp p1),(Qgz p2),(Qhq p3),(.dat 1 (p4.map Qad)),(Qgy p5),I p6] 0)] 0))] (.dptr [(.dat 5 (p0.map Qav)),(Qhp p1),(Qgz p2),(Qhq p3),(.dat 1 (p4.map Qad)),(Qgy p5),I p6] 0),mv 46 (.dptr [(.dat 5 (p0.map Qav)),(Qhp p1),(Qgz p2),(Qhq p3),(.dat 1 (p4.map Qad)),(Qgy p5),I p6] 0),rp [(.tmp 47,(.dptr [(.dat 5 (p0.map Qav)),(Qhp p1),(Qgz p2),(Qhq p3),(.dat 1 (p4.map Qad)),(Qgy p5),I p6] 0))] (.dptr [(.dat 5 (p0.map Qav)),(Qhp p1),(Qgz p2),(Qhq p3),(.dat 1 (p4.map Qad)),(Qgy p5),I p6] 2),mv 48 (.dptr [(.dat 5 (p0.map Qav)),(Qhp p1),(Qgz p2),(Qhq p3),(.dat 1 (p4.map Qad)),(Qgy p5),I p6] 2),rp [(.tmp 49,(.dptr [(.dat 5 (p0.map Qav)),(Qhp p1),(Qgz p2),(Qhq p3),(.dat 1 (p4.map Qad)),(Qgy p5),I p6] 2))] (Qgz p2),rb [(.tmp 5,.ref 1 2 0 0)] [(1,(Qt5 x21))] (.ref 1 2 0 0),rb [(.tmp 51,.ref 1 2 0 0)] [(1,(Qt5 x21))] (I x21.Element),rp [(.tmp 50,(Qgz p2)),(.tmp 52,I x21.Element)] (.dptr (Qae x25) 0),rp [(.tmp 53,(.dptr (Qae x25) 0))] (.dat 4 (x25.map Qac)),rb [(.tmp 5,.ref 1 2 0 0)] [(1,(Qt5 x21))] (.ref 1 2 0 1),rb [(.tmp 55,.ref 1 2 0 1)] [(1,(Qt5 x21))] (I x21.Outlet),rp [(.tmp 54,(.dat 4 (x25.map Qac))),(.tmp 56,I x21.Outlet)] (.dptr (Qac x29) 0),rp [(.tmp 57,(.dptr (Qac x29) 0))] (Q5s x29),⟨[(.tmp 45,(.lit (.func (.yield l) #[] #[]))),(.tmp 58,(Q5s x29))],[(0,(.far (J (some (x29::q33)))))],B true,[(0,(.far (J (some q33))))],false⟩,rp [(.tmp 59,B true)] (B false)] [mv 0 (.lit (.func (.yield l) #[] #[])),rp [(.tmp 1,(.dptr [(.dptr [(.dat 5 (p0.map Qav)),(Qhp p1),(Qgz p2),(Qhq p3),(.dat 1 (p4.map Qad)),(Qgy p5),I p6] 0)] 0))] (.dptr [(.dat 5 (p0.map Qav)),(Qhp p1),(Qgz p2),(Qhq p3),(.dat 1 (p4.map Qad)),(Qgy p5),I p6] 0),mv 46 (.dptr [(.dat 5 (p0.map Qav)),(Qhp p1),(Qgz p2),(Qhq p3),(.dat 1 (p4.map Qad)),(Qgy p5),I p6] 0),rp [(.tmp 47,(.dptr [(.dat 5 (p0.map Qav)),(Qhp p1),(Qgz p2),(Qhq p3),(.dat 1 (p4.map Qad)),(Qgy p5),I p6] 0))] (.dptr [(.dat 5 (p0.map Qav)),(Qhp p1),(Qgz p2),(Qhq p3),(.dat 1 (p4.map Qad)),(Qgy p5),I p6] 2),mv 48 (.dptr [(.dat 5 (p0.map Qav)),(Qhp p1),(Qgz p2),(Qhq p3),(.dat 1 (p4.map Qad)),(Qgy p5),I p6] 2),rp [(.tmp 49,(.dptr [(.dat 5 (p0.map Qav)),(Qhp p1),(Qgz p2),(Qhq p3),(.dat 1 (p4.map Qad)),(Qgy p5),I p6] 2))] (Qgz p2),rb [(.tmp 5,.ref 1 2 0 0)] [(1,(Qt5 x21))] (.ref 1 2 0 0),rb [(.tmp 51,.ref 1 2 0 0)] [(1,(Qt5 x21))] (I x21.Element),rp [(.tmp 50,(Qgz p2)),(.tmp 52,I x21.Element)] (.dptr (Qae x25) 0),rp [(.tmp 53,(.dptr (Qae x25) 0))] (.dat 4 (x25.map Qac)),rb [(.tmp 5,.ref 1 2 0 0)] [(1,(Qt5 x21))] (.ref 1 2 0 1),rb [(.tmp 55,.ref 1 2 0 1)] [(1,(Qt5 x21))] (I x21.Outlet),rp [(.tmp 54,(.dat 4 (x25.map Qac))),(.tmp 56,I x21.Outlet)] (.dptr (Qac x29) 0),rp [(.tmp 57,(.dptr (Qac x29) 0))] (Q5s x29),⟨[(.tmp 45,(.lit (.func (.yield l) #[] #[]))),(.tmp 58,(Q5s x29))],[(0,(.far (J (some (x29::q33)))))],B false,[(0,(.far (J none)))],false⟩,rp [(.tmp 59,B false)] (B true)] (by exact⟨by kernel_rfl,by kernel_rfl⟩) (by exact⟨by kernel_rfl,by kernel_rfl⟩) rfl rfl rfl rfl (Qrn (rd':=(.tmp 45,.lit (.func (.yield l) #[] #[]))::[(.tmp 58,.lit (.agg #[(.int .i64 x29.Mass),(.int .i64 x29.Heat),(.int .i64 x29.Silica),(.int .i64 x29.Gas)]))]) ⟨rfl,lrf,rfl,(Less.lits [(.int .i64 x29.Mass),(.int .i64 x29.Heat),(.int .i64 x29.Silica),(.int .i64 x29.Gas)]),tv⟩ (Qpy (x:=x29) (rest:=q33) rfl rfl hy rfl)) (⟨fun _ _=>amv rfl,fun _ _=>ald_ rfl Qkj (by decide) (nle rfl) rfl,fun _ _=>anc rfl rfl,fun _ _=>afd rfl underlying140 rfl rfl ti34 (by decide) rfl,fun _ _=>afd rfl underlying34 rfl rfl ti31 (by decide) rfl,fun _ _=>ald_ rfl ti31 (by decide) (nle rfl) rfl,fun _ _=>afa rfl underlying120 rfl rfl ti3 (by decide) rfl,fun _ _=>ald rfl ti3 (by decide) rfl (nle rfl) rfl,fun _ _=>aiq underlying31 ti45 Qae hi27 hj28,fun _ _=>ald_ rfl ti45 (by decide) (nle rfl) rfl,fun _ _=>afa rfl underlying120 rfl rfl ti3 (by decide) rfl,fun _ _=>ald rfl ti3 (by decide) rfl (nle rfl) rfl,fun _ _=>aiq underlying45 ti63 Qac hi31 hj32,fun _ _=>ald_ rfl ti63 (by decide) (nle rfl) rfl,fun _ h=>absurd rfl h,fun _ _=>Qmz rfl,tv⟩) (⟨fun _ _=>amv rfl,fun _ _=>ald_ rfl Qkj (by decide) (nle rfl) rfl,fun _ _=>anc rfl rfl,fun _ _=>afd rfl underlying140 rfl rfl ti34 (by decide) rfl,fun _ _=>afd rfl underlying34 rfl rfl ti31 (by decide) rfl,fun _ _=>ald_ rfl ti31 (by decide) (nle rfl) rfl,fun _ _=>afa rfl underlying120 rfl rfl ti3 (by decide) rfl,fun _ _=>ald rfl ti3 (by decide) rfl (nle rfl) rfl,fun _ _=>aiq underlying31 ti45 Qae hi27 hj28,fun _ _=>ald_ rfl ti45 (by decide) (nle rfl) rfl,fun _ _=>afa rfl underlying120 rfl rfl ti3 (by decide) rfl,fun _ _=>ald rfl ti3 (by decide) rfl (nle rfl) rfl,fun _ _=>aiq underlying45 ti63 Qac hi31 hj32,fun _ _=>ald_ rfl ti63 (by decide) (nle rfl) rfl,fun _ h=>absurd rfl h,fun _ _=>Qmz rfl,tv⟩) ?_ ?_
    ·skip
     exact wfa<|Qaq<|bln<|thn<|wxz1<|thn<|arm (mto (n:=62) [(0,(.lit (.func (.yield l) #[] #[]))),(1,(.dptr [(.dptr [(.dat 5 (p0.map Qav)),(Qhp p1),(Qgz p2),(Qhq p3),(.dat 1 (p4.map Qad)),(Qgy p5),I p6] 0)] 0)),(39,(Zf2 x1)),(40,(I ((x1.From.length:Int)))),(41,(I (w64 (y15+1))))] [0] [(.far (J (some q33)))] hφ0 (pw (pc (.rn (.plain _ (NLt.dptr _ _ (nlc (NLt.dptr _ _ (nlc (nld Qao _) (nlc (nld Qab _) (nlc (nld Qai _) (nlc (nld Qa2 _) (nlc (nld Qag _) (nlc (nld Qaf _) (nlc nll nl0)))))))) nl0)))) (pc (rnd Qa1) (pw (pw pn))))) (qc (.far _) qn)) (ih ((w64 (y15+1)),q33) h)
    ·clear h
     exact wtr<|Qah<|Qau<|Qaj<|Qaj<|Qau<|Or.inr (by kernel_rfl)
   ·refine wfn hc20<|Qbg<|Qay<|Qay<|Qbf rfl ?_
    obtain rfl:=osi h
    exact Or.inl rfl
def Qa5 (N:Nat) (k3:(List Qaa)→Option (List Qaa)):(List Qaa)→(List Qaa)→Option (List Qaa)
  |[],y6=>
    k3 (y6)
  |x9::q10,y6=>
    chk (decide ((y6.length+([x9]).length)*32≤140737488355328))<|
    Qa5 N k3 q10 (y6++([x9]))
def Qck (N:Nat) (p0:List GRow) (p1:List Qam) (p2:List (List Qaa)) (p3:List Qa9) (p4:List Int) (p5:List Qaa) (p6 p7:Int):Option (List Qaa):=
  Qbi (fun y2=>
    some y2) fun k3:(List Qaa)→Option (List Qaa)=>
  (Qhv N p0 p1 p2 p3 p4 p5 p6 p7).bind fun q4=>
  Qa5 N k3 q4 ([])
def Zlr (p0:List GRow) (p1:List Qam) (p2:List (List Qaa)) (p3:List Qa9) (p4:List Int) (p5:List Qaa) (p6 p7:Int):AV:=.fn (.func 133) [] [(.dptr [(.dptr [(.dat 5 (p0.map Qav)),(.dat 7 (p1.map Qal)),(.dat 1 (p2.map Qae)),(.dat 4 (p3.map Qax)),(.dat 1 (p4.map Qad)),(.dat 4 (p5.map Qac)),(I p6)] 0)] 0),(.dptr [(I p7)] 0)]
def Zka (x9:Qaa):AV:=.agg [(I x9.Mass),(I x9.Heat),(I x9.Silica),(I x9.Gas)]
theorem Qhb (N:Nat) (p0:List GRow) (p1:List Qam) (p2:List (List Qaa)) (p3:List Qa9) (p4:List Int) (p5:List Qaa) (p6 p7:Int) (r:List Qaa) (h:Qck N p0 p1 p2 p3 p4 p5 p6 p7=some r):Spec prog 132 [nilS,(Zlr p0 p1 p2 p3 p4 p5 p6 p7)] [] (.acc 0 63 4 (r.map Qac)) [.tok]:=by
  refine Qak func132 rfl 1 (nle rfl) (fun X φ0 w0 hφ0 hd0=>?_)
  unfold Qck at h
  refine Qby<|wxz ?_
  obtain⟨k3,hk_k3,h⟩:=jko h
  refine wjn (τ:=(List Qaa)) (fun t=>k3 t=some r) (fun y2=>⟨mk 13 [(2,.ref 0 1 0 0)],[(.own 1 [[(.acc 1 63 4 (y2.map Qac))]]),.tok]⟩) (fun y2 h=>?_) ?_
  ·subst hk_k3
   refine wxz<|wmr (mto (n:=13) (l':=[(4,(.acc 0 63 4 (y2.map Qac)))]) (own':=[.tok]) [(4,(.acc 1 63 4 (y2.map Qac)))] [1] [.tok] hφ0 (pc (.rn (Qa3 rfl (Qa0 Qaf _))) pn) (qc .tok qn))<|Qah ?_
   obtain rfl:=osi h
   exact⟨_,Mor.rfl,Qcy (vs:=[(.acc 0 63 4 (y2.map Qac))]) ⟨rot,tv⟩ rfl (NLt.acc _ _ _ _ (by decide) (Qzm Qaf _)) (by kernel_rfl) (Qar .tok Qbx)⟩
  ·skip
   refine wxz<|Qap ?_
   obtain⟨q4,hL5,h⟩:=bno h
   refine wmr (mto (n:=13) (l':=[(2,.ref 0 1 0 0),(6,(Zlr p0 p1 p2 p3 p4 p5 p6 p7))]) (own':=[(.own 1 [[nilS]])]) [(2,.ref 0 1 0 0),(6,(Zlr p0 p1 p2 p3 p4 p5 p6 p7))] [0] [(.own 1 [[nilS]])] hφ0 (prr (pc (.rn (Qbl rn0 (rnc (.plain _ (NLt.dptr _ _ (nlc (NLt.dptr _ _ (nlc (nld Qao _) (nlc (nld Qab _) (nlc (nld Qai _) (nlc (nld Qa2 _) (nlc (nld Qag _) (nlc (nld Qaf _) (nlc nll nl0)))))))) nl0))) (rnc (.plain _ (NLt.dptr _ _ (nlc nll nl0))) rn0)))) pn)) (qb (lc rwl ln) qn)) ?_
   refine wmr (Qna (n:=1) (ty:=63) (m:=4) (q:=0) (mq:=1) (c:=[nilS]) 0 (by kernel_rfl) (by kernel_rfl) (by kernel_rfl) (by decide)) ?_
   refine Qtz (τ:=((List Qaa))) (kb:=1) (caps:=[(.dptr [(.dptr [(.dat 5 (p0.map Qav)),(.dat 7 (p1.map Qal)),(.dat 1 (p2.map Qae)),(.dat 4 (p3.map Qax)),(.dat 1 (p4.map Qad)),(.dat 4 (p5.map Qac)),I p6] 0)] 0),(.dptr [I p7] 0)]) (σr:=[]) (encs:=fun x=>[(.agg #[(.int .i64 x.Mass),(.int .i64 x.Heat),(.int .i64 x.Silica),(.int .i64 x.Gas)])]) (fun x=>[(.agg [I x.Mass,I x.Heat,I x.Silica,I x.Gas])]) [] (fun n hn=>hφ0 n (Nat.le_trans (nle rfl) hn)) hd0 (Qqe N p0 p1 p2 p3 p4 p5 p6 p7 _ hL5) Zih (by kernel_rfl) (by kernel_rfl) (Qbq (rnc (.plain _ (NLt.dptr _ _ (nlc (NLt.dptr _ _ (nlc (nld Qao _) (nlc (nld Qab _) (nlc (nld Qai _) (nlc (nld Qa2 _) (nlc (nld Qag _) (nlc (nld Qaf _) (nlc nll nl0)))))))) nl0))) (rnc (.plain _ (NLt.dptr _ _ (nlc nll nl0))) rn0))) Qas (by kernel_rfl) (fun _=>rfl) (fun x=>⟨(Less.unlits [(.int .i64 x.Mass),(.int .i64 x.Heat),(.int .i64 x.Silica),(.int .i64 x.Gas)]),tv⟩) (Zdk (Qom (NLt.ref _ _ _ _ (by decide)) (Qom (NLt.of0 (NLt.fn _ _ _ nl0 (nlc (NLt.dptr _ _ (nlc (NLt.dptr _ _ (nlc (nld Qao _) (nlc (nld Qab _) (nlc (nld Qai _) (nlc (nld Qa2 _) (nlc (nld Qag _) (nlc (nld Qaf _) (nlc nll nl0)))))))) nl0)) (nlc (NLt.dptr _ _ (nlc nll nl0)) nl0)))) Q4f))) (fun y6=>[(.own 1 [[(.acc 1 63 4 (y6.map Qac))]]),.tok]) (fun _=>rfl) (fun _=>rfl) (fun l t=>Qa5 N k3 l t=some r) ([]) h (by kernel_rfl) ?_ ?_
   ·intro l11 o12 X15 φ16 w17 hφ14 x9 q10 y6 h
    rw[Qa5] at h
    refine wxz1 ?_
    refine⟨by kernel_rfl,fun o13=>?_⟩
    refine Qap ?_
    obtain⟨ha18,h⟩:=cko h
    refine wx1 tbk [(2,rp [(.tmp 9,(Zka x9))] (.dat 4 (([x9]:List Qaa).map Qac))),(3,⟨[(.tmp 8,(.acc 1 63 4 (y6.map Qac))),(.tmp 10,(.dat 4 (([x9]:List Qaa).map Qac)))],[(1,.tok),(4,.unused)],(.acc 4 63 4 ((y6++([x9]):List Qaa).map Qac)),[(1,.dead),(4,.tok)],false⟩)] ⟨Qbo (vs:=[(Zka x9)]) rfl underlying45 ti63 tz63 rfl (by decide) rfl (by decide) (by rfl) (by rfl) (by rfl) rfl,Qd6 rfl underlying45 te63 (Base.acc _ _) rfl rfl (by rfl) (Qg2 Qac ha18) (Qg1 Qac ha18 (by decide)) (Qg0 Qac) rfl rfl,tv⟩<|bln ?_
    exact⟨(y6++([x9])),h,Zc5 (own':=[(.own 1 [[(.acc 1 63 4 (((y6++([x9])):List Qaa).map Qac))]]),.tok,(.far (farL l11 o13))]) [0,4,2] [(.own 1 [[(.acc 4 63 4 ((y6++([x9]):List Qaa).map Qac))]]),.tok,(.far (farL l11 o13))] (by kernel_rfl) (by kernel_rfl) ⟨(spb (lc (.rn (Qa3 rfl (Qa0 Qaf _))) ln)),.tok,.far _,tv⟩⟩
   ·intro y6 h
    rw[Qa5] at h
    exact bln<|thn<|⟨(y6),h,(mto (n:=13) [(2,.ref 0 1 0 0)] [0,1] [(.own 1 [[(.acc 1 63 4 (y6.map Qac))]]),.tok] hφ0 (prr pn) (qb (lc (.rn (Qa3 rfl (Qa0 Qaf _))) ln) (qc .tok qn)))⟩
def Qca (N:Nat) (p0:List GRow) (p1:List Qam) (p2:List (List Qaa)) (p3:List Qa9) (p4:List Int) (p5:List Qaa) (p6 p7:Int):Option (List Qaa):=
  (Qck N p0 p1 p2 p3 p4 p5 p6 p7).bind fun x3=>
  some x3
def Zpe (p0:List GRow) (p1:List Qam) (p2:List (List Qaa)) (p3:List Qa9) (p4:List Int) (p5:List Qaa) (p6 p7:Int):AV:=.fn (.func 133) [] [(.dptr [(.dptr [(.dat 5 (p0.map Qav)),(.dat 7 (p1.map Qal)),(.dat 1 (p2.map Qae)),(.dat 4 (p3.map Qax)),(.dat 1 (p4.map Qad)),(.dat 4 (p5.map Qac)),(I p6)] 0)] 0),(.dptr [(I p7)] 0)]
def Zf5 (x3:List Qaa):AV:=.acc 0 63 4 (x3.map Qac)
theorem Qj3 (N:Nat) (p0:List GRow) (p1:List Qam) (p2:List (List Qaa)) (p3:List Qa9) (p4:List Int) (p5:List Qaa) (p6 p7:Int) (r:List Qaa) (h:Qca N p0 p1 p2 p3 p4 p5 p6 p7=some r):Spec prog 115 [(Zpe p0 p1 p2 p3 p4 p5 p6 p7)] [] (.acc 0 63 4 (r.map Qac)) [.tok]:=by
  refine Qak func115 rfl 1 (nle rfl) (fun X φ0 w0 hφ0 hd0=>?_)
  unfold Qca at h
  refine Qby<|wxz ?_
  obtain⟨x3,hf2,h⟩:=bno h
  refine wx tbk [(1,⟨_,_,_,_,false⟩)] ⟨Qat (first:=[]) (cap:=[]) (vs:=[nilS,(Zpe p0 p1 p2 p3 p4 p5 p6 p7)]) (σr:=[]) (σr':=[.tok]) (res':=(Zf5 x3)) [0] rfl Zii (Qhb N p0 p1 p2 p3 p4 p5 p6 p7 _ hf2) rfl (Qbq (rnc (.plain _ nll) (rnc (.plain _ (NLt.fn _ _ _ nl0 (nlc (NLt.dptr _ _ (nlc (NLt.dptr _ _ (nlc (nld Qao _) (nlc (nld Qab _) (nlc (nld Qai _) (nlc (nld Qa2 _) (nlc (nld Qag _) (nlc (nld Qaf _) (nlc nll nl0)))))))) nl0)) (nlc (NLt.dptr _ _ (nlc nll nl0)) nl0)))) rn0))) Qas (slc .tok Qas) (Zcy rfl (Qa0 Qaf _)) rfl rfl rfl,tv⟩ ?_
  refine wmr (mto (n:=5) (l':=[(2,(Zf5 x3))]) (own':=[.tok]) [(2,(Zf5 x3))] [0] [.tok] hφ0 (pc (.rn (Qa3 rfl (Qa0 Qaf _))) pn) (qc .tok qn))<|Qah ?_
  obtain rfl:=osi h
  exact⟨_,Mor.rfl,Qcy (vs:=[(Zf5 x3)]) ⟨rot,tv⟩ rfl (NLt.acc _ _ _ _ (by decide) (Qzm Qaf _)) (by kernel_rfl) (Qar .tok Qbx)⟩
def Qgf (_N:Nat) (_p0:Int) (p1:Qaa) (_p2:List GRow) (_p3:List Qam) (_p4 _p5 _p6:Nat) (_p7:List Qaa) (_p8:Int) (_p9:List (List Qaa)) (_p10:List Qa9) (_p11:List Int):Option (List Qaa):=
  some ([p1])
def Zlq (p1:Qaa):AV:=.agg [(I p1.Mass),(I p1.Heat),(I p1.Silica),(I p1.Gas)]
def Zf0 (p2:List GRow) (p3:List Qam) (p4 p5 p6:Nat) (p7:List Qaa) (p8:Int):Slot:=.own 7 [[(.dat 5 (p2.map Qav)),(.dat 7 (p3.map Qal)),(.own 1 1 (0) p4),(.own 2 4 (0) p5),(.own 3 1 (0) p6),(.dat 4 (p7.map Qac)),(I p8)]]
def Zf1 (p1:Qaa):AV:=.dat 4 (([p1]:List Qaa).map Qac)
theorem Qi4 (N:Nat) (p0:Int) (p1:Qaa) (p2:List GRow) (p3:List Qam) (p4 p5 p6:Nat) (p7:List Qaa) (p8:Int) (p9:List (List Qaa)) (p10:List Qa9) (p11:List Int) (r:List Qaa) (h:Qgf N p0 p1 p2 p3 p4 p5 p6 p7 p8 p9 p10 p11=some r):Spec prog 117 [(.ref 0 7 (0) 0),(I p0),(Zlq p1)] [(Zf0 p2 p3 p4 p5 p6 p7 p8),(.own 1 (p9.map Qae)),(.own 4 (p10.map Qax)),(.own 1 (p11.map Qad))] (.dat 4 (r.map Qac)) [(Zf0 p2 p3 p4 p5 p6 p7 p8),(.own 1 (p9.map Qae)),(.own 4 (p10.map Qax)),(.own 1 (p11.map Qad))]:=by
  refine Qak func117 rfl 4 (nle rfl) (fun X φ0 w0 hφ0 hd0=>?_)
  unfold Qgf at h
  refine Qby<|wxz ?_
  refine wx tbk [(1,rp [(.tmp 7,(Zlq p1))] (Zf1 p1))] ⟨Qbo (vs:=[(Zlq p1)]) rfl underlying45 ti63 tz63 rfl (by decide) rfl (by decide) (by rfl) (by rfl) (by rfl) rfl,tv⟩ ?_
  refine wmr (mto (n:=9) (l':=[(6,(Zf1 p1))]) (own':=[(Zf0 p2 p3 p4 p5 p6 p7 p8),(.own 1 (p9.map Qae)),(.own 4 (p10.map Qax)),(.own 1 (p11.map Qad))]) [(6,(Zf1 p1))] [0,1,2,3] [(Zf0 p2 p3 p4 p5 p6 p7 p8),(.own 1 (p9.map Qae)),(.own 4 (p10.map Qax)),(.own 1 (p11.map Qad))] hφ0 (pc (rnd Qaf) pn) (qb (lc (rnd Qao) (lc (rnd Qab) (lc (.rn (Qa7 rfl)) (lc (.rn (Qa7 rfl)) (lc (.rn (Qa7 rfl)) (lc (rnd Qaf) (lc rwl ln))))))) (qc (spr Qai) (qc (spr Qa2) (qc (spr Qag) qn)))))<|Qah ?_
  obtain rfl:=osi h
  exact⟨_,Mor.rfl,Qcy (vs:=[(Zf1 p1)]) ⟨rot,tv⟩ rfl (NLt.of0 (nld Qaf _)) (by kernel_rfl) (Qar (Qa8 (nlc (NLt.of0 (nld Qao _)) (nlc (NLt.of0 (nld Qab _)) (nlc (NLt.own _ _ _ _ (by decide)) (nlc (NLt.own _ _ _ _ (by decide)) (nlc (NLt.own _ _ _ _ (by decide)) (nlc (NLt.of0 (nld Qaf _)) (nlc (NLt.of0 nll) nl0)))))))) (Qar (Qcw Qai _) (Qar (Qcw Qa2 _) (Qar (Qcw Qag _) Qbx))))⟩
def Qi0 (_N:Nat) (p0:Int) (p1:Qaa) (_p2:List GRow) (p3:List Qam) (_p4 p5 _p6:Nat) (_p7:List Qaa) (_p8:Int) (_p9:List (List Qaa)) (p10:List Qa9) (_p11:List Int):Option ((List Qaa)×(List Qa9)):=
  (getI p3 p0).bind fun x3=>
  (some (if p1.Heat<x3.Amount then p1.Heat else x3.Amount)).bind fun x7=>
  chk (decide (0≤p0)&&decide (p0.toNat<p5))<|
  (p10[p0.toNat]?).bind fun x10=>
  some ([(⟨p1.Mass,w64 (p1.Heat-x7),p1.Silica,p1.Gas⟩:Qaa)],p10.set p0.toNat (⟨x7,x10.Silica,x10.Gas,x10.Scale⟩:Qa9))
def Q71 (p2:List GRow) (p3:List Qam) (p4 p5 p6:Nat) (p7:List Qaa) (p8:Int):Slot:=.own 7 [[(.dat 5 (p2.map Qav)),(.dat 7 (p3.map Qal)),(.own 1 1 (0) p4),(.own 2 4 (0) p5),(.own 3 1 (0) p6),(.dat 4 (p7.map Qac)),(I p8)]]
def Zj9 (p1:Qaa) (x7:Int):AV:=.agg [(I p1.Mass),(I (w64 (p1.Heat-x7))),(I p1.Silica),(I p1.Gas)]
def Q5r (p1:Qaa) (x7:Int):AV:=.dat 4 (([(⟨p1.Mass,w64 (p1.Heat-x7),p1.Silica,p1.Gas⟩:Qaa)]:List Qaa).map Qac)
theorem Qqg (N:Nat) (p0:Int) (p1:Qaa) (p2:List GRow) (p3:List Qam) (p4 p5 p6:Nat) (p7:List Qaa) (p8:Int) (p9:List (List Qaa)) (p10:List Qa9) (p11:List Int) (r:((List Qaa)×(List Qa9))) (h:Qi0 N p0 p1 p2 p3 p4 p5 p6 p7 p8 p9 p10 p11=some r):Spec prog 118 [(.ref 0 7 (0) 0),(I p0),(.agg [(I p1.Mass),(I p1.Heat),(I p1.Silica),(I p1.Gas)])] [(Q71 p2 p3 p4 p5 p6 p7 p8),(.own 1 (p9.map Qae)),(.own 4 (p10.map Qax)),(.own 1 (p11.map Qad))] (.dat 4 (r.1.map Qac)) [(Q71 p2 p3 p4 p5 p6 p7 p8),(.own 1 (p9.map Qae)),(.own 4 (r.2.map Qax)),(.own 1 (p11.map Qad))]:=by
  refine Qak func118 rfl 4 (nle rfl) (fun X φ0 w0 hφ0 hd0=>?_)
  unfold Qi0 at h
  refine Qby<|wxz ?_
  obtain⟨x3,hg4,h⟩:=bno h
  obtain⟨hi5,hj6⟩:=gsm hg4
  obtain⟨x7,hl8,h⟩:=bno h
  refine wxd tbk [(1,rb [(.tmp 8,.ref 0 7 0 0)] [(0,(Q71 p2 p3 p4 p5 p6 p7 p8))] (.ref 0 7 0 0)),(6,rp _ _),(11,rp [(.tmp 16,I x3.Amount),(.tmp 18,I p1.Heat)] (I ((if p1.Heat<x3.Amount then p1.Heat else x3.Amount)))),(12,rp [(.tmp 19,(I ((if p1.Heat<x3.Amount then p1.Heat else x3.Amount))))] (I x7))] ⟨Qbu rfl,aiq underlying40 Qmk Qal hi5 hj6,Qki rfl,Qin hl8 (aas rfl),tv⟩ ?_
  obtain⟨hi9,h⟩:=cko h
  obtain⟨hi9a,hi9b⟩:=Qea hi9
  obtain⟨x10,hg11,h⟩:=bno h
  refine wx tbk [(1,rb [(.tmp 20,.ref 0 7 0 0)] [(0,(Q71 p2 p3 p4 p5 p6 p7 p8))] (.ref 0 7 0 0)),(7,rb [(.tmp 24,(.own 2 4 (0) p5)),(.tmp 25,I p0)] [(2,(.own 4 (p10.map Qax)))] (.ref 2 4 p0.toNat 0)),(9,⟨[(.tmp 28,(.ref 2 4 p0.toNat 0)),(.tmp 26,I x7)],[(2,(.own 4 (p10.map Qax)))],.any,[(2,(.own 4 ((p10.set p0.toNat (⟨x7,x10.Silica,x10.Gas,x10.Scale⟩:Qa9):List Qa9).map Qax)))],false⟩)] ⟨Qbu rfl,aio rfl underlying32 ti82 (odt hi9a) (odt hi9b) (Nat.zero_add _),ast rfl ti3 (by rfl) (mgt Qax hg11) (nle rfl) (Qhk Qax rfl),tv⟩<|wxz ?_
  refine wx tbk [(1,rp [(.tmp 34,(Zj9 p1 x7))] (Q5r p1 x7))] ⟨Qbo (vs:=[(Zj9 p1 x7)]) rfl underlying45 ti63 tz63 rfl (by decide) rfl (by decide) (by rfl) (by rfl) (by rfl) rfl,tv⟩ ?_
  refine wmr (mto (n:=36) (l':=[(6,(Q5r p1 x7))]) (own':=[(Q71 p2 p3 p4 p5 p6 p7 p8),(.own 1 (p9.map Qae)),(.own 4 (((p10.set p0.toNat (⟨x7,x10.Silica,x10.Gas,x10.Scale⟩:Qa9)):List Qa9).map Qax)),(.own 1 (p11.map Qad))]) [(6,(Q5r p1 x7))] [0,1,2,3] [(Q71 p2 p3 p4 p5 p6 p7 p8),(.own 1 (p9.map Qae)),(.own 4 ((p10.set p0.toNat (⟨x7,x10.Silica,x10.Gas,x10.Scale⟩:Qa9):List Qa9).map Qax)),(.own 1 (p11.map Qad))] hφ0 (pc (rnd Qaf) pn) (qb (lc (rnd Qao) (lc (rnd Qab) (lc (.rn (Qa7 rfl)) (lc (.rn (Qa7 rfl)) (lc (.rn (Qa7 rfl)) (lc (rnd Qaf) (lc rwl ln))))))) (qc (spr Qai) (qc (spr Qa2) (qc (spr Qag) qn)))))<|Qah ?_
  obtain rfl:=osi h
  exact⟨_,Mor.rfl,Qcy (vs:=[(Q5r p1 x7)]) ⟨rot,tv⟩ rfl (NLt.of0 (nld Qaf _)) (by kernel_rfl) (Qar (Qa8 (nlc (NLt.of0 (nld Qao _)) (nlc (NLt.of0 (nld Qab _)) (nlc (NLt.own _ _ _ _ (by decide)) (nlc (NLt.own _ _ _ _ (by decide)) (nlc (NLt.own _ _ _ _ (by decide)) (nlc (NLt.of0 (nld Qaf _)) (nlc (NLt.of0 nll) nl0)))))))) (Qar (Qcw Qai _) (Qar (Qcw Qa2 _) (Qar (Qcw Qag _) Qbx))))⟩
def Qjb (N:Nat) (p0:List GRow) (p1:Int):Option Bool:=
  (Qdj N p1 0 (w64 ((p0.length:Int)-1))).bind fun x2=>
  some x2
theorem Qq4 (N:Nat) (p0:List GRow) (p1:Int) (r:Bool) (h:Qjb N p0 p1=some r):Spec prog 143 [(.dat 5 (p0.map Qav)),(I p1)] [] (B r) []:=by
  refine Qak func143 rfl 0 (nle rfl) (fun X φ0 w0 hφ0 hd0=>?_)
  unfold Qjb at h
  refine wxz ?_
  obtain⟨x2,hf1,h⟩:=bno h
  exact wx tbk [(2,rp _ _),(4,rp _ _)] ⟨alq 5 Qav p0 underlying39,apv Qkg (Qdq N p1 0 (w64 ((p0.length:Int)-1)) _ hf1) (nlcc (nlc nll nl0)) nll,tv⟩<|Qah<|frb h
def Qjx (_N:Nat) (p0:List GRow) (p1:Int):Option Qnc:=
  (getI p0 p1).bind fun x1=>
  some (⟨x1⟩:Qnc)
def Zlo (x1:GRow):AV:=.agg [(I x1.T),(I x1.P),(I x1.Liquid),(I x1.Vapour),(I x1.Silica)]
theorem Qr9 (N:Nat) (p0:List GRow) (p1:Int) (r:Qnc) (h:Qjx N p0 p1=some r):Spec prog 144 [(.dat 5 (p0.map Qav)),(I p1)] [] (.agg (Q0e r)) []:=by
  refine Qak func144 rfl 0 (nle rfl) (fun X φ0 w0 hφ0 hd0=>?_)
  unfold Qjx at h
  refine wxz ?_
  obtain⟨x1,hg2,h⟩:=bno h
  obtain⟨hi3,hj4⟩:=gsm hg2
  refine wx tbk [(2,rp _ _),(4,mv 8 (Zlo x1))] ⟨aiq underlying39 Qxf Qav hi3 hj4,Qaz (vs:=[(Zlo x1)]) rfl Zsb Zqp rfl (by rfl) rfl,tv⟩<|Qah ?_
  obtain rfl:=osi h
  exact fend ⟨[(Zlo x1)],⟨Qbn (n:=0) (m:=5) (j:=0) (i:=0) (xs:=[[I x1.T,I x1.P,I x1.Liquid,I x1.Vapour,I x1.Silica]]) (by kernel_rfl) (by kernel_rfl) Zqx (by decide) rfl (nle rfl) rfl,tv⟩,rfl⟩ (NLt.agg _ (nlcc (nlcc (nlc nll nl0))))
def Qg6 (_N:Nat) (p0:Qnc) (p1:Qaa):Option Int:=
  (some (w64 (p1.Heat-(w64 (p1.Mass*p0.Row.Liquid))))).bind fun x1=>
  bif (decide (x1≤0)) then
   some 0
  else
   bif (decide (p1.Heat≥(w64 (p1.Mass*p0.Row.Vapour)))) then
    some p1.Mass
   else
    chk ((w64 (p0.Row.Vapour-p0.Row.Liquid)) != 0)<|
    (some (w64 (x1.tdiv (w64 (p0.Row.Vapour-p0.Row.Liquid))))).bind fun x6=>
    some x6
theorem Qpg (N:Nat) (p0:Qnc) (p1:Qaa) (r:Int) (h:Qg6 N p0 p1=some r):Spec prog 149 [(.agg (Q0e p0)),(.agg (Qac p1))] [] (I r) []:=by
  refine Qak func149 rfl 0 (nle rfl) (fun X φ0 w0 hφ0 hd0=>?_)
  unfold Qg6 at h
  refine wxz ?_
  obtain⟨x1,hl2,h⟩:=bno h
  refine wx tbk [(9,rp [(.tmp 14,(I (w64 (p1.Heat-(w64 (p1.Mass*p0.Row.Liquid))))))] (I x1))] ⟨Qin hl2 (aas rfl),tv⟩<|wsq<|Qap<|wxz ?_
  refine bfe h (fun hc3 h=>?_) fun hc3 h=>?_
  ·refine wft hc3<|wxz<|Qah<|Qau<|Qaj ?_
   obtain rfl:=osi h
   exact fend ⟨[I 0],⟨rot,tv⟩,rfl⟩ nll
  ·refine wfn hc3<|wxz ?_
   refine bfe h (fun hc4 h=>?_) fun hc4 h=>?_
   ·refine wft hc4<|wxz<|Qah<|Qau<|Qaj ?_
    obtain rfl:=osi h
    exact fend ⟨[I p1.Mass],⟨rot,tv⟩,rfl⟩ nll
   ·refine wfn hc4<|Qaq<|bln<|thn ?_
    obtain⟨hz5,h⟩:=cko h
    obtain⟨x6,hl7,h⟩:=bno h
    refine wx tbk [(8,rp [(.tmp 30,I x1),(.tmp 37,(I (w64 (p0.Row.Vapour-p0.Row.Liquid))))] (I (w64 (x1.tdiv (w64 (p0.Row.Vapour-p0.Row.Liquid)))))),(9,rp [(.tmp 38,(I (w64 (x1.tdiv (w64 (p0.Row.Vapour-p0.Row.Liquid))))))] (I x6))] ⟨Qlu rfl (Qmy hz5),Qin hl7 (aas rfl),tv⟩<|Qah ?_
    obtain rfl:=osi h
    exact fend ⟨[I x6],⟨rot,tv⟩,rfl⟩ nll
def Qhs (N:Nat) (p0:Qnc) (p1:Qaa):Option Qfh:=
  (Qg6 N (⟨(⟨p0.Row.T,p0.Row.P,p0.Row.Liquid,p0.Row.Vapour,p0.Row.Silica⟩:GRow)⟩:Qnc) p1).bind fun x2=>
  Qbi (fun ⟨y3,y4,y5,y6,y7,_,y9⟩=>
    (some (if (w64 (y6*p0.Row.Silica))<p1.Silica then w64 (y6*p0.Row.Silica) else p1.Silica)).bind fun x11=>
    bif (decide (y6>0)) then
     (some (if (w64 (y7-(w64 (y6*p0.Row.Liquid))))>0 then w64 (y7-(w64 (y6*p0.Row.Liquid))) else 0)).bind fun x14=>
     some (⟨(⟨y3,y4,0,y5⟩:Qaa),(⟨y6,y7,x11,y9⟩:Qaa),x14,w64 (p1.Silica-x11)⟩:Qfh)
    else
     some (⟨(⟨y3,y4,0,y5⟩:Qaa),(⟨y6,y7,x11,y9⟩:Qaa),0,w64 (p1.Silica-x11)⟩:Qfh)) fun k10:Int×Int×Int×Int×Int×Int×Int→Option Qfh=>
  bif (x2==0) then
   k10 (0,0,0,p1.Mass,p1.Heat,p1.Silica,p1.Gas)
  else
   bif (x2==p1.Mass) then
    k10 (x2,p1.Heat,p1.Gas,0,0,0,0)
   else
    k10 (x2,w64 (x2*p0.Row.Vapour),p1.Gas,w64 (p1.Mass-x2),w64 (p1.Heat-(w64 (x2*p0.Row.Vapour))),0,0)
def Zfz (p0:Qnc):Slot:=.own 5 [[(I p0.Row.T),(I p0.Row.P),(I p0.Row.Liquid),(I p0.Row.Vapour),(I p0.Row.Silica)]]
def Zfy (p1:Qaa):Slot:=.own 4 [[(I p1.Mass),(I p1.Heat),(I p1.Silica),(I p1.Gas)]]
theorem Qr8 (N:Nat) (p0:Qnc) (p1:Qaa) (r:Qfh) (h:Qhs N p0 p1=some r):Spec prog 145 [(.agg (Q0e p0)),(.agg (Qac p1))] [] (.agg (Q0d r)) []:=by
  refine Qak func145 rfl 0 (nle rfl) (fun X φ0 w0 hφ0 hd0=>?_)
  unfold Qhs at h
  refine wxz ?_
  obtain⟨x2,hf1,h⟩:=bno h
  refine wx tbk [(2,rp _ _)] ⟨apv Zh5 (Qpg N (⟨(⟨p0.Row.T,p0.Row.P,p0.Row.Liquid,p0.Row.Vapour,p0.Row.Silica⟩:GRow)⟩:Qnc) p1 _ hf1) (nlc (NLt.agg _ (nlcc (nlcc (nlc nll nl0)))) (nlc (NLt.agg _ (nlcc (nlcc nl0))) nl0)) nll,tv⟩ ?_
  obtain⟨k10,hk_k10,h⟩:=jko h
  refine wjn (τ:=Int×Int×Int×Int×Int×Int×Int) (fun t=>k10 t=some r) (fun ⟨y3,y4,y5,y6,y7,y8,y9⟩=>⟨mk 87 [(2,.ref 0 5 0 0),(3,.ref 1 4 0 0),(4,.ref 2 10 0 0)],[(Zfz p0),(Zfy p1),(.own 10 [[I y3,I y4,I 0,I y5,I y6,I y7,I y8,I y9,I 0,I 0]])]⟩) (fun t h=>?_) ?_
  ·subst hk_k10
   obtain⟨y3,y4,y5,y6,y7,y8,y9⟩:=t
   obtain⟨x11,hl12,h⟩:=bno h
   refine wx tbk [(9,rp [(.tmp 52,I p1.Silica),(.tmp 59,(I (w64 (y6*p0.Row.Silica))))] (I x11))] ⟨Qin hl12 (Qki rfl),tv⟩<|wxe<|wsq<|wxz ?_
   refine bfe h (fun hc13 h=>?_) fun hc13 h=>?_
   ·refine wft hc13 ?_
    obtain⟨x14,hl15,h⟩:=bno h
    refine wx1 tbk [(11,rp [ci 0,(.tmp 83,(I (w64 (y7-(w64 (y6*p0.Row.Liquid))))))] (I x14))] ⟨Qin hl15 (Qiu rfl),tv⟩<|thn<|wxz<|Qah ?_
    obtain rfl:=osi h
    exact fend ⟨[(.agg [I y3,I y4,I 0,I y5,I y6,I y7,I x11,I y9,I x14,(I (w64 (p1.Silica-x11)))])],⟨Qbn (n:=2) (m:=10) (j:=0) (i:=0) (xs:=[[I y3,I y4,I 0,I y5,I y6,I y7,I x11,I y9,I x14,(I (w64 (p1.Silica-x11)))]]) (by kernel_rfl) (by kernel_rfl) Q31 (by decide) rfl (nle rfl) rfl,tv⟩,rfl⟩ (NLt.agg _ (nlcc (nlcc (nlcc (nlcc (nlcc nl0))))))
   ·refine wfn hc13<|Qaq<|thn<|wxz<|Qah ?_
    obtain rfl:=osi h
    exact fend ⟨[(.agg [I y3,I y4,I 0,I y5,I y6,I y7,I x11,I y9,I 0,(I (w64 (p1.Silica-x11)))])],⟨Qbn (n:=2) (m:=10) (j:=0) (i:=0) (xs:=[[I y3,I y4,I 0,I y5,I y6,I y7,I x11,I y9,I 0,(I (w64 (p1.Silica-x11)))]]) (by kernel_rfl) (by kernel_rfl) Q31 (by decide) rfl (nle rfl) rfl,tv⟩,rfl⟩ (NLt.agg _ (nlcc (nlcc (nlcc (nlcc (nlcc nl0))))))
  ·skip
   refine Qap<|wxz ?_
   refine bfe h (fun hc16 h=>?_) fun hc16 h=>?_
   ·exact wft hc16<|wxz1<|bln<|thn<|⟨(0,0,0,p1.Mass,p1.Heat,p1.Silica,p1.Gas),h,(mto (n:=87) [(2,.ref 0 5 0 0),(3,.ref 1 4 0 0),(4,.ref 2 10 0 0)] [0,1,2] [(Zfz p0),(Zfy p1),(.own 10 [[I 0,I 0,I 0,I 0,I p1.Mass,I p1.Heat,I p1.Silica,I p1.Gas,I 0,I 0]])] hφ0 (prr (prr (prr pn))) (qb (lcc (lcc (lc rwl ln))) (qb (lcc (lcc ln)) (qb (lcc (lcc (lcc (lcc (lcc ln))))) qn))))⟩
   ·refine wfn hc16<|wxz ?_
    refine bfe h (fun hc17 h=>?_) fun hc17 h=>?_
    ·exact wft hc17<|wx1 tbk [(5,rp _ _)] ⟨Qaz (vs:=[I x2,I p1.Heat,I p1.Gas]) rfl ts63 tz63 rfl (by rfl) rfl,tv⟩<|bln<|thn<|⟨(x2,p1.Heat,p1.Gas,0,0,0,0),h,(mto (n:=87) [(2,.ref 0 5 0 0),(3,.ref 1 4 0 0),(4,.ref 2 10 0 0)] [0,1,2] [(Zfz p0),(Zfy p1),(.own 10 [[I x2,I p1.Heat,I 0,I p1.Gas,I 0,I 0,I 0,I 0,I 0,I 0]])] hφ0 (prr (prr (prr pn))) (qb (lcc (lcc (lc rwl ln))) (qb (lcc (lcc ln)) (qb (lcc (lcc (lcc (lcc (lcc ln))))) qn))))⟩
    ·refine wfn hc17<|wx tbk [(8,rp _ _)] ⟨Qaz (vs:=[I x2,(I (w64 (x2*p0.Row.Vapour))),I p1.Gas]) rfl ts63 tz63 rfl (by rfl) rfl,tv⟩ ?_
     exact wx1 tbk [(12,rp _ _)] ⟨Qaz (vs:=[(I (w64 (p1.Mass-x2))),(I (w64 (p1.Heat-(w64 (x2*p0.Row.Vapour)))))]) rfl ts63 tz63 rfl (by rfl) rfl,tv⟩<|bln<|thn<|⟨(x2,w64 (x2*p0.Row.Vapour),p1.Gas,w64 (p1.Mass-x2),w64 (p1.Heat-(w64 (x2*p0.Row.Vapour))),0,0),h,(mto (n:=87) [(2,.ref 0 5 0 0),(3,.ref 1 4 0 0),(4,.ref 2 10 0 0)] [0,1,2] [(Zfz p0),(Zfy p1),(.own 10 [[I x2,(I (w64 (x2*p0.Row.Vapour))),I 0,I p1.Gas,(I (w64 (p1.Mass-x2))),(I (w64 (p1.Heat-(w64 (x2*p0.Row.Vapour))))),I 0,I 0,I 0,I 0]])] hφ0 (prr (prr (prr pn))) (qb (lcc (lcc (lc rwl ln))) (qb (lcc (lcc ln)) (qb (lcc (lcc (lcc (lcc (lcc ln))))) qn))))⟩
def Qlb (N:Nat) (p0:List GRow) (p1:Int) (p2:Qaa):Option (Qfh×Int):=
  (Qfy N p0).bind fun x2=>
  bif (!x2) then
   some ((⟨(⟨0,0,0,0⟩:Qaa),(⟨0,0,0,0⟩:Qaa),0,0⟩:Qfh),1)
  else
   (Qjb N p0 p1).bind fun x5=>
   bif (!x5) then
    some ((⟨(⟨0,0,0,0⟩:Qaa),(⟨0,0,0,0⟩:Qaa),0,0⟩:Qfh),2)
   else
    (Qeo N p2).bind fun x8=>
    bif (!x8) then
     some ((⟨(⟨0,0,0,0⟩:Qaa),(⟨0,0,0,0⟩:Qaa),0,0⟩:Qfh),1)
    else
     (Qjx N p0 p1).bind fun x11=>
     (Qhs N (⟨(⟨x11.Row.T,x11.Row.P,x11.Row.Liquid,x11.Row.Vapour,x11.Row.Silica⟩:GRow)⟩:Qnc) p2).bind fun x13=>
     some ((⟨(⟨x13.Steam.Mass,x13.Steam.Heat,x13.Steam.Silica,x13.Steam.Gas⟩:Qaa),(⟨x13.Water.Mass,x13.Water.Heat,x13.Water.Silica,x13.Water.Gas⟩:Qaa),x13.Rest,x13.Scale⟩:Qfh),0)
def Zlp:AV:=.agg [(I (0)),(I (0)),(I (0)),(I (0)),(I (0)),(I (0)),(I (0)),(I (0)),(I (0)),(I (0))]
def Zru (x13:Qfh):AV:=.agg [(I x13.Steam.Mass),(I x13.Steam.Heat),(I x13.Steam.Silica),(I x13.Steam.Gas),(I x13.Water.Mass),(I x13.Water.Heat),(I x13.Water.Silica),(I x13.Water.Gas),(I x13.Rest),(I x13.Scale)]
theorem Qvn (N:Nat) (p0:List GRow) (p1:Int) (p2:Qaa) (r:(Qfh×Int)) (h:Qlb N p0 p1 p2=some r):Spec prog 135 [(.dat 5 (p0.map Qav)),(I p1),(.agg (Qac p2))] [] (.tup [(.agg (Q0d r.1)),(I r.2)]) []:=by
  refine Qak func135 rfl 0 (nle rfl) (fun X φ0 w0 hφ0 hd0=>?_)
  unfold Qlb at h
  refine wxz<|wsq<|Qap ?_
  obtain⟨x2,hf1,h⟩:=bno h
  refine wx tbk [(1,rp _ _)] ⟨apv Q7g (Qk9 N p0 _ hf1) (nlc (nld Qao _) nl0) nll,tv⟩ ?_
  refine bfe h (fun hc3 h=>?_) fun hc3 h=>?_
  ·refine wft hc3<|wx tbk [(0,rp _ _)] ⟨Qaz (vs:=[]) rfl Zmj Zgt rfl (by rfl) rfl,tv⟩<|Qah<|Qau<|Qaj ?_
   obtain rfl:=osi h
   exact fend ⟨[Zlp,I 1],⟨Qbn (n:=1) (m:=10) (j:=0) (i:=0) (xs:=[[I 0,I 0,I 0,I 0,I 0,I 0,I 0,I 0,I 0,I 0]]) (by kernel_rfl) (by kernel_rfl) Q31 (by decide) rfl (nle rfl) rfl,rot,tv⟩,rfl⟩ (NLt.tup _ (nlc (NLt.agg _ (nlcc (nlcc (nlcc (nlcc (nlcc nl0)))))) (nlc nll nl0)))
  ·refine wfn hc3 ?_
   obtain⟨x5,hf4,h⟩:=bno h
   refine wx tbk [(2,rp _ _)] ⟨apv Zib (Qq4 N p0 p1 _ hf4) (nlc (nld Qao _) (nlc nll nl0)) nll,tv⟩ ?_
   refine bfe h (fun hc6 h=>?_) fun hc6 h=>?_
   ·refine wft hc6<|wx tbk [(0,rp _ _)] ⟨Qaz (vs:=[]) rfl Zmj Zgt rfl (by rfl) rfl,tv⟩<|Qah<|Qau<|Qaj ?_
    obtain rfl:=osi h
    exact fend ⟨[Zlp,I 2],⟨Qbn (n:=1) (m:=10) (j:=0) (i:=0) (xs:=[[I 0,I 0,I 0,I 0,I 0,I 0,I 0,I 0,I 0,I 0]]) (by kernel_rfl) (by kernel_rfl) Q31 (by decide) rfl (nle rfl) rfl,rot,tv⟩,rfl⟩ (NLt.tup _ (nlc (NLt.agg _ (nlcc (nlcc (nlcc (nlcc (nlcc nl0)))))) (nlc nll nl0)))
   ·refine wfn hc6 ?_
    obtain⟨x8,hf7,h⟩:=bno h
    refine wx tbk [(1,rp _ _)] ⟨apv Qz8 (Qik N p2 _ hf7) (nlc (NLt.agg _ (nlcc (nlcc nl0))) nl0) nll,tv⟩ ?_
    refine bfe h (fun hc9 h=>?_) fun hc9 h=>?_
    ·refine wft hc9<|wx tbk [(0,rp _ _)] ⟨Qaz (vs:=[]) rfl Zmj Zgt rfl (by rfl) rfl,tv⟩<|Qah<|Qau<|Qaj ?_
     obtain rfl:=osi h
     exact fend ⟨[Zlp,I 1],⟨Qbn (n:=1) (m:=10) (j:=0) (i:=0) (xs:=[[I 0,I 0,I 0,I 0,I 0,I 0,I 0,I 0,I 0,I 0]]) (by kernel_rfl) (by kernel_rfl) Q31 (by decide) rfl (nle rfl) rfl,rot,tv⟩,rfl⟩ (NLt.tup _ (nlc (NLt.agg _ (nlcc (nlcc (nlcc (nlcc (nlcc nl0)))))) (nlc nll nl0)))
    ·refine wfn hc9<|Qaq<|bln<|thn ?_
     obtain⟨x11,hf10,h⟩:=bno h
     obtain⟨x13,hf12,h⟩:=bno h
     refine wxd tbk [(2,rp _ _),(4,rp _ _)] ⟨apv Zia (Qr9 N p0 p1 _ hf10) (nlc (nld Qao _) (nlc nll nl0)) (NLt.agg _ (nlcc (nlcc (nlc nll nl0)))),apv Zh9 (Qr8 N (⟨(⟨x11.Row.T,x11.Row.P,x11.Row.Liquid,x11.Row.Vapour,x11.Row.Silica⟩:GRow)⟩:Qnc) p2 _ hf12) (nlc (NLt.agg _ (nlcc (nlcc (nlc nll nl0)))) (nlc (NLt.agg _ (nlcc (nlcc nl0))) nl0)) (NLt.agg _ (nlcc (nlcc (nlcc (nlcc (nlcc nl0)))))),tv⟩<|Qah ?_
     obtain rfl:=osi h
     exact fend ⟨[(Zru x13),I 0],⟨Qbn (n:=1) (m:=10) (j:=0) (i:=0) (xs:=[[I x13.Steam.Mass,I x13.Steam.Heat,I x13.Steam.Silica,I x13.Steam.Gas,I x13.Water.Mass,I x13.Water.Heat,I x13.Water.Silica,I x13.Water.Gas,I x13.Rest,I x13.Scale]]) (by kernel_rfl) (by kernel_rfl) Q31 (by decide) rfl (nle rfl) rfl,rot,tv⟩,rfl⟩ (NLt.tup _ (nlc (NLt.agg _ (nlcc (nlcc (nlcc (nlcc (nlcc nl0)))))) (nlc nll nl0)))
def Qf0 (N:Nat) (p0:Int) (p1:Qaa) (p2:List Int) (_p3:List GRow) (_p4:List Qam) (_p5 p6 _p7:Nat) (_p8:List Qaa) (_p9:Int) (_p10:List (List Qaa)) (p11:List Qa9) (_p12:List Int):Option ((List Qaa)×(List Qa9)):=
  (Qla N p1 p2).bind fun x4=>
  chk (decide (0≤p0)&&decide (p0.toNat<p6))<|
  (p11[p0.toNat]?).bind fun x6=>
  chk (decide (0≤p0)&&decide (p0.toNat<p6))<|
  ((p11.set p0.toNat (⟨x4.2.1.Heat,x6.Silica,x6.Gas,x6.Scale⟩:Qa9))[p0.toNat]?).bind fun x9=>
  chk (decide (0≤p0)&&decide (p0.toNat<p6))<|
  (((p11.set p0.toNat (⟨x4.2.1.Heat,x6.Silica,x6.Gas,x6.Scale⟩:Qa9)).set p0.toNat (⟨x9.Heat,x4.2.1.Silica,x9.Gas,x9.Scale⟩:Qa9))[p0.toNat]?).bind fun x12=>
  some (x4.1,((p11.set p0.toNat (⟨x4.2.1.Heat,x6.Silica,x6.Gas,x6.Scale⟩:Qa9)).set p0.toNat (⟨x9.Heat,x4.2.1.Silica,x9.Gas,x9.Scale⟩:Qa9)).set p0.toNat (⟨x12.Heat,x12.Silica,x4.2.1.Gas,x12.Scale⟩:Qa9))
def Zrt (p1:Qaa):AV:=.agg [(I p1.Mass),(I p1.Heat),(I p1.Silica),(I p1.Gas)]
def Q3j (p3:List GRow) (p4:List Qam) (p5 p6 p7:Nat) (p8:List Qaa) (p9:Int):Slot:=.own 7 [[(.dat 5 (p3.map Qav)),(.dat 7 (p4.map Qal)),(.own 1 1 (0) p5),(.own 2 4 (0) p6),(.own 3 1 (0) p7),(.dat 4 (p8.map Qac)),(I p9)]]
def Zax (p11:List Qa9) (p0:Int) (x4:((List Qaa)×Qh2×Int)) (x6:Qa9):Slot:=.own 4 ((p11.set p0.toNat (⟨x4.2.1.Heat,x6.Silica,x6.Gas,x6.Scale⟩:Qa9):List Qa9).map Qax)
def Zaw (p11:List Qa9) (p0:Int) (x4:((List Qaa)×Qh2×Int)) (x6 x9:Qa9):Slot:=.own 4 (((p11.set p0.toNat (⟨x4.2.1.Heat,x6.Silica,x6.Gas,x6.Scale⟩:Qa9)).set p0.toNat (⟨x9.Heat,x4.2.1.Silica,x9.Gas,x9.Scale⟩:Qa9):List Qa9).map Qax)
def Zj3 (p11:List Qa9) (p0:Int) (x4:((List Qaa)×Qh2×Int)) (x6 x9 x12:Qa9):Slot:=.own 4 ((((p11.set p0.toNat (⟨x4.2.1.Heat,x6.Silica,x6.Gas,x6.Scale⟩:Qa9)).set p0.toNat (⟨x9.Heat,x4.2.1.Silica,x9.Gas,x9.Scale⟩:Qa9)).set p0.toNat (⟨x12.Heat,x12.Silica,x4.2.1.Gas,x12.Scale⟩:Qa9):List Qa9).map Qax)
theorem Qlo (N:Nat) (p0:Int) (p1:Qaa) (p2:List Int) (p3:List GRow) (p4:List Qam) (p5 p6 p7:Nat) (p8:List Qaa) (p9:Int) (p10:List (List Qaa)) (p11:List Qa9) (p12:List Int) (r:((List Qaa)×(List Qa9))) (h:Qf0 N p0 p1 p2 p3 p4 p5 p6 p7 p8 p9 p10 p11 p12=some r):Spec prog 136 [(.ref 0 7 (0) 0),(I p0),(Zrt p1),(.dat 1 (p2.map Qad))] [(Q3j p3 p4 p5 p6 p7 p8 p9),(.own 1 (p10.map Qae)),(.own 4 (p11.map Qax)),(.own 1 (p12.map Qad))] (.dat 4 (r.1.map Qac)) [(Q3j p3 p4 p5 p6 p7 p8 p9),(.own 1 (p10.map Qae)),(.own 4 (r.2.map Qax)),(.own 1 (p12.map Qad))]:=by
  refine Qak func136 rfl 4 (nle rfl) (fun X φ0 w0 hφ0 hd0=>?_)
  unfold Qf0 at h
  refine Qby<|wxz ?_
  obtain⟨x4,hf3,h⟩:=bno h
  refine wx tbk [(2,rp _ _)] ⟨apv Zh8 (Qvm N p1 p2 _ hf3) (nlc (NLt.agg _ (nlcc (nlcc nl0))) (nlc (nld Qag _) nl0)) (NLt.tup _ (nlc (nld Qaf _) (nlc (NLt.agg _ (nlcc (nlc nll nl0))) (nlc nll nl0)))),tv⟩ ?_
  obtain⟨hi5,h⟩:=cko h
  obtain⟨hi5a,hi5b⟩:=Qea hi5
  obtain⟨x6,hg7,h⟩:=bno h
  obtain⟨hi8,h⟩:=cko h
  obtain⟨hi8a,hi8b⟩:=Qea hi8
  obtain⟨x9,hg10,h⟩:=bno h
  obtain⟨hi11,h⟩:=cko h
  obtain⟨hi11a,hi11b⟩:=Qea hi11
  obtain⟨x12,hg13,h⟩:=bno h
  refine wxd tbk [(1,rb [(.tmp 19,.ref 0 7 0 0)] [(0,(Q3j p3 p4 p5 p6 p7 p8 p9))] (.ref 0 7 0 0)),(7,rb [(.tmp 25,.ref 0 7 0 0)] [(0,(Q3j p3 p4 p5 p6 p7 p8 p9))] (.ref 0 7 0 0)),(13,rb [(.tmp 31,.ref 0 7 0 0)] [(0,(Q3j p3 p4 p5 p6 p7 p8 p9))] (.ref 0 7 0 0)),(24,rb [(.tmp 23,(.own 2 4 (0) p6)),(.tmp 24,I p0)] [(2,(.own 4 (p11.map Qax)))] (.ref 2 4 p0.toNat 0)),(26,⟨[(.tmp 44,(.ref 2 4 p0.toNat 0)),(.tmp 38,I x4.2.1.Heat)],[(2,(.own 4 (p11.map Qax)))],.any,[(2,(Zax p11 p0 x4 x6))],false⟩),(27,rb [(.tmp 29,(.own 2 4 (0) p6)),(.tmp 30,I p0)] [(2,(Zax p11 p0 x4 x6))] (.ref 2 4 p0.toNat 0)),(29,⟨[(.tmp 46,(.ref 2 4 p0.toNat 1)),(.tmp 40,I x4.2.1.Silica)],[(2,(Zax p11 p0 x4 x6))],.any,[(2,(Zaw p11 p0 x4 x6 x9))],false⟩),(30,rb [(.tmp 35,(.own 2 4 (0) p6)),(.tmp 36,I p0)] [(2,(Zaw p11 p0 x4 x6 x9))] (.ref 2 4 p0.toNat 0)),(32,⟨[(.tmp 48,(.ref 2 4 p0.toNat 2)),(.tmp 42,I x4.2.1.Gas)],[(2,(Zaw p11 p0 x4 x6 x9))],.any,[(2,(Zj3 p11 p0 x4 x6 x9 x12))],false⟩)] ⟨Qbu rfl,Qbu rfl,Qbu rfl,aio rfl underlying32 ti82 (odt hi5a) (odt hi5b) (Nat.zero_add _),ast rfl ti3 (by rfl) (mgt Qax hg7) (nle rfl) (Qhk Qax rfl),aio rfl underlying32 ti82 (odt hi8a) (odt hi8b) (Nat.zero_add _),ast rfl ti3 (by rfl) (mgt Qax hg10) (nle rfl) (Qhk Qax rfl),aio rfl underlying32 ti82 (odt hi11a) (odt hi11b) (Nat.zero_add _),ast rfl ti3 (by rfl) (mgt Qax hg13) (nle rfl) (Qhk Qax rfl),tv⟩<|wxz ?_
  refine wmr (mto (n:=50) (l':=[(8,(.dat 4 (x4.1.map Qac)))]) (own':=[(Q3j p3 p4 p5 p6 p7 p8 p9),(.own 1 (p10.map Qae)),(.own 4 (((((p11.set p0.toNat (⟨x4.2.1.Heat,x6.Silica,x6.Gas,x6.Scale⟩:Qa9)).set p0.toNat (⟨x9.Heat,x4.2.1.Silica,x9.Gas,x9.Scale⟩:Qa9)).set p0.toNat (⟨x12.Heat,x12.Silica,x4.2.1.Gas,x12.Scale⟩:Qa9)):List Qa9).map Qax)),(.own 1 (p12.map Qad))]) [(8,(.dat 4 (x4.1.map Qac)))] [0,1,2,3] [(Q3j p3 p4 p5 p6 p7 p8 p9),(.own 1 (p10.map Qae)),(Zj3 p11 p0 x4 x6 x9 x12),(.own 1 (p12.map Qad))] hφ0 (pc (rnd Qaf) pn) (qb (lc (rnd Qao) (lc (rnd Qab) (lc (.rn (Qa7 rfl)) (lc (.rn (Qa7 rfl)) (lc (.rn (Qa7 rfl)) (lc (rnd Qaf) (lc rwl ln))))))) (qc (spr Qai) (qc (spr Qa2) (qc (spr Qag) qn)))))<|Qah ?_
  obtain rfl:=osi h
  exact⟨_,Mor.rfl,Qcy (vs:=[(.dat 4 (x4.1.map Qac))]) ⟨rot,tv⟩ rfl (NLt.of0 (nld Qaf _)) (by kernel_rfl) (Qar (Qa8 (nlc (NLt.of0 (nld Qao _)) (nlc (NLt.of0 (nld Qab _)) (nlc (NLt.own _ _ _ _ (by decide)) (nlc (NLt.own _ _ _ _ (by decide)) (nlc (NLt.own _ _ _ _ (by decide)) (nlc (NLt.of0 (nld Qaf _)) (nlc (NLt.of0 nll) nl0)))))))) (Qar (Qcw Qai _) (Qar (Qcw Qa2 _) (Qar (Qcw Qag _) Qbx))))⟩
def Qfw (N:Nat) (p0:Int) (p1:Qaa) (p2:List GRow) (p3:List Qam) (p4 p5 p6:Nat) (p7:List Qaa) (p8:Int) (p9:List (List Qaa)) (p10:List Qa9) (p11:List Int):Option ((List Qaa)×Int×(List Qa9)×(List Int)):=
  (getI p3 p0).bind fun x5=>
  (Qlb N p2 x5.Level p1).bind fun x10=>
  chk (decide (0≤p0)&&decide (p0.toNat<p5))<|
  (p10[p0.toNat]?).bind fun x12=>
  chk (decide (0≤p0)&&decide (p0.toNat<p6))<|
  (p11[p0.toNat]?).bind fun x15=>
  chk (decide (0≤p0)&&decide (p0.toNat<p6))<|
  (p11[p0.toNat]?).bind fun _=>
  bif (x5.Amount==0) then
   some ([(⟨x10.1.Steam.Mass,x10.1.Steam.Heat,x10.1.Steam.Silica,x10.1.Steam.Gas⟩:Qaa),(⟨x10.1.Water.Mass,x10.1.Water.Heat,x10.1.Water.Silica,x10.1.Water.Gas⟩:Qaa)],w64 (p8+x10.1.Steam.Mass),p10.set p0.toNat (⟨x12.Heat,x12.Silica,x12.Gas,x10.1.Scale⟩:Qa9),p11.set p0.toNat (w64 (x15+x10.1.Scale)))
  else
   (Qf0 N p0 (⟨x10.1.Water.Mass,x10.1.Water.Heat,x10.1.Water.Silica,x10.1.Water.Gas⟩:Qaa) ([w64 (1000-x5.Amount),x5.Amount]) p2 p3 p4 p5 p6 p7 (w64 (p8+x10.1.Steam.Mass)) p9 (p10.set p0.toNat (⟨x12.Heat,x12.Silica,x12.Gas,x10.1.Scale⟩:Qa9)) (p11.set p0.toNat (w64 (x15+x10.1.Scale)))).bind fun x22=>
   (getI x22.1 1).bind fun x23=>
   (Qgo N ([(⟨x10.1.Steam.Mass,x10.1.Steam.Heat,x10.1.Steam.Silica,x10.1.Steam.Gas⟩:Qaa),x23])).bind fun x28=>
   (getI x22.1 0).bind fun x29=>
   some ([x28,x29],w64 (p8+x10.1.Steam.Mass),x22.2,p11.set p0.toNat (w64 (x15+x10.1.Scale)))
def Zrv (p1:Qaa):AV:=.agg [(I p1.Mass),(I p1.Heat),(I p1.Silica),(I p1.Gas)]
def Za0 (p3:List Qam):AV:=.dat 7 (p3.map Qal)
def Zaz (p7:List Qaa):AV:=.dat 4 (p7.map Qac)
def Q3k (p2:List GRow) (p3:List Qam) (p4 p5 p6:Nat) (p7:List Qaa) (p8:Int):Slot:=.own 7 [[(.dat 5 (p2.map Qav)),(Za0 p3),(.own 1 1 (0) p4),(.own 2 4 (0) p5),(.own 3 1 (0) p6),(Zaz p7),(I p8)]]
def Qt4 (p9:List (List Qaa)):Slot:=.own 1 (p9.map Qae)
def Zay (p10:List Qa9) (p0:Int) (x12:Qa9) (x10:(Qfh×Int)):Slot:=.own 4 ((p10.set p0.toNat (⟨x12.Heat,x12.Silica,x12.Gas,x10.1.Scale⟩:Qa9):List Qa9).map Qax)
def Q0o (p11:List Int) (p0 x15:Int) (x10:(Qfh×Int)):Slot:=.own 1 ((p11.set p0.toNat (w64 (x15+x10.1.Scale)):List Int).map Qad)
def Q5p (x10:(Qfh×Int)):AV:=.agg [(I x10.1.Steam.Mass),(I x10.1.Steam.Heat),(I x10.1.Steam.Silica),(I x10.1.Steam.Gas)]
def Zj8 (x10:(Qfh×Int)):AV:=.agg [(I x10.1.Water.Mass),(I x10.1.Water.Heat),(I x10.1.Water.Silica),(I x10.1.Water.Gas)]
def Q5o (x10:(Qfh×Int)):AV:=.dat 4 (([(⟨x10.1.Steam.Mass,x10.1.Steam.Heat,x10.1.Steam.Silica,x10.1.Steam.Gas⟩:Qaa),(⟨x10.1.Water.Mass,x10.1.Water.Heat,x10.1.Water.Silica,x10.1.Water.Gas⟩:Qaa)]:List Qaa).map Qac)
def Q5q (p2:List GRow) (p3:List Qam) (p4 p5 p6:Nat) (p7:List Qaa) (p8:Int) (x10:(Qfh×Int)):Slot:=.own 7 [[(.dat 5 (p2.map Qav)),(Za0 p3),(.own 1 1 (0) p4),(.own 2 4 (0) p5),(.own 3 1 (0) p6),(Zaz p7),(I (w64 (p8+x10.1.Steam.Mass)))]]
def Zj7 (x5:Qam):AV:=.dat 1 (([w64 (1000-x5.Amount),x5.Amount]:List Int).map Qad)
def Zj6 (x23:Qaa):AV:=.agg [(I x23.Mass),(I x23.Heat),(I x23.Silica),(I x23.Gas)]
def Zpd (x10:(Qfh×Int)) (x23:Qaa):AV:=.dat 4 (([(⟨x10.1.Steam.Mass,x10.1.Steam.Heat,x10.1.Steam.Silica,x10.1.Steam.Gas⟩:Qaa),x23]:List Qaa).map Qac)
def Zj5 (x28:Qaa):AV:=.agg [(I x28.Mass),(I x28.Heat),(I x28.Silica),(I x28.Gas)]
def Zj4 (x29:Qaa):AV:=.agg [(I x29.Mass),(I x29.Heat),(I x29.Silica),(I x29.Gas)]
def Q5n (x28 x29:Qaa):AV:=.dat 4 (([x28,x29]:List Qaa).map Qac)
theorem Qn1 (N:Nat) (p0:Int) (p1:Qaa) (p2:List GRow) (p3:List Qam) (p4 p5 p6:Nat) (p7:List Qaa) (p8:Int) (p9:List (List Qaa)) (p10:List Qa9) (p11:List Int) (r:((List Qaa)×Int×(List Qa9)×(List Int))) (h:Qfw N p0 p1 p2 p3 p4 p5 p6 p7 p8 p9 p10 p11=some r):Spec prog 119 [(.ref 0 7 (0) 0),(I p0),(Zrv p1)] [(Q3k p2 p3 p4 p5 p6 p7 p8),(Qt4 p9),(.own 4 (p10.map Qax)),(.own 1 (p11.map Qad))] (.dat 4 (r.1.map Qac)) [(.own 7 [[(.dat 5 (p2.map Qav)),(Za0 p3),(.own 1 1 (0) p4),(.own 2 4 (0) p5),(.own 3 1 (0) p6),(Zaz p7),(I r.2.1)]]),(Qt4 p9),(.own 4 (r.2.2.1.map Qax)),(.own 1 (r.2.2.2.map Qad))]:=by
  refine Qak func119 rfl 4 (nle rfl) (fun X φ0 w0 hφ0 hd0=>?_)
  unfold Qfw at h
  refine Qby<|wxz ?_
  obtain⟨x5,hg6,h⟩:=bno h
  obtain⟨hi7,hj8⟩:=gsm hg6
  refine wx tbk [(1,rb [(.tmp 11,.ref 0 7 0 0)] [(0,(Q3k p2 p3 p4 p5 p6 p7 p8))] (.ref 0 7 0 0)),(6,rp _ _)] ⟨Qbu rfl,aiq underlying40 Qmk Qal hi7 hj8,tv⟩ ?_
  obtain⟨x10,hf9,h⟩:=bno h
  refine wxd tbk [(1,rb [(.tmp 20,.ref 0 7 0 0)] [(0,(Q3k p2 p3 p4 p5 p6 p7 p8))] (.ref 0 7 0 0)),(8,rp _ _)] ⟨Qbu rfl,apv Zig (Qvn N p2 x5.Level p1 _ hf9) (nlc (nld Qao _) (nlc nll (nlc (NLt.agg _ (nlcc (nlcc nl0))) nl0))) (NLt.tup _ (nlc (NLt.agg _ (nlcc (nlcc (nlcc (nlcc (nlcc nl0)))))) (nlc nll nl0))),tv⟩ ?_
  obtain⟨hi11,h⟩:=cko h
  obtain⟨hi11a,hi11b⟩:=Qea hi11
  obtain⟨x12,hg13,h⟩:=bno h
  refine wxd tbk [(1,rb [(.tmp 31,.ref 0 7 0 0)] [(0,(Q3k p2 p3 p4 p5 p6 p7 p8))] (.ref 0 7 0 0)),(8,rb [(.tmp 35,(.own 2 4 (0) p5)),(.tmp 36,I p0)] [(2,(.own 4 (p10.map Qax)))] (.ref 2 4 p0.toNat 0)),(10,⟨[(.tmp 40,(.ref 2 4 p0.toNat 3)),(.tmp 38,I x10.1.Scale)],[(2,(.own 4 (p10.map Qax)))],.any,[(2,(Zay p10 p0 x12 x10))],false⟩)] ⟨Qbu rfl,aio rfl underlying32 ti82 (odt hi11a) (odt hi11b) (Nat.zero_add _),ast rfl ti3 (by rfl) (mgt Qax hg13) (nle rfl) (Qhk Qax rfl),tv⟩ ?_
  obtain⟨hi14,h⟩:=cko h
  obtain⟨hi14a,hi14b⟩:=Qea hi14
  obtain⟨x15,hg16,h⟩:=bno h
  obtain⟨hi17,h⟩:=cko h
  obtain⟨hi17a,hi17b⟩:=Qea hi17
  obtain⟨x18,hg19,h⟩:=bno h
  refine wxd tbk [(1,rb [(.tmp 41,.ref 0 7 0 0)] [(0,(Q3k p2 p3 p4 p5 p6 p7 p8))] (.ref 0 7 0 0)),(6,rb [(.tmp 45,(.own 3 1 (0) p6)),(.tmp 46,I p0)] [(3,(.own 1 (p11.map Qad)))] (.ref 3 1 p0.toNat 0)),(7,rb [(.tmp 47,(.ref 3 1 p0.toNat 0))] [(3,(.own 1 (p11.map Qad)))] (I x15)),(11,rb [(.tmp 45,(.own 3 1 (0) p6)),(.tmp 46,I p0)] [(3,(.own 1 (p11.map Qad)))] (.ref 3 1 p0.toNat 0)),(12,⟨[(.tmp 52,(.ref 3 1 p0.toNat 0)),(.tmp 51,(I (w64 (x15+x10.1.Scale))))],[(3,(.own 1 (p11.map Qad)))],.any,[(3,(Q0o p11 p0 x15 x10))],false⟩)] ⟨Qbu rfl,aio rfl underlying27 ti3 (odt hi14a) (odt hi14b) (Nat.zero_add _),ald rfl ti3 (by decide) (mgt Qad hg16) (nle rfl) rfl,aio rfl underlying27 ti3 (odt hi17a) (odt hi17b) (Nat.zero_add _),ast rfl ti3 (by rfl) (mgt Qad hg19) (nle rfl) (Qhk Qad rfl),tv⟩ ?_
  refine wxd tbk [(1,rb [(.tmp 53,.ref 0 7 0 0)] [(0,(Q3k p2 p3 p4 p5 p6 p7 p8))] (.ref 0 7 0 0)),(8,rb [(.tmp 53,.ref 0 7 0 0)] [(0,(Q3k p2 p3 p4 p5 p6 p7 p8))] (.ref 0 7 0 0))] ⟨Qbu rfl,Qbu rfl,tv⟩<|wsq<|wxz ?_
  refine bfe h (fun hc20 h=>?_) fun hc20 h=>?_
  ·refine wft hc20<|wx tbk [(4,rp [(.tmp 67,(Q5p x10)),(.tmp 69,(Zj8 x10))] (Q5o x10))] ⟨Qbo (vs:=[(Q5p x10),(Zj8 x10)]) rfl underlying45 ti63 tz63 rfl (by decide) rfl (by decide) (by rfl) (by rfl) (by rfl) rfl,tv⟩ ?_
   refine wmr (mto (n:=93) (l':=[(6,(Q5o x10))]) (own':=[(.own 7 [[(.dat 5 (p2.map Qav)),(Za0 p3),(.own 1 1 (0) p4),(.own 2 4 (0) p5),(.own 3 1 (0) p6),(Zaz p7),(I ((w64 (p8+x10.1.Steam.Mass))))]]),(Qt4 p9),(.own 4 (((p10.set p0.toNat (⟨x12.Heat,x12.Silica,x12.Gas,x10.1.Scale⟩:Qa9)):List Qa9).map Qax)),(.own 1 (((p11.set p0.toNat (w64 (x15+x10.1.Scale))):List Int).map Qad))]) [(6,(Q5o x10))] [0,1,2,3] [(Q5q p2 p3 p4 p5 p6 p7 p8 x10),(Qt4 p9),(Zay p10 p0 x12 x10),(Q0o p11 p0 x15 x10)] hφ0 (pc (rnd Qaf) pn) (qb (lc (rnd Qao) (lc (rnd Qab) (lc (.rn (Qa7 rfl)) (lc (.rn (Qa7 rfl)) (lc (.rn (Qa7 rfl)) (lc (rnd Qaf) (lc rwl ln))))))) (qc (spr Qai) (qc (spr Qa2) (qc (spr Qag) qn)))))<|Qah<|Qaj ?_
   obtain rfl:=osi h
   exact⟨_,Mor.rfl,Qcy (vs:=[(Q5o x10)]) ⟨rot,tv⟩ rfl (NLt.of0 (nld Qaf _)) (by kernel_rfl) (Qar (Qa8 (nlc (NLt.of0 (nld Qao _)) (nlc (NLt.of0 (nld Qab _)) (nlc (NLt.own _ _ _ _ (by decide)) (nlc (NLt.own _ _ _ _ (by decide)) (nlc (NLt.own _ _ _ _ (by decide)) (nlc (NLt.of0 (nld Qaf _)) (nlc (NLt.of0 nll) nl0)))))))) (Qar (Qcw Qai _) (Qar (Qcw Qa2 _) (Qar (Qcw Qag _) Qbx))))⟩
  ·refine wfn hc20<|Qaq<|thn ?_
   obtain⟨x22,hf21,h⟩:=bno h
   refine wx tbk [(9,rp [(.tmp 77,(I (w64 (1000-x5.Amount)))),(.tmp 79,I x5.Amount)] (Zj7 x5)),(10,⟨_,_,_,_,false⟩)] ⟨Qbo (vs:=[(I (w64 (1000-x5.Amount))),I x5.Amount]) rfl underlying27 ti3 tz3 rfl (by decide) rfl (by decide) (by rfl) (by rfl) (by rfl) rfl,Qat (first:=[]) (cap:=[]) (vs:=[.ref 0 7 0 0,I p0,(.agg [(I ((⟨x10.1.Water.Mass,x10.1.Water.Heat,x10.1.Water.Silica,x10.1.Water.Gas⟩:Qaa).Mass)),(I ((⟨x10.1.Water.Mass,x10.1.Water.Heat,x10.1.Water.Silica,x10.1.Water.Gas⟩:Qaa).Heat)),(I ((⟨x10.1.Water.Mass,x10.1.Water.Heat,x10.1.Water.Silica,x10.1.Water.Gas⟩:Qaa).Silica)),(I ((⟨x10.1.Water.Mass,x10.1.Water.Heat,x10.1.Water.Silica,x10.1.Water.Gas⟩:Qaa).Gas))]),(Zj7 x5)]) (σr:=[(Q5q p2 p3 p4 p5 p6 p7 p8 x10),(Qt4 p9),(Zay p10 p0 x12 x10),(Q0o p11 p0 x15 x10)]) (σr':=[(Q5q p2 p3 p4 p5 p6 p7 p8 x10),(Qt4 p9),(.own 4 (x22.2.map Qax)),(Q0o p11 p0 x15 x10)]) (res':=(.dat 4 (x22.1.map Qac))) [0,1,2,3] rfl Q7d (Qlo N p0 (⟨x10.1.Water.Mass,x10.1.Water.Heat,x10.1.Water.Silica,x10.1.Water.Gas⟩:Qaa) ([w64 (1000-x5.Amount),x5.Amount]) p2 p3 p4 p5 p6 p7 (w64 (p8+x10.1.Steam.Mass)) p9 (p10.set p0.toNat (⟨x12.Heat,x12.Silica,x12.Gas,x10.1.Scale⟩:Qa9)) (p11.set p0.toNat (w64 (x15+x10.1.Scale))) _ hf21) rfl (Qbq (rnc (Qa4 rfl) (rnc (.plain _ nll) (rnc (.plain _ (NLt.agg _ (nlcc (nlcc nl0)))) (rnc (pld Qag) rn0))))) (slc (Qan (rnc (pld Qao) (rnc (pld Qab) (rnc (Qds rfl) (rnc (Qds rfl) (rnc (Qds rfl) (rnc (pld Qaf) (rnc (.plain _ nll) rn0)))))))) (slc (Qbm Qai) (slc (Qbm Qa2) (slc (Qbm Qag) Qas)))) (slc (Qan (rnc (pld Qao) (rnc (pld Qab) (rnc (Qdt rfl) (rnc (Qdt rfl) (rnc (Qdt rfl) (rnc (pld Qaf) (rnc (.plain _ nll) rn0)))))))) (slc (Qbm Qai) (slc (Qbm Qa2) (slc (Qbm Qag) Qas)))) (pld Qaf) rfl rfl rfl,tv⟩ ?_
   obtain⟨x23,hg24,h⟩:=bno h
   obtain⟨hi25,hj26⟩:=gsm hg24
   obtain⟨x28,hf27,h⟩:=bno h
   obtain⟨x29,hg30,h⟩:=bno h
   obtain⟨hi31,hj32⟩:=gsm hg30
   refine wxd tbk [(3,rp _ _),(5,rp [(.tmp 83,(Q5p x10)),(.tmp 86,(Zj6 x23))] (Zpd x10 x23)),(6,rp _ _),(8,rp _ _),(10,rp [(.tmp 88,(Zj5 x28)),(.tmp 91,(Zj4 x29))] (Q5n x28 x29))] ⟨aiq underlying45 ti63 Qac hi25 hj26,Qbo (vs:=[(Q5p x10),(Zj6 x23)]) rfl underlying45 ti63 tz63 rfl (by decide) rfl (by decide) (by rfl) (by rfl) (by rfl) rfl,apv Q4p (Qnh N ([(⟨x10.1.Steam.Mass,x10.1.Steam.Heat,x10.1.Steam.Silica,x10.1.Steam.Gas⟩:Qaa),x23]) _ hf27) (nlc (nld Qaf _) nl0) (NLt.agg _ (nlcc (nlcc nl0))),aiq underlying45 ti63 Qac hi31 hj32,Qbo (vs:=[(Zj5 x28),(Zj4 x29)]) rfl underlying45 ti63 tz63 rfl (by decide) rfl (by decide) (by rfl) (by rfl) (by rfl) rfl,tv⟩ ?_
   refine wmr (mto (n:=93) (l':=[(6,(Q5n x28 x29))]) (own':=[(.own 7 [[(.dat 5 (p2.map Qav)),(Za0 p3),(.own 1 1 (0) p4),(.own 2 4 (0) p5),(.own 3 1 (0) p6),(Zaz p7),(I ((w64 (p8+x10.1.Steam.Mass))))]]),(Qt4 p9),(.own 4 (x22.2.map Qax)),(.own 1 (((p11.set p0.toNat (w64 (x15+x10.1.Scale))):List Int).map Qad))]) [(6,(Q5n x28 x29))] [0,1,2,3] [(Q5q p2 p3 p4 p5 p6 p7 p8 x10),(Qt4 p9),(.own 4 (x22.2.map Qax)),(Q0o p11 p0 x15 x10)] hφ0 (pc (rnd Qaf) pn) (qb (lc (rnd Qao) (lc (rnd Qab) (lc (.rn (Qa7 rfl)) (lc (.rn (Qa7 rfl)) (lc (.rn (Qa7 rfl)) (lc (rnd Qaf) (lc rwl ln))))))) (qc (spr Qai) (qc (spr Qa2) (qc (spr Qag) qn)))))<|Qah ?_
   obtain rfl:=osi h
   exact⟨_,Mor.rfl,Qcy (vs:=[(Q5n x28 x29)]) ⟨rot,tv⟩ rfl (NLt.of0 (nld Qaf _)) (by kernel_rfl) (Qar (Qa8 (nlc (NLt.of0 (nld Qao _)) (nlc (NLt.of0 (nld Qab _)) (nlc (NLt.own _ _ _ _ (by decide)) (nlc (NLt.own _ _ _ _ (by decide)) (nlc (NLt.own _ _ _ _ (by decide)) (nlc (NLt.of0 (nld Qaf _)) (nlc (NLt.of0 nll) nl0)))))))) (Qar (Qcw Qai _) (Qar (Qcw Qa2 _) (Qar (Qcw Qag _) Qbx))))⟩
def Qio (N:Nat) (p0:Int) (p1:Qaa) (p2:List GRow) (p3:List Qam) (p4 p5 p6:Nat) (p7:List Qaa) (p8:Int) (p9:List (List Qaa)) (p10:List Qa9) (p11:List Int):Option ((List Qaa)×(List Qa9)):=
  (getI p3 p0).bind fun x3=>
  (Qf0 N p0 p1 x3.Weights p2 p3 p4 p5 p6 p7 p8 p9 p10 p11).bind fun x8=>
  some (x8.1,x8.2)
def Zpc (p1:Qaa):AV:=.agg [(I p1.Mass),(I p1.Heat),(I p1.Silica),(I p1.Gas)]
def Q3i (p2:List GRow) (p3:List Qam) (p4 p5 p6:Nat) (p7:List Qaa) (p8:Int):Slot:=.own 7 [[(.dat 5 (p2.map Qav)),(.dat 7 (p3.map Qal)),(.own 1 1 (0) p4),(.own 2 4 (0) p5),(.own 3 1 (0) p6),(.dat 4 (p7.map Qac)),(I p8)]]
def Q70 (p9:List (List Qaa)):Slot:=.own 1 (p9.map Qae)
def Q5m (x8:((List Qaa)×(List Qa9))):AV:=.dat 4 (x8.1.map Qac)
theorem Qpo (N:Nat) (p0:Int) (p1:Qaa) (p2:List GRow) (p3:List Qam) (p4 p5 p6:Nat) (p7:List Qaa) (p8:Int) (p9:List (List Qaa)) (p10:List Qa9) (p11:List Int) (r:((List Qaa)×(List Qa9))) (h:Qio N p0 p1 p2 p3 p4 p5 p6 p7 p8 p9 p10 p11=some r):Spec prog 120 [(.ref 0 7 (0) 0),(I p0),(Zpc p1)] [(Q3i p2 p3 p4 p5 p6 p7 p8),(Q70 p9),(.own 4 (p10.map Qax)),(.own 1 (p11.map Qad))] (.dat 4 (r.1.map Qac)) [(Q3i p2 p3 p4 p5 p6 p7 p8),(Q70 p9),(.own 4 (r.2.map Qax)),(.own 1 (p11.map Qad))]:=by
  refine Qak func120 rfl 4 (nle rfl) (fun X φ0 w0 hφ0 hd0=>?_)
  unfold Qio at h
  refine Qby<|wxz ?_
  obtain⟨x3,hg4,h⟩:=bno h
  obtain⟨hi5,hj6⟩:=gsm hg4
  obtain⟨x8,hf7,h⟩:=bno h
  refine wxd tbk [(4,rb [(.tmp 10,.ref 0 7 0 0)] [(0,(Q3i p2 p3 p4 p5 p6 p7 p8))] (.ref 0 7 0 0)),(9,rp _ _),(12,⟨_,_,_,_,false⟩)] ⟨Qbu rfl,aiq underlying40 Qmk Qal hi5 hj6,Qat (first:=[]) (cap:=[]) (vs:=[.ref 0 7 0 0,I p0,(Zpc p1),(.dat 1 (x3.Weights.map Qad))]) (σr:=[(Q3i p2 p3 p4 p5 p6 p7 p8),(Q70 p9),(.own 4 (p10.map Qax)),(.own 1 (p11.map Qad))]) (σr':=[(Q3i p2 p3 p4 p5 p6 p7 p8),(Q70 p9),(.own 4 (x8.2.map Qax)),(.own 1 (p11.map Qad))]) (res':=(Q5m x8)) [0,1,2,3] rfl Q7d (Qlo N p0 p1 x3.Weights p2 p3 p4 p5 p6 p7 p8 p9 p10 p11 _ hf7) rfl (Qbq (rnc (Qa4 rfl) (rnc (.plain _ nll) (rnc (.plain _ (NLt.agg _ (nlcc (nlcc nl0)))) (rnc (pld Qag) rn0))))) (slc (Qan (rnc (pld Qao) (rnc (pld Qab) (rnc (Qds rfl) (rnc (Qds rfl) (rnc (Qds rfl) (rnc (pld Qaf) (rnc (.plain _ nll) rn0)))))))) (slc (Qbm Qai) (slc (Qbm Qa2) (slc (Qbm Qag) Qas)))) (slc (Qan (rnc (pld Qao) (rnc (pld Qab) (rnc (Qdt rfl) (rnc (Qdt rfl) (rnc (Qdt rfl) (rnc (pld Qaf) (rnc (.plain _ nll) rn0)))))))) (slc (Qbm Qai) (slc (Qbm Qa2) (slc (Qbm Qag) Qas)))) (pld Qaf) rfl rfl rfl,tv⟩ ?_
  refine wmr (mto (n:=20) (l':=[(6,(Q5m x8))]) (own':=[(Q3i p2 p3 p4 p5 p6 p7 p8),(Q70 p9),(.own 4 (x8.2.map Qax)),(.own 1 (p11.map Qad))]) [(6,(Q5m x8))] [0,1,2,3] [(Q3i p2 p3 p4 p5 p6 p7 p8),(Q70 p9),(.own 4 (x8.2.map Qax)),(.own 1 (p11.map Qad))] hφ0 (pc (rnd Qaf) pn) (qb (lc (rnd Qao) (lc (rnd Qab) (lc (.rn (Qa7 rfl)) (lc (.rn (Qa7 rfl)) (lc (.rn (Qa7 rfl)) (lc (rnd Qaf) (lc rwl ln))))))) (qc (spr Qai) (qc (spr Qa2) (qc (spr Qag) qn)))))<|Qah ?_
  obtain rfl:=osi h
  exact⟨_,Mor.rfl,Qcy (vs:=[(Q5m x8)]) ⟨rot,tv⟩ rfl (NLt.of0 (nld Qaf _)) (by kernel_rfl) (Qar (Qa8 (nlc (NLt.of0 (nld Qao _)) (nlc (NLt.of0 (nld Qab _)) (nlc (NLt.own _ _ _ _ (by decide)) (nlc (NLt.own _ _ _ _ (by decide)) (nlc (NLt.own _ _ _ _ (by decide)) (nlc (NLt.of0 (nld Qaf _)) (nlc (NLt.of0 nll) nl0)))))))) (Qar (Qcw Qai _) (Qar (Qcw Qa2 _) (Qar (Qcw Qag _) Qbx))))⟩
def Qc9 (N:Nat) (p0 p1:Int) (p2:List GRow) (p3:List Qam) (p4 p5 p6:Nat) (p7:List Qaa) (p8:Int) (p9:List (List Qaa)) (p10:List Qa9) (p11:List Int):Option ((Int×(List (List Qaa))×(List Qa9)×(List Int))⊕Int):=
  (Qhw N p0 p2 p3 p4 p5 p6 p7 p8 p9 p10 p11).bind fun _=>
  chk (decide (p4≤p9.length))<|
  chk (decide (p5≤p10.length))<|
  chk (decide (p6≤p11.length))<|
  (Qca N p2 p3 (p9.take p4) (p10.take p5) (p11.take p6) p7 p8 p0).bind fun x12=>
  (Qgo N x12).bind fun x14=>
  Qbi (fun _=>
    (getI p3 p0).bind fun x16=>
    bif (x16.Kind==0) then
     none
    else
     bif (x16.Kind==1) then
      (Qgf N p0 x14 p2 p3 p4 p5 p6 p7 p8 p9 p10 p11).bind fun x23=>
      chk (decide (0≤p0)&&decide (p0.toNat<p4))<|
      (p9[p0.toNat]?).bind fun _=>
      some (.inl (p8,p9.set p0.toNat x23,p10,p11))
     else
      bif (x16.Kind==2) then
       (Qgf N p0 x14 p2 p3 p4 p5 p6 p7 p8 p9 p10 p11).bind fun x29=>
       chk (decide (0≤p0)&&decide (p0.toNat<p4))<|
       (p9[p0.toNat]?).bind fun _=>
       some (.inl (p8,p9.set p0.toNat x29,p10,p11))
      else
       bif (x16.Kind==3) then
        (Qi0 N p0 x14 p2 p3 p4 p5 p6 p7 p8 p9 p10 p11).bind fun x35=>
        chk (decide (0≤p0)&&decide (p0.toNat<p4))<|
        (p9[p0.toNat]?).bind fun _=>
        some (.inl (p8,p9.set p0.toNat x35.1,x35.2,p11))
       else
        bif (x16.Kind==4) then
         (Qfw N p0 x14 p2 p3 p4 p5 p6 p7 p8 p9 p10 p11).bind fun x41=>
         chk (decide (0≤p0)&&decide (p0.toNat<p4))<|
         (p9[p0.toNat]?).bind fun _=>
         some (.inl (x41.2.1,p9.set p0.toNat x41.1,x41.2.2.1,x41.2.2.2))
        else
         bif (x16.Kind==5) then
          (Qio N p0 x14 p2 p3 p4 p5 p6 p7 p8 p9 p10 p11).bind fun x47=>
          chk (decide (0≤p0)&&decide (p0.toNat<p4))<|
          (p9[p0.toNat]?).bind fun _=>
          some (.inl (p8,p9.set p0.toNat x47.1,x47.2,p11))
         else
          bif (x16.Kind==6) then
           (Qgf N p0 x14 p2 p3 p4 p5 p6 p7 p8 p9 p10 p11).bind fun x53=>
           chk (decide (0≤p0)&&decide (p0.toNat<p4))<|
           (p9[p0.toNat]?).bind fun _=>
           some (.inl (p8,p9.set p0.toNat x53,p10,p11))
          else
           none) fun k15:Unit→Option ((Int×(List (List Qaa))×(List Qa9)×(List Int))⊕Int)=>
  bif (decide (x14.Mass>p1)) then
   some (.inr p0)
  else
   k15 ()
def Qmg (p3:List Qam):AV:=.dat 7 (p3.map Qal)
def Qu9 (p7:List Qaa):AV:=.dat 4 (p7.map Qac)
def Qh3 (p2:List GRow) (p3:List Qam) (p4 p5 p6:Nat) (p7:List Qaa) (p8:Int):Slot:=.own 7 [[(.dat 5 (p2.map Qav)),(Qmg p3),(.own 1 1 (0) p4),(.own 2 4 (0) p5),(.own 3 1 (0) p6),(Qu9 p7),(I p8)]]
def Qg5 (p9:List (List Qaa)):Slot:=.own 1 (p9.map Qae)
def Qi7 (p10:List Qa9):Slot:=.own 4 (p10.map Qax)
def Zpf:AV:=.fn (.func 133) [] [(.ref 4 1 (0) 0),(.ref 5 1 (0) 0)]
def Zpg:Slot:=.own 1 [[(.ref 0 7 (0) 0)]]
def Qju (x14:Qaa):AV:=.agg [(I x14.Mass),(I x14.Heat),(I x14.Silica),(I x14.Gas)]
def Qt6 (x14:Qaa):Slot:=.own 4 [[(I x14.Mass),(I x14.Heat),(I x14.Silica),(I x14.Gas)]]
def Qov:Slot:=.own 7 [[(.lit .nilFunc),(.fn (.func 117) [] []),(.fn (.func 117) [] []),(.fn (.func 118) [] []),(.fn (.func 119) [] []),(.fn (.func 120) [] []),(.fn (.func 117) [] [])]]
def Q5t (p2:List GRow) (p3:List Qam) (p4 p5 p6:Nat) (p7:List Qaa) (x41:((List Qaa)×Int×(List Qa9)×(List Int))):Slot:=.own 7 [[(.dat 5 (p2.map Qav)),(Qmg p3),(.own 1 1 (0) p4),(.own 2 4 (0) p5),(.own 3 1 (0) p6),(Qu9 p7),(I x41.2.1)]]
theorem Qj8 (N:Nat) (p0 p1:Int) (p2:List GRow) (p3:List Qam) (p4 p5 p6:Nat) (p7:List Qaa) (p8:Int) (p9:List (List Qaa)) (p10:List Qa9) (p11:List Int) (r:((Int×(List (List Qaa))×(List Qa9)×(List Int))⊕Int)) (h:Qc9 N p0 p1 p2 p3 p4 p5 p6 p7 p8 p9 p10 p11=some r):Zrk prog 97 [(.ref 0 7 (0) 0),(I p0),(I p1)] [(Qh3 p2 p3 p4 p5 p6 p7 p8),(Qg5 p9),(Qi7 p10),(.own 1 (p11.map Qad))]  ((Sum.elim (fun r=>.ret (.tup []) [(.own 7 [[(.dat 5 (p2.map Qav)),(.dat 7 (p3.map Qal)),(.own 1 1 (0) p4),(.own 2 4 (0) p5),(.own 3 1 (0) p6),(.dat 4 (p7.map Qac)),(I r.1)]]),(.own 1 (r.2.1.map Qae)),(.own 4 (r.2.2.1.map Qax)),(.own 1 (r.2.2.2.map Qad))]) (fun r=>.pan (.iface 182 (.agg #[(.int .i64 r)]))):((Int×(List (List Qaa))×(List Qa9)×(List Int))⊕Int)→Out) r):=by
  refine Q1l func97 rfl 4 (nle rfl) (fun X φ0 w0 hφ0 hd0=>?_)
  unfold Qc9 at h
  obtain⟨x7,hf6,h⟩:=bno h
  obtain⟨hz8,h⟩:=cko h
  obtain⟨hz9,h⟩:=cko h
  obtain⟨hz10,h⟩:=cko h
  obtain⟨x12,hf11,h⟩:=bno h
  obtain⟨x14,hf13,h⟩:=bno h
  refine wx tbk [(2,⟨_,_,_,_,false⟩),(3,⟨[fu 115,(.tmp 10,Zpf)],[(4,Zpg),(0,(Qh3 p2 p3 p4 p5 p6 p7 p8)),(1,(Qg5 p9)),(2,(Qi7 p10)),(3,(.own 1 (p11.map Qad))),(5,.own 1 [[I p0]]),(6,.unused)],(.acc 6 63 4 (x12.map Qac)),[(6,.tok)],false⟩),(4,rp [fu 76,(.tmp 11,(.acc 6 63 4 (x12.map Qac)))] (Qju x14))] ⟨Qat (first:=[]) (cap:=[]) (vs:=[.ref 0 7 0 0,I p0]) (σr:=[(Qh3 p2 p3 p4 p5 p6 p7 p8),(Qg5 p9),(Qi7 p10),(.own 1 (p11.map Qad))]) (σr':=[(Qh3 p2 p3 p4 p5 p6 p7 p8),(Qg5 p9),(Qi7 p10),(.own 1 (p11.map Qad)),Zpg,(.own 1 [[I p0]])]) (res':=Zpf) [0,1,2,3,4,5] rfl Zit (Qqf N p0 p2 p3 p4 p5 p6 p7 p8 p9 p10 p11 _ hf6) rfl (Qbq (rnc (Qa4 rfl) (rnc (.plain _ nll) rn0))) (slc (Qan (rnc (pld Qao) (rnc (pld Qab) (rnc (Qds rfl) (rnc (Qds rfl) (rnc (Qds rfl) (rnc (pld Qaf) (rnc (.plain _ nll) rn0)))))))) (slc (Qbm Qai) (slc (Qbm Qa2) (slc (Qbm Qag) Qas)))) (slc (Qan (rnc (pld Qao) (rnc (pld Qab) (rnc (Qdt rfl) (rnc (Qdt rfl) (rnc (Qdt rfl) (rnc (pld Qaf) (rnc (.plain _ nll) rn0)))))))) (slc (Qbm Qai) (slc (Qbm Qa2) (slc (Qbm Qag) (slc (Qan (rnc (Qb4 rfl) rn0)) (slc (Qan (rnc (.plain _ nll) rn0)) Qas)))))) (Qbl rn0 (rnc (Qb4 rfl) (rnc (Qb4 rfl) rn0))) rfl rfl rfl,Qi3 (rd':=[fu 115,(.tmp 10,(.fn (.func 133) [] [(.dptr [(.dptr [(.dat 5 (p2.map Qav)),(Qmg p3),(.dat 1 ((p9.take p4:List (List Qaa)).map Qae)),(.dat 4 ((p10.take p5:List Qa9).map Qax)),(.dat 1 ((p11.take p6:List Int).map Qad)),(Qu9 p7),I p8] 0)] 0),(.dptr [I p0] 0)]))]) [(4,1,[[.ref 0 7 0 0]]),(0,7,[[(.dat 5 (p2.map Qav)),(Qmg p3),(.own 1 1 (0) p4),(.own 2 4 (0) p5),(.own 3 1 (0) p6),(Qu9 p7),I p8]]),(1,1,p9.map Qae),(2,4,p10.map Qax),(3,1,p11.map Qad),(5,1,[[I p0]])] ⟨rfl,.same _,rfl,(Zi6 tv ⟨(Qst 0 rfl (lc (Qst 1 rfl (lc (.same _) (lc (.same _) (lc (Qwt 2 rfl hz8) (lc (Qwt 3 rfl hz9) (lc (Qwt 4 rfl hz10) (lc (.same _) (lc (.same _) ln)))))))) ln)),(Qst 5 rfl (lc (.same _) ln)),tv⟩),tv⟩ (by rfl) (.acc _ _ _ _ (nin rfl) (by simp) (Qzq Qwf _)) (Qsb .tok Qte) (Qat (first:=[]) (cap:=[]) (vs:=[(.fn (.func 133) [] [(.dptr [(.dptr [(.dat 5 (p2.map Qav)),(Qmg p3),(.dat 1 ((p9.take p4:List (List Qaa)).map Qae)),(.dat 4 ((p10.take p5:List Qa9).map Qax)),(.dat 1 ((p11.take p6:List Int).map Qad)),(Qu9 p7),I p8] 0)] 0),(.dptr [I p0] 0)])]) (σr:=[]) (σr':=[.tok]) (res':=(.acc 6 63 4 (x12.map Qac))) [6] rfl Ziu (Qj3 N p2 p3 (p9.take p4) (p10.take p5) (p11.take p6) p7 p8 p0 _ hf11) rfl (Qbq (rnc (.plain _ (NLt.fn _ _ _ nl0 (nlc (NLt.dptr _ _ (nlc (NLt.dptr _ _ (nlc (nld Qao _) (nlc (nld Qab _) (nlc (nld Qai _) (nlc (nld Qa2 _) (nlc (nld Qag _) (nlc (nld Qaf _) (nlc nll nl0)))))))) nl0)) (nlc (NLt.dptr _ _ (nlc nll nl0)) nl0)))) rn0)) Qas (slc .tok Qas) (Zcy rfl (Qa0 Qaf _)) rfl rfl rfl),awk (rd':=(.func 76,(.fn (.func 76) [] []))::[(.tmp 11,(.dat 4 (x12.map Qac)))]) ⟨rfl,lrf,rfl,Less.acc,tv⟩ (apv Q4p (Qnh N x12 _ hf13) (nlc (nld Qaf _) nl0) (NLt.agg _ (nlcc (nlcc nl0)))),tv⟩ ?_
  obtain⟨k15,hk_k15,h⟩:=jko h
  refine wjn (τ:=Unit) (fun t=>k15 t=some r) (fun _=>⟨mk 43 [(0,.ref 0 7 0 0),(1,I p0),(6,.ref 4 4 0 0)],[(Qh3 p2 p3 p4 p5 p6 p7 p8),(Qg5 p9),(Qi7 p10),(.own 1 (p11.map Qad)),(Qt6 x14)]⟩) (fun t h=>?_) ?_
  ·subst hk_k15
   refine wx tbk [(0,rp [fu 117,fu 117,fu 118,fu 119,fu 120,fu 117] (.agg [(.lit .nilFunc),(.fn (.func 117) [] []),(.fn (.func 117) [] []),(.fn (.func 118) [] []),(.fn (.func 119) [] []),(.fn (.func 120) [] []),(.fn (.func 117) [] [])]))] ⟨Qui (vs:=[(.fn (.func 117) [] []),(.fn (.func 117) [] []),(.fn (.func 118) [] []),(.fn (.func 119) [] []),(.fn (.func 120) [] []),(.fn (.func 117) [] [])]) rfl underlying209 Qr5 Zqq rfl (by rfl) rfl,tv⟩ ?_
   obtain⟨x16,hg17,h⟩:=bno h
   obtain⟨hi18,hj19⟩:=gsm hg17
   refine bfe h (fun hb20 h=>?_) fun hb20 h=>?_
   ·cases h
   ·refine bfe h (fun hb21 h=>?_) fun hb21 h=>?_
    ·obtain⟨x23,hf22,h⟩:=bno h
     obtain⟨hi24,h⟩:=cko h
     obtain⟨hi24a,hi24b⟩:=Qea hi24
     obtain⟨x25,hg26,h⟩:=bno h
     refine Qoc 0 (.own 7 [[(.dat 5 (p2.map Qav)),(Qmg p3),(.own 1 1 (0) p4),(.own 2 4 (0) p5),(.own 3 1 (0) p6),(Qu9 p7),I p8]]) [mv 0 (.ref 0 7 0 0),⟨[(.tmp 21,.ref 0 7 0 0)],[],.ref 0 7 0 0,[],false⟩,⟨[(.tmp 22,.ref 0 7 0 0)],[],.ref 0 7 0 2,[],false⟩,⟨[(.tmp 23,.ref 0 7 0 2)],[],.ref 0 7 0 2,[],false⟩,⟨[(.tmp 24,.ref 0 7 0 2)],[],(.own 1 1 (0) p4),[],false⟩,mv 1 (I p0),mv 0 (.ref 0 7 0 0),⟨[(.tmp 27,.ref 0 7 0 0)],[],.ref 0 7 0 0,[],false⟩,⟨[(.tmp 28,.ref 0 7 0 0)],[],.ref 0 7 0 0,[],false⟩,⟨[(.tmp 29,.ref 0 7 0 0)],[],.ref 0 7 0 1,[],false⟩,⟨[(.tmp 30,.ref 0 7 0 1)],[],(Qmg p3),[],false⟩,mv 1 (I p0),rp [(.tmp 31,(Qmg p3)),(.tmp 32,I p0)] (.dptr (Qal x16) 0),mv 33 (.dptr (Qal x16) 0),rp [(.tmp 34,(.dptr (Qal x16) 0))] (K .u8 x16.Kind),rb [(.tmp 7,.ref 5 7 0 0),(.tmp 35,(K .u8 x16.Kind))] [(5,Qov)] (.ref 5 7 0 1),rb [(.tmp 36,.ref 5 7 0 1)] [(5,Qov)] (.fn (.func 117) [] []),mv 0 (.ref 0 7 0 0),mv 1 (I p0),rb [(.tmp 6,.ref 4 4 0 0)] [(4,(Qt6 x14))] (Qju x14),⟨[(.tmp 37,(.fn (.func 117) [] [])),(.tmp 38,.ref 0 7 0 0),(.tmp 39,I p0),(.tmp 40,(Qju x14))],[(0,(Qh3 p2 p3 p4 p5 p6 p7 p8)),(1,(Qg5 p9)),(2,(Qi7 p10)),(3,(.own 1 (p11.map Qad)))],(.dat 4 (x23.map Qac)),[(0,(Qh3 p2 p3 p4 p5 p6 p7 p8)),(1,(Qg5 p9)),(2,(Qi7 p10)),(3,(.own 1 (p11.map Qad)))],false⟩,rb [(.tmp 25,(.own 1 1 (0) p4)),(.tmp 26,I p0)] [(1,(Qg5 p9))] (.ref 1 1 p0.toNat 0),⟨[(.tmp 42,(.ref 1 1 p0.toNat 0)),(.tmp 41,(.dat 4 (x23.map Qac)))],[(1,(Qg5 p9))],.any,[(1,(.own 1 ((p9.set p0.toNat x23:List (List Qaa)).map Qae)))],false⟩] (SImp.box ⟨lrf,lrf,lrf,lrf,lrf,lrf,lrf,tv⟩) ⟨tv,tv,tv,tv,tv,tv,tv,tv,tv,tv,tv,tv,tv,tv,tv,tv,tv,tv,tv,tv,⟨(SImp.box ⟨lrf,lrf,lrf,lrf,lrf,lrf,lrf,tv⟩),tv,tv,tv,tv⟩,tv,⟨tv,tv⟩,tv⟩ ?_ ?_
     ·exact⟨hr_ (amv rfl),sf_ (Qbu rfl),sf_ (afa rfl underlying140 rfl rfl ti34 (by decide) rfl),sf_ (afa rfl underlying34 rfl rfl ti31 (by decide) rfl),sf_ (ald rfl ti31 (by decide) rfl (nle rfl) rfl),hr_ (amv rfl),hr_ (amv rfl),sf_ (Qbu rfl),sf_ (afa rfl underlying140 rfl rfl ti42 (by decide) rfl),sf_ (afa rfl underlying42 rfl rfl ti40 (by decide) rfl),sf_ (ald rfl ti40 (by decide) rfl (nle rfl) rfl),hr_ (amv rfl),hr_ (aiq underlying40 Qmk Qal hi18 hj19),hr_ (afd rfl underlying133 rfl rfl ti5 (by decide) rfl),hr_ (ald_ rfl ti5 (by decide) (nle rfl) rfl),hr_ (Qme hb21 (Qmf rfl underlying209 Qr5 (by decide) (by decide) rfl)),hr_ (ald rfl Qr5 (by decide) rfl (nle rfl) rfl),hr_ (amv rfl),hr_ (amv rfl),hr_ (ald rfl ti63 (by decide) rfl (nle rfl) rfl),hr_ (Qat (first:=[]) (cap:=[]) (vs:=[.ref 0 7 0 0,I p0,(Qju x14)]) (σr:=[(Qh3 p2 p3 p4 p5 p6 p7 p8),(Qg5 p9),(Qi7 p10),(.own 1 (p11.map Qad))]) (σr':=[(Qh3 p2 p3 p4 p5 p6 p7 p8),(Qg5 p9),(Qi7 p10),(.own 1 (p11.map Qad))]) (res':=(.dat 4 (x23.map Qac))) [0,1,2,3] rfl Qz9 (Qi4 N p0 x14 p2 p3 p4 p5 p6 p7 p8 p9 p10 p11 _ hf22) rfl (Qbq (rnc (Qa4 rfl) (rnc (.plain _ nll) (rnc (.plain _ (NLt.agg _ (nlcc (nlcc nl0)))) rn0)))) (slc (Qan (rnc (pld Qao) (rnc (pld Qab) (rnc (Qds rfl) (rnc (Qds rfl) (rnc (Qds rfl) (rnc (pld Qaf) (rnc (.plain _ nll) rn0)))))))) (slc (Qbm Qai) (slc (Qbm Qa2) (slc (Qbm Qag) Qas)))) (slc (Qan (rnc (pld Qao) (rnc (pld Qab) (rnc (Qdt rfl) (rnc (Qdt rfl) (rnc (Qdt rfl) (rnc (pld Qaf) (rnc (.plain _ nll) rn0)))))))) (slc (Qbm Qai) (slc (Qbm Qa2) (slc (Qbm Qag) Qas)))) (pld Qaf) rfl rfl rfl),hr_ (aio rfl underlying31 ti45 (odt hi24a) (odt hi24b) (Nat.zero_add _)),hr_ (ast rfl ti45 (by rfl) (mgt Qae hg26) (nle rfl) (Qhk Qae rfl)),tv⟩
     obtain rfl:=osi h
     exact⟨_,(mto (n:=43) (l':=[]) (own':=[(Qh3 p2 p3 p4 p5 p6 p7 p8),(.own 1 (((p9.set p0.toNat x23):List (List Qaa)).map Qae)),(Qi7 p10),(.own 1 (p11.map Qad))]) [] [0,1,2,3] [(Qh3 p2 p3 p4 p5 p6 p7 p8),(.own 1 ((p9.set p0.toNat x23:List (List Qaa)).map Qae)),(Qi7 p10),(.own 1 (p11.map Qad))] hφ0 pn (qb (lc (rnd Qao) (lc (rnd Qab) (lc (.rn (Qa7 rfl)) (lc (.rn (Qa7 rfl)) (lc (.rn (Qa7 rfl)) (lc (rnd Qaf) (lc rwl ln))))))) (qc (spr Qai) (qc (spr Qa2) (qc (spr Qag) qn))))),Qnb (vs:=[]) tv rfl (NLt.tup _ nl0) (by kernel_rfl) (Qar (Qa8 (nlc (NLt.of0 (nld Qao _)) (nlc (NLt.of0 (nld Qab _)) (nlc (NLt.own _ _ _ _ (by decide)) (nlc (NLt.own _ _ _ _ (by decide)) (nlc (NLt.own _ _ _ _ (by decide)) (nlc (NLt.of0 (nld Qaf _)) (nlc (NLt.of0 nll) nl0)))))))) (Qar (Qcw Qai _) (Qar (Qcw Qa2 _) (Qar (Qcw Qag _) Qbx))))⟩
    ·refine bfe h (fun hb27 h=>?_) fun hb27 h=>?_
     ·obtain⟨x29,hf28,h⟩:=bno h
      obtain⟨hi30,h⟩:=cko h
      obtain⟨hi30a,hi30b⟩:=Qea hi30
      obtain⟨x31,hg32,h⟩:=bno h
      refine Qoc 0 (.own 7 [[(.dat 5 (p2.map Qav)),(Qmg p3),(.own 1 1 (0) p4),(.own 2 4 (0) p5),(.own 3 1 (0) p6),(Qu9 p7),I p8]]) [mv 0 (.ref 0 7 0 0),⟨[(.tmp 21,.ref 0 7 0 0)],[],.ref 0 7 0 0,[],false⟩,⟨[(.tmp 22,.ref 0 7 0 0)],[],.ref 0 7 0 2,[],false⟩,⟨[(.tmp 23,.ref 0 7 0 2)],[],.ref 0 7 0 2,[],false⟩,⟨[(.tmp 24,.ref 0 7 0 2)],[],(.own 1 1 (0) p4),[],false⟩,mv 1 (I p0),mv 0 (.ref 0 7 0 0),⟨[(.tmp 27,.ref 0 7 0 0)],[],.ref 0 7 0 0,[],false⟩,⟨[(.tmp 28,.ref 0 7 0 0)],[],.ref 0 7 0 0,[],false⟩,⟨[(.tmp 29,.ref 0 7 0 0)],[],.ref 0 7 0 1,[],false⟩,⟨[(.tmp 30,.ref 0 7 0 1)],[],(Qmg p3),[],false⟩,mv 1 (I p0),rp [(.tmp 31,(Qmg p3)),(.tmp 32,I p0)] (.dptr (Qal x16) 0),mv 33 (.dptr (Qal x16) 0),rp [(.tmp 34,(.dptr (Qal x16) 0))] (K .u8 x16.Kind),rb [(.tmp 7,.ref 5 7 0 0),(.tmp 35,(K .u8 x16.Kind))] [(5,Qov)] (.ref 5 7 0 2),rb [(.tmp 36,.ref 5 7 0 2)] [(5,Qov)] (.fn (.func 117) [] []),mv 0 (.ref 0 7 0 0),mv 1 (I p0),rb [(.tmp 6,.ref 4 4 0 0)] [(4,(Qt6 x14))] (Qju x14),⟨[(.tmp 37,(.fn (.func 117) [] [])),(.tmp 38,.ref 0 7 0 0),(.tmp 39,I p0),(.tmp 40,(Qju x14))],[(0,(Qh3 p2 p3 p4 p5 p6 p7 p8)),(1,(Qg5 p9)),(2,(Qi7 p10)),(3,(.own 1 (p11.map Qad)))],(.dat 4 (x29.map Qac)),[(0,(Qh3 p2 p3 p4 p5 p6 p7 p8)),(1,(Qg5 p9)),(2,(Qi7 p10)),(3,(.own 1 (p11.map Qad)))],false⟩,rb [(.tmp 25,(.own 1 1 (0) p4)),(.tmp 26,I p0)] [(1,(Qg5 p9))] (.ref 1 1 p0.toNat 0),⟨[(.tmp 42,(.ref 1 1 p0.toNat 0)),(.tmp 41,(.dat 4 (x29.map Qac)))],[(1,(Qg5 p9))],.any,[(1,(.own 1 ((p9.set p0.toNat x29:List (List Qaa)).map Qae)))],false⟩] (SImp.box ⟨lrf,lrf,lrf,lrf,lrf,lrf,lrf,tv⟩) ⟨tv,tv,tv,tv,tv,tv,tv,tv,tv,tv,tv,tv,tv,tv,tv,tv,tv,tv,tv,tv,⟨(SImp.box ⟨lrf,lrf,lrf,lrf,lrf,lrf,lrf,tv⟩),tv,tv,tv,tv⟩,tv,⟨tv,tv⟩,tv⟩ ?_ ?_
      ·exact⟨hr_ (amv rfl),sf_ (Qbu rfl),sf_ (afa rfl underlying140 rfl rfl ti34 (by decide) rfl),sf_ (afa rfl underlying34 rfl rfl ti31 (by decide) rfl),sf_ (ald rfl ti31 (by decide) rfl (nle rfl) rfl),hr_ (amv rfl),hr_ (amv rfl),sf_ (Qbu rfl),sf_ (afa rfl underlying140 rfl rfl ti42 (by decide) rfl),sf_ (afa rfl underlying42 rfl rfl ti40 (by decide) rfl),sf_ (ald rfl ti40 (by decide) rfl (nle rfl) rfl),hr_ (amv rfl),hr_ (aiq underlying40 Qmk Qal hi18 hj19),hr_ (afd rfl underlying133 rfl rfl ti5 (by decide) rfl),hr_ (ald_ rfl ti5 (by decide) (nle rfl) rfl),hr_ (Qme hb27 (Qmf rfl underlying209 Qr5 (by decide) (by decide) rfl)),hr_ (ald rfl Qr5 (by decide) rfl (nle rfl) rfl),hr_ (amv rfl),hr_ (amv rfl),hr_ (ald rfl ti63 (by decide) rfl (nle rfl) rfl),hr_ (Qat (first:=[]) (cap:=[]) (vs:=[.ref 0 7 0 0,I p0,(Qju x14)]) (σr:=[(Qh3 p2 p3 p4 p5 p6 p7 p8),(Qg5 p9),(Qi7 p10),(.own 1 (p11.map Qad))]) (σr':=[(Qh3 p2 p3 p4 p5 p6 p7 p8),(Qg5 p9),(Qi7 p10),(.own 1 (p11.map Qad))]) (res':=(.dat 4 (x29.map Qac))) [0,1,2,3] rfl Qz9 (Qi4 N p0 x14 p2 p3 p4 p5 p6 p7 p8 p9 p10 p11 _ hf28) rfl (Qbq (rnc (Qa4 rfl) (rnc (.plain _ nll) (rnc (.plain _ (NLt.agg _ (nlcc (nlcc nl0)))) rn0)))) (slc (Qan (rnc (pld Qao) (rnc (pld Qab) (rnc (Qds rfl) (rnc (Qds rfl) (rnc (Qds rfl) (rnc (pld Qaf) (rnc (.plain _ nll) rn0)))))))) (slc (Qbm Qai) (slc (Qbm Qa2) (slc (Qbm Qag) Qas)))) (slc (Qan (rnc (pld Qao) (rnc (pld Qab) (rnc (Qdt rfl) (rnc (Qdt rfl) (rnc (Qdt rfl) (rnc (pld Qaf) (rnc (.plain _ nll) rn0)))))))) (slc (Qbm Qai) (slc (Qbm Qa2) (slc (Qbm Qag) Qas)))) (pld Qaf) rfl rfl rfl),hr_ (aio rfl underlying31 ti45 (odt hi30a) (odt hi30b) (Nat.zero_add _)),hr_ (ast rfl ti45 (by rfl) (mgt Qae hg32) (nle rfl) (Qhk Qae rfl)),tv⟩
      obtain rfl:=osi h
      exact⟨_,(mto (n:=43) (l':=[]) (own':=[(Qh3 p2 p3 p4 p5 p6 p7 p8),(.own 1 (((p9.set p0.toNat x29):List (List Qaa)).map Qae)),(Qi7 p10),(.own 1 (p11.map Qad))]) [] [0,1,2,3] [(Qh3 p2 p3 p4 p5 p6 p7 p8),(.own 1 ((p9.set p0.toNat x29:List (List Qaa)).map Qae)),(Qi7 p10),(.own 1 (p11.map Qad))] hφ0 pn (qb (lc (rnd Qao) (lc (rnd Qab) (lc (.rn (Qa7 rfl)) (lc (.rn (Qa7 rfl)) (lc (.rn (Qa7 rfl)) (lc (rnd Qaf) (lc rwl ln))))))) (qc (spr Qai) (qc (spr Qa2) (qc (spr Qag) qn))))),Qnb (vs:=[]) tv rfl (NLt.tup _ nl0) (by kernel_rfl) (Qar (Qa8 (nlc (NLt.of0 (nld Qao _)) (nlc (NLt.of0 (nld Qab _)) (nlc (NLt.own _ _ _ _ (by decide)) (nlc (NLt.own _ _ _ _ (by decide)) (nlc (NLt.own _ _ _ _ (by decide)) (nlc (NLt.of0 (nld Qaf _)) (nlc (NLt.of0 nll) nl0)))))))) (Qar (Qcw Qai _) (Qar (Qcw Qa2 _) (Qar (Qcw Qag _) Qbx))))⟩
     ·refine bfe h (fun hb33 h=>?_) fun hb33 h=>?_
      ·obtain⟨x35,hf34,h⟩:=bno h
       obtain⟨hi36,h⟩:=cko h
       obtain⟨hi36a,hi36b⟩:=Qea hi36
       obtain⟨x37,hg38,h⟩:=bno h
       refine Qoc 0 (.own 7 [[(.dat 5 (p2.map Qav)),(Qmg p3),(.own 1 1 (0) p4),(.own 2 4 (0) p5),(.own 3 1 (0) p6),(Qu9 p7),I p8]]) [mv 0 (.ref 0 7 0 0),⟨[(.tmp 21,.ref 0 7 0 0)],[],.ref 0 7 0 0,[],false⟩,⟨[(.tmp 22,.ref 0 7 0 0)],[],.ref 0 7 0 2,[],false⟩,⟨[(.tmp 23,.ref 0 7 0 2)],[],.ref 0 7 0 2,[],false⟩,⟨[(.tmp 24,.ref 0 7 0 2)],[],(.own 1 1 (0) p4),[],false⟩,mv 1 (I p0),mv 0 (.ref 0 7 0 0),⟨[(.tmp 27,.ref 0 7 0 0)],[],.ref 0 7 0 0,[],false⟩,⟨[(.tmp 28,.ref 0 7 0 0)],[],.ref 0 7 0 0,[],false⟩,⟨[(.tmp 29,.ref 0 7 0 0)],[],.ref 0 7 0 1,[],false⟩,⟨[(.tmp 30,.ref 0 7 0 1)],[],(Qmg p3),[],false⟩,mv 1 (I p0),rp [(.tmp 31,(Qmg p3)),(.tmp 32,I p0)] (.dptr (Qal x16) 0),mv 33 (.dptr (Qal x16) 0),rp [(.tmp 34,(.dptr (Qal x16) 0))] (K .u8 x16.Kind),rb [(.tmp 7,.ref 5 7 0 0),(.tmp 35,(K .u8 x16.Kind))] [(5,Qov)] (.ref 5 7 0 3),rb [(.tmp 36,.ref 5 7 0 3)] [(5,Qov)] (.fn (.func 118) [] []),mv 0 (.ref 0 7 0 0),mv 1 (I p0),rb [(.tmp 6,.ref 4 4 0 0)] [(4,(Qt6 x14))] (Qju x14),⟨[(.tmp 37,(.fn (.func 118) [] [])),(.tmp 38,.ref 0 7 0 0),(.tmp 39,I p0),(.tmp 40,(Qju x14))],[(0,(Qh3 p2 p3 p4 p5 p6 p7 p8)),(1,(Qg5 p9)),(2,(Qi7 p10)),(3,(.own 1 (p11.map Qad)))],(.dat 4 (x35.1.map Qac)),[(0,(Qh3 p2 p3 p4 p5 p6 p7 p8)),(1,(Qg5 p9)),(2,(.own 4 (x35.2.map Qax))),(3,(.own 1 (p11.map Qad)))],false⟩,rb [(.tmp 25,(.own 1 1 (0) p4)),(.tmp 26,I p0)] [(1,(Qg5 p9))] (.ref 1 1 p0.toNat 0),⟨[(.tmp 42,(.ref 1 1 p0.toNat 0)),(.tmp 41,(.dat 4 (x35.1.map Qac)))],[(1,(Qg5 p9))],.any,[(1,(.own 1 ((p9.set p0.toNat x35.1:List (List Qaa)).map Qae)))],false⟩] (SImp.box ⟨lrf,lrf,lrf,lrf,lrf,lrf,lrf,tv⟩) ⟨tv,tv,tv,tv,tv,tv,tv,tv,tv,tv,tv,tv,tv,tv,tv,tv,tv,tv,tv,tv,⟨(SImp.box ⟨lrf,lrf,lrf,lrf,lrf,lrf,lrf,tv⟩),tv,tv,tv,tv⟩,tv,⟨tv,tv⟩,tv⟩ ?_ ?_
       ·exact⟨hr_ (amv rfl),sf_ (Qbu rfl),sf_ (afa rfl underlying140 rfl rfl ti34 (by decide) rfl),sf_ (afa rfl underlying34 rfl rfl ti31 (by decide) rfl),sf_ (ald rfl ti31 (by decide) rfl (nle rfl) rfl),hr_ (amv rfl),hr_ (amv rfl),sf_ (Qbu rfl),sf_ (afa rfl underlying140 rfl rfl ti42 (by decide) rfl),sf_ (afa rfl underlying42 rfl rfl ti40 (by decide) rfl),sf_ (ald rfl ti40 (by decide) rfl (nle rfl) rfl),hr_ (amv rfl),hr_ (aiq underlying40 Qmk Qal hi18 hj19),hr_ (afd rfl underlying133 rfl rfl ti5 (by decide) rfl),hr_ (ald_ rfl ti5 (by decide) (nle rfl) rfl),hr_ (Qme hb33 (Qmf rfl underlying209 Qr5 (by decide) (by decide) rfl)),hr_ (ald rfl Qr5 (by decide) rfl (nle rfl) rfl),hr_ (amv rfl),hr_ (amv rfl),hr_ (ald rfl ti63 (by decide) rfl (nle rfl) rfl),hr_ (Qat (first:=[]) (cap:=[]) (vs:=[.ref 0 7 0 0,I p0,(Qju x14)]) (σr:=[(Qh3 p2 p3 p4 p5 p6 p7 p8),(Qg5 p9),(Qi7 p10),(.own 1 (p11.map Qad))]) (σr':=[(Qh3 p2 p3 p4 p5 p6 p7 p8),(Qg5 p9),(.own 4 (x35.2.map Qax)),(.own 1 (p11.map Qad))]) (res':=(.dat 4 (x35.1.map Qac))) [0,1,2,3] rfl Zis (Qqg N p0 x14 p2 p3 p4 p5 p6 p7 p8 p9 p10 p11 _ hf34) rfl (Qbq (rnc (Qa4 rfl) (rnc (.plain _ nll) (rnc (.plain _ (NLt.agg _ (nlcc (nlcc nl0)))) rn0)))) (slc (Qan (rnc (pld Qao) (rnc (pld Qab) (rnc (Qds rfl) (rnc (Qds rfl) (rnc (Qds rfl) (rnc (pld Qaf) (rnc (.plain _ nll) rn0)))))))) (slc (Qbm Qai) (slc (Qbm Qa2) (slc (Qbm Qag) Qas)))) (slc (Qan (rnc (pld Qao) (rnc (pld Qab) (rnc (Qdt rfl) (rnc (Qdt rfl) (rnc (Qdt rfl) (rnc (pld Qaf) (rnc (.plain _ nll) rn0)))))))) (slc (Qbm Qai) (slc (Qbm Qa2) (slc (Qbm Qag) Qas)))) (pld Qaf) rfl rfl rfl),hr_ (aio rfl underlying31 ti45 (odt hi36a) (odt hi36b) (Nat.zero_add _)),hr_ (ast rfl ti45 (by rfl) (mgt Qae hg38) (nle rfl) (Qhk Qae rfl)),tv⟩
       obtain rfl:=osi h
       exact⟨_,(mto (n:=43) (l':=[]) (own':=[(Qh3 p2 p3 p4 p5 p6 p7 p8),(.own 1 (((p9.set p0.toNat x35.1):List (List Qaa)).map Qae)),(.own 4 (x35.2.map Qax)),(.own 1 (p11.map Qad))]) [] [0,1,2,3] [(Qh3 p2 p3 p4 p5 p6 p7 p8),(.own 1 ((p9.set p0.toNat x35.1:List (List Qaa)).map Qae)),(.own 4 (x35.2.map Qax)),(.own 1 (p11.map Qad))] hφ0 pn (qb (lc (rnd Qao) (lc (rnd Qab) (lc (.rn (Qa7 rfl)) (lc (.rn (Qa7 rfl)) (lc (.rn (Qa7 rfl)) (lc (rnd Qaf) (lc rwl ln))))))) (qc (spr Qai) (qc (spr Qa2) (qc (spr Qag) qn))))),Qnb (vs:=[]) tv rfl (NLt.tup _ nl0) (by kernel_rfl) (Qar (Qa8 (nlc (NLt.of0 (nld Qao _)) (nlc (NLt.of0 (nld Qab _)) (nlc (NLt.own _ _ _ _ (by decide)) (nlc (NLt.own _ _ _ _ (by decide)) (nlc (NLt.own _ _ _ _ (by decide)) (nlc (NLt.of0 (nld Qaf _)) (nlc (NLt.of0 nll) nl0)))))))) (Qar (Qcw Qai _) (Qar (Qcw Qa2 _) (Qar (Qcw Qag _) Qbx))))⟩
      ·refine bfe h (fun hb39 h=>?_) fun hb39 h=>?_
       ·obtain⟨x41,hf40,h⟩:=bno h
        obtain⟨hi42,h⟩:=cko h
        obtain⟨hi42a,hi42b⟩:=Qea hi42
        obtain⟨x43,hg44,h⟩:=bno h
        refine Qoc 0 (.own 7 [[(.dat 5 (p2.map Qav)),(Qmg p3),(.own 1 1 (0) p4),(.own 2 4 (0) p5),(.own 3 1 (0) p6),(Qu9 p7),.any]]) [mv 0 (.ref 0 7 0 0),⟨[(.tmp 21,.ref 0 7 0 0)],[],.ref 0 7 0 0,[],false⟩,⟨[(.tmp 22,.ref 0 7 0 0)],[],.ref 0 7 0 2,[],false⟩,⟨[(.tmp 23,.ref 0 7 0 2)],[],.ref 0 7 0 2,[],false⟩,⟨[(.tmp 24,.ref 0 7 0 2)],[],(.own 1 1 (0) p4),[],false⟩,mv 1 (I p0),mv 0 (.ref 0 7 0 0),⟨[(.tmp 27,.ref 0 7 0 0)],[],.ref 0 7 0 0,[],false⟩,⟨[(.tmp 28,.ref 0 7 0 0)],[],.ref 0 7 0 0,[],false⟩,⟨[(.tmp 29,.ref 0 7 0 0)],[],.ref 0 7 0 1,[],false⟩,⟨[(.tmp 30,.ref 0 7 0 1)],[],(Qmg p3),[],false⟩,mv 1 (I p0),rp [(.tmp 31,(Qmg p3)),(.tmp 32,I p0)] (.dptr (Qal x16) 0),mv 33 (.dptr (Qal x16) 0),rp [(.tmp 34,(.dptr (Qal x16) 0))] (K .u8 x16.Kind),rb [(.tmp 7,.ref 5 7 0 0),(.tmp 35,(K .u8 x16.Kind))] [(5,Qov)] (.ref 5 7 0 4),rb [(.tmp 36,.ref 5 7 0 4)] [(5,Qov)] (.fn (.func 119) [] []),mv 0 (.ref 0 7 0 0),mv 1 (I p0),rb [(.tmp 6,.ref 4 4 0 0)] [(4,(Qt6 x14))] (Qju x14),⟨[(.tmp 37,(.fn (.func 119) [] [])),(.tmp 38,.ref 0 7 0 0),(.tmp 39,I p0),(.tmp 40,(Qju x14))],[(0,(Qh3 p2 p3 p4 p5 p6 p7 p8)),(1,(Qg5 p9)),(2,(Qi7 p10)),(3,(.own 1 (p11.map Qad)))],(.dat 4 (x41.1.map Qac)),[(0,(Q5t p2 p3 p4 p5 p6 p7 x41)),(1,(Qg5 p9)),(2,(.own 4 (x41.2.2.1.map Qax))),(3,(.own 1 (x41.2.2.2.map Qad)))],false⟩,rb [(.tmp 25,(.own 1 1 (0) p4)),(.tmp 26,I p0)] [(1,(Qg5 p9))] (.ref 1 1 p0.toNat 0),⟨[(.tmp 42,(.ref 1 1 p0.toNat 0)),(.tmp 41,(.dat 4 (x41.1.map Qac)))],[(1,(Qg5 p9))],.any,[(1,(.own 1 ((p9.set p0.toNat x41.1:List (List Qaa)).map Qae)))],false⟩] (SImp.box ⟨lrf,lrf,lrf,lrf,lrf,lrf,Less.any,tv⟩) ⟨tv,tv,tv,tv,tv,tv,tv,tv,tv,tv,tv,tv,tv,tv,tv,tv,tv,tv,tv,tv,⟨(SImp.box ⟨lrf,lrf,lrf,lrf,lrf,lrf,Less.any,tv⟩),tv,tv,tv,tv⟩,tv,⟨tv,tv⟩,tv⟩ ?_ ?_
        ·exact⟨hr_ (amv rfl),sf_ (Qbu rfl),sf_ (afa rfl underlying140 rfl rfl ti34 (by decide) rfl),sf_ (afa rfl underlying34 rfl rfl ti31 (by decide) rfl),sf_ (ald rfl ti31 (by decide) rfl (nle rfl) rfl),hr_ (amv rfl),hr_ (amv rfl),sf_ (Qbu rfl),sf_ (afa rfl underlying140 rfl rfl ti42 (by decide) rfl),sf_ (afa rfl underlying42 rfl rfl ti40 (by decide) rfl),sf_ (ald rfl ti40 (by decide) rfl (nle rfl) rfl),hr_ (amv rfl),hr_ (aiq underlying40 Qmk Qal hi18 hj19),hr_ (afd rfl underlying133 rfl rfl ti5 (by decide) rfl),hr_ (ald_ rfl ti5 (by decide) (nle rfl) rfl),hr_ (Qme hb39 (Qmf rfl underlying209 Qr5 (by decide) (by decide) rfl)),hr_ (ald rfl Qr5 (by decide) rfl (nle rfl) rfl),hr_ (amv rfl),hr_ (amv rfl),hr_ (ald rfl ti63 (by decide) rfl (nle rfl) rfl),hr_ (Qat (first:=[]) (cap:=[]) (vs:=[.ref 0 7 0 0,I p0,(Qju x14)]) (σr:=[(Qh3 p2 p3 p4 p5 p6 p7 p8),(Qg5 p9),(Qi7 p10),(.own 1 (p11.map Qad))]) (σr':=[(Q5t p2 p3 p4 p5 p6 p7 x41),(Qg5 p9),(.own 4 (x41.2.2.1.map Qax)),(.own 1 (x41.2.2.2.map Qad))]) (res':=(.dat 4 (x41.1.map Qac))) [0,1,2,3] rfl Zir (Qn1 N p0 x14 p2 p3 p4 p5 p6 p7 p8 p9 p10 p11 _ hf40) rfl (Qbq (rnc (Qa4 rfl) (rnc (.plain _ nll) (rnc (.plain _ (NLt.agg _ (nlcc (nlcc nl0)))) rn0)))) (slc (Qan (rnc (pld Qao) (rnc (pld Qab) (rnc (Qds rfl) (rnc (Qds rfl) (rnc (Qds rfl) (rnc (pld Qaf) (rnc (.plain _ nll) rn0)))))))) (slc (Qbm Qai) (slc (Qbm Qa2) (slc (Qbm Qag) Qas)))) (slc (Qan (rnc (pld Qao) (rnc (pld Qab) (rnc (Qdt rfl) (rnc (Qdt rfl) (rnc (Qdt rfl) (rnc (pld Qaf) (rnc (.plain _ nll) rn0)))))))) (slc (Qbm Qai) (slc (Qbm Qa2) (slc (Qbm Qag) Qas)))) (pld Qaf) rfl rfl rfl),hr_ (aio rfl underlying31 ti45 (odt hi42a) (odt hi42b) (Nat.zero_add _)),hr_ (ast rfl ti45 (by rfl) (mgt Qae hg44) (nle rfl) (Qhk Qae rfl)),tv⟩
        obtain rfl:=osi h
        exact⟨_,(mto (n:=43) (l':=[]) (own':=[(Q5t p2 p3 p4 p5 p6 p7 x41),(.own 1 (((p9.set p0.toNat x41.1):List (List Qaa)).map Qae)),(.own 4 (x41.2.2.1.map Qax)),(.own 1 (x41.2.2.2.map Qad))]) [] [0,1,2,3] [(Q5t p2 p3 p4 p5 p6 p7 x41),(.own 1 ((p9.set p0.toNat x41.1:List (List Qaa)).map Qae)),(.own 4 (x41.2.2.1.map Qax)),(.own 1 (x41.2.2.2.map Qad))] hφ0 pn (qb (lc (rnd Qao) (lc (rnd Qab) (lc (.rn (Qa7 rfl)) (lc (.rn (Qa7 rfl)) (lc (.rn (Qa7 rfl)) (lc (rnd Qaf) (lc rwl ln))))))) (qc (spr Qai) (qc (spr Qa2) (qc (spr Qag) qn))))),Qnb (vs:=[]) tv rfl (NLt.tup _ nl0) (by kernel_rfl) (Qar (Qa8 (nlc (NLt.of0 (nld Qao _)) (nlc (NLt.of0 (nld Qab _)) (nlc (NLt.own _ _ _ _ (by decide)) (nlc (NLt.own _ _ _ _ (by decide)) (nlc (NLt.own _ _ _ _ (by decide)) (nlc (NLt.of0 (nld Qaf _)) (nlc (NLt.of0 nll) nl0)))))))) (Qar (Qcw Qai _) (Qar (Qcw Qa2 _) (Qar (Qcw Qag _) Qbx))))⟩
       ·refine bfe h (fun hb45 h=>?_) fun hb45 h=>?_
        ·obtain⟨x47,hf46,h⟩:=bno h
         obtain⟨hi48,h⟩:=cko h
         obtain⟨hi48a,hi48b⟩:=Qea hi48
         obtain⟨x49,hg50,h⟩:=bno h
         refine Qoc 0 (.own 7 [[(.dat 5 (p2.map Qav)),(Qmg p3),(.own 1 1 (0) p4),(.own 2 4 (0) p5),(.own 3 1 (0) p6),(Qu9 p7),I p8]]) [mv 0 (.ref 0 7 0 0),⟨[(.tmp 21,.ref 0 7 0 0)],[],.ref 0 7 0 0,[],false⟩,⟨[(.tmp 22,.ref 0 7 0 0)],[],.ref 0 7 0 2,[],false⟩,⟨[(.tmp 23,.ref 0 7 0 2)],[],.ref 0 7 0 2,[],false⟩,⟨[(.tmp 24,.ref 0 7 0 2)],[],(.own 1 1 (0) p4),[],false⟩,mv 1 (I p0),mv 0 (.ref 0 7 0 0),⟨[(.tmp 27,.ref 0 7 0 0)],[],.ref 0 7 0 0,[],false⟩,⟨[(.tmp 28,.ref 0 7 0 0)],[],.ref 0 7 0 0,[],false⟩,⟨[(.tmp 29,.ref 0 7 0 0)],[],.ref 0 7 0 1,[],false⟩,⟨[(.tmp 30,.ref 0 7 0 1)],[],(Qmg p3),[],false⟩,mv 1 (I p0),rp [(.tmp 31,(Qmg p3)),(.tmp 32,I p0)] (.dptr (Qal x16) 0),mv 33 (.dptr (Qal x16) 0),rp [(.tmp 34,(.dptr (Qal x16) 0))] (K .u8 x16.Kind),rb [(.tmp 7,.ref 5 7 0 0),(.tmp 35,(K .u8 x16.Kind))] [(5,Qov)] (.ref 5 7 0 5),rb [(.tmp 36,.ref 5 7 0 5)] [(5,Qov)] (.fn (.func 120) [] []),mv 0 (.ref 0 7 0 0),mv 1 (I p0),rb [(.tmp 6,.ref 4 4 0 0)] [(4,(Qt6 x14))] (Qju x14),⟨[(.tmp 37,(.fn (.func 120) [] [])),(.tmp 38,.ref 0 7 0 0),(.tmp 39,I p0),(.tmp 40,(Qju x14))],[(0,(Qh3 p2 p3 p4 p5 p6 p7 p8)),(1,(Qg5 p9)),(2,(Qi7 p10)),(3,(.own 1 (p11.map Qad)))],(.dat 4 (x47.1.map Qac)),[(0,(Qh3 p2 p3 p4 p5 p6 p7 p8)),(1,(Qg5 p9)),(2,(.own 4 (x47.2.map Qax))),(3,(.own 1 (p11.map Qad)))],false⟩,rb [(.tmp 25,(.own 1 1 (0) p4)),(.tmp 26,I p0)] [(1,(Qg5 p9))] (.ref 1 1 p0.toNat 0),⟨[(.tmp 42,(.ref 1 1 p0.toNat 0)),(.tmp 41,(.dat 4 (x47.1.map Qac)))],[(1,(Qg5 p9))],.any,[(1,(.own 1 ((p9.set p0.toNat x47.1:List (List Qaa)).map Qae)))],false⟩] (SImp.box ⟨lrf,lrf,lrf,lrf,lrf,lrf,lrf,tv⟩) ⟨tv,tv,tv,tv,tv,tv,tv,tv,tv,tv,tv,tv,tv,tv,tv,tv,tv,tv,tv,tv,⟨(SImp.box ⟨lrf,lrf,lrf,lrf,lrf,lrf,lrf,tv⟩),tv,tv,tv,tv⟩,tv,⟨tv,tv⟩,tv⟩ ?_ ?_
         ·exact⟨hr_ (amv rfl),sf_ (Qbu rfl),sf_ (afa rfl underlying140 rfl rfl ti34 (by decide) rfl),sf_ (afa rfl underlying34 rfl rfl ti31 (by decide) rfl),sf_ (ald rfl ti31 (by decide) rfl (nle rfl) rfl),hr_ (amv rfl),hr_ (amv rfl),sf_ (Qbu rfl),sf_ (afa rfl underlying140 rfl rfl ti42 (by decide) rfl),sf_ (afa rfl underlying42 rfl rfl ti40 (by decide) rfl),sf_ (ald rfl ti40 (by decide) rfl (nle rfl) rfl),hr_ (amv rfl),hr_ (aiq underlying40 Qmk Qal hi18 hj19),hr_ (afd rfl underlying133 rfl rfl ti5 (by decide) rfl),hr_ (ald_ rfl ti5 (by decide) (nle rfl) rfl),hr_ (Qme hb45 (Qmf rfl underlying209 Qr5 (by decide) (by decide) rfl)),hr_ (ald rfl Qr5 (by decide) rfl (nle rfl) rfl),hr_ (amv rfl),hr_ (amv rfl),hr_ (ald rfl ti63 (by decide) rfl (nle rfl) rfl),hr_ (Qat (first:=[]) (cap:=[]) (vs:=[.ref 0 7 0 0,I p0,(Qju x14)]) (σr:=[(Qh3 p2 p3 p4 p5 p6 p7 p8),(Qg5 p9),(Qi7 p10),(.own 1 (p11.map Qad))]) (σr':=[(Qh3 p2 p3 p4 p5 p6 p7 p8),(Qg5 p9),(.own 4 (x47.2.map Qax)),(.own 1 (p11.map Qad))]) (res':=(.dat 4 (x47.1.map Qac))) [0,1,2,3] rfl Ziq (Qpo N p0 x14 p2 p3 p4 p5 p6 p7 p8 p9 p10 p11 _ hf46) rfl (Qbq (rnc (Qa4 rfl) (rnc (.plain _ nll) (rnc (.plain _ (NLt.agg _ (nlcc (nlcc nl0)))) rn0)))) (slc (Qan (rnc (pld Qao) (rnc (pld Qab) (rnc (Qds rfl) (rnc (Qds rfl) (rnc (Qds rfl) (rnc (pld Qaf) (rnc (.plain _ nll) rn0)))))))) (slc (Qbm Qai) (slc (Qbm Qa2) (slc (Qbm Qag) Qas)))) (slc (Qan (rnc (pld Qao) (rnc (pld Qab) (rnc (Qdt rfl) (rnc (Qdt rfl) (rnc (Qdt rfl) (rnc (pld Qaf) (rnc (.plain _ nll) rn0)))))))) (slc (Qbm Qai) (slc (Qbm Qa2) (slc (Qbm Qag) Qas)))) (pld Qaf) rfl rfl rfl),hr_ (aio rfl underlying31 ti45 (odt hi48a) (odt hi48b) (Nat.zero_add _)),hr_ (ast rfl ti45 (by rfl) (mgt Qae hg50) (nle rfl) (Qhk Qae rfl)),tv⟩
         obtain rfl:=osi h
         exact⟨_,(mto (n:=43) (l':=[]) (own':=[(Qh3 p2 p3 p4 p5 p6 p7 p8),(.own 1 (((p9.set p0.toNat x47.1):List (List Qaa)).map Qae)),(.own 4 (x47.2.map Qax)),(.own 1 (p11.map Qad))]) [] [0,1,2,3] [(Qh3 p2 p3 p4 p5 p6 p7 p8),(.own 1 ((p9.set p0.toNat x47.1:List (List Qaa)).map Qae)),(.own 4 (x47.2.map Qax)),(.own 1 (p11.map Qad))] hφ0 pn (qb (lc (rnd Qao) (lc (rnd Qab) (lc (.rn (Qa7 rfl)) (lc (.rn (Qa7 rfl)) (lc (.rn (Qa7 rfl)) (lc (rnd Qaf) (lc rwl ln))))))) (qc (spr Qai) (qc (spr Qa2) (qc (spr Qag) qn))))),Qnb (vs:=[]) tv rfl (NLt.tup _ nl0) (by kernel_rfl) (Qar (Qa8 (nlc (NLt.of0 (nld Qao _)) (nlc (NLt.of0 (nld Qab _)) (nlc (NLt.own _ _ _ _ (by decide)) (nlc (NLt.own _ _ _ _ (by decide)) (nlc (NLt.own _ _ _ _ (by decide)) (nlc (NLt.of0 (nld Qaf _)) (nlc (NLt.of0 nll) nl0)))))))) (Qar (Qcw Qai _) (Qar (Qcw Qa2 _) (Qar (Qcw Qag _) Qbx))))⟩
        ·refine bfe h (fun hb51 h=>?_) fun hb51 h=>?_
         ·obtain⟨x53,hf52,h⟩:=bno h
          obtain⟨hi54,h⟩:=cko h
          obtain⟨hi54a,hi54b⟩:=Qea hi54
          obtain⟨x55,hg56,h⟩:=bno h
          refine Qoc 0 (.own 7 [[(.dat 5 (p2.map Qav)),(Qmg p3),(.own 1 1 (0) p4),(.own 2 4 (0) p5),(.own 3 1 (0) p6),(Qu9 p7),I p8]]) [mv 0 (.ref 0 7 0 0),⟨[(.tmp 21,.ref 0 7 0 0)],[],.ref 0 7 0 0,[],false⟩,⟨[(.tmp 22,.ref 0 7 0 0)],[],.ref 0 7 0 2,[],false⟩,⟨[(.tmp 23,.ref 0 7 0 2)],[],.ref 0 7 0 2,[],false⟩,⟨[(.tmp 24,.ref 0 7 0 2)],[],(.own 1 1 (0) p4),[],false⟩,mv 1 (I p0),mv 0 (.ref 0 7 0 0),⟨[(.tmp 27,.ref 0 7 0 0)],[],.ref 0 7 0 0,[],false⟩,⟨[(.tmp 28,.ref 0 7 0 0)],[],.ref 0 7 0 0,[],false⟩,⟨[(.tmp 29,.ref 0 7 0 0)],[],.ref 0 7 0 1,[],false⟩,⟨[(.tmp 30,.ref 0 7 0 1)],[],(Qmg p3),[],false⟩,mv 1 (I p0),rp [(.tmp 31,(Qmg p3)),(.tmp 32,I p0)] (.dptr (Qal x16) 0),mv 33 (.dptr (Qal x16) 0),rp [(.tmp 34,(.dptr (Qal x16) 0))] (K .u8 x16.Kind),rb [(.tmp 7,.ref 5 7 0 0),(.tmp 35,(K .u8 x16.Kind))] [(5,Qov)] (.ref 5 7 0 6),rb [(.tmp 36,.ref 5 7 0 6)] [(5,Qov)] (.fn (.func 117) [] []),mv 0 (.ref 0 7 0 0),mv 1 (I p0),rb [(.tmp 6,.ref 4 4 0 0)] [(4,(Qt6 x14))] (Qju x14),⟨[(.tmp 37,(.fn (.func 117) [] [])),(.tmp 38,.ref 0 7 0 0),(.tmp 39,I p0),(.tmp 40,(Qju x14))],[(0,(Qh3 p2 p3 p4 p5 p6 p7 p8)),(1,(Qg5 p9)),(2,(Qi7 p10)),(3,(.own 1 (p11.map Qad)))],(.dat 4 (x53.map Qac)),[(0,(Qh3 p2 p3 p4 p5 p6 p7 p8)),(1,(Qg5 p9)),(2,(Qi7 p10)),(3,(.own 1 (p11.map Qad)))],false⟩,rb [(.tmp 25,(.own 1 1 (0) p4)),(.tmp 26,I p0)] [(1,(Qg5 p9))] (.ref 1 1 p0.toNat 0),⟨[(.tmp 42,(.ref 1 1 p0.toNat 0)),(.tmp 41,(.dat 4 (x53.map Qac)))],[(1,(Qg5 p9))],.any,[(1,(.own 1 ((p9.set p0.toNat x53:List (List Qaa)).map Qae)))],false⟩] (SImp.box ⟨lrf,lrf,lrf,lrf,lrf,lrf,lrf,tv⟩) ⟨tv,tv,tv,tv,tv,tv,tv,tv,tv,tv,tv,tv,tv,tv,tv,tv,tv,tv,tv,tv,⟨(SImp.box ⟨lrf,lrf,lrf,lrf,lrf,lrf,lrf,tv⟩),tv,tv,tv,tv⟩,tv,⟨tv,tv⟩,tv⟩ ?_ ?_
          ·exact⟨hr_ (amv rfl),sf_ (Qbu rfl),sf_ (afa rfl underlying140 rfl rfl ti34 (by decide) rfl),sf_ (afa rfl underlying34 rfl rfl ti31 (by decide) rfl),sf_ (ald rfl ti31 (by decide) rfl (nle rfl) rfl),hr_ (amv rfl),hr_ (amv rfl),sf_ (Qbu rfl),sf_ (afa rfl underlying140 rfl rfl ti42 (by decide) rfl),sf_ (afa rfl underlying42 rfl rfl ti40 (by decide) rfl),sf_ (ald rfl ti40 (by decide) rfl (nle rfl) rfl),hr_ (amv rfl),hr_ (aiq underlying40 Qmk Qal hi18 hj19),hr_ (afd rfl underlying133 rfl rfl ti5 (by decide) rfl),hr_ (ald_ rfl ti5 (by decide) (nle rfl) rfl),hr_ (Qme hb51 (Qmf rfl underlying209 Qr5 (by decide) (by decide) rfl)),hr_ (ald rfl Qr5 (by decide) rfl (nle rfl) rfl),hr_ (amv rfl),hr_ (amv rfl),hr_ (ald rfl ti63 (by decide) rfl (nle rfl) rfl),hr_ (Qat (first:=[]) (cap:=[]) (vs:=[.ref 0 7 0 0,I p0,(Qju x14)]) (σr:=[(Qh3 p2 p3 p4 p5 p6 p7 p8),(Qg5 p9),(Qi7 p10),(.own 1 (p11.map Qad))]) (σr':=[(Qh3 p2 p3 p4 p5 p6 p7 p8),(Qg5 p9),(Qi7 p10),(.own 1 (p11.map Qad))]) (res':=(.dat 4 (x53.map Qac))) [0,1,2,3] rfl Qz9 (Qi4 N p0 x14 p2 p3 p4 p5 p6 p7 p8 p9 p10 p11 _ hf52) rfl (Qbq (rnc (Qa4 rfl) (rnc (.plain _ nll) (rnc (.plain _ (NLt.agg _ (nlcc (nlcc nl0)))) rn0)))) (slc (Qan (rnc (pld Qao) (rnc (pld Qab) (rnc (Qds rfl) (rnc (Qds rfl) (rnc (Qds rfl) (rnc (pld Qaf) (rnc (.plain _ nll) rn0)))))))) (slc (Qbm Qai) (slc (Qbm Qa2) (slc (Qbm Qag) Qas)))) (slc (Qan (rnc (pld Qao) (rnc (pld Qab) (rnc (Qdt rfl) (rnc (Qdt rfl) (rnc (Qdt rfl) (rnc (pld Qaf) (rnc (.plain _ nll) rn0)))))))) (slc (Qbm Qai) (slc (Qbm Qa2) (slc (Qbm Qag) Qas)))) (pld Qaf) rfl rfl rfl),hr_ (aio rfl underlying31 ti45 (odt hi54a) (odt hi54b) (Nat.zero_add _)),hr_ (ast rfl ti45 (by rfl) (mgt Qae hg56) (nle rfl) (Qhk Qae rfl)),tv⟩
          obtain rfl:=osi h
          exact⟨_,(mto (n:=43) (l':=[]) (own':=[(Qh3 p2 p3 p4 p5 p6 p7 p8),(.own 1 (((p9.set p0.toNat x53):List (List Qaa)).map Qae)),(Qi7 p10),(.own 1 (p11.map Qad))]) [] [0,1,2,3] [(Qh3 p2 p3 p4 p5 p6 p7 p8),(.own 1 ((p9.set p0.toNat x53:List (List Qaa)).map Qae)),(Qi7 p10),(.own 1 (p11.map Qad))] hφ0 pn (qb (lc (rnd Qao) (lc (rnd Qab) (lc (.rn (Qa7 rfl)) (lc (.rn (Qa7 rfl)) (lc (.rn (Qa7 rfl)) (lc (rnd Qaf) (lc rwl ln))))))) (qc (spr Qai) (qc (spr Qa2) (qc (spr Qag) qn))))),Qnb (vs:=[]) tv rfl (NLt.tup _ nl0) (by kernel_rfl) (Qar (Qa8 (nlc (NLt.of0 (nld Qao _)) (nlc (NLt.of0 (nld Qab _)) (nlc (NLt.own _ _ _ _ (by decide)) (nlc (NLt.own _ _ _ _ (by decide)) (nlc (NLt.own _ _ _ _ (by decide)) (nlc (NLt.of0 (nld Qaf _)) (nlc (NLt.of0 nll) nl0)))))))) (Qar (Qcw Qai _) (Qar (Qcw Qa2 _) (Qar (Qcw Qag _) Qbx))))⟩
         ·cases h
  ·skip
   refine wxz ?_
   refine bfe h (fun hc57 h=>?_) fun hc57 h=>?_
   ·refine wft hc57<|Zje 3 [mv 1 (I p0),rp [(.tmp 17,I p0)] (.agg [I p0]),rp [(.tmp 18,(.agg [I p0]))] (.lit (.iface 182 (.agg #[(.int .i64 p0)]))),⟨[(.tmp 19,(.lit (.iface 182 (.agg #[(.int .i64 p0)]))))],[],.any,[],false⟩] (by exact⟨by kernel_rfl,by kernel_rfl⟩) rfl (by kernel_rfl) rfl (Q4a rfl) (⟨fun _ _=>amv rfl,fun _ _=>Qaz (vs:=[I p0]) rfl Zsc Zqr rfl (by rfl) rfl,fun _ _=>awk (rd':=[(.tmp 18,.lit (.agg #[(.int .i64 p0)]))]) ⟨rfl,(Less.lits [(.int .i64 p0)]),tv⟩ (Q47 rfl underlying182),fun _ h=>absurd rfl h,tv⟩) ?_
    obtain rfl:=osi h
    exact rfl
   ·exact wfn hc57<|Qaq<|thn<|⟨(),h,(mto (n:=43) [(0,.ref 0 7 0 0),(1,I p0),(6,.ref 7 4 0 0)] [0,1,2,3,7] [(Qh3 p2 p3 p4 p5 p6 p7 p8),(Qg5 p9),(Qi7 p10),(.own 1 (p11.map Qad)),(Qt6 x14)] hφ0 (prr (pw (prr pn))) (qb (lc (rnd Qao) (lc (rnd Qab) (lc (.rn (Qa7 rfl)) (lc (.rn (Qa7 rfl)) (lc (.rn (Qa7 rfl)) (lc (rnd Qaf) (lc rwl ln))))))) (qc (spr Qai) (qc (spr Qa2) (qc (spr Qag) (qb (lcc (lcc ln)) qn))))))⟩
theorem Qn3 (N:Nat) (p0 p1:Int) (p2:List GRow) (p3:List Qam) (p4 p5 p6:Nat) (p7:List Qaa) (p8:Int) (p9:List (List Qaa)) (p10:List Qa9) (p11:List Int) (r:(Int×(List (List Qaa))×(List Qa9)×(List Int))) (h:Qc9 N p0 p1 p2 p3 p4 p5 p6 p7 p8 p9 p10 p11=some (.inl r)):Spec prog 97 [.ref 0 7 0 0,I p0,I p1] [(Qh3 p2 p3 p4 p5 p6 p7 p8),(Qg5 p9),(Qi7 p10),(.own 1 (p11.map Qad))] (.tup []) [(.own 7 [[(.dat 5 (p2.map Qav)),(.dat 7 (p3.map Qal)),(.own 1 1 (0) p4),(.own 2 4 (0) p5),(.own 3 1 (0) p6),(.dat 4 (p7.map Qac)),I r.1]]),(.own 1 (r.2.1.map Qae)),(.own 4 (r.2.2.1.map Qax)),(.own 1 (r.2.2.2.map Qad))]:=Qj8 N p0 p1 p2 p3 p4 p5 p6 p7 p8 p9 p10 p11 _ h
theorem Qn2 (N:Nat) (p0 p1:Int) (p2:List GRow) (p3:List Qam) (p4 p5 p6:Nat) (p7:List Qaa) (p8:Int) (p9:List (List Qaa)) (p10:List Qa9) (p11:List Int) (r:Int) (h:Qc9 N p0 p1 p2 p3 p4 p5 p6 p7 p8 p9 p10 p11=some (.inr r)):Zjp prog 97 [.ref 0 7 0 0,I p0,I p1] [(Qh3 p2 p3 p4 p5 p6 p7 p8),(Qg5 p9),(Qi7 p10),(.own 1 (p11.map Qad))] (.iface 182 (.agg #[(.int .i64 r)])):=Qj8 N p0 p1 p2 p3 p4 p5 p6 p7 p8 p9 p10 p11 _ h
def Zpb:Slot:=.own 1 [[(.lit (.pointer none))]]
theorem Qsg (v0:Int):DPan prog 96 [1,1] (.iface 182 (.agg #[(.int .i64 v0)])) [[(.lit (.pointer none))],[(I v0)]]:=by
  refine Que (t:=5) (args:=[.ref 0 1 0 0,.ref 1 1 0 0]) func96 rfl (fun _ _=>rfl) (by kernel_rfl) Zmy 2 (nle rfl) (fun X φ0 w0 hφ0=>?_)
  refine Qby<|Qap ?_
  refine wx tbk [(0,rp [(.tmp 5,(.lit (.iface 182 (.agg #[(.int .i64 v0)])))),(.const .nilIface,(.lit .nilIface))] (B false))] ⟨Q46 rfl underlying20,tv⟩<|wfa ?_
  exact wx tbk [(0,rp [(.tmp 5,(.lit (.iface 182 (.agg #[(.int .i64 v0)]))))] (.tup [(.agg [I v0]),B true]))] ⟨Q42 (r:=.lit (.tuple #[(.agg #[(.int .i64 v0)]),(.bool true)])) (Less.trans Zdx (Less.tup ⟨Zdy (l:=[(.int .i64 v0)]),lrf,tv⟩)) (Q0h rfl underlying182),tv⟩<|wtr<|wxz<|wxe1<|bln<|⟨_,(mto (n:=13) (l':=[]) (own':=[Zpb,(.own 1 [[I v0]])]) [] [0,1] [Zpb,(.own 1 [[I v0]])] hφ0 pn (qb (lc rwl ln) (qb (lc rwl ln) qn))),Qcy (vs:=[]) tv rfl (NLt.tup _ nl0) (by kernel_rfl) (Qar (Qa8 (nlt0 (nlc nll nl0))) (Qar (Qa8 (nlt0 (nlc nll nl0))) Qbx))⟩
end
section
set_option maxRecDepth 100000
set_option maxHeartbeats 4000000
open Go.RowKit
def Qd8 (N:Nat) (p0:GNet) (p1:List Int) (p2:List Qaa) (k16:(List (List Qaa))×(List Qa9)×(List Int)×Int→Option (Int⊕(Int×Int×(List (List Qaa))×(List Qa9)×(List Int)))):Nat→Int→(List (List Qaa))→(List Qa9)→(List Int)→Int→Option (Int⊕(Int×Int×(List (List Qaa))×(List Qa9)×(List Int)))
  |0,_,_,_,_,_=>none
  |n27+1,y17,y18,y19,y20,y21=>
    bif (decide (y17<(p0.Elements.length:Int))) then
     (getI p0.Elements y17).bind fun x29=>
     (getI p1 y17).bind fun x33=>
     (Qgp N x29 x33).bind fun x38=>
     (Qc9 N y17 x38 p0.Table p0.Elements ((p0.Elements.length:Int).toNat) ((p0.Elements.length:Int).toNat) p1.length p2 y21 y18 y19 y20).bind (
      Sum.elim (fun x41=>
        Qd8 N p0 p1 p2 k16 n27 (w64 (y17+1)) x41.2.1 x41.2.2.1 x41.2.2.2 x41.1)
      (fun x42=>
        some (.inl x42)))
    else
     k16 (y18,y19,y20,y21)
def Qgc (N:Nat) (p0:GNet) (p1:List Int) (p2:List Qaa):Option (Int⊕(Int×Int×(List (List Qaa))×(List Qa9)×(List Int))):=
  chk (decide (0≤(p0.Elements.length:Int))&&decide (24*(p0.Elements.length:Int)≤281474976710656)&&decide ((p0.Elements.length:Int)≤9223372036854775807))<|
  chk (decide (0≤(p0.Elements.length:Int))&&decide (32*(p0.Elements.length:Int)≤281474976710656)&&decide ((p0.Elements.length:Int)≤9223372036854775807))<|
  (Qga N p1).bind fun _=>
  Qbi (fun ⟨y12,y13,y14,y15⟩=>
    some (.inr ((-1),y15,y12,y13,y14))) fun k16:(List (List Qaa))×(List Qa9)×(List Int)×Int→Option (Int⊕(Int×Int×(List (List Qaa))×(List Qa9)×(List Int)))=>
  Qd8 N p0 p1 p2 k16 N 0 (List.replicate (p0.Elements.length:Int).toNat ([])) (List.replicate (p0.Elements.length:Int).toNat (⟨0,0,0,0⟩:Qa9)) p1 0
def Q7z (p0:GNet):AV:=.dat 5 (p0.Table.map Qav)
def Qxa (p0:GNet):AV:=.dat 7 (p0.Elements.map Qal)
def Zfw (p0:GNet):AV:=.agg [(Q7z p0),(Qxa p0)]
def Q0m (p2:List Qaa):AV:=.dat 4 (p2.map Qac)
def Zo8 (p0:GNet):Slot:=.own 1 ((List.replicate (p0.Elements.length:Int).toNat ([]):List (List Qaa)).map Qae)
def Zo7 (p0:GNet):Slot:=.own 4 ((List.replicate (p0.Elements.length:Int).toNat (⟨0,0,0,0⟩:Qa9):List Qa9).map Qax)
def Zrr (p0:GNet) (p1:List Int):AV:=.agg [(.own 3 1 (0) ((p0.Elements.length:Int).toNat)),(.own 4 4 (0) ((p0.Elements.length:Int).toNat)),(.own 5 1 (0) p1.length)]
def Q7y (p0:GNet):Slot:=.own 2 [[(Q7z p0),(Qxa p0)]]
def Qt3:Slot:=.own 1 [[(.ref 6 7 (0) 0)]]
def Zas (p0:GNet) (p1:List Int) (p2:List Qaa) (y15:Int):Slot:=.own 7 [[(Q7z p0),(Qxa p0),(.own 3 1 (0) ((p0.Elements.length:Int).toNat)),(.own 4 4 (0) ((p0.Elements.length:Int).toNat)),(.own 5 1 (0) p1.length),(Q0m p2),(I y15)]]
def Zjz (p0:GNet) (p1:List Int) (p2:List Qaa):Slot:=.own 7 [[(Q7z p0),(Qxa p0),(.own 3 1 (0) ((p0.Elements.length:Int).toNat)),(.own 4 4 (0) ((p0.Elements.length:Int).toNat)),(.own 5 1 (0) p1.length),(Q0m p2),(I (0))]]
def Qu7 (y18:List (List Qaa)):Slot:=.own 1 (y18.map Qae)
def Qu6 (y19:List Qa9):Slot:=.own 4 (y19.map Qax)
def Qu8 (p0:GNet) (p1:List Int) (p2:List Qaa) (y21:Int):Slot:=.own 7 [[(Q7z p0),(Qxa p0),(.own 3 1 (0) ((p0.Elements.length:Int).toNat)),(.own 4 4 (0) ((p0.Elements.length:Int).toNat)),(.own 5 1 (0) p1.length),(Q0m p2),(I y21)]]
def Qyv (x29:Qam):AV:=.agg [(K .u8 x29.Kind),(.dat 2 (x29.From.map Qaw)),(I x29.Level),(I x29.Amount),(I x29.Wide),(I x29.Narrow),(.dat 1 (x29.Weights.map Qad))]
def Zat (p0:GNet) (p1:List Int) (p2:List Qaa) (x41:(Int×(List (List Qaa))×(List Qa9)×(List Int))):Slot:=.own 7 [[(Q7z p0),(Qxa p0),(.own 3 1 (0) (((p0.Elements.length:Int).toNat))),(.own 4 4 (0) (((p0.Elements.length:Int).toNat))),(.own 5 1 (0) p1.length),(Q0m p2),(I x41.1)]]
def Zo9:Slot:=.own 1 [[(.lit (.pointer none))]]
theorem Qn5 (N:Nat) (p0:GNet) (p1:List Int) (p2:List Qaa) (r:(Int⊕(Int×Int×(List (List Qaa))×(List Qa9)×(List Int)))) (h:Qgc N p0 p1 p2=some r):Spec prog 58 [(Zfw p0),(.dat 1 (p1.map Qad)),(Q0m p2)] [] (((Sum.elim (fun r=>(.tup [(.lit (.pointer none)),(I r)])) (fun r=>(.tup [(.ref 2 7 (0) 0),(I r.1)]))):(Int⊕(Int×Int×(List (List Qaa))×(List Qa9)×(List Int)))→AV) r) (((Sum.elim (fun r=>[(.own 1 [[(.lit (.pointer none))]]),(.own 1 [[(I r)]])]) (fun r=>[(.own 1 [[(.ref 2 7 (0) 0)]]),(.own 1 [[(I r.1)]]),(.own 7 [[(.dat 5 (p0.Table.map Qav)),(.dat 7 (p0.Elements.map Qal)),(.own 3 1 (0) ((p0.Elements.length:Int).toNat)),(.own 4 4 (0) ((p0.Elements.length:Int).toNat)),(.own 5 1 (0) p1.length),(.dat 4 (p2.map Qac)),(I r.2.1)]]),(.own 1 (r.2.2.1.map Qae)),(.own 4 (r.2.2.2.1.map Qax)),(.own 1 (r.2.2.2.2.map Qad))])):(Int⊕(Int×Int×(List (List Qaa))×(List Qa9)×(List Int)))→List Slot) r):=by
  refine Q1m func58 rfl (fun X φ0 w0 hφ0 hd0=>?_)
  unfold Qgc at h
  refine Q7r (k:=6) hd0 (fun n hn=>hφ0 n (Nat.le_trans (nle rfl) hn))<|wxz1<|thn ?_
  refine Q7r (k:=6) hd0 (fun n hn=>hφ0 n (Nat.le_trans (nle rfl) hn)) ?_
  obtain⟨hm8,h⟩:=cko h
  obtain⟨hm9,h⟩:=cko h
  obtain⟨x11,hf10,h⟩:=bno h
  refine wy1 tbk [(3,rp _ _),(4,⟨[(.tmp 13,(I ((p0.Elements.length:Int)))),(.tmp 13,(I ((p0.Elements.length:Int))))],[(3,.unused)],(.own 3 1 (0) ((p0.Elements.length:Int).toNat)),[(3,(Zo8 p0))],false⟩),(7,rp _ _),(8,⟨[(.tmp 17,(I ((p0.Elements.length:Int)))),(.tmp 17,(I ((p0.Elements.length:Int))))],[(4,.unused)],(.own 4 4 (0) ((p0.Elements.length:Int).toNat)),[(4,(Zo7 p0))],false⟩),(10,⟨_,_,_,_,false⟩),(11,rp _ _),(13,rp _ _)] ⟨alq 7 Qal p0.Elements underlying40,Zfh (c:=Qae) (v:=([])) (z:=[nilS]) (k:=(p0.Elements.length:Int).toNat) ⟨Less.nil,tv⟩ (Qmd rfl underlying31 te45 tz45 rfl (Qt2 hm8) rfl (Qt1 hm8) (Qyp hm8) rfl),alq 7 Qal p0.Elements underlying40,Qmd rfl underlying32 te82 tz82 rfl (Qt2 hm9) rfl (Qt1 hm9) (Qyp hm9) (Qvq Qax rfl),Qat (first:=[]) (cap:=[]) (vs:=[(.dat 1 (p1.map Qad))]) (σr:=[]) (σr':=[(.own 1 (p1.map Qad))]) (res':=(.own 5 1 (0) p1.length)) [5] rfl Znm (Qm5 N p1 _ hf10) rfl (Qbq (rnc (pld Qag) rn0)) Qas (slc (Qbm Qag) Qas) (Qdt rfl) rfl rfl rfl,Qaz (vs:=[(.own 3 1 (0) ((p0.Elements.length:Int).toNat)),(.own 4 4 (0) ((p0.Elements.length:Int).toNat)),(.own 5 1 (0) p1.length)]) rfl ts34 tz34 rfl (by rfl) rfl,Qaz (vs:=[(Zfw p0),(Zrr p0 p1),(Q0m p2)]) rfl Zsd Zqs rfl (by rfl) rfl,tv⟩<|thn ?_
  refine Q9i (k:=6) [(1,1),(2,1)] hd0 (fun n hn=>hφ0 n (Nat.le_trans (nle rfl) hn)) Znl rfl rfl (by kernel_rfl) (by kernel_rfl) (by kernel_rfl) Qti (fun φ1 w1 hφ1 hd1=>?_)
  obtain⟨k16,hk_k16,h⟩:=jko h
  refine wjn (τ:=(List (List Qaa))×(List Qa9)×(List Int)×Int) (fun t=>k16 t=some r) (fun ⟨y12,y13,y14,y15⟩=>⟨mk 45 [(6,.ref 1 1 0 0),(7,.ref 2 1 0 0)],[(Q7y p0),Qt3,(.own 1 [[I 0]]),(.own 1 (y12.map Qae)),(.own 4 (y13.map Qax)),(.own 1 (y14.map Qad)),(Zas p0 p1 p2 y15)]⟩) (fun t h=>?_) ?_
  ·subst hk_k16
   obtain⟨y12,y13,y14,y15⟩:=t
   refine wxz<|Qah ?_
   obtain rfl:=osi h
   exact⟨_,(mto (n:=45) (l':=[(6,.ref 0 1 0 0),(7,.ref 1 1 0 0)]) (own':=[(.own 1 [[.ref 2 7 0 0]]),(.own 1 [[(I ((-1)))]]),(Zas p0 p1 p2 y15),(.own 1 (y12.map Qae)),(.own 4 (y13.map Qax)),(.own 1 (y14.map Qad))]) [(6,.ref 1 1 0 0),(7,.ref 2 1 0 0)] [1,2,6,3,4,5] [Qt3,(.own 1 [[(I ((-1)))]]),(Zas p0 p1 p2 y15),(.own 1 (y12.map Qae)),(.own 4 (y13.map Qax)),(.own 1 (y14.map Qad))] hφ0 (prr (prr pn)) (qb (lc (.rn (rqr rfl)) ln) (qb (lc rwl ln) (qb (lc (rnd Qao) (lc (rnd Qab) (lc (.rn (Qa7 rfl)) (lc (.rn (Qa7 rfl)) (lc (.rn (Qa7 rfl)) (lc (rnd Qaf) (lc rwl ln))))))) (qc (spr Qai) (qc (spr Qa2) (qc (spr Qag) qn))))))),Qnb (vs:=[.ref 2 7 0 0,I (-1)]) ⟨Qbn (n:=0) (m:=1) (j:=0) (i:=0) (xs:=[[.ref 2 7 0 0]]) (by kernel_rfl) (by kernel_rfl) Qkj (by decide) rfl (nle rfl) rfl,Qbn (n:=1) (m:=1) (j:=0) (i:=0) (xs:=[[I (-1)]]) (by kernel_rfl) (by kernel_rfl) ti3 (by decide) rfl (nle rfl) rfl,tv⟩ rfl (NLt.tup _ (nlc (NLt.ref _ _ _ _ (by decide)) (nlc (NLt.of0 nll) nl0))) (by kernel_rfl) (Qar (Qa8 (nlc (NLt.ref _ _ _ _ (by decide)) nl0)) (Qar (Qa8 (nlc (NLt.of0 nll) nl0)) (Qar (Qa8 (nlc (NLt.of0 (nld Qao _)) (nlc (NLt.of0 (nld Qab _)) (nlc (NLt.own _ _ _ _ (by decide)) (nlc (NLt.own _ _ _ _ (by decide)) (nlc (NLt.own _ _ _ _ (by decide)) (nlc (NLt.of0 (nld Qaf _)) (nlc (NLt.of0 nll) nl0)))))))) (Qar (Qcw Qai _) (Qar (Qcw Qa2 _) (Qar (Qcw Qag _) Qbx))))))⟩
  ·skip
   refine wx tbk [(2,rp _ _)] ⟨alq 7 Qal p0.Elements underlying40,tv⟩<|Qap ?_
   refine wmr (mto (n:=45) (l':=[(1,(.dat 1 (p1.map Qad))),(6,.ref 1 1 0 0),(7,.ref 2 1 0 0),(27,(Qxa p0)),(28,(I ((p0.Elements.length:Int)))),(29,I 0)]) (own':=[(Q7y p0),Qt3,(.own 1 [[I 0]]),(.own 1 (((List.replicate (p0.Elements.length:Int).toNat ([])):List (List Qaa)).map Qae)),(.own 4 (((List.replicate (p0.Elements.length:Int).toNat (⟨0,0,0,0⟩:Qa9)):List Qa9).map Qax)),(.own 1 (p1.map Qad)),(Zjz p0 p1 p2)]) [(1,(.dat 1 (p1.map Qad))),(6,.ref 1 1 0 0),(7,.ref 2 1 0 0),(27,(Qxa p0)),(28,(I ((p0.Elements.length:Int)))),(29,I 0)] [0,1,2,3,4,5,6] [(Q7y p0),Qt3,(.own 1 [[I 0]]),(Zo8 p0),(Zo7 p0),(.own 1 (p1.map Qad)),(Zjz p0 p1 p2)] hφ1 (pc (rnd Qag) (prr (prr (pc (rnd Qab) (pw (pw pn)))))) (qb (lc (rnd Qao) (lc (rnd Qab) ln)) (qb (lc (.rn (rqr rfl)) ln) (qb (lc rwl ln) (qc (spr Qai) (qc (spr Qa2) (qc (spr Qag) (qb (lc (rnd Qao) (lc (rnd Qab) (lc (.rn (Qa7 rfl)) (lc (.rn (Qa7 rfl)) (lc (.rn (Qa7 rfl)) (lc (rnd Qaf) (lc rwl ln))))))) qn)))))))) ?_
   refine Qbv (τ:=Int×(List (List Qaa))×(List Qa9)×(List Int)×Int) (fun n t=>Qd8 N p0 p1 p2 k16 n t.1 t.2.1 t.2.2.1 t.2.2.2.1 t.2.2.2.2=some r) (fun ⟨y17,y18,y19,y20,y21⟩=>⟨mk 45 [(1,(.dat 1 (p1.map Qad))),(6,.ref 1 1 0 0),(7,.ref 2 1 0 0),(27,(Qxa p0)),(28,(I ((p0.Elements.length:Int)))),(29,I y17)],[(Q7y p0),Qt3,(.own 1 [[I 0]]),(Qu7 y18),(Qu6 y19),(.own 1 (y20.map Qad)),(Qu8 p0 p1 p2 y21)]⟩) (fun t h=>by rw[Qd8] at h;cases h) (fun n27 ih t h=>?_) N (0,List.replicate (p0.Elements.length:Int).toNat ([]),List.replicate (p0.Elements.length:Int).toNat (⟨0,0,0,0⟩:Qa9),p1,0) h
   obtain⟨y17,y18,y19,y20,y21⟩:=t
   rw[Qd8] at h
   skip
   refine wxz<|wsq ?_
   refine bfe h (fun hc28 h=>?_) fun hc28 h=>?_
   ·refine wft hc28<|Qaq<|thn<|wsq<|Qap ?_
    obtain⟨x29,hg30,h⟩:=bno h
    obtain⟨hi31,hj32⟩:=gsm hg30
    refine wx tbk [(1,rp _ _)] ⟨aiq underlying40 Qmk Qal hi31 hj32,tv⟩ ?_
    obtain⟨x33,hg34,h⟩:=bno h
    obtain⟨hi35,hj36⟩:=gsm hg34
    obtain⟨x38,hf37,h⟩:=bno h
    obtain⟨x40,hf39,h⟩:=bno h
    rcases x40 with x41 |x42
    ·replace h:=Zmq h
     refine wy1 tbk [(5,rp _ _),(7,rp _ _),(8,⟨_,_,_,_,false⟩)] ⟨aiq underlying27 ti3 Qad hi35 hj36,apv Zej (Qkt N x29 x33 _ hf37) (nlc (NLt.agg _ (nlc nll (nlc (nld Qa1 _) (nlcc (nlcc (nlc (nld Qag _) nl0)))))) (nlc nll nl0)) nll,Qat (first:=[]) (cap:=[]) (vs:=[.ref 6 7 0 0,I y17,I x38]) (σr:=[(Qu8 p0 p1 p2 y21),(Qu7 y18),(Qu6 y19),(.own 1 (y20.map Qad))]) (σr':=[(Zat p0 p1 p2 x41),(.own 1 (x41.2.1.map Qae)),(.own 4 (x41.2.2.1.map Qax)),(.own 1 (x41.2.2.2.map Qad))]) (res':=(.tup [])) [6,3,4,5] rfl Zee (Qn3 N y17 x38 p0.Table p0.Elements ((p0.Elements.length:Int).toNat) ((p0.Elements.length:Int).toNat) p1.length p2 y21 y18 y19 y20 _ hf39) rfl (Qbq (rnc (Qa4 rfl) (rncc rn0))) (slc (Qan (rnc (pld Qao) (rnc (pld Qab) (rnc (Qds rfl) (rnc (Qds rfl) (rnc (Qds rfl) (rnc (pld Qaf) (rnc (.plain _ nll) rn0)))))))) (slc (Qbm Qai) (slc (Qbm Qa2) (slc (Qbm Qag) Qas)))) (slc (Qan (rnc (pld Qao) (rnc (pld Qab) (rnc (Qdt rfl) (rnc (Qdt rfl) (rnc (Qdt rfl) (rnc (pld Qaf) (rnc (.plain _ nll) rn0)))))))) (slc (Qbm Qai) (slc (Qbm Qa2) (slc (Qbm Qag) Qas)))) (.plain _ (NLt.tup _ nl0)) rfl rfl rfl,tv⟩<|bln<|thn<|wxz1<|thn ?_
     exact arm (mto (n:=45) [(1,(.dat 1 (p1.map Qad))),(6,.ref 1 1 0 0),(7,.ref 2 1 0 0),(27,(Qxa p0)),(28,(I ((p0.Elements.length:Int)))),(29,(I (w64 (y17+1))))] [0,1,2,3,4,5,6] [(Q7y p0),Qt3,(.own 1 [[I 0]]),(.own 1 (x41.2.1.map Qae)),(.own 4 (x41.2.2.1.map Qax)),(.own 1 (x41.2.2.2.map Qad)),(Zat p0 p1 p2 x41)] hφ1 (pc (rnd Qag) (prr (prr (pc (rnd Qab) (pw (pw pn)))))) (qb (lc (rnd Qao) (lc (rnd Qab) ln)) (qb (lc (.rn (rqr rfl)) ln) (qb (lc rwl ln) (qc (spr Qai) (qc (spr Qa2) (qc (spr Qag) (qb (lc (rnd Qao) (lc (rnd Qab) (lc (.rn (Qa7 rfl)) (lc (.rn (Qa7 rfl)) (lc (.rn (Qa7 rfl)) (lc (rnd Qaf) (lc rwl ln))))))) qn)))))))) (ih (w64 (y17+1),x41.2.1,x41.2.2.1,x41.2.2.2,x41.1) h)
    ·replace h:=Zmp h
     refine Zfb 8 [rb [(.tmp 6,.ref 1 1 0 0)] [(1,Qt3)] (.ref 6 7 0 0),mv 8 (I y17),rb [(.tmp 9,.ref 7 7 0 0)] [(7,(.own 7 [[(K .u8 x29.Kind),(.dat 2 (x29.From.map Qaw)),I x29.Level,I x29.Amount,I x29.Wide,I x29.Narrow,(.dat 1 (x29.Weights.map Qad))]]))] (Qyv x29),mv 1 (.dat 1 (p1.map Qad)),mv 8 (I y17),rp [(.tmp 37,(.dat 1 (p1.map Qad))),(.tmp 38,I y17)] (.dptr (Qad x33) 0),rp [(.tmp 39,(.dptr (Qad x33) 0))] (I x33),rp [fu 74,(.tmp 36,(Qyv x29)),(.tmp 40,I x33)] (I x38),⟨[fu 97,(.tmp 34,.ref 6 7 0 0),(.tmp 35,I y17),(.tmp 41,I x38),(.tmp 36,(Qyv x29)),(.tmp 37,(.dat 1 (p1.map Qad))),(.tmp 38,I y17),(.tmp 39,(.dptr (Qad x33) 0)),(.tmp 40,I x33)],[(6,(Qu8 p0 p1 p2 y21)),(3,(Qu7 y18)),(4,(Qu6 y19)),(5,(.own 1 (y20.map Qad)))],.any,[(6,.dead),(3,.dead),(4,.dead),(5,.dead)],false⟩] (by exact⟨by kernel_rfl,by kernel_rfl⟩) rfl (by kernel_rfl) rfl (PStep.to (by rfl) (PStep.more (rd':=[(.tmp 36,(Qyv x29)),(.tmp 37,(.dat 1 (p1.map Qad))),(.tmp 38,I y17),(.tmp 39,(.dptr (Qad x33) 0)),(.tmp 40,I x33)]) (Q4b (first:=[]) (cap:=[]) (vs:=[.ref 6 7 0 0,I y17,I x38]) (σr:=[(Qu8 p0 p1 p2 y21),(Qu7 y18),(Qu6 y19),(.own 1 (y20.map Qad))]) [6,3,4,5] rfl Zee (Qn2 N y17 x38 p0.Table p0.Elements ((p0.Elements.length:Int).toNat) ((p0.Elements.length:Int).toNat) p1.length p2 y21 y18 y19 y20 _ hf39) rfl (Qbq (rnc (Qa4 rfl) (rncc rn0))) (slc (Qan (rnc (pld Qao) (rnc (pld Qab) (rnc (Qds rfl) (rnc (Qds rfl) (rnc (Qds rfl) (rnc (pld Qaf) (rnc (.plain _ nll) rn0)))))))) (slc (Qbm Qai) (slc (Qbm Qa2) (slc (Qbm Qag) Qas)))) rfl rfl rfl))) (⟨fun _ _=>ald rfl Qkj (by decide) rfl (nle rfl) rfl,fun _ _=>amv rfl,fun _ _=>ald rfl Qmk (by decide) rfl (nle rfl) rfl,fun _ _=>amv rfl,fun _ _=>amv rfl,fun _ _=>aiq underlying27 ti3 Qad hi35 hj36,fun _ _=>ald_ rfl ti3 (by decide) (nle rfl) rfl,fun _ _=>apv Zej (Qkt N x29 x33 _ hf37) (nlc (NLt.agg _ (nlc nll (nlc (nld Qa1 _) (nlcc (nlcc (nlc (nld Qag _) nl0)))))) (nlc nll nl0)) nll,fun _ h=>absurd rfl h,tv⟩) ?_ (by kernel_rfl) (by kernel_rfl) (by kernel_rfl)
     obtain rfl:=osi h
     exact⟨_,[[(.lit (.pointer none))],[I x42]],rfl,(Qsg x42),(Q6r (nlc nll nl0) (Q6r (nlc nll nl0) Zmz)),by kernel_rfl,_,(mto (n:=45) (l':=[(6,.ref 0 1 0 0),(7,.ref 1 1 0 0)]) (own':=[Zo9,(.own 1 [[I x42]])]) [(6,.ref 1 1 0 0),(7,.ref 2 1 0 0)] [1,2] [Zo9,(.own 1 [[I x42]])] hφ0 (prr (prr pn)) (qb (lc rwl ln) (qb (lc rwl ln) qn))),Qnb (vs:=[(.lit (.pointer none)),I x42]) ⟨Qbn (n:=0) (m:=1) (j:=0) (i:=0) (xs:=[[(.lit (.pointer none))]]) (by kernel_rfl) (by kernel_rfl) Qkj (by decide) rfl (nle rfl) rfl,Qbn (n:=1) (m:=1) (j:=0) (i:=0) (xs:=[[I x42]]) (by kernel_rfl) (by kernel_rfl) ti3 (by decide) rfl (nle rfl) rfl,tv⟩ rfl (NLt.tup _ (nlc (NLt.of0 nll) (nlc (NLt.of0 nll) nl0))) (by kernel_rfl) (Qar (Qa8 (nlc (NLt.of0 nll) nl0)) (Qar (Qa8 (nlc (NLt.of0 nll) nl0)) Qbx))⟩
   ·exact wfn hc28<|Qbg<|Qay<|Qay<|Qbf rfl<|thn<|⟨(y18,y19,y20,y21),h,(mto (n:=45) [(6,.ref 1 1 0 0),(7,.ref 2 1 0 0)] [0,1,2,3,4,5,6] [(Q7y p0),Qt3,(.own 1 [[I 0]]),(Qu7 y18),(Qu6 y19),(.own 1 (y20.map Qad)),(Qu8 p0 p1 p2 y21)] hφ1 (prr (prr pn)) (qb (lc (rnd Qao) (lc (rnd Qab) ln)) (qb (lc (.rn (rqr rfl)) ln) (qb (lc rwl ln) (qc (spr Qai) (qc (spr Qa2) (qc (spr Qag) (qb (lc (rnd Qao) (lc (rnd Qab) (lc (.rn (Qa7 rfl)) (lc (.rn (Qa7 rfl)) (lc (.rn (Qa7 rfl)) (lc (rnd Qaf) (lc rwl ln))))))) qn))))))))⟩
theorem Qm9 (N:Nat) (p0:GNet) (p1:List Int) (p2:List Qaa) (r:Int) (h:Qgc N p0 p1 p2=some (.inl r)):Spec prog 58 [(Zfw p0),(.dat 1 (p1.map Qad)),(Q0m p2)] [] (.tup [(.lit (.pointer none)),I r]) [(.own 1 [[(.lit (.pointer none))]]),(.own 1 [[I r]])]:=Qn5 N p0 p1 p2 _ h
theorem Qm8 (N:Nat) (p0:GNet) (p1:List Int) (p2:List Qaa) (r:(Int×Int×(List (List Qaa))×(List Qa9)×(List Int))) (h:Qgc N p0 p1 p2=some (.inr r)):Spec prog 58 [(Zfw p0),(.dat 1 (p1.map Qad)),(Q0m p2)] [] (.tup [.ref 2 7 0 0,I r.1]) [(.own 1 [[.ref 2 7 0 0]]),(.own 1 [[I r.1]]),(.own 7 [[(.dat 5 (p0.Table.map Qav)),(.dat 7 (p0.Elements.map Qal)),(.own 3 1 (0) ((p0.Elements.length:Int).toNat)),(.own 4 4 (0) ((p0.Elements.length:Int).toNat)),(.own 5 1 (0) p1.length),(.dat 4 (p2.map Qac)),I r.2.1]]),(.own 1 (r.2.2.1.map Qae)),(.own 4 (r.2.2.2.1.map Qax)),(.own 1 (r.2.2.2.2.map Qad))]:=Qn5 N p0 p1 p2 _ h
def Qzj (N:Nat) (p0:GNet) (p1:List Int) (p2:List Qaa):Option (Qfg×Int×Int):=
  (Qra N p0 p1 p2).bind fun x11=>
  bif (x11 != 0) then
   some ((⟨[],[],[]⟩:Qfg),0,x11)
  else
   (Qgc N p0 p1 p2).bind (
    Sum.elim (fun x15=>
      bif (decide (x15≥0)) then
       some ((⟨[],[],[]⟩:Qfg),x15,11)
      else
       none)
    (fun x17=>
      bif (decide (x17.1≥0)) then
       some ((⟨[],[],[]⟩:Qfg),x17.1,11)
      else
       chk (decide ((p0.Elements.length:Int).toNat≤x17.2.2.1.length))<|
       chk (decide ((p0.Elements.length:Int).toNat≤x17.2.2.2.1.length))<|
       chk (decide (p1.length≤x17.2.2.2.2.length))<|
       some ((⟨x17.2.2.1.take ((p0.Elements.length:Int).toNat),x17.2.2.2.1.take ((p0.Elements.length:Int).toNat),x17.2.2.2.2.take p1.length⟩:Qfg),0,0)))
def Zln (p0:GNet):AV:=.dat 5 (p0.Table.map Qav)
def Zlm (p0:GNet):AV:=.dat 7 (p0.Elements.map Qal)
def Zpa (p0:GNet):AV:=.agg [(Zln p0),(Zlm p0)]
def Zlj (p2:List Qaa):AV:=.dat 4 (p2.map Qac)
def Zav:Slot:=.own 3 [[(.dat 1 ((((⟨[],[],[]⟩:Qfg).Out):List (List Qaa)).map Qae)),(.dat 4 ((((⟨[],[],[]⟩:Qfg).Lost):List Qa9).map Qax)),(.dat 1 ((((⟨[],[],[]⟩:Qfg).State):List Int).map Qad))]]
def Zlk:Slot:=.own 3 [[nilS,nilS,nilS]]
def Q5l:AV:=.dat 1 (((⟨[],[],[]⟩:Qfg).Out:List (List Qaa)).map Qae)
def Q5k:AV:=.dat 4 (((⟨[],[],[]⟩:Qfg).Lost:List Qa9).map Qax)
def Q5j:AV:=.dat 1 (((⟨[],[],[]⟩:Qfg).State:List Int).map Qad)
def Zau:AV:=.agg [Q5l,Q5k,Q5j]
def Zrs:Slot:=.own 1 [[(.lit (.pointer none))]]
def Zfx:Slot:=.own 1 [[(.ref 4 7 (0) 0)]]
def Q0n (p0:GNet) (p1:List Int) (p2:List Qaa) (x17:(Int×Int×(List (List Qaa))×(List Qa9)×(List Int))):Slot:=.own 7 [[(Zln p0),(Zlm p0),(.own 5 1 (0) ((p0.Elements.length:Int).toNat)),(.own 6 4 (0) ((p0.Elements.length:Int).toNat)),(.own 7 1 (0) p1.length),(Zlj p2),(I x17.2.1)]]
def Qrr (x17:(Int×Int×(List (List Qaa))×(List Qa9)×(List Int))) (p0:GNet):AV:=.dat 1 ((x17.2.2.1.take ((p0.Elements.length:Int).toNat):List (List Qaa)).map Qae)
def Zll (p0:GNet):Slot:=.own 2 [[(Zln p0),(Zlm p0)]]
def Qxl (x17:(Int×Int×(List (List Qaa))×(List Qa9)×(List Int))) (p0:GNet):AV:=.dat 4 ((x17.2.2.2.1.take ((p0.Elements.length:Int).toNat):List Qa9).map Qax)
def Zj2 (x17:(Int×Int×(List (List Qaa))×(List Qa9)×(List Int))) (p0:GNet) (p1:List Int):AV:=.dat 1 (((⟨x17.2.2.1.take ((p0.Elements.length:Int).toNat),x17.2.2.2.1.take ((p0.Elements.length:Int).toNat),x17.2.2.2.2.take p1.length⟩:Qfg).Out:List (List Qaa)).map Qae)
def Zj1 (x17:(Int×Int×(List (List Qaa))×(List Qa9)×(List Int))) (p0:GNet) (p1:List Int):AV:=.dat 4 (((⟨x17.2.2.1.take ((p0.Elements.length:Int).toNat),x17.2.2.2.1.take ((p0.Elements.length:Int).toNat),x17.2.2.2.2.take p1.length⟩:Qfg).Lost:List Qa9).map Qax)
def Zj0 (x17:(Int×Int×(List (List Qaa))×(List Qa9)×(List Int))) (p0:GNet) (p1:List Int):AV:=.dat 1 (((⟨x17.2.2.1.take ((p0.Elements.length:Int).toNat),x17.2.2.2.1.take ((p0.Elements.length:Int).toNat),x17.2.2.2.2.take p1.length⟩:Qfg).State:List Int).map Qad)
theorem Q4c (N:Nat) (p0:GNet) (p1:List Int) (p2:List Qaa) (r:(Qfg×Int×Int)) (h:Qzj N p0 p1 p2=some r):Spec prog 16 [(.agg (Qgx p0)),(.dat 1 (p1.map Qad)),(.dat 4 (p2.map Qac))] [] (.tup [(.agg [(.dat 1 (r.1.Out.map Qae)),(.dat 4 (r.1.Lost.map Qax)),(.dat 1 (r.1.State.map Qad))]),(I r.2.1),(I r.2.2)]) []:=by
  refine Qak func16 rfl 0 (nle rfl) (fun X φ0 w0 hφ0 hd0=>?_)
  unfold Qzj at h
  refine Qby<|wxz<|wsq ?_
  obtain⟨x11,hf10,h⟩:=bno h
  refine wx tbk [(3,rp _ _)] ⟨apv Zn1 (Qxi N p0 p1 p2 _ hf10) (nlc (NLt.agg _ (nlc (nld Qao _) (nlc (nld Qab _) nl0))) (nlc (nld Qag _) (nlc (nld Qaf _) nl0))) nll,tv⟩<|wxz ?_
  refine bfe h (fun hc12 h=>?_) fun hc12 h=>?_
  ·refine wft hc12<|wx tbk [(0,rp _ _)] ⟨Qaz (vs:=[]) rfl ts34 tz34 rfl (by rfl) rfl,tv⟩ ?_
   refine wmr (mto (n:=35) (l':=[(6,.ref 0 3 0 0),(7,I 0),(8,I x11)]) (own':=[Zav]) [(6,.ref 1 3 0 0),(7,I 0),(8,I x11)] [1] [Zlk] hφ0 (prr (pw (pw pn))) (qb (lc (.nil _) (lc (.nil _) (lc (.nil _) ln))) qn))<|Qah<|Qaj ?_
   obtain rfl:=osi h
   exact⟨_,Mor.rfl,⟨⟨[Zau,I 0,I x11],⟨Qbn (n:=0) (m:=3) (j:=0) (i:=0) (xs:=[[Q5l,Q5k,Q5j]]) (by kernel_rfl) (by kernel_rfl) ti34 (by decide) rfl (nle rfl) rfl,rot,rot,tv⟩,rfl⟩,(NLt.tup _ (nlc (NLt.agg _ (nlc (nld Qai _) (nlc (nld Qa2 _) (nlc (nld Qag _) nl0)))) (nlcc nl0))),Nat.le_refl _,fun n hn=>absurd hn (Nat.not_lt_zero n)⟩⟩
  ·refine wfn hc12<|Qaq<|thn ?_
   obtain⟨x14,hf13,h⟩:=bno h
   rcases x14 with x15 |x17
   ·replace h:=Zmq h
    refine wx tbk [(3,⟨_,_,_,_,false⟩)] ⟨Qat (first:=[]) (cap:=[]) (vs:=[(Zpa p0),(.dat 1 (p1.map Qad)),(Zlj p2)]) (σr:=[]) (σr':=[Zrs,(.own 1 [[I x15]])]) (res':=(.tup [(.lit (.pointer none)),I x15])) [2,3] rfl Qz5 (Qm9 N p0 p1 p2 _ hf13) rfl (Qbq (rnc (.plain _ (NLt.agg _ (nlc (nld Qao _) (nlc (nld Qab _) nl0)))) (rnc (pld Qag) (rnc (pld Qaf) rn0)))) Qas (slc (Qan (rnc (.plain _ nll) rn0)) (slc (Qan (rnc (.plain _ nll) rn0)) Qas)) (.plain _ (NLt.tup _ (nlcc nl0))) rfl rfl rfl,tv⟩<|wsq<|wxz ?_
    refine bfe h (fun hc16 h=>?_) fun hc16 h=>?_
    ·refine wft hc16<|wx tbk [(0,rp _ _)] ⟨Qaz (vs:=[]) rfl ts34 tz34 rfl (by rfl) rfl,tv⟩ ?_
     refine wmr (mto (n:=35) (l':=[(6,.ref 0 3 0 0),(7,I x15),(8,I 11)]) (own':=[Zav]) [(6,.ref 1 3 0 0),(7,I x15),(8,I 11)] [1] [Zlk] hφ0 (prr (pw (pw pn))) (qb (lc (.nil _) (lc (.nil _) (lc (.nil _) ln))) qn))<|Qah<|Qaj ?_
     obtain rfl:=osi h
     exact⟨_,Mor.rfl,⟨⟨[Zau,I x15,I 11],⟨Qbn (n:=0) (m:=3) (j:=0) (i:=0) (xs:=[[Q5l,Q5k,Q5j]]) (by kernel_rfl) (by kernel_rfl) ti34 (by decide) rfl (nle rfl) rfl,rot,rot,tv⟩,rfl⟩,(NLt.tup _ (nlc (NLt.agg _ (nlc (nld Qai _) (nlc (nld Qa2 _) (nlc (nld Qag _) nl0)))) (nlcc nl0))),Nat.le_refl _,fun n hn=>absurd hn (Nat.not_lt_zero n)⟩⟩
    ·refine wfn hc16<|Qaq<|thn ?_
     cases h
   ·replace h:=Zmp h
    refine wx tbk [(3,⟨_,_,_,_,false⟩)] ⟨Qat (first:=[]) (cap:=[]) (vs:=[(Zpa p0),(.dat 1 (p1.map Qad)),(Zlj p2)]) (σr:=[]) (σr':=[Zfx,(.own 1 [[I x17.1]]),(Q0n p0 p1 p2 x17),(.own 1 (x17.2.2.1.map Qae)),(.own 4 (x17.2.2.2.1.map Qax)),(.own 1 (x17.2.2.2.2.map Qad))]) (res':=(.tup [.ref 4 7 0 0,I x17.1])) [2,3,4,5,6,7] rfl Qz5 (Qm8 N p0 p1 p2 _ hf13) rfl (Qbq (rnc (.plain _ (NLt.agg _ (nlc (nld Qao _) (nlc (nld Qab _) nl0)))) (rnc (pld Qag) (rnc (pld Qaf) rn0)))) Qas (slc (Qan (rnc (Qb4 rfl) rn0)) (slc (Qan (rnc (.plain _ nll) rn0)) (slc (Qan (rnc (pld Qao) (rnc (pld Qab) (rnc (Qdt rfl) (rnc (Qdt rfl) (rnc (Qdt rfl) (rnc (pld Qaf) (rnc (.plain _ nll) rn0)))))))) (slc (Qbm Qai) (slc (Qbm Qa2) (slc (Qbm Qag) Qas)))))) (Zky (rnc (Qb4 rfl) (rnc (.plain _ nll) rn0))) rfl rfl rfl,tv⟩<|wsq<|wxz ?_
    refine bfe h (fun hc18 h=>?_) fun hc18 h=>?_
    ·refine wft hc18<|wx tbk [(0,rp _ _)] ⟨Qaz (vs:=[]) rfl ts34 tz34 rfl (by rfl) rfl,tv⟩ ?_
     refine wmr (mto (n:=35) (l':=[(6,.ref 0 3 0 0),(7,I x17.1),(8,I 11)]) (own':=[Zav]) [(6,.ref 1 3 0 0),(7,I x17.1),(8,I 11)] [1] [Zlk] hφ0 (prr (pw (pw pn))) (qb (lc (.nil _) (lc (.nil _) (lc (.nil _) ln))) qn))<|Qah<|Qaj ?_
     obtain rfl:=osi h
     exact⟨_,Mor.rfl,⟨⟨[Zau,I x17.1,I 11],⟨Qbn (n:=0) (m:=3) (j:=0) (i:=0) (xs:=[[Q5l,Q5k,Q5j]]) (by kernel_rfl) (by kernel_rfl) ti34 (by decide) rfl (nle rfl) rfl,rot,rot,tv⟩,rfl⟩,(NLt.tup _ (nlc (NLt.agg _ (nlc (nld Qai _) (nlc (nld Qa2 _) (nlc (nld Qag _) nl0)))) (nlcc nl0))),Nat.le_refl _,fun n hn=>absurd hn (Nat.not_lt_zero n)⟩⟩
    ·refine wfn hc18<|Qaq<|thn ?_
     refine wx tbk [(1,rb [(.tmp 31,.ref 4 7 0 0)] [(4,(Q0n p0 p1 p2 x17))] (.ref 4 7 0 0))] ⟨Qbu rfl,tv⟩ ?_
     obtain⟨hz19,h⟩:=cko h
     refine wmr (Q4g (n:=35) (mp:=3) (m:=1) (xs:=x17.2.2.1.map Qae) (c:=[(.own 5 1 (0) ((p0.Elements.length:Int).toNat)),(.own 6 4 (0) ((p0.Elements.length:Int).toNat)),(.own 7 1 (0) p1.length)]) (l':=[(6,.ref 1 3 0 0),(7,I 0),(8,I 0)]) (c':=[(Qrr x17 p0),(.own 6 4 (0) ((p0.Elements.length:Int).toNat)),(.own 7 1 (0) p1.length)]) (own':=[(Zll p0),(.own 3 [[(Qrr x17 p0),(.own 6 4 (0) ((p0.Elements.length:Int).toNat)),(.own 7 1 (0) p1.length)]]),Zfx,(.own 1 [[I x17.1]]),(Q0n p0 p1 p2 x17),.dead,(.own 4 (x17.2.2.2.1.map Qax)),(.own 1 (x17.2.2.2.2.map Qad))]) 5 1 [(6,.ref 1 3 0 0),(7,I 0),(8,I 0)] (by kernel_rfl) (by kernel_rfl) (by kernel_rfl) (by kernel_rfl) ⟨(Qnr hz19),(.same _),(.same _),tv⟩ ⟨rfl,(.same _),rfl,(.same _),rfl,(.same _),tv⟩ (by kernel_rfl)) ?_
     obtain⟨hz20,h⟩:=cko h
     refine wmr (Q4g (n:=35) (mp:=3) (m:=4) (xs:=x17.2.2.2.1.map Qax) (c:=[(Qrr x17 p0),(.own 6 4 (0) ((p0.Elements.length:Int).toNat)),(.own 7 1 (0) p1.length)]) (l':=[(6,.ref 1 3 0 0),(7,I 0),(8,I 0)]) (c':=[(Qrr x17 p0),(Qxl x17 p0),(.own 7 1 (0) p1.length)]) (own':=[(Zll p0),(.own 3 [[(Qrr x17 p0),(Qxl x17 p0),(.own 7 1 (0) p1.length)]]),Zfx,(.own 1 [[I x17.1]]),(Q0n p0 p1 p2 x17),.dead,.dead,(.own 1 (x17.2.2.2.2.map Qad))]) 6 1 [(6,.ref 1 3 0 0),(7,I 0),(8,I 0)] (by kernel_rfl) (by kernel_rfl) (by kernel_rfl) (by kernel_rfl) ⟨(.same _),(Qnr hz20),(.same _),tv⟩ ⟨rfl,(.same _),rfl,(.same _),rfl,(.same _),tv⟩ (by kernel_rfl)) ?_
     obtain⟨hz21,h⟩:=cko h
     refine wmr (Q4g (n:=35) (mp:=3) (m:=1) (xs:=x17.2.2.2.2.map Qad) (c:=[(Qrr x17 p0),(Qxl x17 p0),(.own 7 1 (0) p1.length)]) (l':=[(6,.ref 1 3 0 0),(7,I 0),(8,I 0)]) (c':=[(Qrr x17 p0),(Qxl x17 p0),(.dat 1 ((x17.2.2.2.2.take p1.length:List Int).map Qad))]) (own':=[(Zll p0),(.own 3 [[(Qrr x17 p0),(Qxl x17 p0),(.dat 1 ((x17.2.2.2.2.take p1.length:List Int).map Qad))]]),Zfx,(.own 1 [[I x17.1]]),(Q0n p0 p1 p2 x17),.dead,.dead,.dead]) 7 1 [(6,.ref 1 3 0 0),(7,I 0),(8,I 0)] (by kernel_rfl) (by kernel_rfl) (by kernel_rfl) (by kernel_rfl) ⟨(.same _),(.same _),(Qnr hz21),tv⟩ ⟨rfl,(.same _),rfl,(.same _),rfl,(.same _),tv⟩ (by kernel_rfl)) ?_
     refine wmr (mto (n:=35) (l':=[(6,.ref 0 3 0 0),(7,I 0),(8,I 0)]) (own':=[(.own 3 [[(.dat 1 ((((⟨x17.2.2.1.take ((p0.Elements.length:Int).toNat),x17.2.2.2.1.take ((p0.Elements.length:Int).toNat),x17.2.2.2.2.take p1.length⟩:Qfg).Out):List (List Qaa)).map Qae)),(.dat 4 ((((⟨x17.2.2.1.take ((p0.Elements.length:Int).toNat),x17.2.2.2.1.take ((p0.Elements.length:Int).toNat),x17.2.2.2.2.take p1.length⟩:Qfg).Lost):List Qa9).map Qax)),(.dat 1 ((((⟨x17.2.2.1.take ((p0.Elements.length:Int).toNat),x17.2.2.2.1.take ((p0.Elements.length:Int).toNat),x17.2.2.2.2.take p1.length⟩:Qfg).State):List Int).map Qad))]])]) [(6,.ref 1 3 0 0),(7,I 0),(8,I 0)] [1] [(.own 3 [[(Qrr x17 p0),(Qxl x17 p0),(.dat 1 ((x17.2.2.2.2.take p1.length:List Int).map Qad))]])] hφ0 (prr (pw (pw pn))) (qb (lc (rnd Qai) (lc (rnd Qa2) (lc (rnd Qag) ln))) qn))<|Qah ?_
     obtain rfl:=osi h
     exact⟨_,Mor.rfl,⟨⟨[(.agg [(Zj2 x17 p0 p1),(Zj1 x17 p0 p1),(Zj0 x17 p0 p1)]),I 0,I 0],⟨Qbn (n:=0) (m:=3) (j:=0) (i:=0) (xs:=[[(Zj2 x17 p0 p1),(Zj1 x17 p0 p1),(Zj0 x17 p0 p1)]]) (by kernel_rfl) (by kernel_rfl) ti34 (by decide) rfl (nle rfl) rfl,rot,rot,tv⟩,rfl⟩,(NLt.tup _ (nlc (NLt.agg _ (nlc (nld Qai _) (nlc (nld Qa2 _) (nlc (nld Qag _) nl0)))) (nlcc nl0))),Nat.le_refl _,fun n hn=>absurd hn (Nat.not_lt_zero n)⟩⟩
def Qrg (_N:Nat):Option (GNet×(List Qaa)):=
  some ((⟨[(⟨100,101,419,2676,150⟩:GRow),(⟨150,476,632,2746,300⟩:GRow),(⟨200,1555,852,2793,600⟩:GRow)],[(⟨1,[],2,0,1000,1000000,[]⟩:Qam),(⟨3,[(⟨0,0⟩:Qa6)],2,2000,1000,1000000,[]⟩:Qam),(⟨4,[(⟨1,0⟩:Qa6)],0,100,1000,1000000,[]⟩:Qam)]⟩:GNet),[(⟨1000,852000,250000,50⟩:Qaa)])
def Zo6:AV:=.agg [(I (100)),(I (101)),(I (419)),(I (2676)),(I (150))]
def Zo5:AV:=.agg [(I (150)),(I (476)),(I (632)),(I (2746)),(I (300))]
def Zo3:AV:=.agg [(I (200)),(I (1555)),(I (852)),(I (2793)),(I (600))]
def Zfu:AV:=.dat 5 (([(⟨100,101,419,2676,150⟩:GRow),(⟨150,476,632,2746,300⟩:GRow),(⟨200,1555,852,2793,600⟩:GRow)]:List GRow).map Qav)
def Zrp:AV:=.agg [(K .u8 (1)),nilS,(I (2)),(I (0)),(I (1000)),(I (1000000)),nilS]
def Zo2:AV:=.agg [(I (0)),(I (0))]
def Zft:AV:=.dat 2 (([(⟨0,0⟩:Qa6)]:List Qa6).map Qaw)
def Zro:AV:=.agg [(K .u8 (3)),Zft,(I (2)),(I (2000)),(I (1000)),(I (1000000)),nilS]
def Zo1:AV:=.agg [(I (1)),(I (0))]
def Zfs:AV:=.dat 2 (([(⟨1,0⟩:Qa6)]:List Qa6).map Qaw)
def Zo4:AV:=.agg [(K .u8 (4)),Zfs,(I (0)),(I (100)),(I (1000)),(I (1000000)),nilS]
def Q5i:AV:=.dat 7 (([(⟨1,[],2,0,1000,1000000,[]⟩:Qam),(⟨3,[(⟨0,0⟩:Qa6)],2,2000,1000,1000000,[]⟩:Qam),(⟨4,[(⟨1,0⟩:Qa6)],0,100,1000,1000000,[]⟩:Qam)]:List Qam).map Qal)
def Zai:AV:=.dat 1 (([]:List Int).map Qad)
def Zjw:AV:=.agg [(K .u8 (1)),(.dat 2 (([]:List Qa6).map Qaw)),(I (2)),(I (0)),(I (1000)),(I (1000000)),Zai]
def Zjv:AV:=.agg [(K .u8 (3)),Zft,(I (2)),(I (2000)),(I (1000)),(I (1000000)),Zai]
def Zju:AV:=.agg [(K .u8 (4)),Zfs,(I (0)),(I (100)),(I (1000)),(I (1000000)),Zai]
def Zjt:AV:=.agg [(I (1000)),(I (852000)),(I (250000)),(I (50))]
def Zjs:AV:=.dat 4 (([(⟨1000,852000,250000,50⟩:Qaa)]:List Qaa).map Qac)
theorem Qxj (N:Nat) (r:(GNet×(List Qaa))) (h:Qrg N=some r):Spec prog 55 [] [] (.tup [(.agg (Qgx r.1)),(.dat 4 (r.2.map Qac))]) []:=by
  refine Qak func55 rfl 0 (nle rfl) (fun X φ0 w0 hφ0 hd0=>?_)
  unfold Qrg at h
  refine wxz<|wx tbk [(0,rp _ _),(1,rp _ _),(2,rp _ _),(3,rp [(.tmp 4,Zo6),(.tmp 5,Zo5),(.tmp 6,Zo3)] Zfu)] ⟨Qaz (vs:=[I 100,I 101,I 419,I 2676,I 150]) rfl Zgu Q3w rfl (by rfl) rfl,Qaz (vs:=[I 150,I 476,I 632,I 2746,I 300]) rfl Zgu Q3w rfl (by rfl) rfl,Qaz (vs:=[I 200,I 1555,I 852,I 2793,I 600]) rfl Zgu Q3w rfl (by rfl) rfl,Qbo (vs:=[Zo6,Zo5,Zo3]) rfl underlying39 Qxf Q3w rfl (by decide) rfl (by decide) (by rfl) (by rfl) (by rfl) rfl,tv⟩ ?_
  refine wx tbk [(0,rp _ _),(1,rp _ _),(2,rp [(.tmp 9,Zo2)] Zft),(3,rp _ _),(4,rp _ _),(5,rp [(.tmp 12,Zo1)] Zfs),(6,rp _ _),(7,rp [(.tmp 8,Zrp),(.tmp 11,Zro),(.tmp 14,Zo4)] Q5i)] ⟨Qaz (vs:=[(K .u8 (1)),I 2,I 1000,I 1000000]) rfl Zgv Q3x rfl (by rfl) rfl,Qaz (vs:=[]) rfl Zcl Qxb rfl (by rfl) rfl,Qbo (vs:=[Zo2]) rfl underlying116 Qta Qxb rfl (by decide) rfl (by decide) (by rfl) (by rfl) (by rfl) rfl,Qaz (vs:=[(K .u8 (3)),Zft,I 2,I 2000,I 1000,I 1000000]) rfl Zgv Q3x rfl (by rfl) rfl,Qaz (vs:=[I 1]) rfl Zcl Qxb rfl (by rfl) rfl,Qbo (vs:=[Zo1]) rfl underlying116 Qta Qxb rfl (by decide) rfl (by decide) (by rfl) (by rfl) (by rfl) rfl,Qaz (vs:=[(K .u8 (4)),Zfs,I 100,I 1000,I 1000000]) rfl Zgv Q3x rfl (by rfl) rfl,awk (rd':=[(.tmp 8,Zjw),(.tmp 11,Zjv),(.tmp 14,Zju)]) ⟨rfl,(Less.agg ⟨lrf,Less.nil,lrf,lrf,lrf,lrf,Less.nil,tv⟩),rfl,(Less.agg ⟨lrf,lrf,lrf,lrf,lrf,lrf,Less.nil,tv⟩),rfl,(Less.agg ⟨lrf,lrf,lrf,lrf,lrf,lrf,Less.nil,tv⟩),tv⟩ (Qbo (vs:=[Zjw,Zjv,Zju]) rfl underlying40 Qmk Q3x rfl (by decide) rfl (by decide) (by rfl) (by rfl) (by rfl) rfl),tv⟩ ?_
  refine wx tbk [(2,rp _ _),(3,rp _ _),(4,rp [(.tmp 19,Zjt)] Zjs)] ⟨Qaz (vs:=[Zfu,Q5i]) rfl ts42 tz42 rfl (by rfl) rfl,Qaz (vs:=[I 1000,I 852000,I 250000,I 50]) rfl ts63 tz63 rfl (by rfl) rfl,Qbo (vs:=[Zjt]) rfl underlying45 ti63 tz63 rfl (by decide) rfl (by decide) (by rfl) (by rfl) (by rfl) rfl,tv⟩<|Qah ?_
  obtain rfl:=osi h
  exact fend ⟨[(.agg [Zfu,Q5i]),Zjs],⟨Qbn (n:=0) (m:=2) (j:=0) (i:=0) (xs:=[[Zfu,Q5i]]) (by kernel_rfl) (by kernel_rfl) ti42 (by decide) rfl (nle rfl) rfl,rot,tv⟩,rfl⟩ (NLt.tup _ (nlc (NLt.agg _ (nlc (nld Qao _) (nlc (nld Qab _) nl0))) (nlc (nld Qaf _) nl0)))
def Qjp (N:Nat):Option Bool:=
  (Qrg 2000 ).bind fun x2=>
  (Qtj N (⟨x2.1.Table,x2.1.Elements⟩:GNet)).bind fun x4=>
  (Qzj N (⟨x2.1.Table,x2.1.Elements⟩:GNet) ([0,0,0]) x2.2).bind fun x6=>
  bif (x4.2==0) then
   bif (x6.2.2==0) then
    bif ((x4.1.length:Int)==2) then
     (getI x4.1 1).bind fun x10=>
     bif (([x10.Element,x10.Outlet]:List Int)==[2,1]) then
      bif ((x6.1.Out.length:Int)==3) then
       (getI x6.1.Out 2).bind fun x16=>
       bif ((x16.length:Int)==2) then
        bif ((x6.1.Lost.length:Int)==3) then
         (getI x16 0).bind fun x22=>
         bif (([x22.Mass,x22.Heat,x22.Silica,x22.Gas]:List Int)==[271,542596,12150,50]) then
          (getI x16 1).bind fun x27=>
          bif (([x27.Mass,x27.Heat,x27.Silica,x27.Gas]:List Int)==[729,307404,109350,0]) then
           (getI x6.1.Lost 1).bind fun x32=>
           bif (x32.Heat==2000) then
            (getI x6.1.Lost 2).bind fun x37=>
            some (x37.Scale==128500)
           else
            some false
          else
           some false
         else
          some false
        else
         some false
       else
        some false
      else
       some false
     else
      some false
    else
     some false
   else
    some false
  else
   some false
def Zrq:AV:=.dat 1 (([0,0,0]:List Int).map Qad)
def Zfv (x6:(Qfg×Int×Int)):AV:=.dat 1 (x6.1.Out.map Qae)
def Zli (x6:(Qfg×Int×Int)):AV:=.dat 4 (x6.1.Lost.map Qax)
def Zar (x4:((List Qa6)×Int)):List (Nat×Rec):=[(2,rp [((.tmp 26),(B ((x4.2==0))))] (B true))]
def Zaq x4 (x6:(Qfg×Int×Int)):=hcat (Zar x4) [(6,rp [((.tmp 30),(B ((x6.2.2==0))))] (B true)),(8,rp [((.tmp 31),(B true)),((.tmp 32),(.dat 2 (x4.1.map Qaw)))] (I ((x4.1.length:Int))))]
def Zap x4 x6 (x10:Qa6):=hcat (Zaq x4 x6) [(11,rp [((.tmp 35),(B (((x4.1.length:Int)==2))))] (B true)),(13,rp [((.tmp 36),(B true)),((.tmp 37),(.dat 2 (x4.1.map Qaw))),ci 1] (.dptr (Qaw x10) 0)),(15,rp [((.tmp 36),(B true)),ci 2,ci 1] (.agg [(I (2)),(I (1))])),(16,rp [((.tmp 36),(B true)),((.tmp 39),(.agg [(I x10.Element),(I x10.Outlet)])),((.tmp 40),(.agg [(I (2)),(I (1))]))] (B ((([x10.Element,x10.Outlet]:List Int)==[2,1]))))]
def Zao x4 x6 x10:=hcat (Zap x4 x6 x10) [(18,rp [((.tmp 42),(B ((([x10.Element,x10.Outlet]:List Int)==[2,1]))))] (B true)),(21,rp [((.tmp 43),(B true)),((.tmp 45),(Zfv x6))] (I ((x6.1.Out.length:Int))))]
def Zan x4 x6 x10 (x16:List Qaa):=hcat (Zao x4 x6 x10) [(24,rp [((.tmp 48),(B (((x6.1.Out.length:Int)==3))))] (B true)),(27,rp [((.tmp 49),(B true)),((.tmp 51),(Zfv x6)),ci 2] (.dptr (Qae x16) 0)),(29,rp [((.tmp 49),(B true)),((.tmp 53),(.dat 4 (x16.map Qac)))] (I ((x16.length:Int))))]
def Zam x4 x6 x10 x16:=hcat (Zan x4 x6 x10 x16) [(32,rp [((.tmp 56),(B (((x16.length:Int)==2))))] (B true)),(35,rp [((.tmp 57),(B true)),((.tmp 59),(Zli x6))] (I ((x6.1.Lost.length:Int))))]
def Zjy:AV:=.agg [(I (271)),(I (542596)),(I (12150)),(I (50))]
def Zal x4 x6 x10 x16 (x22:Qaa):=hcat (Zam x4 x6 x10 x16) [(38,rp [((.tmp 62),(B (((x6.1.Lost.length:Int)==3))))] (B true)),(41,rp [((.tmp 63),(B true)),((.tmp 65),(Zfv x6)),ci 2] (.dptr (Qae x16) 0)),(43,rp [((.tmp 63),(B true)),((.tmp 67),(.dat 4 (x16.map Qac))),ci 0] (.dptr (Qac x22) 0)),(45,rp [((.tmp 63),(B true)),ci 271,ci 542596,ci 12150,ci 50] Zjy),(46,rp [((.tmp 63),(B true)),((.tmp 69),(.agg [(I x22.Mass),(I x22.Heat),(I x22.Silica),(I x22.Gas)])),((.tmp 70),Zjy)] (B ((([x22.Mass,x22.Heat,x22.Silica,x22.Gas]:List Int)==[271,542596,12150,50]))))]
def Zjx:AV:=.agg [(I (729)),(I (307404)),(I (109350)),(I (0))]
def Zak x4 x6 x10 x16 x22 (x27:Qaa):=hcat (Zal x4 x6 x10 x16 x22) [(48,rp [((.tmp 72),(B ((([x22.Mass,x22.Heat,x22.Silica,x22.Gas]:List Int)==[271,542596,12150,50]))))] (B true)),(51,rp [((.tmp 73),(B true)),((.tmp 75),(Zfv x6)),ci 2] (.dptr (Qae x16) 0)),(53,rp [((.tmp 73),(B true)),((.tmp 77),(.dat 4 (x16.map Qac))),ci 1] (.dptr (Qac x27) 0)),(55,rp [((.tmp 73),(B true)),ci 729,ci 307404,ci 109350] Zjx),(56,rp [((.tmp 73),(B true)),((.tmp 79),(.agg [(I x27.Mass),(I x27.Heat),(I x27.Silica),(I x27.Gas)])),((.tmp 80),Zjx)] (B ((([x27.Mass,x27.Heat,x27.Silica,x27.Gas]:List Int)==[729,307404,109350,0]))))]
def Zaj x4 x6 x10 x16 x22 x27 (x32:Qa9):=hcat (Zak x4 x6 x10 x16 x22 x27) [(58,rp [((.tmp 82),(B ((([x27.Mass,x27.Heat,x27.Silica,x27.Gas]:List Int)==[729,307404,109350,0]))))] (B true)),(61,rp [((.tmp 83),(B true)),((.tmp 85),(Zli x6)),ci 1] (.dptr (Qax x32) 0))]
theorem Qmv (N:Nat) (r:Bool) (h:Qjp N=some r):Spec prog 15 [] [] (B r) []:=by
  refine Qak func15 rfl 0 (nle rfl) (fun X φ0 w0 hφ0 hd0=>?_)
  unfold Qjp at h
  refine wxz ?_
  obtain⟨x2,hf1,h⟩:=bno h
  refine wx tbk [(0,rp _ _)] ⟨apv Zn2 (Qxj 2000  _ hf1) nl0 (NLt.tup _ (nlc (NLt.agg _ (nlc (nld Qao _) (nlc (nld Qab _) nl0))) (nlc (nld Qaf _) nl0))),tv⟩ ?_
  obtain⟨x4,hf3,h⟩:=bno h
  refine wx tbk [(1,rp _ _)] ⟨apv Zn3 (Qzi N (⟨x2.1.Table,x2.1.Elements⟩:GNet) _ hf3) (nlc (NLt.agg _ (nlc (nld Qao _) (nlc (nld Qab _) nl0))) nl0) (NLt.tup _ (nlc (nld Qa1 _) (nlc nll nl0))),tv⟩ ?_
  obtain⟨x6,hf5,h⟩:=bno h
  refine wx tbk [(1,rp [ci 0,ci 0,ci 0] Zrq),(3,rp _ _)] ⟨Qbo (vs:=[I 0,I 0,I 0]) rfl underlying27 ti3 tz3 rfl (by decide) rfl (by decide) (by rfl) (by rfl) (by rfl) rfl,apv Zof (Q4c N (⟨x2.1.Table,x2.1.Elements⟩:GNet) ([0,0,0]) x2.2 _ hf5) (nlc (NLt.agg _ (nlc (nld Qao _) (nlc (nld Qab _) nl0))) (nlc (nld Qag _) (nlc (nld Qaf _) nl0))) (NLt.tup _ (nlc (NLt.agg _ (nlc (nld Qai _) (nlc (nld Qa2 _) (nlc (nld Qag _) nl0)))) (nlcc nl0))),tv⟩ ?_
  refine bfe h (fun hb7 h=>?_) fun hb7 h=>?_
  ·refine hpre (A:=(Zar x4)) ⟨asb hb7 (amv rfl),tv⟩ fun q1_=>?_
   refine bfe h (fun hb8 h=>?_) fun hb8 h=>?_
   ·refine hpre (A:=(Zaq x4 x6)) (hap q1_ ⟨asb hb8 (amv rfl),ag_ (alq 2 Qaw x4.1 underlying116),tv⟩) fun q2_=>?_
    refine bfe h (fun hb9 h=>?_) fun hb9 h=>?_
    ·obtain⟨x10,hg11,h⟩:=bno h
     obtain⟨hi12,hj13⟩:=gsm hg11
     refine hpre (A:=(Zap x4 x6 x10)) (hap q2_ ⟨asb hb9 (amv rfl),ag_ (aiq underlying116 Qta Qaw hi12 hj13),ag_ (Qaz (vs:=[I 2,I 1]) rfl Zcl Qxb rfl (by rfl) rfl),ag_ (Qs1 (ls:=[x10.Element,x10.Outlet]) (ks:=[2,1]) rfl rfl Qwn (by kernel_rfl) rfl rfl),tv⟩) fun q3_=>?_
     refine bfe h (fun hb14 h=>?_) fun hb14 h=>?_
     ·refine hpre (A:=(Zao x4 x6 x10)) (hap q3_ ⟨asb hb14 (amv rfl),ag_ (alq 1 Qae x6.1.Out underlying31),tv⟩) fun q4_=>?_
      refine bfe h (fun hb15 h=>?_) fun hb15 h=>?_
      ·obtain⟨x16,hg17,h⟩:=bno h
       obtain⟨hi18,hj19⟩:=gsm hg17
       refine hpre (A:=(Zan x4 x6 x10 x16)) (hap q4_ ⟨asb hb15 (amv rfl),ag_ (aiq underlying31 ti45 Qae hi18 hj19),ag_ (alq 4 Qac x16 underlying45),tv⟩) fun q5_=>?_
       refine bfe h (fun hb20 h=>?_) fun hb20 h=>?_
       ·refine hpre (A:=(Zam x4 x6 x10 x16)) (hap q5_ ⟨asb hb20 (amv rfl),ag_ (alq 4 Qax x6.1.Lost underlying32),tv⟩) fun q6_=>?_
        refine bfe h (fun hb21 h=>?_) fun hb21 h=>?_
        ·obtain⟨x22,hg23,h⟩:=bno h
         obtain⟨hi24,hj25⟩:=gsm hg23
         refine hpre (A:=(Zal x4 x6 x10 x16 x22)) (hap q6_ ⟨asb hb21 (amv rfl),ag_ (aiq underlying31 ti45 Qae hi18 hj19),ag_ (aiq underlying45 ti63 Qac hi24 hj25),ag_ (Qaz (vs:=[I 271,I 542596,I 12150,I 50]) rfl ts63 tz63 rfl (by rfl) rfl),ag_ (Qs1 (ls:=[x22.Mass,x22.Heat,x22.Silica,x22.Gas]) (ks:=[271,542596,12150,50]) rfl rfl Zrc (by kernel_rfl) rfl rfl),tv⟩) fun q7_=>?_
         refine bfe h (fun hb26 h=>?_) fun hb26 h=>?_
         ·obtain⟨x27,hg28,h⟩:=bno h
          obtain⟨hi29,hj30⟩:=gsm hg28
          refine hpre (A:=(Zak x4 x6 x10 x16 x22 x27)) (hap q7_ ⟨asb hb26 (amv rfl),ag_ (aiq underlying31 ti45 Qae hi18 hj19),ag_ (aiq underlying45 ti63 Qac hi29 hj30),ag_ (Qaz (vs:=[I 729,I 307404,I 109350]) rfl ts63 tz63 rfl (by rfl) rfl),ag_ (Qs1 (ls:=[x27.Mass,x27.Heat,x27.Silica,x27.Gas]) (ks:=[729,307404,109350,0]) rfl rfl Zrc (by kernel_rfl) rfl rfl),tv⟩) fun q8_=>?_
          refine bfe h (fun hb31 h=>?_) fun hb31 h=>?_
          ·obtain⟨x32,hg33,h⟩:=bno h
           obtain⟨hi34,hj35⟩:=gsm hg33
           refine hpre (A:=(Zaj x4 x6 x10 x16 x22 x27 x32)) (hap q8_ ⟨asb hb31 (amv rfl),ag_ (aiq underlying32 ti82 Qax hi34 hj35),tv⟩) fun q9_=>?_
           refine bfe h (fun hb36 h=>?_) fun hb36 h=>?_
           ·obtain⟨x37,hg38,h⟩:=bno h
            obtain⟨hi39,hj40⟩:=gsm hg38
            refine wx tbk (hcat (Zaj x4 x6 x10 x16 x22 x27 x32) [(66,rp [(.tmp 90,(B ((x32.Heat==2000))))] (B true)),(69,rp [(.tmp 91,B true),(.tmp 93,(Zli x6)),ci 2] (.dptr (Qax x37) 0))]) (hap q9_ ⟨asb hb36 (amv rfl),ag_ (aiq underlying32 ti82 Qax hi39 hj40),tv⟩)<|Qah ?_
            obtain rfl:=osi h
            exact fend ⟨[(B ((x37.Scale==128500)))],⟨rot,tv⟩,rfl⟩ nll
           ·exact wx tbk (hcat (Zaj x4 x6 x10 x16 x22 x27 x32) [(66,rp [(.tmp 90,(B ((x32.Heat==2000))))] (B false))]) (hap q9_ ⟨asb hb36 (amv rfl),tv⟩)<|Qah<|frb h
          ·exact wx tbk (hcat (Zak x4 x6 x10 x16 x22 x27) [(58,rp [(.tmp 82,(B ((([x27.Mass,x27.Heat,x27.Silica,x27.Gas]:List Int)==[729,307404,109350,0]))))] (B false))]) (hap q8_ ⟨asb hb31 (amv rfl),tv⟩)<|Qah<|frb h
         ·exact wx tbk (hcat (Zal x4 x6 x10 x16 x22) [(48,rp [(.tmp 72,(B ((([x22.Mass,x22.Heat,x22.Silica,x22.Gas]:List Int)==[271,542596,12150,50]))))] (B false))]) (hap q7_ ⟨asb hb26 (amv rfl),tv⟩)<|Qah<|frb h
        ·exact wx tbk (hcat (Zam x4 x6 x10 x16) [(38,rp [(.tmp 62,(B (((x6.1.Lost.length:Int)==3))))] (B false))]) (hap q6_ ⟨asb hb21 (amv rfl),tv⟩)<|Qah<|frb h
       ·exact wx tbk (hcat (Zan x4 x6 x10 x16) [(32,rp [(.tmp 56,(B (((x16.length:Int)==2))))] (B false))]) (hap q5_ ⟨asb hb20 (amv rfl),tv⟩)<|Qah<|frb h
      ·exact wx tbk (hcat (Zao x4 x6 x10) [(24,rp [(.tmp 48,(B (((x6.1.Out.length:Int)==3))))] (B false))]) (hap q4_ ⟨asb hb15 (amv rfl),tv⟩)<|Qah<|frb h
     ·exact wx tbk (hcat (Zap x4 x6 x10) [(18,rp [(.tmp 42,(B ((([x10.Element,x10.Outlet]:List Int)==[2,1]))))] (B false))]) (hap q3_ ⟨asb hb14 (amv rfl),tv⟩)<|Qah<|frb h
    ·exact wx tbk (hcat (Zaq x4 x6) [(11,rp [(.tmp 35,(B (((x4.1.length:Int)==2))))] (B false))]) (hap q2_ ⟨asb hb9 (amv rfl),tv⟩)<|Qah<|frb h
   ·exact wx tbk (hcat (Zar x4) [(6,rp [(.tmp 30,(B ((x6.2.2==0))))] (B false))]) (hap q1_ ⟨asb hb8 (amv rfl),tv⟩)<|Qah<|frb h
  ·exact wx tbk [(2,rp [(.tmp 26,(B ((x4.2==0))))] (B false))] ⟨asb hb7 (amv rfl),tv⟩<|Qah<|frb h
end
section
set_option maxRecDepth 100000
set_option maxHeartbeats 4000000
open Go.RowKit
def Qej (_N:Nat) (p0 p1 p2:Int):Option Bool:=
  bif (decide (p0≥p1)) then
   some (decide (p0≤p2))
  else
   some false
theorem Qdg (N:Nat) (p0 p1 p2:Int) (r:Bool) (h:Qej N p0 p1 p2=some r):Spec prog 25 [(I p0),(I p1),(I p2)] [] (B r) []:=by
  refine Qak func25 rfl 0 (nle rfl) (fun X φ0 w0 hφ0 hd0=>?_)
  unfold Qej at h
  refine wxz ?_
  refine bfe h (fun hb1 h=>?_) fun hb1 h=>?_
  ·refine wx tbk [(3,rp [(.tmp 9,(B ((decide (p0≥p1)))))] (B true))] ⟨asb hb1 (amv rfl),tv⟩<|Qah ?_
   obtain rfl:=osi h
   exact fend ⟨[(B ((decide (p0≤p2))))],⟨rot,tv⟩,rfl⟩ nll
  ·exact wx tbk [(3,rp [(.tmp 9,(B ((decide (p0≥p1)))))] (B false))] ⟨asb hb1 (amv rfl),tv⟩<|Qah<|frb h
def Qed (N:Nat) (p0:List GRow) (k1:Unit→Option Bool):Nat→Int→Option Bool
  |0,_=>none
  |n5+1,y3=>
    bif (decide (y3<(p0.length:Int))) then
     (getI p0 y3).bind fun x7=>
     Qbi (fun _=>
       bif (decide (y3>0)) then
        (getI p0 (w64 (y3-1))).bind fun x13=>
        bif (decide (x7.T≤x13.T)) then
         some false
        else
         bif (decide (x7.P≤x13.P)) then
          some false
         else
          bif (decide (x7.Liquid≤x13.Liquid)) then
           some false
          else
           bif (decide (x7.Silica<x13.Silica)) then
            some false
           else
            Qed N p0 k1 n5 (w64 (y3+1))
       else
        Qed N p0 k1 n5 (w64 (y3+1))) fun k11:Unit→Option Bool=>
     (Qej N x7.T 0 400).bind fun x22=>
     bif (!x22) then
      some false
     else
      (Qej N x7.P 1 10000).bind fun x25=>
      bif (!x25) then
       some false
      else
       (Qej N x7.Liquid 0 4000).bind fun x28=>
       bif (!x28) then
        some false
       else
        (Qej N x7.Silica 0 2000).bind fun x31=>
        bif (!x31) then
         some false
        else
         bif (decide (x7.Vapour≤x7.Liquid)) then
          some false
         else
          bif (decide (x7.Vapour>4000)) then
           some false
          else
           k11 ()
    else
     k1 ()
def Qln (N:Nat) (p0:List GRow):Option Bool:=
  Qbi (fun _=>
    bif (decide ((p0.length:Int)≥2)) then
     some (decide ((p0.length:Int)≤20))
    else
     some false) fun k1:Unit→Option Bool=>
  Qed N p0 k1 N 0
def Zjr (x7:GRow):Slot:=.own 5 [[(I x7.T),(I x7.P),(I x7.Liquid),(I x7.Vapour),(I x7.Silica)]]
def Zah (y3:Int) (p0:List GRow) (x13:GRow):List (Nat×Rec):=[(2,rp [((.tmp 50),(B ((decide (y3>0)))))] (B true)),(8,rp [((.tmp 51),(B true)),((.tmp 54),(.dat 5 (p0.map Qav))),((.tmp 56),(I (w64 (y3-1))))] (.dptr (Qav x13) 0))]
def Zag y3 p0 x13 (x7:GRow):=hcat (Zah y3 p0 x13) [(12,rp [((.tmp 51),(B true)),((.tmp 60),(B ((decide (x7.T≤x13.T)))))] (B false)),(18,rp [((.tmp 61),(B false)),((.tmp 64),(.dat 5 (p0.map Qav))),((.tmp 66),(I (w64 (y3-1))))] (.dptr (Qav x13) 0))]
def Zaf y3 p0 x13 x7:=hcat (Zag y3 p0 x13 x7) [(23,rp [((.tmp 51),(B true)),((.tmp 71),(B ((decide (x7.P≤x13.P)))))] (B false)),(29,rp [((.tmp 72),(B false)),((.tmp 75),(.dat 5 (p0.map Qav))),((.tmp 77),(I (w64 (y3-1))))] (.dptr (Qav x13) 0))]
def Zae (x7:GRow) (x22:Bool):List (Nat×Rec):=[(2,rp [fu 25,((.tmp 16),(I x7.T)),ci 0,ci 400] (B x22))]
def Zad x7 x22 (x25:Bool):=hcat (Zae x7 x22) [(4,rp [((.tmp 18),(B ((!x22))))] (B false)),(7,rp [((.tmp 19),(B false)),fu 25,((.tmp 21),(I x7.P)),ci 1,ci 10000] (B x25))]
def Zac x7 x22 x25 (x28:Bool):=hcat (Zad x7 x22 x25) [(10,rp [((.tmp 24),(B ((!x25))))] (B false)),(13,rp [((.tmp 25),(B false)),fu 25,((.tmp 27),(I x7.Liquid)),ci 0,ci 4000] (B x28))]
def Q5h x7 x22 x25 x28 (x31:Bool):=hcat (Zac x7 x22 x25 x28) [(16,rp [((.tmp 30),(B ((!x28))))] (B false)),(19,rp [((.tmp 31),(B false)),fu 25,((.tmp 33),(I x7.Silica)),ci 0,ci 2000] (B x31))]
theorem Qvw (N:Nat) (p0:List GRow) (r:Bool) (h:Qln N p0=some r):Spec prog 69 [(.dat 5 (p0.map Qav))] [] (B r) []:=by
  refine Qak func69 rfl 0 (nle rfl) (fun X φ0 w0 hφ0 hd0=>?_)
  unfold Qln at h
  refine wxz ?_
  obtain⟨k1,hk_k1,h⟩:=jko h
  refine wjn (τ:=Unit) (fun t=>k1 t=some r) (fun _=>⟨mk 103 [(0,(.dat 5 (p0.map Qav)))],[]⟩) (fun t h=>?_) ?_
  ·subst hk_k1
   refine bfe h (fun hb2 h=>?_) fun hb2 h=>?_
   ·refine wx tbk [(1,rp _ _),(3,rp [(.tmp 97,(B ((decide ((p0.length:Int)≥2)))))] (B true)),(5,rp [(.tmp 98,B true),(.tmp 99,(.dat 5 (p0.map Qav)))] (I ((p0.length:Int))))] ⟨alq 5 Qav p0 underlying23,asb hb2 (amv rfl),ag_ (alq 5 Qav p0 underlying23),tv⟩<|Qah ?_
    obtain rfl:=osi h
    exact fend ⟨[(B ((decide ((p0.length:Int)≤20))))],⟨rot,tv⟩,rfl⟩ nll
   ·exact wx tbk [(1,rp _ _),(3,rp [(.tmp 97,(B ((decide ((p0.length:Int)≥2)))))] (B false))] ⟨alq 5 Qav p0 underlying23,asb hb2 (amv rfl),tv⟩<|Qah<|frb h
  ·skip
   refine wxz<|Qap ?_
   refine wmr (mto (n:=103) (l':=[(0,(.dat 5 (p0.map Qav))),(3,I 0)]) (own':=[]) [(0,(.dat 5 (p0.map Qav))),(3,I 0)] [] [] hφ0 (pc (rnd Qao) (pw pn)) qn) ?_
   refine Qbv (τ:=Int) (fun n t=>Qed N p0 k1 n t=some r) (fun y3=>⟨mk 103 [(0,(.dat 5 (p0.map Qav))),(3,I y3)],[]⟩) (fun t h=>by rw[Qed] at h;cases h) (fun n5 ih y3 h=>?_) N (0) h
   rw[Qed] at h
   skip
   refine wsq<|wx tbk [(2,rp _ _)] ⟨alq 5 Qav p0 underlying23,tv⟩ ?_
   refine bfe h (fun hc6 h=>?_) fun hc6 h=>?_
   ·refine wft hc6<|Qaq<|thn<|wsq<|Qap ?_
    obtain⟨x7,hg8,h⟩:=bno h
    obtain⟨hi9,hj10⟩:=gsm hg8
    refine wx tbk [(2,rp _ _)] ⟨aiq underlying23 Qup Qav hi9 hj10,tv⟩ ?_
    obtain⟨k11,hk_k11,h⟩:=jko h
    refine wjn (τ:=Unit) (fun t=>k11 t=some r) (fun _=>⟨mk 103 [(0,(.dat 5 (p0.map Qav))),(3,I y3),(4,.ref 0 5 0 0)],[(Zjr x7)]⟩) (fun t h=>?_) ?_
    ·subst hk_k11
     refine bfe h (fun hb12 h=>?_) fun hb12 h=>?_
     ·obtain⟨x13,hg14,h⟩:=bno h
      obtain⟨hi15,hj16⟩:=gsm hg14
      refine hpre (A:=(Zah y3 p0 x13)) ⟨asb hb12 (amv rfl),ag_ (aiq underlying23 Qup Qav hi15 hj16),tv⟩ fun q1_=>?_
      refine bfe h (fun hb17 h=>?_) fun hb17 h=>?_
      ·exact wxd tbk (hcat (Zah y3 p0 x13) [(12,rp [(.tmp 51,B true),(.tmp 60,(B ((decide (x7.T≤x13.T)))))] (B true))]) (hap q1_ ⟨asb hb17 (ag_ (amv rfl)),tv⟩)<|wtr<|wxz<|Qah<|Qau<|Qaj<|Qaj<|Qau<|Qaj<|frb h
      ·refine hpre (A:=(Zag y3 p0 x13 x7)) (hap q1_ ⟨asb hb17 (ag_ (amv rfl)),ag_ (aiq underlying23 Qup Qav hi15 hj16),tv⟩) fun q2_=>?_
       refine bfe h (fun hb18 h=>?_) fun hb18 h=>?_
       ·exact wxd tbk (hcat (Zag y3 p0 x13 x7) [(23,rp [(.tmp 51,B true),(.tmp 71,(B ((decide (x7.P≤x13.P)))))] (B true))]) (hap q2_ ⟨asb hb18 (ag_ (amv rfl)),tv⟩)<|wtr<|wxz<|Qah<|Qau<|Qaj<|Qaj<|Qau<|Qaj<|frb h
       ·refine hpre (A:=(Zaf y3 p0 x13 x7)) (hap q2_ ⟨asb hb18 (ag_ (amv rfl)),ag_ (aiq underlying23 Qup Qav hi15 hj16),tv⟩) fun q3_=>?_
        refine bfe h (fun hb19 h=>?_) fun hb19 h=>?_
        ·exact wxd tbk (hcat (Zaf y3 p0 x13 x7) [(34,rp [(.tmp 51,B true),(.tmp 82,(B ((decide (x7.Liquid≤x13.Liquid)))))] (B true))]) (hap q3_ ⟨asb hb19 (ag_ (amv rfl)),tv⟩)<|wtr<|wxz<|Qah<|Qau<|Qaj<|Qaj<|Qau<|Qaj<|frb h
        ·refine wxd tbk (hcat (Zaf y3 p0 x13 x7) [(34,rp [(.tmp 51,B true),(.tmp 82,(B ((decide (x7.Liquid≤x13.Liquid)))))] (B false)),(40,rp [(.tmp 83,B false),(.tmp 86,(.dat 5 (p0.map Qav))),(.tmp 88,(I (w64 (y3-1))))] (.dptr (Qav x13) 0))]) (hap q3_ ⟨asb hb19 (ag_ (amv rfl)),ag_ (aiq underlying23 Qup Qav hi15 hj16),tv⟩) ?_
         refine bfe h (fun hc20 h=>?_) fun hc20 h=>?_
         ·exact wft hc20<|wxz<|Qah<|Qau<|Qaj<|Qaj<|Qau<|Qaj<|frb h
         ·exact wfn hc20<|Qaq<|bln<|thn<|wxz1<|thn<|arm (mto (n:=103) [(0,(.dat 5 (p0.map Qav))),(3,(I (w64 (y3+1))))] [] [] hφ0 (pc (rnd Qao) (pw pn)) qn) (ih (w64 (y3+1)) h)
     ·exact wxd tbk [(2,rp [(.tmp 50,(B ((decide (y3>0)))))] (B false))] ⟨asb hb12 (amv rfl),tv⟩<|wfa<|Qaq<|bln<|thn<|wxz1<|thn<|arm (mto (n:=103) [(0,(.dat 5 (p0.map Qav))),(3,(I (w64 (y3+1))))] [] [] hφ0 (pc (rnd Qao) (pw pn)) qn) (ih (w64 (y3+1)) h)
    ·skip
     obtain⟨x22,hf21,h⟩:=bno h
     refine hpre (A:=(Zae x7 x22)) ⟨apv Qis (Qdg N x7.T 0 400 _ hf21) (nlcc (nlc nll nl0)) nll,tv⟩ fun q4_=>?_
     refine bfe h (fun hb23 h=>?_) fun hb23 h=>?_
     ·refine wx tbk (hcat (Zae x7 x22) [(4,rp [(.tmp 18,(B ((!x22))))] (B true))]) (hap q4_ ⟨asb hb23 (amv rfl),tv⟩)<|wtr<|wxz<|Qah<|Qaj<|Qau<|Qaj<|Qaj<|Qau<|Qaj ?_
      exact frb h
     ·obtain⟨x25,hf24,h⟩:=bno h
      refine hpre (A:=(Zad x7 x22 x25)) (hap q4_ ⟨asb hb23 (amv rfl),ag_ (apv Qis (Qdg N x7.P 1 10000 _ hf24) (nlcc (nlc nll nl0)) nll),tv⟩) fun q5_=>?_
      refine bfe h (fun hb26 h=>?_) fun hb26 h=>?_
      ·refine wx tbk (hcat (Zad x7 x22 x25) [(10,rp [(.tmp 24,(B ((!x25))))] (B true))]) (hap q5_ ⟨asb hb26 (amv rfl),tv⟩)<|wtr<|wxz<|Qah<|Qaj<|Qau<|Qaj<|Qaj<|Qau<|Qaj ?_
       exact frb h
      ·obtain⟨x28,hf27,h⟩:=bno h
       refine hpre (A:=(Zac x7 x22 x25 x28)) (hap q5_ ⟨asb hb26 (amv rfl),ag_ (apv Qis (Qdg N x7.Liquid 0 4000 _ hf27) (nlcc (nlc nll nl0)) nll),tv⟩) fun q6_=>?_
       refine bfe h (fun hb29 h=>?_) fun hb29 h=>?_
       ·refine wx tbk (hcat (Zac x7 x22 x25 x28) [(16,rp [(.tmp 30,(B ((!x28))))] (B true))]) (hap q6_ ⟨asb hb29 (amv rfl),tv⟩)<|wtr<|wxz<|Qah<|Qaj<|Qau<|Qaj<|Qaj<|Qau<|Qaj ?_
        exact frb h
       ·obtain⟨x31,hf30,h⟩:=bno h
        refine hpre (A:=(Q5h x7 x22 x25 x28 x31)) (hap q6_ ⟨asb hb29 (amv rfl),ag_ (apv Qis (Qdg N x7.Silica 0 2000 _ hf30) (nlcc (nlc nll nl0)) nll),tv⟩) fun q7_=>?_
        refine bfe h (fun hb32 h=>?_) fun hb32 h=>?_
        ·refine wx tbk (hcat (Q5h x7 x22 x25 x28 x31) [(22,rp [(.tmp 36,(B ((!x31))))] (B true))]) (hap q7_ ⟨asb hb32 (amv rfl),tv⟩)<|wtr<|wxz<|Qah<|Qaj<|Qau<|Qaj<|Qaj<|Qau<|Qaj ?_
         exact frb h
        ·refine bfe h (fun hb33 h=>?_) fun hb33 h=>?_
         ·refine wx tbk (hcat (Q5h x7 x22 x25 x28 x31) [(22,rp [(.tmp 36,(B ((!x31))))] (B false)),(29,rp [(.tmp 43,(B ((decide (x7.Vapour≤x7.Liquid)))))] (B true))]) (hap q7_ ⟨asb hb32 (amv rfl),asb hb33 (amv rfl),tv⟩)<|wtr<|wxz<|Qah<|Qaj<|Qau<|Qaj<|Qaj<|Qau<|Qaj ?_
          exact frb h
         ·refine wx tbk (hcat (Q5h x7 x22 x25 x28 x31) [(22,rp [(.tmp 36,(B ((!x31))))] (B false)),(29,rp [(.tmp 43,(B ((decide (x7.Vapour≤x7.Liquid)))))] (B false))]) (hap q7_ ⟨asb hb32 (amv rfl),asb hb33 (amv rfl),tv⟩) ?_
          refine bfe h (fun hc34 h=>?_) fun hc34 h=>?_
          ·exact wft hc34<|wxz<|Qah<|Qaj<|Qau<|Qaj<|Qaj<|Qau<|Qaj<|frb h
          ·exact wfn hc34<|Qaq<|thn<|⟨(),h,(mto (n:=103) [(0,(.dat 5 (p0.map Qav))),(3,I y3),(4,.ref 0 5 0 0)] [0] [(Zjr x7)] hφ0 (pc (rnd Qao) (pw (prr pn))) (qb (lcc (lcc (lc rwl ln))) qn))⟩
   ·exact wfn hc6<|Qbg<|Qay<|Qay<|Qbf rfl<|thn<|⟨(),h,(mto (n:=103) [(0,(.dat 5 (p0.map Qav)))] [] [] hφ0 (pc (rnd Qao) pn) qn)⟩
def Qff (N:Nat) (p0:List GRow) (k2:(List GRow)→Option (List GRow)):Nat→(List GRow)→Int→Option (List GRow)
  |0,_,_=>none
  |n7+1,y3,y4=>
    bif (decide (y4<(p0.length:Int))) then
     (getI p0 y4).bind fun x9=>
     chk (decide ((y3.length+([x9]).length)*40≤140737488355328))<|
     Qff N p0 k2 n7 (y3++([x9])) (w64 (y4+1))
    else
     k2 (y3)
def Qls (N:Nat) (p0:List GRow):Option (List GRow):=
  Qbi (fun y1=>
    some y1) fun k2:(List GRow)→Option (List GRow)=>
  Qff N p0 k2 N ([]) 0
def Zjq (x9:GRow):AV:=.agg [(I x9.T),(I x9.P),(I x9.Liquid),(I x9.Vapour),(I x9.Silica)]
theorem Qwg (N:Nat) (p0 r:List GRow) (h:Qls N p0=some r):Spec prog 59 [(.dat 5 (p0.map Qav))] [] (.dat 5 (r.map Qav)) []:=by
  refine Qak func59 rfl 0 (nle rfl) (fun X φ0 w0 hφ0 hd0=>?_)
  unfold Qls at h
  refine wxz<|wxz ?_
  obtain⟨k2,hk_k2,h⟩:=jko h
  refine wjn (τ:=(List GRow)) (fun t=>k2 t=some r) (fun y1=>⟨mk 41 [(3,(.acc 0 160 5 (y1.map Qav)))],[.tok]⟩) (fun y1 h=>?_) ?_
  ·subst hk_k2
   refine wxz<|Qah ?_
   obtain rfl:=osi h
   exact fend ⟨[(.dat 5 (y1.map Qav))],⟨Qdi (v:=(.acc 0 160 5 (y1.map Qav))) rot Less.acc,tv⟩,rfl⟩ (nld Qao _)
  ·skip
   refine wxz<|Qap ?_
   refine wmr (Mor.trans (Qnq 0 160 5 3 (by kernel_rfl) (by kernel_rfl)) (mto (n:=41) (l':=[(0,(.dat 5 (p0.map Qav))),(3,(.acc 0 160 5 ((([]):List GRow).map Qav))),(4,I 0)]) (own':=[.tok]) [(0,(.dat 5 (p0.map Qav))),(3,(.acc 0 160 5 (([]:List GRow).map Qav))),(4,I 0)] [0] [.tok] hφ0 (pc (rnd Qao) (pc (.rn (Qa3 rfl (Qa0 Qao _))) (pw pn))) (qc .tok qn))) ?_
   refine Qbv (τ:=(List GRow)×Int) (fun n t=>Qff N p0 k2 n t.1 t.2=some r) (fun ⟨y3,y4⟩=>⟨mk 41 [(0,(.dat 5 (p0.map Qav))),(3,(.acc 0 160 5 (y3.map Qav))),(4,I y4)],[.tok]⟩) (fun t h=>by rw[Qff] at h;cases h) (fun n7 ih t h=>?_) N ([],0) h
   obtain⟨y3,y4⟩:=t
   rw[Qff] at h
   skip
   refine wsq<|wx tbk [(2,rp _ _)] ⟨alq 5 Qav p0 underlying23,tv⟩ ?_
   refine bfe h (fun hc8 h=>?_) fun hc8 h=>?_
   ·refine wft hc8<|Qaq<|thn<|wsq<|Qap ?_
    obtain⟨x9,hg10,h⟩:=bno h
    obtain⟨hi11,hj12⟩:=gsm hg10
    obtain⟨ha13,h⟩:=cko h
    refine wy1 tbk [(3,rp _ _),(8,rp _ _),(13,rp _ _),(18,rp _ _),(23,rp _ _),(26,rp _ _),(27,rp [(.tmp 37,(Zjq x9))] (.dat 5 (([x9]:List GRow).map Qav))),(28,⟨[(.tmp 11,(.acc 0 160 5 (y3.map Qav))),(.tmp 38,(.dat 5 (([x9]:List GRow).map Qav)))],[(0,.tok),(1,.unused)],(.acc 1 160 5 ((y3++([x9]):List GRow).map Qav)),[(0,.dead),(1,.tok)],false⟩)] ⟨aiq underlying23 Qup Qav hi11 hj12,aiq underlying23 Qup Qav hi11 hj12,aiq underlying23 Qup Qav hi11 hj12,aiq underlying23 Qup Qav hi11 hj12,aiq underlying23 Qup Qav hi11 hj12,Qaz (vs:=[I x9.T,I x9.P,I x9.Liquid,I x9.Vapour,I x9.Silica]) rfl Zgu Q3w rfl (by rfl) rfl,Qbo (vs:=[(Zjq x9)]) rfl underlying39 Qxf Q3w rfl (by decide) rfl (by decide) (by rfl) (by rfl) (by rfl) rfl,Qd6 rfl underlying39 Zss (Base.acc _ _) rfl rfl (by rfl) (Qg2 Qav ha13) (Qg1 Qav ha13 (by decide)) (Qg0 Qav) rfl rfl,tv⟩<|bln<|thn<|wxz1<|thn ?_
    exact arm (mto (n:=41) [(0,(.dat 5 (p0.map Qav))),(3,(.acc 1 160 5 ((y3++([x9]):List GRow).map Qav))),(4,(I (w64 (y4+1))))] [1] [.tok] hφ0 (pc (rnd Qao) (pc (.rn (Qa3 rfl (Qa0 Qao _))) (pw pn))) (qc .tok qn)) (ih (y3++([x9]),w64 (y4+1)) h)
   ·exact wfn hc8<|Qbg<|Qay<|Qay<|Qbf rfl<|thn<|⟨(y3),h,(mto (n:=41) [(3,(.acc 0 160 5 (y3.map Qav)))] [0] [.tok] hφ0 (pc (.rn (Qa3 rfl (Qa0 Qao _))) pn) (qc .tok qn))⟩
def Qf5 (N:Nat) (x13:Qam) (k21:(List Qam)×(List Qa6)×(List Int)→Option GNet):Nat→Int→(List Qam)→(List Qa6)→(List Int)→Option GNet
  |0,_,_,_,_=>none
  |n31+1,y23,y24,y25,y26=>
    bif (decide (y23<(x13.From.length:Int))) then
     (getI x13.From y23).bind fun x33=>
     chk (decide ((y25.length+([x33]).length)*16≤140737488355328))<|
     Qf5 N x13 k21 n31 (w64 (y23+1)) y24 (y25++([x33])) y26
    else
     k21 (y24,y25,y26)
def Qf6 (N:Nat) (p0:GNet) (k4:(List Qam)→Option GNet):Nat→Int→(List Qam)→Option GNet
  |0,_,_=>none
  |n9+1,y5,y6=>
    bif (decide (y5<(p0.Elements.length:Int))) then
     Qbi (fun y11=>
       Qf6 N p0 k4 n9 (w64 (y5+1)) y11) fun k12:(List Qam)→Option GNet=>
     (getI p0.Elements y5).bind fun x13=>
     chk (decide ((([]:List Int).length+x13.Weights.length)*8≤140737488355328))<|
     Qbi (fun ⟨y18,y19,y20⟩=>
       chk (decide ((y18.length+([(⟨x13.Kind,y19,x13.Level,x13.Amount,x13.Wide,x13.Narrow,y20⟩:Qam)]).length)*88≤140737488355328))<|
       k12 (y18++([(⟨x13.Kind,y19,x13.Level,x13.Amount,x13.Wide,x13.Narrow,y20⟩:Qam)]))) fun k21:(List Qam)×(List Qa6)×(List Int)→Option GNet=>
     Qf5 N x13 k21 N 0 y6 ([]) (([]:List Int)++x13.Weights)
    else
     k4 (y6)
def Qmb (N:Nat) (p0:GNet):Option GNet:=
  (Qls N p0.Table).bind fun x2=>
  Qbi (fun y3=>
    some (⟨x2,y3⟩:GNet)) fun k4:(List Qam)→Option GNet=>
  Qf6 N p0 k4 N 0 ([])
def Zrn (p0:GNet):AV:=.dat 5 (p0.Table.map Qav)
def Zrm (p0:GNet):AV:=.dat 7 (p0.Elements.map Qal)
def Quk (p0:GNet):Slot:=.own 2 [[(Zrn p0),(Zrm p0)]]
def Zab:AV:=.acc 5 3 1 ((([]:List Int):List Int).map Qad)
def Qyt (x13:Qam):AV:=.acc 6 3 1 ((([]:List Int)++x13.Weights:List Int).map Qad)
def Zaa (y20:List Int):AV:=.acc 6 3 1 (y20.map Qad)
def Q98 (x13:Qam) (y19:List Qa6) (y20:List Int):AV:=.dat 7 (([(⟨x13.Kind,y19,x13.Level,x13.Amount,x13.Wide,x13.Narrow,y20⟩:Qam)]:List Qam).map Qal)
def Q99 (x13:Qam) (y19:List Qa6) (y20:List Int):AV:=.agg [(K .u8 x13.Kind),(.dat 2 (y19.map Qaw)),(I x13.Level),(I x13.Amount),(I x13.Wide),(I x13.Narrow),(.dat 1 (y20.map Qad))]
def Zlf (x13:Qam):AV:=.dat 2 (x13.From.map Qaw)
def Qyu (x13:Qam):Slot:=.own 7 [[(K .u8 x13.Kind),(Zlf x13),(I x13.Level),(I x13.Amount),(I x13.Wide),(I x13.Narrow),(.dat 1 (x13.Weights.map Qad))]]
def Zlg:AV:=.acc 6 120 2 ((([]):List Qa6).map Qaw)
def Zlh:AV:=.acc 8 120 2 (([]:List Qa6).map Qaw)
def Q97 (x13:Qam) (y25:List Qa6) (y26:List Int):Slot:=.own 7 [[(K .u8 x13.Kind),(.acc 6 120 2 (y25.map Qaw)),(I x13.Level),(I x13.Amount),(I x13.Wide),(I x13.Narrow),(.acc 7 3 1 (y26.map Qad))]]
def Q96 (x33:Qa6):AV:=.agg [(I x33.Element),(I x33.Outlet)]
theorem Qsl (N:Nat) (p0 r:GNet) (h:Qmb N p0=some r):Spec prog 17 [(.agg (Qgx p0))] [] (.agg (Qgx r)) []:=by
  refine Qak func17 rfl 0 (nle rfl) (fun X φ0 w0 hφ0 hd0=>?_)
  unfold Qmb at h
  refine wxz ?_
  obtain⟨x2,hf1,h⟩:=bno h
  refine wx tbk [(2,rp _ _),(3,rp _ _)] ⟨apv Zn0 (Qwg N p0.Table _ hf1) (nlc (nld Qao _) nl0) (nld Qao _),Qaz (vs:=[(.dat 5 (x2.map Qav))]) rfl ts42 tz42 rfl (by rfl) rfl,tv⟩ ?_
  obtain⟨k4,hk_k4,h⟩:=jko h
  refine wjn (τ:=(List Qam)) (fun t=>k4 t=some r) (fun y3=>⟨mk 71 [(2,.ref 0 2 0 0),(3,.ref 1 2 0 0)],[(.own 2 [[nilS,nilS]]),(.own 2 [[(.dat 5 (x2.map Qav)),(.acc 2 133 7 (y3.map Qal))]]),.tok]⟩) (fun y3 h=>?_) ?_
  ·subst hk_k4
   refine wxz<|Qah ?_
   obtain rfl:=osi h
   exact fend ⟨[(.agg [(.dat 5 (x2.map Qav)),(.dat 7 (y3.map Qal))])],⟨Qdi (v:=(.agg [(.dat 5 (x2.map Qav)),(.acc 2 133 7 (y3.map Qal))])) (Qbn (n:=0) (m:=2) (j:=0) (i:=0) (xs:=[[(.dat 5 (x2.map Qav)),(.acc 2 133 7 (y3.map Qal))]]) (by kernel_rfl) (by kernel_rfl) ti42 (by decide) rfl (nle rfl) rfl) (Less.agg ⟨lrf,Less.acc,tv⟩),tv⟩,rfl⟩ (NLt.agg _ (nlc (nld Qao _) (nlc (nld Qab _) nl0)))
  ·skip
   refine wxz<|Qap ?_
   refine wmr (Mor.trans (Qna (n:=3) (ty:=133) (m:=7) (q:=2) (mq:=2) (c:=[(.dat 5 (x2.map Qav)),nilS]) 1 (by kernel_rfl) (by kernel_rfl) (by kernel_rfl) (by decide)) (mto (n:=71) (l':=[(1,.ref 0 2 0 0),(2,.ref 1 2 0 0),(3,.ref 2 2 0 0),(4,I 0)]) (own':=[(Quk p0),(.own 2 [[nilS,nilS]]),(.own 2 [[(.dat 5 (x2.map Qav)),(.acc 3 133 7 ((([]):List Qam).map Qal))]]),.tok]) [(1,.ref 0 2 0 0),(2,.ref 1 2 0 0),(3,.ref 2 2 0 0),(4,I 0)] [0,1,2,3] [(Quk p0),(.own 2 [[nilS,nilS]]),(.own 2 [[(.dat 5 (x2.map Qav)),(.acc 3 133 7 (([]:List Qam).map Qal))]]),.tok] hφ0 (prr (prr (prr (pw pn)))) (qb (lc (rnd Qao) (lc (rnd Qab) ln)) (qb (lcc ln) (qb (lc (rnd Qao) (lc (.rn (Qa3 rfl (Qa0 Qab _))) ln)) (qc .tok qn)))))) ?_
   refine Qbv (τ:=Int×(List Qam)) (fun n t=>Qf6 N p0 k4 n t.1 t.2=some r) (fun ⟨y5,y6⟩=>⟨mk 71 [(1,.ref 0 2 0 0),(2,.ref 1 2 0 0),(3,.ref 2 2 0 0),(4,I y5)],[(Quk p0),(.own 2 [[nilS,nilS]]),(.own 2 [[(.dat 5 (x2.map Qav)),(.acc 3 133 7 (y6.map Qal))]]),.tok]⟩) (fun t h=>by rw[Qf6] at h;cases h) (fun n9 ih t h=>?_) N (0,[]) h
   obtain⟨y5,y6⟩:=t
   rw[Qf6] at h
   skip
   refine wsq<|wx tbk [(3,rp _ _)] ⟨alq 7 Qal p0.Elements underlying24,tv⟩ ?_
   refine bfe h (fun hc10 h=>?_) fun hc10 h=>?_
   ·refine wft hc10<|Qaq<|thn ?_
    obtain⟨k12,hk_k12,h⟩:=jko h
    refine wjn (τ:=(List Qam)) (fun t=>k12 t=some r) (fun y11=>⟨mk 71 [(1,.ref 0 2 0 0),(2,.ref 1 2 0 0),(3,.ref 2 2 0 0),(4,I y5)],[(Quk p0),(.own 2 [[nilS,nilS]]),(.own 2 [[(.dat 5 (x2.map Qav)),(.acc 3 133 7 (y11.map Qal))]]),.tok]⟩) (fun y11 h=>?_) ?_
    ·subst hk_k12
     exact wxz1<|thn<|arm (mto (n:=71) [(1,.ref 0 2 0 0),(2,.ref 1 2 0 0),(3,.ref 2 2 0 0),(4,(I (w64 (y5+1))))] [0,1,2,3] [(Quk p0),(.own 2 [[nilS,nilS]]),(.own 2 [[(.dat 5 (x2.map Qav)),(.acc 3 133 7 (y11.map Qal))]]),.tok] hφ0 (prr (prr (prr (pw pn)))) (qb (lc (rnd Qao) (lc (rnd Qab) ln)) (qb (lcc ln) (qb (lc (rnd Qao) (lc (.rn (Qa3 rfl (Qa0 Qab _))) ln)) (qc .tok qn))))) (ih (w64 (y5+1),y11) h)
    ·skip
     refine Qap ?_
     obtain⟨x13,hg14,h⟩:=bno h
     obtain⟨hi15,hj16⟩:=gsm hg14
     refine wx tbk [(3,rp _ _)] ⟨aiq underlying24 ti59 Qal hi15 hj16,tv⟩ ?_
     obtain⟨ha17,h⟩:=cko h
     refine wxd tbk [(10,⟨[],[(5,.unused)],Zab,[(5,.tok)],false⟩),(13,⟨[(.tmp 34,Zab),(.tmp 36,(.dat 1 (x13.Weights.map Qad)))],[(5,.tok),(6,.unused)],(Qyt x13),[(5,.dead),(6,.tok)],false⟩),(14,rp _ _)] ⟨Ql7 rfl underlying27 ti3 tz3,Qd6 rfl underlying27 te3 (Base.acc _ _) rfl rfl (Qol Qad Qkw _) (Qg2 Qad ha17) (Qg1 Qad ha17 (by decide)) (Qg0 Qad) rfl rfl,Qaz (vs:=[(K .u8 x13.Kind),I x13.Level,I x13.Amount,I x13.Wide,I x13.Narrow,(Qyt x13)]) rfl Zgv Q3x rfl (by rfl) rfl,tv⟩ ?_
     obtain⟨k21,hk_k21,h⟩:=jko h
     refine wjn (τ:=(List Qam)×(List Qa6)×(List Int)) (fun t=>k21 t=some r) (fun ⟨y18,y19,y20⟩=>⟨mk 71 [(1,.ref 0 2 0 0),(2,.ref 1 2 0 0),(3,.ref 2 2 0 0),(4,I y5),(6,.ref 3 7 0 0)],[(Quk p0),(.own 2 [[nilS,nilS]]),(.own 2 [[(.dat 5 (x2.map Qav)),(.acc 4 133 7 (y18.map Qal))]]),(.own 7 [[(K .u8 x13.Kind),(.acc 5 120 2 (y19.map Qaw)),I x13.Level,I x13.Amount,I x13.Wide,I x13.Narrow,(Zaa y20)]]),.tok,.tok,.tok]⟩) (fun t h=>?_) ?_
     ·subst hk_k21
      obtain⟨y18,y19,y20⟩:=t
      obtain⟨ha22,h⟩:=cko h
      refine wx1 tbk [(3,rp [(.tmp 66,(.agg [(K .u8 x13.Kind),(.acc 5 120 2 (y19.map Qaw)),I x13.Level,I x13.Amount,I x13.Wide,I x13.Narrow,(Zaa y20)]))] (Q98 x13 y19 y20)),(4,⟨[(.tmp 65,(.acc 4 133 7 (y18.map Qal))),(.tmp 67,(Q98 x13 y19 y20))],[(4,.tok),(7,.unused)],(.acc 7 133 7 ((y18++([(⟨x13.Kind,y19,x13.Level,x13.Amount,x13.Wide,x13.Narrow,y20⟩:Qam)]):List Qam).map Qal)),[(4,.dead),(7,.tok)],false⟩)] ⟨awk (rd':=[(.tmp 66,(Q99 x13 y19 y20))]) ⟨rfl,(Less.agg ⟨lrf,Less.acc,lrf,lrf,lrf,lrf,Less.acc,tv⟩),tv⟩ (Qbo (vs:=[(Q99 x13 y19 y20)]) rfl underlying40 Qmk Q3x rfl (by decide) rfl (by decide) (by rfl) (by rfl) (by rfl) rfl),Qd6 rfl underlying40 Zsu (Base.acc _ _) rfl rfl (by rfl) (Qg2 Qal ha22) (Qg1 Qal ha22 (by decide)) (Qg0 Qal) rfl rfl,tv⟩<|bln<|thn ?_
      exact⟨(y18++([(⟨x13.Kind,y19,x13.Level,x13.Amount,x13.Wide,x13.Narrow,y20⟩:Qam)])),h,(mto (n:=71) [(1,.ref 0 2 0 0),(2,.ref 1 2 0 0),(3,.ref 2 2 0 0),(4,I y5)] [0,1,2,7] [(Quk p0),(.own 2 [[nilS,nilS]]),(.own 2 [[(.dat 5 (x2.map Qav)),(.acc 7 133 7 ((y18++([(⟨x13.Kind,y19,x13.Level,x13.Amount,x13.Wide,x13.Narrow,y20⟩:Qam)]):List Qam).map Qal))]]),.tok] hφ0 (prr (prr (prr (pw pn)))) (qb (lc (rnd Qao) (lc (rnd Qab) ln)) (qb (lcc ln) (qb (lc (rnd Qao) (lc (.rn (Qa3 rfl (Qa0 Qab _))) ln)) (qc .tok qn)))))⟩
     ·skip
      refine wxz<|Qap ?_
      refine wmr (Mor.trans (Qna (n:=8) (ty:=120) (m:=2) (q:=7) (mq:=7) (c:=[(K .u8 x13.Kind),nilS,I x13.Level,I x13.Amount,I x13.Wide,I x13.Narrow,(Qyt x13)]) 1 (by kernel_rfl) (by kernel_rfl) (by kernel_rfl) (by decide)) (mto (n:=71) (l':=[(1,.ref 0 2 0 0),(2,.ref 1 2 0 0),(3,.ref 2 2 0 0),(4,I y5),(5,.ref 3 7 0 0),(6,.ref 4 7 0 0),(7,I 0)]) (own':=[(Quk p0),(.own 2 [[nilS,nilS]]),(.own 2 [[(.dat 5 (x2.map Qav)),(.acc 5 133 7 (y6.map Qal))]]),(Qyu x13),(.own 7 [[(K .u8 x13.Kind),Zlg,I x13.Level,I x13.Amount,I x13.Wide,I x13.Narrow,(.acc 7 3 1 (((([]:List Int)++x13.Weights):List Int).map Qad))]]),.tok,.tok,.tok]) [(1,.ref 0 2 0 0),(2,.ref 1 2 0 0),(3,.ref 2 2 0 0),(4,I y5),(5,.ref 4 7 0 0),(6,.ref 7 7 0 0),(7,I 0)] [0,1,2,4,7,3,8,6] [(Quk p0),(.own 2 [[nilS,nilS]]),(.own 2 [[(.dat 5 (x2.map Qav)),(.acc 3 133 7 (y6.map Qal))]]),(Qyu x13),(.own 7 [[(K .u8 x13.Kind),Zlh,I x13.Level,I x13.Amount,I x13.Wide,I x13.Narrow,(Qyt x13)]]),.tok,.tok,.tok] hφ0 (prr (prr (prr (pw (prr (prr (pw pn))))))) (qb (lc (rnd Qao) (lc (rnd Qab) ln)) (qb (lcc ln) (qb (lc (rnd Qao) (lc (.rn (Qa3 rfl (Qa0 Qab _))) ln)) (qb (lc rwl (lc (rnd Qa1) (lcc (lcc (lc (rnd Qag) ln))))) (qb (lc rwl (lc (.rn (Qa3 rfl (Qa0 Qa1 _))) (lcc (lcc (lc (.rn (Qa3 rfl (Qa0 Qag _))) ln))))) (qc .tok (qc .tok (qc .tok qn)))))))))) ?_
      refine Qbv (τ:=Int×(List Qam)×(List Qa6)×(List Int)) (fun n t=>Qf5 N x13 k21 n t.1 t.2.1 t.2.2.1 t.2.2.2=some r) (fun ⟨y23,y24,y25,y26⟩=>⟨mk 71 [(1,.ref 0 2 0 0),(2,.ref 1 2 0 0),(3,.ref 2 2 0 0),(4,I y5),(5,.ref 3 7 0 0),(6,.ref 4 7 0 0),(7,I y23)],[(Quk p0),(.own 2 [[nilS,nilS]]),(.own 2 [[(.dat 5 (x2.map Qav)),(.acc 5 133 7 (y24.map Qal))]]),(Qyu x13),(Q97 x13 y25 y26),.tok,.tok,.tok]⟩) (fun t h=>by rw[Qf5] at h;cases h) (fun n31 ih t h=>?_) N (0,y6,[],([]:List Int)++x13.Weights) h
      obtain⟨y23,y24,y25,y26⟩:=t
      rw[Qf5] at h
      skip
      refine wsq<|wx tbk [(3,rp _ _)] ⟨alq 2 Qaw x13.From underlying57,tv⟩ ?_
      refine bfe h (fun hc32 h=>?_) fun hc32 h=>?_
      ·refine wft hc32<|Qaq<|thn<|wsq<|Qap ?_
       obtain⟨x33,hg34,h⟩:=bno h
       obtain⟨hi35,hj36⟩:=gsm hg34
       obtain⟨ha37,h⟩:=cko h
       refine wy1 tbk [(5,rp _ _),(11,rp _ _),(14,rp _ _),(15,rp [(.tmp 60,(Q96 x33))] (.dat 2 (([x33]:List Qa6).map Qaw))),(16,⟨[(.tmp 47,(.acc 6 120 2 (y25.map Qaw))),(.tmp 61,(.dat 2 (([x33]:List Qa6).map Qaw)))],[(6,.tok),(8,.unused)],(.acc 8 120 2 ((y25++([x33]):List Qa6).map Qaw)),[(6,.dead),(8,.tok)],false⟩)] ⟨aiq underlying57 ti61 Qaw hi35 hj36,aiq underlying57 ti61 Qaw hi35 hj36,Qaz (vs:=[I x33.Element,I x33.Outlet]) rfl Zcl Qxb rfl (by rfl) rfl,Qbo (vs:=[(Q96 x33)]) rfl underlying116 Qta Qxb rfl (by decide) rfl (by decide) (by rfl) (by rfl) (by rfl) rfl,Qd6 rfl underlying116 Zqz (Base.acc _ _) rfl rfl (by rfl) (Qg2 Qaw ha37) (Qg1 Qaw ha37 (by decide)) (Qg0 Qaw) rfl rfl,tv⟩<|bln<|thn<|wxz1<|thn ?_
       exact arm (mto (n:=71) [(1,.ref 0 2 0 0),(2,.ref 1 2 0 0),(3,.ref 2 2 0 0),(4,I y5),(5,.ref 3 7 0 0),(6,.ref 4 7 0 0),(7,(I (w64 (y23+1))))] [0,1,2,3,4,5,8,7] [(Quk p0),(.own 2 [[nilS,nilS]]),(.own 2 [[(.dat 5 (x2.map Qav)),(.acc 5 133 7 (y24.map Qal))]]),(Qyu x13),(.own 7 [[(K .u8 x13.Kind),(.acc 8 120 2 ((y25++([x33]):List Qa6).map Qaw)),I x13.Level,I x13.Amount,I x13.Wide,I x13.Narrow,(.acc 7 3 1 (y26.map Qad))]]),.tok,.tok,.tok] hφ0 (prr (prr (prr (pw (prr (prr (pw pn))))))) (qb (lc (rnd Qao) (lc (rnd Qab) ln)) (qb (lcc ln) (qb (lc (rnd Qao) (lc (.rn (Qa3 rfl (Qa0 Qab _))) ln)) (qb (lc rwl (lc (rnd Qa1) (lcc (lcc (lc (rnd Qag) ln))))) (qb (lc rwl (lc (.rn (Qa3 rfl (Qa0 Qa1 _))) (lcc (lcc (lc (.rn (Qa3 rfl (Qa0 Qag _))) ln))))) (qc .tok (qc .tok (qc .tok qn))))))))) (ih (w64 (y23+1),y24,y25++([x33]),y26) h)
      ·exact wfn hc32<|Qbg<|Qay<|Qay<|Qbf rfl<|thn<|⟨(y24,y25,y26),h,(mto (n:=71) [(1,.ref 0 2 0 0),(2,.ref 1 2 0 0),(3,.ref 2 2 0 0),(4,I y5),(6,.ref 4 7 0 0)] [0,1,2,4,5,6,7] [(Quk p0),(.own 2 [[nilS,nilS]]),(.own 2 [[(.dat 5 (x2.map Qav)),(.acc 5 133 7 (y24.map Qal))]]),(Q97 x13 y25 y26),.tok,.tok,.tok] hφ0 (prr (prr (prr (pw (prr pn))))) (qb (lc (rnd Qao) (lc (rnd Qab) ln)) (qb (lcc ln) (qb (lc (rnd Qao) (lc (.rn (Qa3 rfl (Qa0 Qab _))) ln)) (qb (lc rwl (lc (.rn (Qa3 rfl (Qa0 Qa1 _))) (lcc (lcc (lc (.rn (Qa3 rfl (Qa0 Qag _))) ln))))) (qc .tok (qc .tok (qc .tok qn))))))))⟩
   ·exact wfn hc10<|Qbg<|Qay<|Qay<|Qbf rfl<|thn<|⟨(y6),h,(mto (n:=71) [(2,.ref 1 2 0 0),(3,.ref 2 2 0 0)] [1,2,3] [(.own 2 [[nilS,nilS]]),(.own 2 [[(.dat 5 (x2.map Qav)),(.acc 3 133 7 (y6.map Qal))]]),.tok] hφ0 (prr (prr pn)) (qb (lcc ln) (qb (lc (rnd Qao) (lc (.rn (Qa3 rfl (Qa0 Qab _))) ln)) (qc .tok qn))))⟩
def Qkx (_N:Nat) (p0:List Int):Option (List Int):=
  chk (decide ((([]:List Int).length+p0.length)*8≤140737488355328))<|
  some (([]:List Int)++p0)
def Zo0:AV:=.acc 0 3 1 ((([]:List Int):List Int).map Qad)
def Zoz (p0:List Int):AV:=.acc 1 3 1 ((([]:List Int)++p0:List Int).map Qad)
theorem Qqt (N:Nat) (p0 r:List Int) (h:Qkx N p0=some r):Spec prog 18 [(.dat 1 (p0.map Qad))] [] (.dat 1 (r.map Qad)) []:=by
  refine Qak func18 rfl 0 (nle rfl) (fun X φ0 w0 hφ0 hd0=>?_)
  unfold Qkx at h
  refine wxz ?_
  obtain⟨ha1,h⟩:=cko h
  refine wx tbk [(0,⟨[],[(0,.unused)],Zo0,[(0,.tok)],false⟩),(2,⟨[(.tmp 3,Zo0),(.tmp 4,(.dat 1 (p0.map Qad)))],[(0,.tok),(1,.unused)],(Zoz p0),[(0,.dead),(1,.tok)],false⟩)] ⟨Ql7 rfl underlying27 ti3 tz3,Qd6 rfl underlying27 te3 (Base.acc _ _) rfl rfl (Qol Qad Qkw _) (Qg2 Qad ha1) (Qg1 Qad ha1 (by decide)) (Qg0 Qad) rfl rfl,tv⟩<|Qah ?_
  obtain rfl:=osi h
  exact fend ⟨[(.dat 1 ((([]:List Int)++p0:List Int).map Qad))],⟨Qdi (v:=(Zoz p0)) rot Less.acc,tv⟩,rfl⟩ (nld Qag _)
def Qf7 (N:Nat) (p0:GNet) (k1:Unit→Option Bool):Nat→Int→Option Bool
  |0,_=>none
  |n6+1,y4=>
    bif (decide (y4<(p0.Elements.length:Int))) then
     (getI p0.Elements y4).bind fun x8=>
     bif (decide ((x8.From.length:Int)>25)) then
      some false
     else
      bif (decide ((x8.Weights.length:Int)>25)) then
       some false
      else
       Qf7 N p0 k1 n6 (w64 (y4+1))
    else
     k1 ()
def Qmc (N:Nat) (p0:GNet) (p1:List Qaa):Option Bool:=
  Qbi (fun _=>
    bif (decide ((p0.Elements.length:Int)≤18)) then
     bif (decide ((p0.Table.length:Int)≤25)) then
      some (decide ((p1.length:Int)≤25))
     else
      some false
    else
     some false) fun k1:Unit→Option Bool=>
  Qf7 N p0 k1 N 0
def Q3h (p1:List Qaa):AV:=.dat 4 (p1.map Qac)
def Zoy (p0:GNet):AV:=.dat 5 (p0.Table.map Qav)
def Zfr (p0:GNet):AV:=.dat 7 (p0.Elements.map Qal)
def Q7x (p0:GNet):Slot:=.own 2 [[(Zoy p0),(Zfr p0)]]
def Q95 (p0:GNet):List (Nat×Rec):=[(2,rp [((.tmp 32),(Zfr p0))] (I ((p0.Elements.length:Int))))]
def Q94 p0:=hcat (Q95 p0) [(4,rp [((.tmp 34),(B ((decide ((p0.Elements.length:Int)≤18)))))] (B true)),(7,rp [((.tmp 35),(B true)),((.tmp 37),(Zoy p0))] (I ((p0.Table.length:Int))))]
def Q93 (p0:GNet) (y4:Int) (x8:Qam):List (Nat×Rec):=[(3,rp [((.tmp 14),(Zfr p0)),((.tmp 15),(I y4))] (.dptr (Qal x8) 0)),(6,rp [((.tmp 18),(.dat 2 (x8.From.map Qaw)))] (I ((x8.From.length:Int))))]
theorem Qzu (N:Nat) (p0:GNet) (p1:List Qaa) (r:Bool) (h:Qmc N p0 p1=some r):Spec prog 14 [(.agg (Qgx p0)),(.dat 4 (p1.map Qac))] [] (B r) []:=by
  refine Qak func14 rfl 0 (nle rfl) (fun X φ0 w0 hφ0 hd0=>?_)
  unfold Qmc at h
  refine wxz ?_
  obtain⟨k1,hk_k1,h⟩:=jko h
  refine wjn (τ:=Unit) (fun t=>k1 t=some r) (fun _=>⟨mk 46 [(1,(Q3h p1)),(2,.ref 0 2 0 0)],[(Q7x p0)]⟩) (fun t h=>?_) ?_
  ·subst hk_k1
   refine hpre (A:=(Q95 p0)) ⟨alq 7 Qal p0.Elements underlying24,tv⟩ fun q1_=>?_
   refine bfe h (fun hb2 h=>?_) fun hb2 h=>?_
   ·refine hpre (A:=(Q94 p0)) (hap q1_ ⟨asb hb2 (amv rfl),ag_ (alq 5 Qav p0.Table underlying23),tv⟩) fun q2_=>?_
    refine bfe h (fun hb3 h=>?_) fun hb3 h=>?_
    ·refine wx tbk (hcat (Q94 p0) [(10,rp [(.tmp 40,(B ((decide ((p0.Table.length:Int)≤25)))))] (B true)),(12,rp [(.tmp 41,B true),(.tmp 42,(Q3h p1))] (I ((p1.length:Int))))]) (hap q2_ ⟨asb hb3 (amv rfl),ag_ (alq 4 Qac p1 underlying28),tv⟩)<|Qah ?_
     obtain rfl:=osi h
     exact fend ⟨[(B ((decide ((p1.length:Int)≤25))))],⟨rot,tv⟩,rfl⟩ nll
    ·exact wx tbk (hcat (Q94 p0) [(10,rp [(.tmp 40,(B ((decide ((p0.Table.length:Int)≤25)))))] (B false))]) (hap q2_ ⟨asb hb3 (amv rfl),tv⟩)<|Qah<|frb h
   ·exact wx tbk (hcat (Q95 p0) [(4,rp [(.tmp 34,(B ((decide ((p0.Elements.length:Int)≤18)))))] (B false))]) (hap q1_ ⟨asb hb2 (amv rfl),tv⟩)<|Qah<|frb h
  ·skip
   refine wxz<|Qap ?_
   refine wmr (mto (n:=46) (l':=[(1,(Q3h p1)),(2,.ref 0 2 0 0),(5,I 0)]) (own':=[(Q7x p0)]) [(1,(Q3h p1)),(2,.ref 0 2 0 0),(5,I 0)] [0] [(Q7x p0)] hφ0 (pc (rnd Qaf) (prr (pw pn))) (qb (lc (rnd Qao) (lc (rnd Qab) ln)) qn)) ?_
   refine Qbv (τ:=Int) (fun n t=>Qf7 N p0 k1 n t=some r) (fun y4=>⟨mk 46 [(1,(Q3h p1)),(2,.ref 0 2 0 0),(5,I y4)],[(Q7x p0)]⟩) (fun t h=>by rw[Qf7] at h;cases h) (fun n6 ih y4 h=>?_) N (0) h
   rw[Qf7] at h
   skip
   refine wsq<|wx tbk [(3,rp _ _)] ⟨alq 7 Qal p0.Elements underlying24,tv⟩ ?_
   refine bfe h (fun hc7 h=>?_) fun hc7 h=>?_
   ·refine wft hc7<|Qaq<|thn<|wsq<|Qap ?_
    obtain⟨x8,hg9,h⟩:=bno h
    obtain⟨hi10,hj11⟩:=gsm hg9
    refine hpre (A:=(Q93 p0 y4 x8)) ⟨aiq underlying24 ti59 Qal hi10 hj11,alq 2 Qaw x8.From underlying57,tv⟩ fun q3_=>?_
    refine bfe h (fun hb12 h=>?_) fun hb12 h=>?_
    ·exact wx tbk (hcat (Q93 p0 y4 x8) [(8,rp [(.tmp 20,(B ((decide ((x8.From.length:Int)>25)))))] (B true))]) (hap q3_ ⟨asb hb12 (amv rfl),tv⟩)<|wtr<|wxz<|Qah<|Qau<|Qaj<|Qaj<|Qau<|Qaj<|frb h
    ·refine wx tbk (hcat (Q93 p0 y4 x8) [(8,rp [(.tmp 20,(B ((decide ((x8.From.length:Int)>25)))))] (B false)),(12,rp [(.tmp 21,B false),(.tmp 23,(Zfr p0)),(.tmp 24,I y4)] (.dptr (Qal x8) 0)),(15,rp [(.tmp 21,B false),(.tmp 27,(.dat 1 (x8.Weights.map Qad)))] (I ((x8.Weights.length:Int))))]) (hap q3_ ⟨asb hb12 (amv rfl),ag_ (aiq underlying24 ti59 Qal hi10 hj11),ag_ (alq 1 Qad x8.Weights underlying27),tv⟩) ?_
     refine bfe h (fun hc13 h=>?_) fun hc13 h=>?_
     ·exact wft hc13<|wxz<|Qah<|Qau<|Qaj<|Qaj<|Qau<|Qaj<|frb h
     ·exact wfn hc13<|Qaq<|bln<|thn<|wxz1<|thn<|arm (mto (n:=46) [(1,(Q3h p1)),(2,.ref 0 2 0 0),(5,(I (w64 (y4+1))))] [0] [(Q7x p0)] hφ0 (pc (rnd Qaf) (prr (pw pn))) (qb (lc (rnd Qao) (lc (rnd Qab) ln)) qn)) (ih (w64 (y4+1)) h)
   ·exact wfn hc7<|Qbg<|Qay<|Qay<|Qbf rfl<|thn<|⟨(),h,(mto (n:=46) [(1,(Q3h p1)),(2,.ref 0 2 0 0)] [0] [(Q7x p0)] hφ0 (pc (rnd Qaf) (prr pn)) (qb (lc (rnd Qao) (lc (rnd Qab) ln)) qn))⟩
def Qc6 (N:Nat) (p0:List Int) (k2:Int→Option Bool):Nat→Int→Int→Option Bool
  |0,_,_=>none
  |n8+1,y4,y5=>
    bif (decide (y5<(p0.length:Int))) then
     (getI p0 y5).bind fun x10=>
     (Qej N x10 0 1000).bind fun x15=>
     bif (!x15) then
      some false
     else
      Qc6 N p0 k2 n8 (w64 (y4+x10)) (w64 (y5+1))
    else
     k2 (y4)
def Qgn (N:Nat) (p0:List Int):Option Bool:=
  Qbi (fun y1=>
    bif (decide ((p0.length:Int)≤20)) then
     some (decide (y1>0))
    else
     some false) fun k2:Int→Option Bool=>
  Qc6 N p0 k2 N 0 0
theorem Qo5 (N:Nat) (p0:List Int) (r:Bool) (h:Qgn N p0=some r):Spec prog 107 [(.dat 1 (p0.map Qad))] [] (B r) []:=by
  refine Qak func107 rfl 0 (nle rfl) (fun X φ0 w0 hφ0 hd0=>?_)
  unfold Qgn at h
  refine wxz<|wxz ?_
  obtain⟨k2,hk_k2,h⟩:=jko h
  refine wjn (τ:=Int) (fun t=>k2 t=some r) (fun y1=>⟨mk 30 [(0,(.dat 1 (p0.map Qad))),(3,I y1)],[]⟩) (fun y1 h=>?_) ?_
  ·subst hk_k2
   refine bfe h (fun hb3 h=>?_) fun hb3 h=>?_
   ·refine wx tbk [(1,rp _ _),(3,rp [(.tmp 25,(B ((decide ((p0.length:Int)≤20)))))] (B true))] ⟨alq 1 Qad p0 underlying27,asb hb3 (amv rfl),tv⟩<|Qah ?_
    obtain rfl:=osi h
    exact fend ⟨[(B ((decide (y1>0))))],⟨rot,tv⟩,rfl⟩ nll
   ·exact wx tbk [(1,rp _ _),(3,rp [(.tmp 25,(B ((decide ((p0.length:Int)≤20)))))] (B false))] ⟨alq 1 Qad p0 underlying27,asb hb3 (amv rfl),tv⟩<|Qah<|frb h
  ·skip
   refine wxz<|Qap ?_
   refine wmr (mto (n:=30) (l':=[(0,(.dat 1 (p0.map Qad))),(3,I 0),(4,I 0)]) (own':=[]) [(0,(.dat 1 (p0.map Qad))),(3,I 0),(4,I 0)] [] [] hφ0 (pc (rnd Qag) (pw (pw pn))) qn) ?_
   refine Qbv (τ:=Int×Int) (fun n t=>Qc6 N p0 k2 n t.1 t.2=some r) (fun ⟨y4,y5⟩=>⟨mk 30 [(0,(.dat 1 (p0.map Qad))),(3,I y4),(4,I y5)],[]⟩) (fun t h=>by rw[Qc6] at h;cases h) (fun n8 ih t h=>?_) N (0,0) h
   obtain⟨y4,y5⟩:=t
   rw[Qc6] at h
   skip
   refine wsq<|wx tbk [(2,rp _ _)] ⟨alq 1 Qad p0 underlying27,tv⟩ ?_
   refine bfe h (fun hc9 h=>?_) fun hc9 h=>?_
   ·refine wft hc9<|Qaq<|thn<|wsq<|Qap<|wsq ?_
    obtain⟨x10,hg11,h⟩:=bno h
    obtain⟨hi12,hj13⟩:=gsm hg11
    obtain⟨x15,hf14,h⟩:=bno h
    refine wx tbk [(2,rp _ _),(4,rp _ _)] ⟨aiq underlying27 ti3 Qad hi12 hj13,apv Qis (Qdg N x10 0 1000 _ hf14) (nlcc (nlc nll nl0)) nll,tv⟩ ?_
    refine bfe h (fun hc16 h=>?_) fun hc16 h=>?_
    ·exact wft hc16<|wxz<|Qah<|Qaj<|Qau<|Qaj<|Qaj<|Qau<|Qaj<|frb h
    ·refine wfn hc16<|Qaq<|thn ?_
     exact wx1 tbk [(3,rp _ _)] ⟨aiq underlying27 ti3 Qad hi12 hj13,tv⟩<|bln<|thn<|wxz1<|thn<|arm (mto (n:=30) [(0,(.dat 1 (p0.map Qad))),(3,(I (w64 (y4+x10)))),(4,(I (w64 (y5+1))))] [] [] hφ0 (pc (rnd Qag) (pw (pw pn))) qn) (ih (w64 (y4+x10),w64 (y5+1)) h)
   ·exact wfn hc9<|Qbg<|Qay<|Qay<|Qbf rfl<|thn<|⟨(y4),h,(mto (n:=30) [(0,(.dat 1 (p0.map Qad))),(3,I y4)] [] [] hφ0 (pc (rnd Qag) (pw pn)) qn)⟩
def Qlj (N:Nat) (p0:Qam):Option Bool:=
  Qbi (fun _=>
    Qbi (fun ⟨y2,y3⟩=>
      Qbi (fun y5=>
        Qbi (fun y7=>
          Qbi (fun y9=>
            Qbi (fun _=>
              bif (p0.Kind==5) then
               (Qgn N p0.Weights).bind fun x14=>
               some x14
              else
               some ((p0.Weights.length:Int)==0)) fun k11:Unit→Option Bool=>
            (Qej N (p0.From.length:Int) y2 y5).bind fun x16=>
            bif (!x16) then
             some false
            else
             (Qej N p0.Amount 0 y9).bind fun x19=>
             bif (!x19) then
              some false
             else
              k11 ()) fun k10:Int→Option Bool=>
          bif (p0.Kind==4) then
           k10 (1000)
          else
           k10 y7) fun k8:Int→Option Bool=>
        bif (p0.Kind==3) then
         k8 (1000000000)
        else
         k8 (0)) fun k6:Int→Option Bool=>
      bif (p0.Kind==2) then
       k6 (6)
      else
       k6 y3) fun k4:Int×Int→Option Bool=>
    bif (p0.Kind==1) then
     k4 (0,0)
    else
     k4 (1,1)) fun k1:Unit→Option Bool=>
  bif (decide (p0.Kind<1)) then
   some false
  else
   bif (decide (p0.Kind>6)) then
    some false
   else
    (Qej N p0.Wide 0 1000000).bind fun x28=>
    bif (!x28) then
     some false
    else
     (Qej N p0.Narrow 1 1000000000).bind fun x31=>
     bif (!x31) then
      some false
     else
      k1 ()
def Zqn (p0:Qam):AV:=.dat 1 (p0.Weights.map Qad)
def Ql2 (p0:Qam):Slot:=.own 7 [[(K .u8 p0.Kind),(.dat 2 (p0.From.map Qaw)),(I p0.Level),(I p0.Amount),(I p0.Wide),(I p0.Narrow),(Zqn p0)]]
def Zcc (p0:Qam) (y2 y5:Int) (x16:Bool):List (Nat×Rec):=[(2,rp [((.tmp 39),(.dat 2 (p0.From.map Qaw)))] (I ((p0.From.length:Int)))),(5,rp [fu 25,((.tmp 40),(I ((p0.From.length:Int)))),((.tmp 41),(I y2)),((.tmp 42),(I y5))] (B x16))]
def Zcb (p0:Qam):List (Nat×Rec):=[(3,rp [((.tmp 8),(B ((decide (p0.Kind<1)))))] (B false))]
def Zca p0 (x28:Bool):=hcat (Zcb p0) [(8,rp [((.tmp 13),(B ((decide (p0.Kind>6)))))] (B false)),(11,rp [((.tmp 14),(B false)),fu 25,((.tmp 16),(I p0.Wide)),ci 0,ci 1000000] (B x28))]
theorem Qvs (N:Nat) (p0:Qam) (r:Bool) (h:Qlj N p0=some r):Spec prog 70 [(.agg (Qal p0))] [] (B r) []:=by
  refine Qak func70 rfl 0 (nle rfl) (fun X φ0 w0 hφ0 hd0=>?_)
  unfold Qlj at h
  refine wxz ?_
  obtain⟨k1,hk_k1,h⟩:=jko h
  refine wjn (τ:=Unit) (fun t=>k1 t=some r) (fun _=>⟨mk 62 [(1,.ref 0 7 0 0)],[(Ql2 p0)]⟩) (fun t h=>?_) ?_
  ·subst hk_k1
   refine wxz ?_
   obtain⟨k4,hk_k4,h⟩:=jko h
   refine wjn (τ:=Int×Int) (fun t=>k4 t=some r) (fun ⟨y2,y3⟩=>⟨mk 62 [(1,.ref 0 7 0 0),(3,I y2),(4,I y3),(5,I 0)],[(Ql2 p0)]⟩) (fun t h=>?_) ?_
   ·subst hk_k4
    obtain⟨y2,y3⟩:=t
    obtain⟨k6,hk_k6,h⟩:=jko h
    refine wjn (τ:=Int) (fun t=>k6 t=some r) (fun y5=>⟨mk 62 [(1,.ref 0 7 0 0),(3,I y2),(4,I y5),(5,I 0)],[(Ql2 p0)]⟩) (fun y5 h=>?_) ?_
    ·subst hk_k6
     obtain⟨k8,hk_k8,h⟩:=jko h
     refine wjn (τ:=Int) (fun t=>k8 t=some r) (fun y7=>⟨mk 62 [(1,.ref 0 7 0 0),(3,I y2),(4,I y5),(5,I y7)],[(Ql2 p0)]⟩) (fun y7 h=>?_) ?_
     ·subst hk_k8
      obtain⟨k10,hk_k10,h⟩:=jko h
      refine wjn (τ:=Int) (fun t=>k10 t=some r) (fun y9=>⟨mk 62 [(1,.ref 0 7 0 0),(3,I y2),(4,I y5),(5,I y9)],[(Ql2 p0)]⟩) (fun y9 h=>?_) ?_
      ·subst hk_k10
       obtain⟨k11,hk_k11,h⟩:=jko h
       refine wjn (τ:=Unit) (fun t=>k11 t=some r) (fun _=>⟨mk 62 [(1,.ref 0 7 0 0)],[(Ql2 p0)]⟩) (fun t h=>?_) ?_
       ·subst hk_k11
        refine wsq<|wxz ?_
        refine bfe h (fun hc12 h=>?_) fun hc12 h=>?_
        ·refine wft hc12 ?_
         obtain⟨x14,hf13,h⟩:=bno h
         exact wx tbk [(2,rp _ _)] ⟨apv Zi0 (Qo5 N p0.Weights _ hf13) (nlc (nld Qag _) nl0) nll,tv⟩<|Qah<|Qaj<|frb h
        ·refine wfn hc12<|Qaq<|thn ?_
         refine wx tbk [(2,rp _ _)] ⟨alq 1 Qad p0.Weights underlying27,tv⟩<|Qah ?_
         obtain rfl:=osi h
         exact fend ⟨[(B (((p0.Weights.length:Int)==0)))],⟨rot,tv⟩,rfl⟩ nll
       ·skip
        obtain⟨x16,hf15,h⟩:=bno h
        refine hpre (A:=(Zcc p0 y2 y5 x16)) ⟨alq 2 Qaw p0.From underlying57,apv Qis (Qdg N (p0.From.length:Int) y2 y5 _ hf15) (nlcc (nlc nll nl0)) nll,tv⟩ fun q1_=>?_
        refine bfe h (fun hb17 h=>?_) fun hb17 h=>?_
        ·exact wx tbk (hcat (Zcc p0 y2 y5 x16) [(7,rp [(.tmp 44,(B ((!x16))))] (B true))]) (hap q1_ ⟨asb hb17 (amv rfl),tv⟩)<|wtr<|wxz<|Qah<|Qaj<|frb h
        ·obtain⟨x19,hf18,h⟩:=bno h
         refine wx tbk (hcat (Zcc p0 y2 y5 x16) [(7,rp [(.tmp 44,(B ((!x16))))] (B false)),(11,rp [(.tmp 45,B false),fu 25,(.tmp 47,I p0.Amount),ci 0,(.tmp 48,I y9)] (B x19))]) (hap q1_ ⟨asb hb17 (amv rfl),ag_ (apv Qis (Qdg N p0.Amount 0 y9 _ hf18) (nlcc (nlc nll nl0)) nll),tv⟩) ?_
         refine bfe h (fun hc20 h=>?_) fun hc20 h=>?_
         ·exact wft hc20<|wxz<|Qah<|Qaj<|frb h
         ·exact wfn hc20<|Qaq<|thn<|⟨(),h,(mto (n:=62) [(1,.ref 0 7 0 0)] [0] [(Ql2 p0)] hφ0 (prr pn) (qb (lc rwl (lc (rnd Qa1) (lcc (lcc (lc (rnd Qag) ln))))) qn))⟩
      ·skip
       refine wxz ?_
       refine bfe h (fun hc21 h=>?_) fun hc21 h=>?_
       ·exact wft hc21<|wxz1<|thn<|⟨(1000),h,(mto (n:=62) [(1,.ref 0 7 0 0),(3,I y2),(4,I y5),(5,I 1000)] [0] [(Ql2 p0)] hφ0 (prr (pw (pw (pw pn)))) (qb (lc rwl (lc (rnd Qa1) (lcc (lcc (lc (rnd Qag) ln))))) qn))⟩
       ·exact wfn hc21<|Qaq<|thn<|⟨(y7),h,(mto (n:=62) [(1,.ref 0 7 0 0),(3,I y2),(4,I y5),(5,I y7)] [0] [(Ql2 p0)] hφ0 (prr (pw (pw (pw pn)))) (qb (lc rwl (lc (rnd Qa1) (lcc (lcc (lc (rnd Qag) ln))))) qn))⟩
     ·skip
      refine wxz ?_
      refine bfe h (fun hc22 h=>?_) fun hc22 h=>?_
      ·exact wft hc22<|wxz1<|thn<|⟨(1000000000),h,(mto (n:=62) [(1,.ref 0 7 0 0),(3,I y2),(4,I y5),(5,I 1000000000)] [0] [(Ql2 p0)] hφ0 (prr (pw (pw (pw pn)))) (qb (lc rwl (lc (rnd Qa1) (lcc (lcc (lc (rnd Qag) ln))))) qn))⟩
      ·exact wfn hc22<|Qaq<|thn<|⟨(0),h,(mto (n:=62) [(1,.ref 0 7 0 0),(3,I y2),(4,I y5),(5,I 0)] [0] [(Ql2 p0)] hφ0 (prr (pw (pw (pw pn)))) (qb (lc rwl (lc (rnd Qa1) (lcc (lcc (lc (rnd Qag) ln))))) qn))⟩
    ·skip
     refine wxz ?_
     refine bfe h (fun hc23 h=>?_) fun hc23 h=>?_
     ·exact wft hc23<|wxz1<|thn<|⟨(6),h,(mto (n:=62) [(1,.ref 0 7 0 0),(3,I y2),(4,I 6),(5,I 0)] [0] [(Ql2 p0)] hφ0 (prr (pw (pw (pw pn)))) (qb (lc rwl (lc (rnd Qa1) (lcc (lcc (lc (rnd Qag) ln))))) qn))⟩
     ·exact wfn hc23<|Qaq<|thn<|⟨(y3),h,(mto (n:=62) [(1,.ref 0 7 0 0),(3,I y2),(4,I y3),(5,I 0)] [0] [(Ql2 p0)] hφ0 (prr (pw (pw (pw pn)))) (qb (lc rwl (lc (rnd Qa1) (lcc (lcc (lc (rnd Qag) ln))))) qn))⟩
   ·skip
    refine wxz ?_
    refine bfe h (fun hc24 h=>?_) fun hc24 h=>?_
    ·exact wft hc24<|wxz1<|thn<|⟨(0,0),h,(mto (n:=62) [(1,.ref 0 7 0 0),(3,I 0),(4,I 0),(5,I 0)] [0] [(Ql2 p0)] hφ0 (prr (pw (pw (pw pn)))) (qb (lc rwl (lc (rnd Qa1) (lcc (lcc (lc (rnd Qag) ln))))) qn))⟩
    ·exact wfn hc24<|Qaq<|thn<|⟨(1,1),h,(mto (n:=62) [(1,.ref 0 7 0 0),(3,I 1),(4,I 1),(5,I 0)] [0] [(Ql2 p0)] hφ0 (prr (pw (pw (pw pn)))) (qb (lc rwl (lc (rnd Qa1) (lcc (lcc (lc (rnd Qag) ln))))) qn))⟩
  ·skip
   refine bfe h (fun hb25 h=>?_) fun hb25 h=>?_
   ·exact wx tbk [(3,rp [(.tmp 8,(B ((decide (p0.Kind<1)))))] (B true))] ⟨asb hb25 (amv rfl),tv⟩<|wtr<|wxz<|Qah<|Qaj<|frb h
   ·refine hpre (A:=(Zcb p0)) ⟨asb hb25 (amv rfl),tv⟩ fun q2_=>?_
    refine bfe h (fun hb26 h=>?_) fun hb26 h=>?_
    ·exact wx tbk (hcat (Zcb p0) [(8,rp [(.tmp 13,(B ((decide (p0.Kind>6)))))] (B true))]) (hap q2_ ⟨asb hb26 (amv rfl),tv⟩)<|wtr<|wxz<|Qah<|Qaj<|frb h
    ·obtain⟨x28,hf27,h⟩:=bno h
     refine hpre (A:=(Zca p0 x28)) (hap q2_ ⟨asb hb26 (amv rfl),ag_ (apv Qis (Qdg N p0.Wide 0 1000000 _ hf27) (nlcc (nlc nll nl0)) nll),tv⟩) fun q3_=>?_
     refine bfe h (fun hb29 h=>?_) fun hb29 h=>?_
     ·exact wx tbk (hcat (Zca p0 x28) [(14,rp [(.tmp 19,(B ((!x28))))] (B true))]) (hap q3_ ⟨asb hb29 (amv rfl),tv⟩)<|wtr<|wxz<|Qah<|Qaj<|frb h
     ·obtain⟨x31,hf30,h⟩:=bno h
      refine wx tbk (hcat (Zca p0 x28) [(14,rp [(.tmp 19,(B ((!x28))))] (B false)),(17,rp [(.tmp 20,B false),fu 25,(.tmp 22,I p0.Narrow),ci 1,ci 1000000000] (B x31))]) (hap q3_ ⟨asb hb29 (amv rfl),ag_ (apv Qis (Qdg N p0.Narrow 1 1000000000 _ hf30) (nlcc (nlc nll nl0)) nll),tv⟩) ?_
      refine bfe h (fun hc32 h=>?_) fun hc32 h=>?_
      ·exact wft hc32<|wxz<|Qah<|Qaj<|frb h
      ·exact wfn hc32<|Qaq<|thn<|⟨(),h,(mto (n:=62) [(1,.ref 0 7 0 0)] [0] [(Ql2 p0)] hφ0 (prr pn) (qb (lc rwl (lc (rnd Qa1) (lcc (lcc (lc (rnd Qag) ln))))) qn))⟩
def Qih (_N:Nat) (p0:Qam):Option Int:=
  bif (p0.Kind==4) then
   some 2
  else
   bif (p0.Kind==5) then
    (some (p0.Weights.length:Int)).bind fun x3=>
    some x3
   else
    some 1
theorem Qnz (N:Nat) (p0:Qam) (r:Int) (h:Qih N p0=some r):Spec prog 71 [(.agg (Qal p0))] [] (I r) []:=by
  refine Qak func71 rfl 0 (nle rfl) (fun X φ0 w0 hφ0 hd0=>?_)
  unfold Qih at h
  refine wxz<|wsq<|wxz ?_
  refine bfe h (fun hc1 h=>?_) fun hc1 h=>?_
  ·refine wft hc1<|wxz<|Qah<|Qaj ?_
   obtain rfl:=osi h
   exact fend ⟨[I 2],⟨rot,tv⟩,rfl⟩ nll
  ·refine wfn hc1<|Qaq<|thn<|wsq<|wxz ?_
   refine bfe h (fun hc2 h=>?_) fun hc2 h=>?_
   ·refine wft hc2 ?_
    obtain⟨x3,hl4,h⟩:=bno h
    refine wx tbk [(2,rp _ _),(3,rp [(.tmp 11,(I ((p0.Weights.length:Int))))] (I x3))] ⟨alq 1 Qad p0.Weights underlying27,Qin hl4 (aas rfl),tv⟩<|Qah<|Qaj ?_
    obtain rfl:=osi h
    exact fend ⟨[I x3],⟨rot,tv⟩,rfl⟩ nll
   ·refine wfn hc2<|Qaq<|thn<|wxz<|Qah ?_
    obtain rfl:=osi h
    exact fend ⟨[I 1],⟨rot,tv⟩,rfl⟩ nll
def Qe6 (N:Nat) (p0:List Qa6) (k1:Unit→Option Bool) (p1:Qa6):Nat→Int→Option Bool
  |0,_=>none
  |n4+1,y2=>
    bif (decide (y2<(p0.length:Int))) then
     (getI p0 y2).bind fun x6=>
     bif (([x6.Element,x6.Outlet]:List Int)==[p1.Element,p1.Outlet]) then
      some true
     else
      Qe6 N p0 k1 p1 n4 (w64 (y2+1))
    else
     k1 ()
def Qjj (N:Nat) (p0:List Qa6) (p1:Qa6):Option Bool:=
  Qbi (fun _=>
    some false) fun k1:Unit→Option Bool=>
  Qe6 N p0 k1 p1 N 0
def Q6h (p0:List Qa6):AV:=.dat 2 (p0.map Qaw)
def Q6i (p1:Qa6):Slot:=.own 2 [[(I p1.Element),(I p1.Outlet)]]
theorem Qpl (N:Nat) (p0:List Qa6) (p1:Qa6) (r:Bool) (h:Qjj N p0 p1=some r):Spec prog 72 [(.dat 2 (p0.map Qaw)),(.agg (Qaw p1))] [] (B r) []:=by
  refine Qak func72 rfl 0 (nle rfl) (fun X φ0 w0 hφ0 hd0=>?_)
  unfold Qjj at h
  refine wxz ?_
  obtain⟨k1,hk_k1,h⟩:=jko h
  refine wjn (τ:=Unit) (fun t=>k1 t=some r) (fun _=>⟨mk 18 [],[]⟩) (fun t h=>?_) ?_
  ·subst hk_k1
   exact wxz<|Qah<|frb h
  ·skip
   refine wxz<|Qap ?_
   refine wmr (mto (n:=18) (l':=[(0,(Q6h p0)),(3,.ref 0 2 0 0),(5,I 0)]) (own':=[(Q6i p1)]) [(0,(Q6h p0)),(3,.ref 0 2 0 0),(5,I 0)] [0] [(Q6i p1)] hφ0 (pc (rnd Qa1) (prr (pw pn))) (qb (lcc ln) qn)) ?_
   refine Qbv (τ:=Int) (fun n t=>Qe6 N p0 k1 p1 n t=some r) (fun y2=>⟨mk 18 [(0,(Q6h p0)),(3,.ref 0 2 0 0),(5,I y2)],[(Q6i p1)]⟩) (fun t h=>by rw[Qe6] at h;cases h) (fun n4 ih y2 h=>?_) N (0) h
   rw[Qe6] at h
   skip
   refine wsq<|wx tbk [(2,rp _ _)] ⟨alq 2 Qaw p0 underlying57,tv⟩ ?_
   refine bfe h (fun hc5 h=>?_) fun hc5 h=>?_
   ·refine wft hc5<|Qaq<|thn<|wsq<|Qap ?_
    obtain⟨x6,hg7,h⟩:=bno h
    obtain⟨hi8,hj9⟩:=gsm hg7
    refine wxd tbk [(2,rp _ _),(5,rp [(.tmp 15,(.agg [I x6.Element,I x6.Outlet])),(.tmp 16,(.agg [I p1.Element,I p1.Outlet]))] (B ((([x6.Element,x6.Outlet]:List Int)==[p1.Element,p1.Outlet]))))] ⟨aiq underlying57 ti61 Qaw hi8 hj9,Qs1 (ls:=[x6.Element,x6.Outlet]) (ks:=[p1.Element,p1.Outlet]) rfl rfl Ztb (by kernel_rfl) rfl rfl,tv⟩ ?_
    refine bfe h (fun hc10 h=>?_) fun hc10 h=>?_
    ·exact wft hc10<|wxz<|Qah<|Qau<|Qaj<|Qaj<|Qau<|Qaj<|frb h
    ·exact wfn hc10<|Qaq<|bln<|thn<|wxz1<|thn<|arm (mto (n:=18) [(0,(Q6h p0)),(3,.ref 0 2 0 0),(5,(I (w64 (y2+1))))] [0] [(Q6i p1)] hφ0 (pc (rnd Qa1) (prr (pw pn))) (qb (lcc ln) qn)) (ih (w64 (y2+1)) h)
   ·exact wfn hc5<|Qbg<|Qay<|Qay<|Qbf rfl<|thn<|⟨(),h,(mto (n:=18) [] [] [] hφ0 pn qn)⟩
def Qe7 (N:Nat) (p0:GNet) (y4:Int) (k10:(List Qa6)→Option Bool) (x11:Qam):Nat→(List Qa6)→Int→Option Bool
  |0,_,_=>none
  |n21+1,y17,y18=>
    bif (decide (y18<(x11.From.length:Int))) then
     (getI x11.From y18).bind fun x23=>
     (Qej N x23.Element 0 (w64 (y4-1))).bind fun x28=>
     bif (!x28) then
      some false
     else
      (getI p0.Elements x23.Element).bind fun x30=>
      (Qih N x30).bind fun x35=>
      (Qej N x23.Outlet 0 (w64 (x35-1))).bind fun x37=>
      bif (!x37) then
       some false
      else
       bif (decide (x11.Level>x30.Level)) then
        some false
       else
        (Qjj N y17 x23).bind fun x41=>
        bif x41 then
         some false
        else
         chk (decide ((y17.length+([x23]).length)*16≤140737488355328))<|
         Qe7 N p0 y4 k10 x11 n21 (y17++([x23])) (w64 (y18+1))
    else
     k10 (y17)
def Qeb (N:Nat) (p0:GNet) (k2:Unit→Option Bool):Nat→(List Qa6)→Int→Option Bool
  |0,_,_=>none
  |n7+1,y3,y4=>
    bif (decide (y4<(p0.Elements.length:Int))) then
     Qbi (fun y9=>
       Qeb N p0 k2 n7 y9 (w64 (y4+1))) fun k10:(List Qa6)→Option Bool=>
     (getI p0.Elements y4).bind fun x11=>
     Qbi (fun y15=>
       Qe7 N p0 y4 k10 x11 N y15 0) fun k16:(List Qa6)→Option Bool=>
     (Qlj N x11).bind fun x45=>
     bif (!x45) then
      some false
     else
      (Qej N x11.Level 0 (w64 ((p0.Table.length:Int)-1))).bind fun x48=>
      bif (!x48) then
       some false
      else
       k16 (y3)
    else
     k2 ()
def Qll (N:Nat) (p0:GNet):Option Bool:=
  Qbi (fun _=>
    Qbi (fun _=>
      some true) fun k2:Unit→Option Bool=>
    Qeb N p0 k2 N ([]) 0) fun k1:Unit→Option Bool=>
  (Qln N p0.Table).bind fun x51=>
  bif (!x51) then
   some false
  else
   bif (decide ((p0.Elements.length:Int)<1)) then
    some false
   else
    bif (decide ((p0.Elements.length:Int)>16)) then
     some false
    else
     k1 ()
def Zle (p0:GNet):AV:=.dat 5 (p0.Table.map Qav)
def Q92 (p0:GNet):AV:=.dat 7 (p0.Elements.map Qal)
def Qrq (p0:GNet):Slot:=.own 2 [[(Zle p0),(Q92 p0)]]
def Q91 (x11:Qam):AV:=.dat 2 (x11.From.map Qaw)
def Qs5 (x11:Qam):Slot:=.own 7 [[(K .u8 x11.Kind),(Q91 x11),(I x11.Level),(I x11.Amount),(I x11.Wide),(I x11.Narrow),(.dat 1 (x11.Weights.map Qad))]]
def Qys (y17:List Qa6):AV:=.acc 1 61 2 (y17.map Qaw)
def Q3g (x23:Qa6) (y4:Int) (x28:Bool):List (Nat×Rec):=[(4,rp [fu 25,((.tmp 62),(I x23.Element)),ci 0,((.tmp 64),(I (w64 (y4-1))))] (B x28))]
def Zlc (x30:Qam):AV:=.agg [(K .u8 x30.Kind),(.dat 2 (x30.From.map Qaw)),(I x30.Level),(I x30.Amount),(I x30.Wide),(I x30.Narrow),(.dat 1 (x30.Weights.map Qad))]
def Q3f x23 y4 x28 (p0:GNet) (x30:Qam) (x35:Int) (x37:Bool):=hcat (Q3g x23 y4 x28) [(6,rp [((.tmp 66),(B ((!x28))))] (B false)),(13,rp [((.tmp 67),(B false)),((.tmp 71),(Q92 p0)),((.tmp 73),(I x23.Element))] (.dptr (Qal x30) 0)),(15,rp [((.tmp 67),(B false)),fu 71,((.tmp 75),(Zlc x30))] (I x35)),(17,rp [((.tmp 67),(B false)),fu 25,((.tmp 69),(I x23.Outlet)),ci 0,((.tmp 77),(I (w64 (x35-1))))] (B x37))]
def Q3e x23 y4 x28 p0 x30 x35 x37:=hcat (Q3f x23 y4 x28 p0 x30 x35 x37) [(20,rp [((.tmp 80),(B ((!x37))))] (B false)),(27,rp [((.tmp 81),(B false)),((.tmp 85),(Q92 p0)),((.tmp 87),(I x23.Element))] (.dptr (Qal x30) 0))]
def Qyr (x23:Qa6):AV:=.agg [(I x23.Element),(I x23.Outlet)]
def Zld (x11:Qam):AV:=.agg [(K .u8 x11.Kind),(Q91 x11),(I x11.Level),(I x11.Amount),(I x11.Wide),(I x11.Narrow),(.dat 1 (x11.Weights.map Qad))]
def Q3d (x11:Qam) (x45:Bool):List (Nat×Rec):=[(1,rp [fu 70,((.tmp 36),(Zld x11))] (B x45))]
def Q3c (p0:GNet) (x51:Bool):List (Nat×Rec):=[(2,rp [fu 69,((.tmp 9),(Zle p0))] (B x51))]
def Q3b p0 x51:=hcat (Q3c p0 x51) [(4,rp [((.tmp 11),(B ((!x51))))] (B false)),(7,rp [((.tmp 12),(B false)),((.tmp 14),(Q92 p0))] (I ((p0.Elements.length:Int))))]
theorem Qvu (N:Nat) (p0:GNet) (r:Bool) (h:Qll N p0=some r):Spec prog 28 [(.agg (Qgx p0))] [] (B r) []:=by
  refine Qak func28 rfl 0 (nle rfl) (fun X φ0 w0 hφ0 hd0=>?_)
  unfold Qll at h
  refine wxz ?_
  obtain⟨k1,hk_k1,h⟩:=jko h
  refine wjn (τ:=Unit) (fun t=>k1 t=some r) (fun _=>⟨mk 102 [(1,.ref 0 2 0 0)],[(Qrq p0)]⟩) (fun t h=>?_) ?_
  ·subst hk_k1
   refine wxz ?_
   obtain⟨k2,hk_k2,h⟩:=jko h
   refine wjn (τ:=Unit) (fun t=>k2 t=some r) (fun _=>⟨mk 102 [],[]⟩) (fun t h=>?_) ?_
   ·subst hk_k2
    exact wxz<|Qah<|frb h
   ·skip
    refine wxz<|Qap ?_
    refine wmr (Mor.trans (Qnq 1 61 2 3 (by kernel_rfl) (by kernel_rfl)) (mto (n:=102) (l':=[(1,.ref 0 2 0 0),(3,(.acc 1 61 2 ((([]):List Qa6).map Qaw))),(4,I 0)]) (own':=[(Qrq p0),.tok]) [(1,.ref 0 2 0 0),(3,(.acc 1 61 2 (([]:List Qa6).map Qaw))),(4,I 0)] [0,1] [(Qrq p0),.tok] hφ0 (prr (pc (.rn (Qa3 rfl (Qa0 Qa1 _))) (pw pn))) (qb (lc (rnd Qao) (lc (rnd Qab) ln)) (qc .tok qn)))) ?_
    refine Qbv (τ:=(List Qa6)×Int) (fun n t=>Qeb N p0 k2 n t.1 t.2=some r) (fun ⟨y3,y4⟩=>⟨mk 102 [(1,.ref 0 2 0 0),(3,(.acc 1 61 2 (y3.map Qaw))),(4,I y4)],[(Qrq p0),.tok]⟩) (fun t h=>by rw[Qeb] at h;cases h) (fun n7 ih t h=>?_) N ([],0) h
    obtain⟨y3,y4⟩:=t
    rw[Qeb] at h
    skip
    refine wsq<|wx tbk [(3,rp _ _)] ⟨alq 7 Qal p0.Elements underlying24,tv⟩ ?_
    refine bfe h (fun hc8 h=>?_) fun hc8 h=>?_
    ·refine wft hc8<|Qaq<|thn ?_
     obtain⟨k10,hk_k10,h⟩:=jko h
     refine wjn (τ:=(List Qa6)) (fun t=>k10 t=some r) (fun y9=>⟨mk 102 [(1,.ref 0 2 0 0),(3,(.acc 1 61 2 (y9.map Qaw))),(4,I y4)],[(Qrq p0),.tok]⟩) (fun y9 h=>?_) ?_
     ·subst hk_k10
      exact wxz1<|thn<|arm (mto (n:=102) [(1,.ref 0 2 0 0),(3,(.acc 1 61 2 (y9.map Qaw))),(4,(I (w64 (y4+1))))] [0,1] [(Qrq p0),.tok] hφ0 (prr (pc (.rn (Qa3 rfl (Qa0 Qa1 _))) (pw pn))) (qb (lc (rnd Qao) (lc (rnd Qab) ln)) (qc .tok qn))) (ih (y9,w64 (y4+1)) h)
     ·skip
      refine Qap ?_
      obtain⟨x11,hg12,h⟩:=bno h
      obtain⟨hi13,hj14⟩:=gsm hg12
      refine wx tbk [(3,rp _ _)] ⟨aiq underlying24 ti59 Qal hi13 hj14,tv⟩ ?_
      obtain⟨k16,hk_k16,h⟩:=jko h
      refine wjn (τ:=(List Qa6)) (fun t=>k16 t=some r) (fun y15=>⟨mk 102 [(1,.ref 0 2 0 0),(3,(.acc 1 61 2 (y15.map Qaw))),(4,I y4),(5,.ref 2 7 0 0)],[(Qrq p0),.tok,(Qs5 x11)]⟩) (fun y15 h=>?_) ?_
      ·subst hk_k16
       refine wxz<|Qap ?_
       refine wmr (mto (n:=102) (l':=[(1,.ref 0 2 0 0),(3,(.acc 1 61 2 (y15.map Qaw))),(4,I y4),(5,.ref 2 7 0 0),(6,I 0)]) (own':=[(Qrq p0),.tok,(Qs5 x11)]) [(1,.ref 0 2 0 0),(3,(.acc 1 61 2 (y15.map Qaw))),(4,I y4),(5,.ref 2 7 0 0),(6,I 0)] [0,1,2] [(Qrq p0),.tok,(Qs5 x11)] hφ0 (prr (pc (.rn (Qa3 rfl (Qa0 Qa1 _))) (pw (prr (pw pn))))) (qb (lc (rnd Qao) (lc (rnd Qab) ln)) (qc .tok (qb (lc rwl (lc (rnd Qa1) (lcc (lcc (lc (rnd Qag) ln))))) qn)))) ?_
       refine Qbv (τ:=(List Qa6)×Int) (fun n t=>Qe7 N p0 y4 k10 x11 n t.1 t.2=some r) (fun ⟨y17,y18⟩=>⟨mk 102 [(1,.ref 0 2 0 0),(3,(Qys y17)),(4,I y4),(5,.ref 2 7 0 0),(6,I y18)],[(Qrq p0),.tok,(Qs5 x11)]⟩) (fun t h=>by rw[Qe7] at h;cases h) (fun n21 ih t h=>?_) N (y15,0) h
       obtain⟨y17,y18⟩:=t
       rw[Qe7] at h
       skip
       refine wsq<|wx tbk [(3,rp _ _)] ⟨alq 2 Qaw x11.From underlying57,tv⟩ ?_
       refine bfe h (fun hc22 h=>?_) fun hc22 h=>?_
       ·refine wft hc22<|Qaq<|thn<|wsq<|Qap ?_
        obtain⟨x23,hg24,h⟩:=bno h
        obtain⟨hi25,hj26⟩:=gsm hg24
        refine wx tbk [(3,rp _ _)] ⟨aiq underlying57 ti61 Qaw hi25 hj26,tv⟩<|wsq ?_
        obtain⟨x28,hf27,h⟩:=bno h
        refine hpre (A:=(Q3g x23 y4 x28)) ⟨apv Qis (Qdg N x23.Element 0 (w64 (y4-1)) _ hf27) (nlcc (nlc nll nl0)) nll,tv⟩ fun q1_=>?_
        refine bfe h (fun hb29 h=>?_) fun hb29 h=>?_
        ·refine wxd tbk (hcat (Q3g x23 y4 x28) [(6,rp [(.tmp 66,(B ((!x28))))] (B true))]) (hap q1_ ⟨asb hb29 (amv rfl),tv⟩)<|wtr<|wxz<|Qah<|Qaj<|Qau<|Qaj<|Qaj<|Qau<|Qau ?_
         exact Qaj<|Qaj<|Qau<|Qaj<|frb h
        ·obtain⟨x30,hg31,h⟩:=bno h
         obtain⟨hi32,hj33⟩:=gsm hg31
         obtain⟨x35,hf34,h⟩:=bno h
         obtain⟨x37,hf36,h⟩:=bno h
         refine hpre (A:=(Q3f x23 y4 x28 p0 x30 x35 x37)) (hap q1_ ⟨asb hb29 (amv rfl),ag_ (aiq underlying24 ti59 Qal hi32 hj33),ag_ (apv Zem (Qnz N x30 _ hf34) (nlc (NLt.agg _ (nlc nll (nlc (nld Qa1 _) (nlcc (nlcc (nlc (nld Qag _) nl0)))))) nl0) nll),ag_ (apv Qis (Qdg N x23.Outlet 0 (w64 (x35-1)) _ hf36) (nlcc (nlc nll nl0)) nll),tv⟩) fun q2_=>?_
         refine bfe h (fun hb38 h=>?_) fun hb38 h=>?_
         ·refine wxd tbk (hcat (Q3f x23 y4 x28 p0 x30 x35 x37) [(20,rp [(.tmp 80,(B ((!x37))))] (B true))]) (hap q2_ ⟨asb hb38 (amv rfl),tv⟩)<|wtr<|wxz<|Qah<|Qaj<|Qau<|Qaj<|Qaj<|Qau<|Qau ?_
          exact Qaj<|Qaj<|Qau<|Qaj<|frb h
         ·refine hpre (A:=(Q3e x23 y4 x28 p0 x30 x35 x37)) (hap q2_ ⟨asb hb38 (amv rfl),ag_ (aiq underlying24 ti59 Qal hi32 hj33),tv⟩) fun q3_=>?_
          refine bfe h (fun hb39 h=>?_) fun hb39 h=>?_
          ·refine wxd tbk (hcat (Q3e x23 y4 x28 p0 x30 x35 x37) [(32,rp [(.tmp 92,(B ((decide (x11.Level>x30.Level)))))] (B true))]) (hap q3_ ⟨asb hb39 (amv rfl),tv⟩)<|wtr<|wxz<|Qah<|Qaj<|Qau<|Qaj<|Qaj<|Qau<|Qau ?_
           exact Qaj<|Qaj<|Qau<|Qaj<|frb h
          ·obtain⟨x41,hf40,h⟩:=bno h
           refine wxd tbk (hcat (Q3e x23 y4 x28 p0 x30 x35 x37) [(32,rp [(.tmp 92,(B ((decide (x11.Level>x30.Level)))))] (B false)),(35,rp [(.tmp 93,B false),fu 72,(.tmp 94,(Qys y17)),(.tmp 95,(Qyr x23))] (B x41))]) (hap q3_ ⟨asb hb39 (amv rfl),ag_ (awk (rd':=(.func 72,(.fn (.func 72) [] []))::[(.tmp 94,(.dat 2 (y17.map Qaw))),(.tmp 95,(Qyr x23))]) ⟨rfl,lrf,rfl,Less.acc,rfl,lrf,tv⟩ (apv Zel (Qpl N y17 x23 _ hf40) (nlc (nld Qa1 _) (nlc (NLt.agg _ (nlcc nl0)) nl0)) nll)),tv⟩) ?_
           refine bfe h (fun hc42 h=>?_) fun hc42 h=>?_
           ·refine wft hc42<|wxz<|Qah<|Qaj<|Qau<|Qaj<|Qaj<|Qau<|Qau<|Qaj ?_
            exact Qaj<|Qau<|Qaj<|frb h
           ·refine wfn hc42<|Qaq<|thn ?_
            obtain⟨ha43,h⟩:=cko h
            refine wx1 tbk [(2,rp [(.tmp 99,(Qyr x23))] (.dat 2 (([x23]:List Qa6).map Qaw))),(3,⟨[(.tmp 98,(Qys y17)),(.tmp 100,(.dat 2 (([x23]:List Qa6).map Qaw)))],[(1,.tok),(4,.unused)],(.acc 4 61 2 ((y17++([x23]):List Qa6).map Qaw)),[(1,.dead),(4,.tok)],false⟩)] ⟨Qbo (vs:=[(Qyr x23)]) rfl underlying57 ti61 tz61 rfl (by decide) rfl (by decide) (by rfl) (by rfl) (by rfl) rfl,Qd6 rfl underlying57 te61 (Base.acc _ _) rfl rfl (by rfl) (Qg2 Qaw ha43) (Qg1 Qaw ha43 (by decide)) (Qg0 Qaw) rfl rfl,tv⟩<|bln<|thn<|wxz1<|thn ?_
            exact arm (mto (n:=102) [(1,.ref 0 2 0 0),(3,(.acc 4 61 2 ((y17++([x23]):List Qa6).map Qaw))),(4,I y4),(5,.ref 2 7 0 0),(6,(I (w64 (y18+1))))] [0,4,2] [(Qrq p0),.tok,(Qs5 x11)] hφ0 (prr (pc (.rn (Qa3 rfl (Qa0 Qa1 _))) (pw (prr (pw pn))))) (qb (lc (rnd Qao) (lc (rnd Qab) ln)) (qc .tok (qb (lc rwl (lc (rnd Qa1) (lcc (lcc (lc (rnd Qag) ln))))) qn)))) (ih (y17++([x23]),w64 (y18+1)) h)
       ·exact wfn hc22<|Qbg<|Qay<|Qay<|Qbf rfl<|bln<|thn<|⟨(y17),h,(mto (n:=102) [(1,.ref 0 2 0 0),(3,(Qys y17)),(4,I y4)] [0,1] [(Qrq p0),.tok] hφ0 (prr (pc (.rn (Qa3 rfl (Qa0 Qa1 _))) (pw pn))) (qb (lc (rnd Qao) (lc (rnd Qab) ln)) (qc .tok qn)))⟩
      ·skip
       obtain⟨x45,hf44,h⟩:=bno h
       refine hpre (A:=(Q3d x11 x45)) ⟨apv Znu (Qvs N x11 _ hf44) (nlc (NLt.agg _ (nlc nll (nlc (nld Qa1 _) (nlcc (nlcc (nlc (nld Qag _) nl0)))))) nl0) nll,tv⟩ fun q4_=>?_
       refine bfe h (fun hb46 h=>?_) fun hb46 h=>?_
       ·refine wx tbk (hcat (Q3d x11 x45) [(3,rp [(.tmp 38,(B ((!x45))))] (B true))]) (hap q4_ ⟨asb hb46 (amv rfl),tv⟩)<|wtr<|wxz<|Qah<|Qaj<|Qau<|Qaj<|Qaj<|Qau<|Qaj ?_
        exact frb h
       ·obtain⟨x48,hf47,h⟩:=bno h
        refine wx tbk (hcat (Q3d x11 x45) [(3,rp [(.tmp 38,(B ((!x45))))] (B false)),(8,rp [(.tmp 39,B false),(.tmp 43,(Zle p0))] (I ((p0.Table.length:Int)))),(10,rp [(.tmp 39,B false),fu 25,(.tmp 41,I x11.Level),ci 0,(.tmp 45,(I (w64 ((p0.Table.length:Int)-1))))] (B x48))]) (hap q4_ ⟨asb hb46 (amv rfl),ag_ (alq 5 Qav p0.Table underlying23),ag_ (apv Qis (Qdg N x11.Level 0 (w64 ((p0.Table.length:Int)-1)) _ hf47) (nlcc (nlc nll nl0)) nll),tv⟩) ?_
        refine bfe h (fun hc49 h=>?_) fun hc49 h=>?_
        ·exact wft hc49<|wxz<|Qah<|Qaj<|Qau<|Qaj<|Qaj<|Qau<|Qaj<|frb h
        ·exact wfn hc49<|Qaq<|thn<|⟨(y3),h,(mto (n:=102) [(1,.ref 0 2 0 0),(3,(.acc 1 61 2 (y3.map Qaw))),(4,I y4),(5,.ref 2 7 0 0)] [0,1,2] [(Qrq p0),.tok,(Qs5 x11)] hφ0 (prr (pc (.rn (Qa3 rfl (Qa0 Qa1 _))) (pw (prr pn)))) (qb (lc (rnd Qao) (lc (rnd Qab) ln)) (qc .tok (qb (lc rwl (lc (rnd Qa1) (lcc (lcc (lc (rnd Qag) ln))))) qn))))⟩
    ·exact wfn hc8<|Qbg<|Qay<|Qay<|Qbf rfl<|thn<|⟨(),h,(mto (n:=102) [] [] [] hφ0 pn qn)⟩
  ·skip
   obtain⟨x51,hf50,h⟩:=bno h
   refine hpre (A:=(Q3c p0 x51)) ⟨apv Znv (Qvw N p0.Table _ hf50) (nlc (nld Qao _) nl0) nll,tv⟩ fun q5_=>?_
   refine bfe h (fun hb52 h=>?_) fun hb52 h=>?_
   ·exact wx tbk (hcat (Q3c p0 x51) [(4,rp [(.tmp 11,(B ((!x51))))] (B true))]) (hap q5_ ⟨asb hb52 (amv rfl),tv⟩)<|wtr<|wxz<|Qah<|Qaj<|frb h
   ·refine hpre (A:=(Q3b p0 x51)) (hap q5_ ⟨asb hb52 (amv rfl),ag_ (alq 7 Qal p0.Elements underlying24),tv⟩) fun q6_=>?_
    refine bfe h (fun hb53 h=>?_) fun hb53 h=>?_
    ·exact wx tbk (hcat (Q3b p0 x51) [(10,rp [(.tmp 17,(B ((decide ((p0.Elements.length:Int)<1)))))] (B true))]) (hap q6_ ⟨asb hb53 (amv rfl),tv⟩)<|wtr<|wxz<|Qah<|Qaj<|frb h
    ·refine wx tbk (hcat (Q3b p0 x51) [(10,rp [(.tmp 17,(B ((decide ((p0.Elements.length:Int)<1)))))] (B false)),(13,rp [(.tmp 18,B false),(.tmp 20,(Q92 p0))] (I ((p0.Elements.length:Int))))]) (hap q6_ ⟨asb hb53 (amv rfl),ag_ (alq 7 Qal p0.Elements underlying24),tv⟩) ?_
     refine bfe h (fun hc54 h=>?_) fun hc54 h=>?_
     ·exact wft hc54<|wxz<|Qah<|Qaj<|frb h
     ·exact wfn hc54<|Qaq<|thn<|⟨(),h,(mto (n:=102) [(1,.ref 0 2 0 0)] [0] [(Qrq p0)] hφ0 (prr pn) (qb (lc (rnd Qao) (lc (rnd Qab) ln)) qn))⟩
def Qdl (N:Nat) (k1:Unit→Option Bool) (p1:List Int):Nat→Int→Option Bool
  |0,_=>none
  |n4+1,y2=>
    bif (decide (y2<(p1.length:Int))) then
     (getI p1 y2).bind fun x6=>
     (Qej N x6 0 1000000000000).bind fun x11=>
     bif (!x11) then
      some false
     else
      Qdl N k1 p1 n4 (w64 (y2+1))
    else
     k1 ()
def Qhu (N:Nat) (p0:GNet) (p1:List Int):Option Bool:=
  Qbi (fun _=>
    some ((p1.length:Int)==(p0.Elements.length:Int))) fun k1:Unit→Option Bool=>
  Qdl N k1 p1 N 0
def Zqm (p0:GNet):AV:=.dat 7 (p0.Elements.map Qal)
def Qxw (p0:GNet):Slot:=.own 2 [[(.dat 5 (p0.Table.map Qav)),(Zqm p0)]]
theorem Qqc (N:Nat) (p0:GNet) (p1:List Int) (r:Bool) (h:Qhu N p0 p1=some r):Spec prog 33 [(.agg (Qgx p0)),(.dat 1 (p1.map Qad))] [] (B r) []:=by
  refine Qak func33 rfl 0 (nle rfl) (fun X φ0 w0 hφ0 hd0=>?_)
  unfold Qhu at h
  refine wxz ?_
  obtain⟨k1,hk_k1,h⟩:=jko h
  refine wjn (τ:=Unit) (fun t=>k1 t=some r) (fun _=>⟨mk 24 [(1,(.dat 1 (p1.map Qad))),(2,.ref 0 2 0 0)],[(Qxw p0)]⟩) (fun t h=>?_) ?_
  ·subst hk_k1
   refine wx tbk [(1,rp _ _),(4,rp _ _)] ⟨alq 1 Qad p1 underlying27,alq 7 Qal p0.Elements underlying24,tv⟩<|Qah ?_
   obtain rfl:=osi h
   exact fend ⟨[(B (((p1.length:Int)==(p0.Elements.length:Int))))],⟨rot,tv⟩,rfl⟩ nll
  ·skip
   refine wxz<|Qap ?_
   refine wmr (mto (n:=24) (l':=[(1,(.dat 1 (p1.map Qad))),(2,.ref 0 2 0 0),(5,I 0)]) (own':=[(Qxw p0)]) [(1,(.dat 1 (p1.map Qad))),(2,.ref 0 2 0 0),(5,I 0)] [0] [(Qxw p0)] hφ0 (pc (rnd Qag) (prr (pw pn))) (qb (lc (rnd Qao) (lc (rnd Qab) ln)) qn)) ?_
   refine Qbv (τ:=Int) (fun n t=>Qdl N k1 p1 n t=some r) (fun y2=>⟨mk 24 [(1,(.dat 1 (p1.map Qad))),(2,.ref 0 2 0 0),(5,I y2)],[(Qxw p0)]⟩) (fun t h=>by rw[Qdl] at h;cases h) (fun n4 ih y2 h=>?_) N (0) h
   rw[Qdl] at h
   skip
   refine wsq<|wx tbk [(2,rp _ _)] ⟨alq 1 Qad p1 underlying27,tv⟩ ?_
   refine bfe h (fun hc5 h=>?_) fun hc5 h=>?_
   ·refine wft hc5<|Qaq<|thn<|wsq<|Qap ?_
    obtain⟨x6,hg7,h⟩:=bno h
    obtain⟨hi8,hj9⟩:=gsm hg7
    obtain⟨x11,hf10,h⟩:=bno h
    refine wx tbk [(2,rp _ _),(4,rp _ _)] ⟨aiq underlying27 ti3 Qad hi8 hj9,apv Qis (Qdg N x6 0 1000000000000 _ hf10) (nlcc (nlc nll nl0)) nll,tv⟩ ?_
    refine bfe h (fun hc12 h=>?_) fun hc12 h=>?_
    ·exact wft hc12<|wxz<|Qah<|Qau<|Qaj<|Qaj<|Qau<|Qaj<|frb h
    ·exact wfn hc12<|Qaq<|bln<|thn<|wxz1<|thn<|arm (mto (n:=24) [(1,(.dat 1 (p1.map Qad))),(2,.ref 0 2 0 0),(5,(I (w64 (y2+1))))] [0] [(Qxw p0)] hφ0 (pc (rnd Qag) (prr (pw pn))) (qb (lc (rnd Qao) (lc (rnd Qab) ln)) qn)) (ih (w64 (y2+1)) h)
   ·exact wfn hc5<|Qbg<|Qay<|Qay<|Qbf rfl<|thn<|⟨(),h,(mto (n:=24) [(1,(.dat 1 (p1.map Qad))),(2,.ref 0 2 0 0)] [0] [(Qxw p0)] hφ0 (pc (rnd Qag) (prr pn)) (qb (lc (rnd Qao) (lc (rnd Qab) ln)) qn))⟩
def Qhc (N:Nat) (p0:Qaa):Option Bool:=
  (Qej N p0.Mass 0 1000000).bind fun x2=>
  bif x2 then
   (Qej N p0.Heat 0 (w64 (4000*p0.Mass))).bind fun x5=>
   bif x5 then
    (Qej N p0.Silica 0 (w64 (10000*p0.Mass))).bind fun x8=>
    bif x8 then
     (Qej N p0.Gas 0 1000000000).bind fun x11=>
     some x11
    else
     some false
   else
    some false
  else
   some false
def Zb9 (p0:Qaa) (x2:Bool):List (Nat×Rec):=[(2,rp [fu 25,((.tmp 4),(I p0.Mass)),ci 0,ci 1000000] (B x2))]
def Zb8 p0 x2 (x5:Bool):=hcat (Zb9 p0 x2) [(3,rp [((.tmp 5),(B x2))] (B true)),(9,rp [((.tmp 6),(B true)),fu 25,((.tmp 8),(I p0.Heat)),ci 0,((.tmp 11),(I (w64 (4000*p0.Mass))))] (B x5))]
def Zb7 p0 x2 x5 (x8:Bool):=hcat (Zb8 p0 x2 x5) [(11,rp [((.tmp 13),(B x5))] (B true)),(17,rp [((.tmp 14),(B true)),fu 25,((.tmp 16),(I p0.Silica)),ci 0,((.tmp 19),(I (w64 (10000*p0.Mass))))] (B x8))]
theorem Qpn (N:Nat) (p0:Qaa) (r:Bool) (h:Qhc N p0=some r):Spec prog 121 [(.agg (Qac p0))] [] (B r) []:=by
  refine Qak func121 rfl 0 (nle rfl) (fun X φ0 w0 hφ0 hd0=>?_)
  unfold Qhc at h
  refine wxz ?_
  obtain⟨x2,hf1,h⟩:=bno h
  refine hpre (A:=(Zb9 p0 x2)) ⟨apv Qis (Qdg N p0.Mass 0 1000000 _ hf1) (nlcc (nlc nll nl0)) nll,tv⟩ fun q1_=>?_
  refine bfe h (fun hb3 h=>?_) fun hb3 h=>?_
  ·obtain⟨x5,hf4,h⟩:=bno h
   refine hpre (A:=(Zb8 p0 x2 x5)) (hap q1_ ⟨asb hb3 (amv rfl),ag_ (apv Qis (Qdg N p0.Heat 0 (w64 (4000*p0.Mass)) _ hf4) (nlcc (nlc nll nl0)) nll),tv⟩) fun q2_=>?_
   refine bfe h (fun hb6 h=>?_) fun hb6 h=>?_
   ·obtain⟨x8,hf7,h⟩:=bno h
    refine hpre (A:=(Zb7 p0 x2 x5 x8)) (hap q2_ ⟨asb hb6 (amv rfl),ag_ (apv Qis (Qdg N p0.Silica 0 (w64 (10000*p0.Mass)) _ hf7) (nlcc (nlc nll nl0)) nll),tv⟩) fun q3_=>?_
    refine bfe h (fun hb9 h=>?_) fun hb9 h=>?_
    ·obtain⟨x11,hf10,h⟩:=bno h
     exact wx tbk (hcat (Zb7 p0 x2 x5 x8) [(19,rp [(.tmp 21,B x8)] (B true)),(22,rp [(.tmp 22,B true),fu 25,(.tmp 24,I p0.Gas),ci 0,ci 1000000000] (B x11))]) (hap q3_ ⟨asb hb9 (amv rfl),ag_ (apv Qis (Qdg N p0.Gas 0 1000000000 _ hf10) (nlcc (nlc nll nl0)) nll),tv⟩)<|Qah<|frb h
    ·exact wx tbk (hcat (Zb7 p0 x2 x5 x8) [(19,rp [(.tmp 21,B x8)] (B false))]) (hap q3_ ⟨asb hb9 (amv rfl),tv⟩)<|Qah<|frb h
   ·exact wx tbk (hcat (Zb8 p0 x2 x5) [(11,rp [(.tmp 13,B x5)] (B false))]) (hap q2_ ⟨asb hb6 (amv rfl),tv⟩)<|Qah<|frb h
  ·exact wx tbk (hcat (Zb9 p0 x2) [(3,rp [(.tmp 5,B x2)] (B false))]) (hap q1_ ⟨asb hb3 (amv rfl),tv⟩)<|Qah<|frb h
def Ql5 (_N:Nat) (p0:Qaa):Option Qaa:=
  some p0
def Zql (p0:Qaa):AV:=.agg [(I p0.Mass),(I p0.Heat),(I p0.Silica),(I p0.Gas)]
theorem Quu (N:Nat) (p0 r:Qaa) (h:Ql5 N p0=some r):Spec prog 60 [(.agg (Qac p0))] [] (.agg (Qac r)) []:=by
  refine Qak func60 rfl 0 (nle rfl) (fun X φ0 w0 hφ0 hd0=>?_)
  unfold Ql5 at h
  refine wxz<|wx tbk [(8,rp _ _)] ⟨Qaz (vs:=[I p0.Mass,I p0.Heat,I p0.Silica,I p0.Gas]) rfl ts63 tz63 rfl (by rfl) rfl,tv⟩<|Qah ?_
  obtain rfl:=osi h
  exact fend ⟨[(Zql p0)],⟨Qbn (n:=1) (m:=4) (j:=0) (i:=0) (xs:=[[I p0.Mass,I p0.Heat,I p0.Silica,I p0.Gas]]) (by kernel_rfl) (by kernel_rfl) ti63 (by decide) rfl (nle rfl) rfl,tv⟩,rfl⟩ (NLt.agg _ (nlcc (nlcc nl0)))
def Qd9 (N:Nat) (p0:List Qaa) (k2:(List Qaa)→Option (List Qaa)):Nat→(List Qaa)→Int→Option (List Qaa)
  |0,_,_=>none
  |n7+1,y3,y4=>
    bif (decide (y4<(p0.length:Int))) then
     (getI p0 y4).bind fun x9=>
     (Ql5 N x9).bind fun x14=>
     chk (decide ((y3.length+([x14]).length)*32≤140737488355328))<|
     Qd9 N p0 k2 n7 (y3++([x14])) (w64 (y4+1))
    else
     k2 (y3)
def Qja (N:Nat) (p0:List Qaa):Option (List Qaa):=
  Qbi (fun y1=>
    some y1) fun k2:(List Qaa)→Option (List Qaa)=>
  Qd9 N p0 k2 N ([]) 0
def Q6g (p0:List Qaa):AV:=.dat 4 (p0.map Qac)
def Zb6 (x14:Qaa):AV:=.agg [(I x14.Mass),(I x14.Heat),(I x14.Silica),(I x14.Gas)]
theorem Qtv (N:Nat) (p0 r:List Qaa) (h:Qja N p0=some r):Spec prog 19 [(.dat 4 (p0.map Qac))] [] (.dat 4 (r.map Qac)) []:=by
  refine Qak func19 rfl 0 (nle rfl) (fun X φ0 w0 hφ0 hd0=>?_)
  unfold Qja at h
  refine wxz<|wxz ?_
  obtain⟨k2,hk_k2,h⟩:=jko h
  refine wjn (τ:=(List Qaa)) (fun t=>k2 t=some r) (fun y1=>⟨mk 20 [(3,(.acc 0 63 4 (y1.map Qac)))],[.tok]⟩) (fun y1 h=>?_) ?_
  ·subst hk_k2
   refine wxz<|Qah ?_
   obtain rfl:=osi h
   exact fend ⟨[(.dat 4 (y1.map Qac))],⟨Qdi (v:=(.acc 0 63 4 (y1.map Qac))) rot Less.acc,tv⟩,rfl⟩ (nld Qaf _)
  ·skip
   refine wxz<|Qap ?_
   refine wmr (Mor.trans (Qnq 0 63 4 3 (by kernel_rfl) (by kernel_rfl)) (mto (n:=20) (l':=[(0,(Q6g p0)),(3,(.acc 0 63 4 ((([]):List Qaa).map Qac))),(4,I 0)]) (own':=[.tok]) [(0,(Q6g p0)),(3,(.acc 0 63 4 (([]:List Qaa).map Qac))),(4,I 0)] [0] [.tok] hφ0 (pc (rnd Qaf) (pc (.rn (Qa3 rfl (Qa0 Qaf _))) (pw pn))) (qc .tok qn))) ?_
   refine Qbv (τ:=(List Qaa)×Int) (fun n t=>Qd9 N p0 k2 n t.1 t.2=some r) (fun ⟨y3,y4⟩=>⟨mk 20 [(0,(Q6g p0)),(3,(.acc 0 63 4 (y3.map Qac))),(4,I y4)],[.tok]⟩) (fun t h=>by rw[Qd9] at h;cases h) (fun n7 ih t h=>?_) N ([],0) h
   obtain⟨y3,y4⟩:=t
   rw[Qd9] at h
   skip
   refine wsq<|wx tbk [(2,rp _ _)] ⟨alq 4 Qac p0 underlying28,tv⟩ ?_
   refine bfe h (fun hc8 h=>?_) fun hc8 h=>?_
   ·refine wft hc8<|Qaq<|thn<|wsq<|Qap ?_
    obtain⟨x9,hg10,h⟩:=bno h
    obtain⟨hi11,hj12⟩:=gsm hg10
    obtain⟨x14,hf13,h⟩:=bno h
    obtain⟨ha15,h⟩:=cko h
    refine wx1 tbk [(3,rp _ _),(5,rp _ _),(6,rp [(.tmp 16,(Zb6 x14))] (.dat 4 (([x14]:List Qaa).map Qac))),(7,⟨[(.tmp 11,(.acc 0 63 4 (y3.map Qac))),(.tmp 17,(.dat 4 (([x14]:List Qaa).map Qac)))],[(0,.tok),(1,.unused)],(.acc 1 63 4 ((y3++([x14]):List Qaa).map Qac)),[(0,.dead),(1,.tok)],false⟩)] ⟨aiq underlying28 ti89 Qac hi11 hj12,apv Znz (Quu N x9 _ hf13) (nlc (NLt.agg _ (nlcc (nlcc nl0))) nl0) (NLt.agg _ (nlcc (nlcc nl0))),Qbo (vs:=[(Zb6 x14)]) rfl underlying45 ti63 tz63 rfl (by decide) rfl (by decide) (by rfl) (by rfl) (by rfl) rfl,Qd6 rfl underlying45 te63 (Base.acc _ _) rfl rfl (by rfl) (Qg2 Qac ha15) (Qg1 Qac ha15 (by decide)) (Qg0 Qac) rfl rfl,tv⟩<|bln<|thn<|wxz1<|thn ?_
    exact arm (mto (n:=20) [(0,(Q6g p0)),(3,(.acc 1 63 4 ((y3++([x14]):List Qaa).map Qac))),(4,(I (w64 (y4+1))))] [1] [.tok] hφ0 (pc (rnd Qaf) (pc (.rn (Qa3 rfl (Qa0 Qaf _))) (pw pn))) (qc .tok qn)) (ih (y3++([x14]),w64 (y4+1)) h)
   ·exact wfn hc8<|Qbg<|Qay<|Qay<|Qbf rfl<|thn<|⟨(y3),h,(mto (n:=20) [(3,(.acc 0 63 4 (y3.map Qac)))] [0] [.tok] hφ0 (pc (.rn (Qa3 rfl (Qa0 Qaf _))) pn) (qc .tok qn))⟩
def Qes (N:Nat) (p0:GNet) (y7:Int) (k15:(List Qa6)×(List Qa6)→Option (List Qa6)):Nat→(List Qa6)→(List Qa6)→Int→Option (List Qa6)
  |0,_,_,_=>none
  |n22+1,y16,y17,y18=>
    (getI p0.Elements y7).bind fun x23=>
    (Qih N x23).bind fun x28=>
    bif (decide (y18<x28)) then
     (Qjj N y16 (⟨y7,y18⟩:Qa6)).bind fun x31=>
     bif (!x31) then
      chk (decide ((y17.length+([(⟨y7,y18⟩:Qa6)]).length)*16≤140737488355328))<|
      Qes N p0 y7 k15 n22 y16 (y17++([(⟨y7,y18⟩:Qa6)])) (w64 (y18+1))
     else
      Qes N p0 y7 k15 n22 y16 y17 (w64 (y18+1))
    else
     k15 (y16,y17)
def Qfo (N:Nat) (p0:GNet) (k4:(List Qa6)→Option (List Qa6)):Nat→(List Qa6)→(List Qa6)→Int→Option (List Qa6)
  |0,_,_,_=>none
  |n11+1,y5,y6,y7=>
    bif (decide (y7<(p0.Elements.length:Int))) then
     Qbi (fun ⟨y13,y14⟩=>
       Qfo N p0 k4 n11 y13 y14 (w64 (y7+1))) fun k15:(List Qa6)×(List Qa6)→Option (List Qa6)=>
     Qes N p0 y7 k15 N y5 y6 0
    else
     k4 (y6)
def Qfn (N:Nat) (p0:GNet) (k2:(List Qa6)→Option (List Qa6)):Nat→(List Qa6)→Int→Option (List Qa6)
  |0,_,_=>none
  |n38+1,y34,y35=>
    bif (decide (y35<(p0.Elements.length:Int))) then
     (getI p0.Elements y35).bind fun x40=>
     chk (decide ((y34.length+x40.From.length)*16≤140737488355328))<|
     Qfn N p0 k2 n38 (y34++x40.From) (w64 (y35+1))
    else
     k2 (y34)
def Qmn (N:Nat) (p0:GNet):Option (List Qa6):=
  Qbi (fun y1=>
    Qbi (fun y3=>
      some y3) fun k4:(List Qa6)→Option (List Qa6)=>
    Qfo N p0 k4 N y1 ([]) 0) fun k2:(List Qa6)→Option (List Qa6)=>
  Qfn N p0 k2 N ([]) 0
def Zqk (p0:GNet):AV:=.dat 7 (p0.Elements.map Qal)
def Qk7 (p0:GNet):Slot:=.own 2 [[(.dat 5 (p0.Table.map Qav)),(Zqk p0)]]
def Qy2 (y6:List Qa6):AV:=.acc 2 61 2 (y6.map Qaw)
def Qr2 (y16:List Qa6):AV:=.acc 1 61 2 (y16.map Qaw)
def Qux (y7 y18:Int):AV:=.agg [(I y7),(I y18)]
theorem Qxh (N:Nat) (p0:GNet) (r:List Qa6) (h:Qmn N p0=some r):Spec prog 36 [(.agg (Qgx p0))] [] (.dat 2 (r.map Qaw)) []:=by
  refine Qak func36 rfl 0 (nle rfl) (fun X φ0 w0 hφ0 hd0=>?_)
  unfold Qmn at h
  refine wxz<|wxz ?_
  obtain⟨k2,hk_k2,h⟩:=jko h
  refine wjn (τ:=(List Qa6)) (fun t=>k2 t=some r) (fun y1=>⟨mk 53 [(1,.ref 0 2 0 0),(3,(.acc 1 61 2 (y1.map Qaw))),(4,nilS)],[(Qk7 p0),.tok]⟩) (fun y1 h=>?_) ?_
  ·subst hk_k2
   obtain⟨k4,hk_k4,h⟩:=jko h
   refine wjn (τ:=(List Qa6)) (fun t=>k4 t=some r) (fun y3=>⟨mk 53 [(4,(.acc 0 61 2 (y3.map Qaw)))],[.tok]⟩) (fun y3 h=>?_) ?_
   ·subst hk_k4
    refine wxz<|Qah ?_
    obtain rfl:=osi h
    exact fend ⟨[(.dat 2 (y3.map Qaw))],⟨Qdi (v:=(.acc 0 61 2 (y3.map Qaw))) rot Less.acc,tv⟩,rfl⟩ (nld Qa1 _)
   ·skip
    refine wxz<|Qap ?_
    refine wmr (Mor.trans (Qnq 2 61 2 4 (by kernel_rfl) (by kernel_rfl)) (mto (n:=53) (l':=[(1,.ref 0 2 0 0),(3,(.acc 1 61 2 (y1.map Qaw))),(4,(.acc 2 61 2 ((([]):List Qa6).map Qaw))),(6,I 0)]) (own':=[(Qk7 p0),.tok,.tok]) [(1,.ref 0 2 0 0),(3,(.acc 1 61 2 (y1.map Qaw))),(4,(.acc 2 61 2 (([]:List Qa6).map Qaw))),(6,I 0)] [0,1,2] [(Qk7 p0),.tok,.tok] hφ0 (prr (pc (.rn (Qa3 rfl (Qa0 Qa1 _))) (pc (.rn (Qa3 rfl (Qa0 Qa1 _))) (pw pn)))) (qb (lc (rnd Qao) (lc (rnd Qab) ln)) (qc .tok (qc .tok qn))))) ?_
    refine Qbv (τ:=(List Qa6)×(List Qa6)×Int) (fun n t=>Qfo N p0 k4 n t.1 t.2.1 t.2.2=some r) (fun ⟨y5,y6,y7⟩=>⟨mk 53 [(1,.ref 0 2 0 0),(3,(.acc 1 61 2 (y5.map Qaw))),(4,(Qy2 y6)),(6,I y7)],[(Qk7 p0),.tok,.tok]⟩) (fun t h=>by rw[Qfo] at h;cases h) (fun n11 ih t h=>?_) N (y1,[],0) h
    obtain⟨y5,y6,y7⟩:=t
    rw[Qfo] at h
    skip
    refine wsq<|wx tbk [(3,rp _ _)] ⟨alq 7 Qal p0.Elements underlying24,tv⟩ ?_
    refine bfe h (fun hc12 h=>?_) fun hc12 h=>?_
    ·refine wft hc12<|Qaq<|thn ?_
     obtain⟨k15,hk_k15,h⟩:=jko h
     refine wjn (τ:=(List Qa6)×(List Qa6)) (fun t=>k15 t=some r) (fun ⟨y13,y14⟩=>⟨mk 53 [(1,.ref 0 2 0 0),(3,(.acc 1 61 2 (y13.map Qaw))),(4,(.acc 2 61 2 (y14.map Qaw))),(6,I y7)],[(Qk7 p0),.tok,.tok]⟩) (fun t h=>?_) ?_
     ·subst hk_k15
      obtain⟨y13,y14⟩:=t
      exact wxz1<|thn<|arm (mto (n:=53) [(1,.ref 0 2 0 0),(3,(.acc 1 61 2 (y13.map Qaw))),(4,(.acc 2 61 2 (y14.map Qaw))),(6,(I (w64 (y7+1))))] [0,1,2] [(Qk7 p0),.tok,.tok] hφ0 (prr (pc (.rn (Qa3 rfl (Qa0 Qa1 _))) (pc (.rn (Qa3 rfl (Qa0 Qa1 _))) (pw pn)))) (qb (lc (rnd Qao) (lc (rnd Qab) ln)) (qc .tok (qc .tok qn)))) (ih (y13,y14,w64 (y7+1)) h)
     ·skip
      refine Qap<|wxz<|Qap ?_
      refine wmr (mto (n:=53) (l':=[(1,.ref 0 2 0 0),(3,(.acc 1 61 2 (y5.map Qaw))),(4,(Qy2 y6)),(6,I y7),(7,I 0)]) (own':=[(Qk7 p0),.tok,.tok]) [(1,.ref 0 2 0 0),(3,(.acc 1 61 2 (y5.map Qaw))),(4,(Qy2 y6)),(6,I y7),(7,I 0)] [0,1,2] [(Qk7 p0),.tok,.tok] hφ0 (prr (pc (.rn (Qa3 rfl (Qa0 Qa1 _))) (pc (.rn (Qa3 rfl (Qa0 Qa1 _))) (pw (pw pn))))) (qb (lc (rnd Qao) (lc (rnd Qab) ln)) (qc .tok (qc .tok qn)))) ?_
      refine Qbv (τ:=(List Qa6)×(List Qa6)×Int) (fun n t=>Qes N p0 y7 k15 n t.1 t.2.1 t.2.2=some r) (fun ⟨y16,y17,y18⟩=>⟨mk 53 [(1,.ref 0 2 0 0),(3,(Qr2 y16)),(4,(.acc 2 61 2 (y17.map Qaw))),(6,I y7),(7,I y18)],[(Qk7 p0),.tok,.tok]⟩) (fun t h=>by rw[Qes] at h;cases h) (fun n22 ih t h=>?_) N (y5,y6,0) h
      obtain⟨y16,y17,y18⟩:=t
      rw[Qes] at h
      skip
      refine wsq ?_
      obtain⟨x23,hg24,h⟩:=bno h
      obtain⟨hi25,hj26⟩:=gsm hg24
      obtain⟨x28,hf27,h⟩:=bno h
      refine wx tbk [(4,rp _ _),(6,rp _ _)] ⟨aiq underlying24 ti59 Qal hi25 hj26,apv Zem (Qnz N x23 _ hf27) (nlc (NLt.agg _ (nlc nll (nlc (nld Qa1 _) (nlcc (nlcc (nlc (nld Qag _) nl0)))))) nl0) nll,tv⟩ ?_
      refine bfe h (fun hc29 h=>?_) fun hc29 h=>?_
      ·refine wft hc29<|Qaq<|thn<|wsq<|Qap ?_
       obtain⟨x31,hf30,h⟩:=bno h
       refine wx tbk [(3,rp _ _),(4,rp [fu 72,(.tmp 40,(Qr2 y16)),(.tmp 43,(Qux y7 y18))] (B x31))] ⟨Qaz (vs:=[I y7,I y18]) rfl ts61 tz61 rfl (by rfl) rfl,awk (rd':=(.func 72,(.fn (.func 72) [] []))::[(.tmp 40,(.dat 2 (y16.map Qaw))),(.tmp 43,(Qux y7 y18))]) ⟨rfl,lrf,rfl,Less.acc,rfl,lrf,tv⟩ (apv Zel (Qpl N y16 (⟨y7,y18⟩:Qa6) _ hf30) (nlc (nld Qa1 _) (nlc (NLt.agg _ (nlcc nl0)) nl0)) nll),tv⟩ ?_
       refine bfe h (fun hc32 h=>?_) fun hc32 h=>?_
       ·refine wft hc32 ?_
        obtain⟨ha33,h⟩:=cko h
        refine wx1 tbk [(3,rp _ _),(4,rp [(.tmp 49,(Qux y7 y18))] (.dat 2 (([(⟨y7,y18⟩:Qa6)]:List Qa6).map Qaw))),(5,⟨[(.tmp 46,(.acc 2 61 2 (y17.map Qaw))),(.tmp 50,(.dat 2 (([(⟨y7,y18⟩:Qa6)]:List Qa6).map Qaw)))],[(2,.tok),(3,.unused)],(.acc 3 61 2 ((y17++([(⟨y7,y18⟩:Qa6)]):List Qa6).map Qaw)),[(2,.dead),(3,.tok)],false⟩)] ⟨Qaz (vs:=[I y7,I y18]) rfl ts61 tz61 rfl (by rfl) rfl,Qbo (vs:=[(Qux y7 y18)]) rfl underlying57 ti61 tz61 rfl (by decide) rfl (by decide) (by rfl) (by rfl) (by rfl) rfl,Qd6 rfl underlying57 te61 (Base.acc _ _) rfl rfl (by rfl) (Qg2 Qaw ha33) (Qg1 Qaw ha33 (by decide)) (Qg0 Qaw) rfl rfl,tv⟩<|bln<|thn<|wxz1<|thn ?_
        exact arm (mto (n:=53) [(1,.ref 0 2 0 0),(3,(Qr2 y16)),(4,(.acc 3 61 2 ((y17++([(⟨y7,y18⟩:Qa6)]):List Qa6).map Qaw))),(6,I y7),(7,(I (w64 (y18+1))))] [0,1,3] [(Qk7 p0),.tok,.tok] hφ0 (prr (pc (.rn (Qa3 rfl (Qa0 Qa1 _))) (pc (.rn (Qa3 rfl (Qa0 Qa1 _))) (pw (pw pn))))) (qb (lc (rnd Qao) (lc (rnd Qab) ln)) (qc .tok (qc .tok qn)))) (ih (y16,y17++([(⟨y7,y18⟩:Qa6)]),w64 (y18+1)) h)
       ·exact wfn hc32<|Qaq<|bln<|thn<|wxz1<|thn<|arm (mto (n:=53) [(1,.ref 0 2 0 0),(3,(Qr2 y16)),(4,(.acc 2 61 2 (y17.map Qaw))),(6,I y7),(7,(I (w64 (y18+1))))] [0,1,2] [(Qk7 p0),.tok,.tok] hφ0 (prr (pc (.rn (Qa3 rfl (Qa0 Qa1 _))) (pc (.rn (Qa3 rfl (Qa0 Qa1 _))) (pw (pw pn))))) (qb (lc (rnd Qao) (lc (rnd Qab) ln)) (qc .tok (qc .tok qn)))) (ih (y16,y17,w64 (y18+1)) h)
      ·exact wfn hc29<|Qbg<|Qay<|Qay<|Qbf rfl<|bln<|thn<|⟨(y16,y17),h,(mto (n:=53) [(1,.ref 0 2 0 0),(3,(Qr2 y16)),(4,(.acc 2 61 2 (y17.map Qaw))),(6,I y7)] [0,1,2] [(Qk7 p0),.tok,.tok] hφ0 (prr (pc (.rn (Qa3 rfl (Qa0 Qa1 _))) (pc (.rn (Qa3 rfl (Qa0 Qa1 _))) (pw pn)))) (qb (lc (rnd Qao) (lc (rnd Qab) ln)) (qc .tok (qc .tok qn))))⟩
    ·exact wfn hc12<|Qbg<|Qay<|Qay<|Qbf rfl<|thn<|⟨(y6),h,(mto (n:=53) [(4,(Qy2 y6))] [2] [.tok] hφ0 (pc (.rn (Qa3 rfl (Qa0 Qa1 _))) pn) (qc .tok qn))⟩
  ·skip
   refine wxz<|Qap ?_
   refine wmr (Mor.trans (Qnq 1 61 2 3 (by kernel_rfl) (by kernel_rfl)) (mto (n:=53) (l':=[(1,.ref 0 2 0 0),(3,(.acc 1 61 2 ((([]):List Qa6).map Qaw))),(4,nilS),(5,I 0)]) (own':=[(Qk7 p0),.tok]) [(1,.ref 0 2 0 0),(3,(.acc 1 61 2 (([]:List Qa6).map Qaw))),(4,nilS),(5,I 0)] [0,1] [(Qk7 p0),.tok] hφ0 (prr (pc (.rn (Qa3 rfl (Qa0 Qa1 _))) (pw (pw pn)))) (qb (lc (rnd Qao) (lc (rnd Qab) ln)) (qc .tok qn)))) ?_
   refine Qbv (τ:=(List Qa6)×Int) (fun n t=>Qfn N p0 k2 n t.1 t.2=some r) (fun ⟨y34,y35⟩=>⟨mk 53 [(1,.ref 0 2 0 0),(3,(.acc 1 61 2 (y34.map Qaw))),(4,nilS),(5,I y35)],[(Qk7 p0),.tok]⟩) (fun t h=>by rw[Qfn] at h;cases h) (fun n38 ih t h=>?_) N ([],0) h
   obtain⟨y34,y35⟩:=t
   rw[Qfn] at h
   skip
   refine wsq<|wx tbk [(3,rp _ _)] ⟨alq 7 Qal p0.Elements underlying24,tv⟩ ?_
   refine bfe h (fun hc39 h=>?_) fun hc39 h=>?_
   ·refine wft hc39<|Qaq<|thn<|wsq<|Qap ?_
    obtain⟨x40,hg41,h⟩:=bno h
    obtain⟨hi42,hj43⟩:=gsm hg41
    obtain⟨ha44,h⟩:=cko h
    refine wx1 tbk [(4,rp _ _),(7,⟨[(.tmp 15,(.acc 1 61 2 (y34.map Qaw))),(.tmp 21,(.dat 2 (x40.From.map Qaw)))],[(1,.tok),(2,.unused)],(.acc 2 61 2 ((y34++x40.From:List Qa6).map Qaw)),[(1,.dead),(2,.tok)],false⟩)] ⟨aiq underlying24 ti59 Qal hi42 hj43,Qd6 rfl underlying57 te61 (Base.acc _ _) rfl rfl (Qol Qaw Zdg _) (Qg2 Qaw ha44) (Qg1 Qaw ha44 (by decide)) (Qg0 Qaw) rfl rfl,tv⟩<|bln<|thn<|wxz1<|thn ?_
    exact arm (mto (n:=53) [(1,.ref 0 2 0 0),(3,(.acc 2 61 2 ((y34++x40.From:List Qa6).map Qaw))),(4,nilS),(5,(I (w64 (y35+1))))] [0,2] [(Qk7 p0),.tok] hφ0 (prr (pc (.rn (Qa3 rfl (Qa0 Qa1 _))) (pw (pw pn)))) (qb (lc (rnd Qao) (lc (rnd Qab) ln)) (qc .tok qn))) (ih (y34++x40.From,w64 (y35+1)) h)
   ·exact wfn hc39<|Qbg<|Qay<|Qay<|Qbf rfl<|thn<|⟨(y34),h,(mto (n:=53) [(1,.ref 0 2 0 0),(3,(.acc 1 61 2 (y34.map Qaw))),(4,nilS)] [0,1] [(Qk7 p0),.tok] hφ0 (prr (pc (.rn (Qa3 rfl (Qa0 Qa1 _))) (pw pn))) (qb (lc (rnd Qao) (lc (rnd Qab) ln)) (qc .tok qn)))⟩
def Qlk (_N:Nat) (p0:Qam) (p1:Int):Option Int:=
  chk (p0.Narrow != 0)<|
  (some (if (w64 (p0.Wide-(w64 (p1.tdiv p0.Narrow))))>0 then w64 (p0.Wide-(w64 (p1.tdiv p0.Narrow))) else 0)).bind fun x2=>
  some x2
theorem Qvt (N:Nat) (p0:Qam) (p1 r:Int) (h:Qlk N p0 p1=some r):Spec prog 62 [(.agg (Qal p0)),(I p1)] [] (I r) []:=by
  refine Qak func62 rfl 0 (nle rfl) (fun X φ0 w0 hφ0 hd0=>?_)
  unfold Qlk at h
  refine wxz ?_
  obtain⟨hz1,h⟩:=cko h
  obtain⟨x2,hl3,h⟩:=bno h
  refine wxd tbk [(5,rp [(.tmp 7,I p1),(.tmp 9,I p0.Narrow)] (I (w64 (p1.tdiv p0.Narrow)))),(7,rp [ci 0,(.tmp 11,(I (w64 (p0.Wide-(w64 (p1.tdiv p0.Narrow))))))] (I x2))] ⟨Qlu rfl (Qmy hz1),Qin hl3 (Qiu rfl),tv⟩<|Qah ?_
  obtain rfl:=osi h
  exact fend ⟨[I x2],⟨rot,tv⟩,rfl⟩ nll
end
section
open Go.RowKit
theorem Qbp {x:Int}(h:-9223372036854775808≤x) (h':x≤9223372036854775807):w64 x=x:=by
 unfold w64
 rw[IntKind.wrap_i64]
 omega
theorem w64S {i:Nat}(h:(i:Int)+1≤9223372036854775807):w64 ((i:Int)+1)=((i+1:Nat):Int):=Qbp (by omega) h
theorem dlt {α:Type}{l q:List α}{x:α}{i m:Nat}(hd:l.drop i=x::q) (hd':l.drop (i+1)=q) (h:(l.drop i).length<m+1):(l.drop (i+1)).length<m:=by
 rw[hd']
 rw[hd] at h
 simp at h
 omega
theorem dlI {α:Type}{l:List α}{i:Nat}(h:i<l.length):decide ((i:Int)<(l.length:Int))=true:=by simpa using h
theorem Qb0 {α:Type}{l:List α}{i:Nat}{x:α}(h:l[i]? = some x):getI l (i:Int)=some x:=by
 simp[getI,h]
def btw (a lo hi:Int):Bool:=decide (lo≤a)&&decide (a≤hi)
theorem Qgb {a lo hi:Int}:btw a lo hi=true↔lo≤a∧a≤hi:=by simp[btw]
theorem Qpe (a b:Int):w64 (w64 a+b)=w64 (a+b):=by
 unfold w64
 rw[IntKind.wrap_i64,IntKind.wrap_i64,IntKind.wrap_i64]
 omega
theorem Q2b:maxLen=9223372036854775807:=rfl
theorem Qft {κ β:Type}(k:κ) (f:κ→Option β):Qbi k f=f k:=by rw[Qbi]
def rowB (r:GRow):Bool:=btw r.T 0 400&&btw r.P 1 10000&&btw r.Liquid 0 4000&&btw r.Silica 0 2000&&decide (r.Liquid<r.Vapour)&&decide (r.Vapour≤4000)
def Zcq (o r:GRow):Bool:=decide (o.T<r.T)&&decide (o.P<r.P)&&decide (o.Liquid<r.Liquid)&&decide (o.Silica≤r.Silica)
def Qr7:List GRow→Bool
 |a::b::l=>Zcq a b&&Qr7 (b::l)
 |_=>true
def tabB (t:List GRow):Bool:=btw t.length 2 20&&t.all rowB&&Qr7 t
theorem Q4j (N:Nat) (a lo hi:Int):Qej N a lo hi=some (btw a lo hi):=by
 unfold Qej btw
 by_cases h:lo≤a<;>simp[h]
theorem Qnw (N:Nat) (a lo hi:Int):Qdj N a lo hi=some (btw a lo hi):=by
 unfold Qdj btw
 by_cases h:lo≤a<;>simp[h]
theorem Zjo (N:Nat) (r:GRow):Qh8 N r=some (rowB r):=by
 unfold Qh8 rowB
 simp only[Qnw,Option.bind_some]
 cases btw r.T 0 400<;>cases btw r.P 1 10000<;>cases btw r.Liquid 0 4000<;>cases btw r.Silica 0 2000<;>by_cases h:r.Liquid<r.Vapour<;>simp[h]
theorem Qbh {α:Type}{t:List α}{i:Nat}{a:α}{l:List α}(h:t.drop i=a::l):t[i]? = some a∧t.drop (i+1)=l∧i<t.length:=by
 have hlt:i<t.length:=by
  rcases Nat.lt_or_ge i t.length with h' |h'
  ·exact h'
  ·rw[List.drop_eq_nil_of_le h'] at h;cases h
 rw[List.drop_eq_getElem_cons hlt] at h
 injection h with h1 h2
 exact⟨by rw[List.getElem?_eq_getElem hlt,h1],h2,hlt⟩
theorem Qbw {α:Type}{t:List α}{i:Nat}(h:t.drop i=[]):t.length≤i:=List.drop_eq_nil_iff.1 h
theorem Q4y (N:Nat) (t:List GRow) (k:Unit→Option Int) (hl:t.length≤1000):∀(n i:Nat),(t.drop i).length<n→i≤t.length →
  Qbk N t k n i=bif (t.drop i).all rowB then k () else some ((i:Int)+((t.drop i).findIdx fun r=>!rowB r:Nat)):=by
 intro n
 induction n with
 |zero=>intro i h;omega
 |succ n ih=>
  intro i h hi
  unfold Qbk
  cases hd:t.drop i with
  |nil=>
   have:=Qbw hd
   rw[show(decide ((i:Int)<(t.length:Int)))=false by simp;omega]
   rfl
  |cons a l=>
   obtain⟨h1,h2,h3⟩:=Qbh hd
   rw[show(decide ((i:Int)<(t.length:Int)))=true by simp;omega]
   simp only[cond_true,Qb0 h1,Option.bind_some,Qfx,Zjo]
   cases hr:rowB a with
   |false=>simp[hr,List.findIdx_cons]
   |true=>
    have e:w64 ((i:Int)+1)=((i+1:Nat):Int):=by rw[Qbp]<;>omega
    rw[e]
    have:=ih (i+1) (by rw[h2];rw[hd] at h;simpa using h) (by omega)
    simp only[Bool.not_true,cond_false,this,h2,List.all_cons,hr,Bool.true_and,List.findIdx_cons]
    congr 2
    push_cast
    omega
theorem Zfp {N:Nat}{t:List GRow}(hl:t.length≤1000) (hN:1001≤N):Qfm N t=some (t.all rowB):=by
 have:=Q4y N t (fun _=>some (-1)) hl N 0 (by simp;omega) (Nat.zero_le _)
 rw[show((0:Nat):Int)=0 from rfl,List.drop_zero] at this
 unfold Qfm Qcr Qc0 Qbi
 dsimp only
 rw[this]
 cases h:t.all rowB with
 |true=>simp
 |false=>simp
theorem Q8n (N:Nat) (t:List GRow) (k:Unit→Option Bool) (hl:t.length≤1000):∀(n i:Nat),(t.drop i).length<n→i<t.length →
  Qda N t k n i=bif Qr7 (t.drop i) then k () else some false:=by
 intro n
 induction n with
 |zero=>intro i h;omega
 |succ n ih=>
  intro i h hi
  unfold Qda
  have hdr:∀x,(t.drop (1:Int).toNat)[i]? = some x↔t[i+1]? = some x:=fun x=>by
   rw[show(1:Int).toNat=1 from rfl,List.getElem?_drop,Nat.add_comm]
  have hlen:(t.drop (1:Int).toNat).length=t.length-1:=by simp
  cases hd:t.drop i with
  |nil=>have:=Qbw hd;omega
  |cons a l=>
   obtain⟨h1,h2,h3⟩:=Qbh hd
   cases l with
   |nil=>
    have:=Qbw h2
    rw[show(decide ((i:Int)<((t.drop (1:Int).toNat).length:Int)))=false by rw[hlen];simp;omega]
    rfl
   |cons b l=>
    obtain⟨h4,h5,h6⟩:=Qbh h2
    rw[show(decide ((i:Int)<((t.drop (1:Int).toNat).length:Int)))=true by rw[hlen];simp;omega]
    have e:w64 ((i:Int)+1)=((i+1:Nat):Int):=by rw[Qbp]<;>omega
    simp only[cond_true,Qb0 ((hdr b).2 h4),Qb0 h1,Option.bind_some,e]
    have:=ih (i+1) (by rw[h2];rw[hd] at h;simpa using h) (by omega)
    simp only[this,h2,Qr7,Zcq]
    by_cases c1:b.T≤a.T
    ·simp[c1,Int.not_lt.2 c1]
    ·by_cases c2:b.P≤a.P
     ·simp[c1,c2,Int.not_lt.2 c2]
     ·by_cases c3:b.Liquid≤a.Liquid
      ·simp[c1,c2,c3,Int.not_lt.2 c3]
      ·by_cases c4:b.Silica<a.Silica
       ·simp[c1,c2,c3,c4,Int.not_le.2 c4]
       ·simp[c1,c2,c3,c4,Int.not_le.1 c1,Int.not_le.1 c2,Int.not_le.1 c3,Int.not_lt.1 c4]
theorem Q1i {N:Nat}{t:List GRow}(hl:t.length≤1000) (hN:1001≤N):Qfy N t=some (tabB t):=by
 unfold Qfy tabB
 rw[Qnw,Zfp hl hN]
 cases hb:btw t.length 2 20 with
 |false=>rfl
 |true=>
  have h2:2≤t.length:=by simp[btw] at hb;omega
  cases ha:t.all rowB with
  |false=>rfl
  |true=>
   have:=Q8n N t (fun _=>some true) hl N 0 (by simp;omega) (by omega)
   rw[show((0:Nat):Int)=0 from rfl,List.drop_zero] at this
   simp only[Option.bind_some,Bool.not_true,cond_false,Qbi,Bool.true_and]
   rw[this]
   rw[show(decide ((1:Int)≤(t.length:Int)))=true by rw[decide_eq_true_eq];omega]
   cases Qr7 t<;>simp[chk]
def Q4i:Option GRow→List GRow→Bool
 |_,[]=>true
 |o,a::l=>rowB a&&(match o with |none=>true |some p=>Zcq p a)&&Q4i (some a) l
theorem Qx7:∀(a:GRow) (l:List GRow),Q4i (some a) l=(l.all rowB&&Qr7 (a::l))
 |_,[]=>rfl
 |a,b::l=>by
  rw[Q4i,Qx7 b l,List.all_cons,Qr7]
  cases rowB b<;>cases l.all rowB<;>cases Zcq a b<;>simp
theorem Q84:∀(t:List GRow),Q4i none t=(t.all rowB&&Qr7 t)
 |[]=>rfl
 |a::l=>by
  rw[Q4i,Qx7 a l,List.all_cons]
  cases rowB a<;>simp
theorem Q36 (N:Nat) (t:List GRow) (k:Unit→Option Bool) (hl:t.length≤9223372036854775807):∀(n i:Nat),(t.drop i).length<n→i≤t.length →
  Qed N t k n i=bif Q4i (if i=0 then none else t[i-1]?) (t.drop i) then k () else some false:=by
 intro n
 induction n with
 |zero=>intro i h;omega
 |succ n ih=>
  intro i h hi
  unfold Qed
  cases hd:t.drop i with
  |nil=>
   have:=Qbw hd
   rw[show(decide ((i:Int)<(t.length:Int)))=false by simp;omega]
   rfl
  |cons a l=>
   obtain⟨h1,h2,h3⟩:=Qbh hd
   rw[show(decide ((i:Int)<(t.length:Int)))=true by simp;omega]
   have e:w64 ((i:Int)+1)=((i+1:Nat):Int):=by rw[Qbp]<;>omega
   have:=ih (i+1) (by rw[h2];rw[hd] at h;simpa using h) (by omega)
   simp only[Nat.add_sub_cancel,Nat.succ_ne_zero,if_false,h1,h2] at this
   simp only[cond_true,Qb0 h1,Option.bind_some,e,Q4j,this,Q4i,rowB,Qbi]
   cases btw a.T 0 400
   ·rfl
   cases btw a.P 1 10000
   ·rfl
   cases btw a.Liquid 0 4000
   ·rfl
   cases btw a.Silica 0 2000
   ·rfl
   by_cases c1:a.Vapour≤a.Liquid
   ·simp[c1,Int.not_lt.2 c1]
   by_cases c2:a.Vapour>4000
   ·simp[c1,c2,Int.not_le.2 c2]
   cases i with
   |zero=>simp[c1,c2,Int.not_le.1 c1,Int.not_lt.1 c2]
   |succ i=>
    have hp:t[i]? = some t[i]:=List.getElem?_eq_getElem (by omega)
    have e2:w64 (((i+1:Nat):Int)-1)=(i:Int):=by rw[Qbp]<;>omega
    have e3:(decide (((i+1:Nat):Int)>0))=true:=by rw[decide_eq_true_eq];omega
    generalize t[i]=b at hp
    simp only[Bool.not_true,cond_false,e3,cond_true,e2,Qb0 hp,Option.bind_some,Nat.add_sub_cancel,hp,Zcq,show ¬(i+1=0) by omega,if_false,decide_eq_false c1,decide_eq_false c2,decide_eq_true (Int.not_le.1 c1),decide_eq_true (Int.not_lt.1 c2),Bool.true_and]
    by_cases d1:a.T≤b.T
    ·simp[d1,Int.not_lt.2 d1]
    ·by_cases d2:a.P≤b.P
     ·simp[d1,d2,Int.not_lt.2 d2]
     ·by_cases d3:a.Liquid≤b.Liquid
      ·simp[d1,d2,d3,Int.not_lt.2 d3]
      ·by_cases d4:a.Silica<b.Silica
       ·simp[d1,d2,d3,d4,Int.not_le.2 d4]
       ·simp[d1,d2,d3,d4,Int.not_le.1 d1,Int.not_le.1 d2,Int.not_le.1 d3,Int.not_lt.1 d4]
theorem Zc1 {N:Nat}{t:List GRow}(hl:t.length≤9223372036854775807) (hN:t.length<N):Qln N t=some (tabB t):=by
 have:=fun k=>Q36 N t k hl N 0 (by simp;omega) (Nat.zero_le _)
 unfold Qln Qbi tabB
 rw[show((0:Nat):Int)=0 from rfl] at this
 dsimp only
 rw[this]
 simp only[List.drop_zero,if_true,Q84,btw]
 by_cases h:(2:Int)≤t.length<;>cases t.all rowB<;>cases Qr7 t<;>simp[h]
theorem Q9d (N:Nat) (t:List GRow) (k:List GRow→Option (List GRow)) (hl:t.length≤1000):∀(n i:Nat) (acc:List GRow),(t.drop i).length<n→i≤t.length→acc.length=i →
  Qff N t k n acc i=k (acc++t.drop i):=by
 intro n
 induction n with
 |zero=>intro i acc h;omega
 |succ n ih=>
  intro i acc h hi ha
  unfold Qff
  cases hd:t.drop i with
  |nil=>
   have:=Qbw hd
   rw[show(decide ((i:Int)<(t.length:Int)))=false by simp;omega]
   simp
  |cons a l=>
   obtain⟨h1,h2,h3⟩:=Qbh hd
   rw[show(decide ((i:Int)<(t.length:Int)))=true by simp;omega]
   have e:w64 ((i:Int)+1)=((i+1:Nat):Int):=by rw[Qbp]<;>omega
   have hc:decide ((acc.length+[a].length)*40≤140737488355328)=true:=by simp;omega
   simp only[cond_true,Qb0 h1,Option.bind_some,e,hc,chk]
   rw[ih (i+1) _ (by rw[h2];rw[hd] at h;simpa using h) (by omega) (by simp[ha]),h2]
   simp
theorem Zgx {N:Nat}{t:List GRow}(hl:t.length≤1000) (hN:1001≤N):Qls N t=some t:=by
 have:=Q9d N t (fun y=>some y) hl N 0 [] (by simp;omega) (Nat.zero_le _) rfl
 rw[show((0:Nat):Int)=0 from rfl] at this
 unfold Qls Qbi
 dsimp only
 rw[this]
 simp
def strB (s:Qaa):Bool:=btw s.Mass 0 1000000&&btw s.Heat 0 (4000*s.Mass)&&btw s.Silica 0 (10000*s.Mass)&&btw s.Gas 0 1000000000
theorem Qu0 {s:Qaa}(h:btw s.Mass 0 1000000=true):w64 (4000*s.Mass)=4000*s.Mass∧w64 (10000*s.Mass)=10000*s.Mass:=by
 simp only[btw,Bool.and_eq_true,decide_eq_true_eq] at h
 exact⟨Qbp (by omega) (by omega),Qbp (by omega) (by omega)⟩
theorem Zc2 (N:Nat) (s:Qaa):Qhc N s=some (strB s):=by
 unfold Qhc strB
 simp only[Q4j,Option.bind_some]
 cases h:btw s.Mass 0 1000000 with
 |false=>rfl
 |true=>
  rw[(Qu0 h).1,(Qu0 h).2]
  cases btw s.Heat 0 (4000*s.Mass)<;>cases btw s.Silica 0 (10000*s.Mass)<;>cases btw s.Gas 0 1000000000<;>rfl
theorem Qy4 (N:Nat) (s:Qaa):Qeo N s=some (strB s):=by
 unfold Qeo strB
 simp only[Qnw,Option.bind_some]
 cases h:btw s.Mass 0 1000000 with
 |false=>rfl
 |true=>
  rw[(Qu0 h).1,(Qu0 h).2]
  cases btw s.Heat 0 (4000*s.Mass)<;>cases btw s.Silica 0 (10000*s.Mass)<;>cases btw s.Gas 0 1000000000<;>rfl
structure RowV (r:GRow):Prop where
 l0:0≤r.Liquid
 l1:r.Liquid≤4000
 lv:r.Liquid<r.Vapour
 v1:r.Vapour≤4000
 s0:0≤r.Silica
 s1:r.Silica≤2000
theorem Zmu {r:GRow}(h:rowB r=true):RowV r:=by
 simp[rowB,btw] at h
 exact⟨by omega,by omega,by omega,by omega,by omega,by omega⟩
structure StrV (s:Qaa):Prop where
 m0:0≤s.Mass
 m1:s.Mass≤1000000
 h0:0≤s.Heat
 h1:s.Heat≤4000*s.Mass
 s0:0≤s.Silica
 s1:s.Silica≤10000*s.Mass
 g0:0≤s.Gas
 g1:s.Gas≤1000000000
theorem Qp2 {s:Qaa}:strB s=true↔StrV s:=by
 simp only[strB,btw,Bool.and_eq_true,decide_eq_true_eq]
 exact⟨fun h=>⟨by omega,by omega,by omega,by omega,by omega,by omega,by omega,by omega⟩,fun h=>by obtain⟨_,_,_,_,_,_,_,_⟩:=h;omega⟩
theorem bdp {x y a b:Int}(hx:0≤x) (hx':x≤a) (hy:0≤y) (hy':y≤b) (ha:0≤a):0≤x*y∧x*y≤a*b:=
 ⟨Int.mul_nonneg hx hy,Int.mul_le_mul hx' hy' hy ha⟩
def stm (r:GRow) (s:Qaa):Int:=
 if s.Heat-s.Mass*r.Liquid≤0 then 0 else if s.Mass*r.Vapour≤s.Heat then s.Mass else(s.Heat-s.Mass*r.Liquid).tdiv (r.Vapour-r.Liquid)
def flG (r:GRow) (s:Qaa):Qfh:=
 if stm r s=0 then⟨⟨0,0,0,0⟩,⟨s.Mass,s.Heat,min (s.Mass*r.Silica) s.Silica,s.Gas⟩,if 0<s.Mass then max (s.Heat-s.Mass*r.Liquid) 0 else 0,s.Silica-min (s.Mass*r.Silica) s.Silica⟩
 else if stm r s=s.Mass then⟨⟨s.Mass,s.Heat,0,s.Gas⟩,⟨0,0,0,0⟩,0,s.Silica⟩
 else⟨⟨stm r s,stm r s*r.Vapour,0,s.Gas⟩,⟨s.Mass-stm r s,s.Heat-stm r s*r.Vapour,min ((s.Mass-stm r s)*r.Silica) s.Silica,0⟩,s.Heat-stm r s*r.Vapour-(s.Mass-stm r s)*r.Liquid,s.Silica-min ((s.Mass-stm r s)*r.Silica) s.Silica⟩
theorem Qr6 {r:GRow}{s:Qaa}(hr:RowV r) (hs:StrV s) :
  (s.Heat-s.Mass*r.Liquid≤0∧stm r s=0) ∨
  (0<s.Heat-s.Mass*r.Liquid∧s.Mass*r.Vapour≤s.Heat∧stm r s=s.Mass∧0<s.Mass) ∨
  (0<s.Heat-s.Mass*r.Liquid∧s.Heat<s.Mass*r.Vapour∧stm r s=(s.Heat-s.Mass*r.Liquid).tdiv (r.Vapour-r.Liquid)∧0≤stm r s∧stm r s<s.Mass∧stm r s*(r.Vapour-r.Liquid)≤s.Heat-s.Mass*r.Liquid∧s.Heat-s.Mass*r.Liquid<stm r s*(r.Vapour-r.Liquid)+(r.Vapour-r.Liquid)):=by
 obtain⟨l0,l1,lv,v1,s0,s1⟩:=hr
 obtain⟨m0,m1,h0,h1,_,_,_,_⟩:=hs
 by_cases c1:s.Heat-s.Mass*r.Liquid≤0
 ·exact .inl ⟨c1,by unfold stm;rw[if_pos c1]⟩
 ·by_cases c2:s.Mass*r.Vapour≤s.Heat
  ·refine .inr (.inl ⟨by omega,c2,by unfold stm;rw[if_neg c1,if_pos c2],?_⟩)
   rcases Int.lt_or_eq_of_le m0 with h |h
   ·exact h
   ·rw[←h] at h1 c1
    simp at h1 c1
    omega
  ·have e:stm r s=(s.Heat-s.Mass*r.Liquid).tdiv (r.Vapour-r.Liquid):=by unfold stm;rw[if_neg c1,if_neg c2]
   have e2:stm r s=(s.Heat-s.Mass*r.Liquid)/(r.Vapour-r.Liquid):=by rw[e,Int.tdiv_eq_ediv_of_nonneg (by omega)]
   have d0:0<r.Vapour-r.Liquid:=by omega
   have q1:=Int.ediv_mul_le (s.Heat-s.Mass*r.Liquid) (b:=r.Vapour-r.Liquid) (by omega)
   have q2:=Int.lt_mul_ediv_self_add (x:=s.Heat-s.Mass*r.Liquid) (k:=r.Vapour-r.Liquid) d0
   have q3:0≤stm r s:=by rw[e2];exact Int.ediv_nonneg (by omega) (by omega)
   rw[←e2] at q1 q2
   rw[Int.mul_comm (r.Vapour-r.Liquid)] at q2
   refine .inr (.inr ⟨by omega,by omega,e,q3,?_,q1,q2⟩)
   rw[e2]
   refine Int.ediv_lt_of_lt_mul d0 ?_
   rw[Int.mul_sub]
   omega
structure Zte (r:GRow) (s:Qaa):Prop where
 a:w64 (s.Mass*r.Liquid)=s.Mass*r.Liquid
 b:w64 (s.Heat-s.Mass*r.Liquid)=s.Heat-s.Mass*r.Liquid
 c:w64 (s.Mass*r.Vapour)=s.Mass*r.Vapour
 d:w64 (r.Vapour-r.Liquid)=r.Vapour-r.Liquid
theorem Zgr {r:GRow}{s:Qaa}(hr:RowV r) (hs:StrV s):Zte r s:=by
 obtain⟨l0,l1,lv,v1,s0,s1⟩:=hr
 obtain⟨m0,m1,h0,h1,_,_,_,_⟩:=hs
 have p1:=bdp m0 m1 l0 l1 (by omega)
 have p2:=bdp (y:=r.Vapour) m0 m1 (by omega) v1 (by omega)
 exact⟨Qbp (by omega) (by omega),Qbp (by omega) (by omega),Qbp (by omega) (by omega),Qbp (by omega) (by omega)⟩
theorem Zgz (N:Nat) {r:GRow}{s:Qaa}(hr:RowV r) (hs:StrV s):Qg6 N ⟨r⟩ s=some (stm r s):=by
 obtain⟨wa,wb,wc,wd⟩:=Zgr hr hs
 have hlv:=hr.lv
 have hd:((r.Vapour-r.Liquid) != 0)=true:=by simp;omega
 have hs':=hs
 obtain⟨m0,m1,h0,h1,_,_,_,_⟩:=hs'
 unfold Qg6
 simp only[wa,wb,wc,wd,Option.bind_some,hd,chk,cond_true]
 rcases Qr6 hr hs with ⟨a,b⟩ |⟨a,b,c,d⟩ |⟨a,b,c,d,e,_,_⟩
 ·rw[decide_eq_true a,b];rfl
 ·rw[decide_eq_false (show ¬s.Heat-s.Mass*r.Liquid≤0 by omega),decide_eq_true (show s.Heat≥s.Mass*r.Vapour from b),c];rfl
 ·rw[decide_eq_false (show ¬s.Heat-s.Mass*r.Liquid≤0 by omega),decide_eq_false (show ¬s.Heat≥s.Mass*r.Vapour by omega),←c,Qbp (by omega) (by omega)];rfl
theorem Zs9 (N:Nat) {r:GRow}{s:Qaa}(hr:RowV r) (hs:StrV s):Qhs N ⟨r⟩ s=some (flG r s):=by
 have hw:=Zgr hr hs
 have hc:=Qr6 hr hs
 have he:=Zgz N hr hs
 obtain⟨l0,l1,lv,v1,s0,s1⟩:=hr
 obtain⟨m0,m1,h0,h1,q0,q1,_,_⟩:=hs
 unfold Qhs
 have:(⟨⟨r.T,r.P,r.Liquid,r.Vapour,r.Silica⟩⟩:Qnc)=⟨r⟩:=rfl
 dsimp only at this ⊢
 rw[he]
 have p1:=bdp m0 m1 s0 s1 (by omega)
 simp only[Option.bind_some,Qbi]
 unfold flG
 generalize hm:stm r s=m at *
 by_cases z:m=0
 ·subst z
  rw[if_pos rfl,hw.a,Qbp (x:=s.Mass*r.Silica) (by omega) (by omega),hw.b]
  simp only[beq_self_eq_true,cond_true]
  have:w64 (s.Silica-(if s.Mass*r.Silica<s.Silica then s.Mass*r.Silica else s.Silica))=s.Silica-min (s.Mass*r.Silica) s.Silica:=by
   rw[Qbp]<;>(repeat split)<;>omega
  rw[this]
  by_cases c:0<s.Mass
  ·rw[decide_eq_true (show s.Mass>0 from c),if_pos c]
   simp only[cond_true]
   congr 2
   ·congr 1;split<;>omega
   ·split<;>omega
  ·rw[decide_eq_false (show ¬s.Mass>0 from c),if_neg c]
   simp only[cond_false]
   congr 2
   congr 1;split<;>omega
 ·have z1:(m==0)=false:=by simpa using z
  rw[if_neg z,z1]
  by_cases f:m=s.Mass
  ·have f1:(m==s.Mass)=true:=by simpa using f
   rw[f1,if_pos f]
   have:w64 (0*r.Silica)=0:=by rw[Int.zero_mul];rfl
   simp only[cond_false,cond_true,this]
   have:w64 (s.Silica-(if 0<s.Silica then 0 else s.Silica))=s.Silica:=by rw[Qbp]<;>split<;>omega
   rw[this]
   simp only[show decide ((0:Int)>0)=false from rfl,cond_false]
   congr 2
   ·rw[f]
   ·congr 1;split<;>omega
  ·have f1:(m==s.Mass)=false:=by simpa using f
   rw[f1,if_neg f]
   rcases hc with ⟨a,b⟩ |⟨a,b,c,d⟩ |⟨a,b,c,d,e,g1,g2⟩
   ·exact absurd b z
   ·exact absurd c f
   ·have k1:=bdp d (show m≤1000000 by omega) (show 0≤r.Vapour by omega) v1 (by omega)
    have k2:=bdp (show 0≤s.Mass-m by omega) (show s.Mass-m≤1000000 by omega) s0 s1 (by omega)
    have k3:=bdp (show 0≤s.Mass-m by omega) (show s.Mass-m≤1000000 by omega) l0 l1 (by omega)
    rw[Int.mul_sub] at g1
    have k4:0≤s.Heat-m*r.Vapour-(s.Mass-m)*r.Liquid:=by rw[Int.sub_mul];omega
    simp only[cond_false]
    rw[Qbp (x:=s.Mass-m) (by omega) (by omega),Qbp (x:=m*r.Vapour) (by omega) (by omega),Qbp (x:=s.Heat-m*r.Vapour) (by omega) (by omega),Qbp (x:=(s.Mass-m)*r.Silica) (by omega) (by omega),Qbp (x:=(s.Mass-m)*r.Liquid) (by omega) (by omega),Qbp (x:=s.Heat-m*r.Vapour-(s.Mass-m)*r.Liquid) (by omega) (by omega),decide_eq_true (show s.Mass-m>0 by omega)]
    have:w64 (s.Silica-(if (s.Mass-m)*r.Silica<s.Silica then(s.Mass-m)*r.Silica else s.Silica))=s.Silica-min ((s.Mass-m)*r.Silica) s.Silica:=by
     rw[Qbp]<;>(repeat split)<;>omega
    rw[this]
    simp only[cond_true]
    congr 2
    ·congr 1;split<;>omega
    ·split<;>omega
structure Ztg (s:Qaa) (p:Qfh):Prop where
 st:StrV p.Steam
 wa:StrV p.Water
 km:p.Steam.Mass+p.Water.Mass=s.Mass
 kh:p.Steam.Heat+p.Water.Heat=s.Heat
 ks:p.Water.Silica+p.Scale=s.Silica
 kg:p.Steam.Gas+p.Water.Gas=s.Gas
 z:p.Steam.Silica=0
 sc:0≤p.Scale
theorem Qz0 {r:GRow}{s:Qaa}(hr:RowV r) (hs:StrV s):Ztg s (flG r s):=by
 have hc:=Qr6 hr hs
 obtain⟨l0,l1,lv,v1,s0,s1⟩:=hr
 obtain⟨m0,m1,h0,h1,q0,q1,y0,y1⟩:=hs
 have p1:=bdp m0 m1 s0 s1 (by omega)
 unfold flG
 by_cases z:stm r s=0
 ·rw[if_pos z]
  refine⟨⟨?_,?_,?_,?_,?_,?_,?_,?_⟩,⟨?_,?_,?_,?_,?_,?_,?_,?_⟩,?_,?_,?_,?_,?_,?_⟩<;>dsimp only<;>omega
 ·rw[if_neg z]
  by_cases f:stm r s=s.Mass
  ·rw[if_pos f]
   refine⟨⟨?_,?_,?_,?_,?_,?_,?_,?_⟩,⟨?_,?_,?_,?_,?_,?_,?_,?_⟩,?_,?_,?_,?_,?_,?_⟩<;>dsimp only<;>omega
  ·rw[if_neg f]
   rcases hc with ⟨a,b⟩ |⟨a,b,c,d⟩ |⟨a,b,c,d,e,g1,g2⟩
   ·exact absurd b z
   ·exact absurd c f
   ·generalize stm r s=m at *
    have k1:=bdp d (show m≤1000000 by omega) (show 0≤r.Vapour by omega) v1 (by omega)
    have k2:=bdp (show 0≤s.Mass-m by omega) (show s.Mass-m≤1000000 by omega) s0 s1 (by omega)
    have k5:m*r.Vapour≤m*4000:=Int.mul_le_mul_of_nonneg_left v1 d
    have k6:(s.Mass-m)*r.Silica≤(s.Mass-m)*2000:=Int.mul_le_mul_of_nonneg_left s1 (by omega)
    have k7:(s.Mass-m-1)*(r.Vapour-r.Liquid)≥0:=Int.mul_nonneg (by omega) (by omega)
    have k8:(s.Mass-m)*r.Vapour≤(s.Mass-m)*4000:=Int.mul_le_mul_of_nonneg_left v1 (by omega)
    have k9:0≤s.Mass*r.Liquid-m*r.Liquid:=by rw[←Int.sub_mul];exact Int.mul_nonneg (by omega) l0
    simp only[Int.mul_sub,Int.sub_mul,Int.one_mul] at g1 g2 k7 k8 k6 k2
    refine⟨⟨?_,?_,?_,?_,?_,?_,?_,?_⟩,⟨?_,?_,?_,?_,?_,?_,?_,?_⟩,?_,?_,?_,?_,?_,?_⟩<;>dsimp only<;>(try simp only[Int.sub_mul])<;>omega
theorem Q6n {t:List GRow}(ht:tabB t=true) {l:Int}(h:btw l 0 (t.length-1)=true):getI t l=some ((getI t l).getD ⟨0,0,0,0,0⟩)∧RowV ((getI t l).getD ⟨0,0,0,0,0⟩):=by
 simp only[btw,Bool.and_eq_true,decide_eq_true_eq] at h
 have hi:l.toNat<t.length:=by omega
 have e:getI t l=some t[l.toNat]:=by unfold getI;rw[if_pos h.1,List.getElem?_eq_getElem hi]
 rw[e]
 refine⟨rfl,?_⟩
 simp only[tabB,Bool.and_eq_true] at ht
 exact Zmu (List.all_eq_true.1 ht.1.2 _ (List.getElem_mem hi))
def Zm1:Qfh:=⟨⟨0,0,0,0⟩,⟨0,0,0,0⟩,0,0⟩
def Q66 (t:List GRow) (l:Int) (s:Qaa):Qfh×Int:=
 bif !tabB t then(Zm1,1) else bif !btw l 0 (t.length-1) then(Zm1,2) else bif !strB s then(Zm1,1) else(flG ((getI t l).getD ⟨0,0,0,0,0⟩) s,0)
theorem Zhn {N:Nat}(hN:1001≤N) {t:List GRow}(ht:t.length≤1000) (l:Int) (s:Qaa):Qlb N t l s=some (Q66 t l s):=by
 have e0:w64 ((t.length:Int)-1)=(t.length:Int)-1:=by rw[Qbp]<;>omega
 unfold Qlb Q66
 rw[Q1i ht hN]
 cases hT:tabB t with
 |false=>rfl
 |true=>
  simp only[Option.bind_some,Bool.not_true,cond_false,Qjb,Qnw,e0,Qy4]
  cases h1:btw l 0 ((t.length:Int)-1) with
  |false=>rfl
  |true=>
   cases h2:strB s with
   |false=>rfl
   |true=>
    obtain⟨g1,g2⟩:=Q6n hT h1
    simp only[Bool.not_true,cond_false,Qjx]
    rw[g1]
    simp only[Option.getD_some,Option.bind_some]
    generalize (getI t l).getD ⟨0,0,0,0,0⟩=r at g2
    have ho:Qhs N ⟨⟨r.T,r.P,r.Liquid,r.Vapour,r.Silica⟩⟩ s=some (flG r s):=Zs9 N g2 (Qp2.1 h2)
    rw[ho]
    rfl
end
section
open Go.RowKit
def Qlv (key:Int→Int) (ls:List Int) (i k:Int):Prop:=key (ls.getD k.toNat 0)<key (ls.getD i.toNat 0)∨(key (ls.getD k.toNat 0)=key (ls.getD i.toNat 0)∧i<k)
theorem Qro {key:Int→Int}{ls:List Int}{i k:Int}(h:Qlv key ls i k) (h':Qlv key ls k i):False:=by
 unfold Qlv at h h'
 omega
theorem Q5e {key:Int→Int}{ls:List Int}{i k m:Int}(h:Qlv key ls i k) (h':Qlv key ls k m):Qlv key ls i m:=by
 unfold Qlv at *
 omega
def ixs (n:Nat):List Int:=(List.range n).map fun j:Nat=>(j:Int)
theorem Qi5 (n:Nat):(ixs n).length=n:=by simp[ixs]
theorem Qzw {n i:Nat}(h:i<n):(ixs n)[i]? = some (i:Int):=by simp[ixs,h]
theorem Qrh {n:Nat}{x:Int}:x∈ixs n↔0≤x∧x<n:=by
 unfold ixs
 rw[List.mem_map]
 constructor
 ·rintro ⟨j,hj,rfl⟩
  have:=List.mem_range.1 hj
  omega
 ·rintro ⟨h0,h1⟩
  exact⟨x.toNat,List.mem_range.2 (by omega),by omega⟩
theorem Zd2 (n:Nat):(ixs n).Nodup:=List.pairwise_map.2 ((List.nodup_range (n:=n)).imp fun h e=>h (by omega))
section
variable {N L : Nat} {ws : List Int} {M W : Int}
def rkey (M W w:Int):Int:=M*w % W
structure WOk (ws:List Int) (M W:Int):Prop where
 w:∀x∈ws,0≤x∧x≤1000
 m0:0≤M
 m1:M≤1000000
 p0:0<W
 p1:W≤20000
theorem Zcz (h:WOk ws M W) (x:Int):0≤rkey M W x∧rkey M W x<20000:=by
 have:=h.p0
 have:=h.p1
 have a:=Int.emod_nonneg (M*x) (show W≠0 by omega)
 have b:=Int.emod_lt_of_pos (M*x) h.p0
 unfold rkey
 omega
theorem Q6z (h:WOk ws M W) {x:Int}(hx:x∈ws):Qge N x M W=some (rkey M W x):=by
 obtain⟨x0,x1⟩:=h.w x hx
 have h0:=h.m0
 have h1:=h.m1
 have p:=h.p0
 have:=bdp h0 h1 x0 x1 (by omega)
 unfold Qge chk rkey
 rw[show(W != 0)=true by rw[bne_iff_ne];omega,cond_true,Qbp (by omega) (by omega),Int.tmod_eq_emod_of_nonneg this.1]
theorem Zrd (h:WOk ws M W) {a b:Int}(ha:0≤a∧a<ws.length) (hb:0≤b∧b<ws.length):Qfu N a b ws M W=some (rkey M W (ws.getD b.toNat 0)-rkey M W (ws.getD a.toNat 0)):=by
 have ga:ws[a.toNat]? = some (ws.getD a.toNat 0):=by rw[List.getD_eq_getElem?_getD,List.getElem?_eq_getElem (by omega)];rfl
 have gb:ws[b.toNat]? = some (ws.getD b.toNat 0):=by rw[List.getD_eq_getElem?_getD,List.getElem?_eq_getElem (by omega)];rfl
 have ka:=Zcz h (ws.getD a.toNat 0)
 have kb:=Zcz h (ws.getD b.toNat 0)
 unfold Qfu
 rw[show getI ws b=some (ws.getD b.toNat 0) from by rw[←gb];unfold getI;rw[if_pos hb.1],show getI ws a=some (ws.getD a.toNat 0) from by rw[←ga];unfold getI;rw[if_pos ha.1]]
 simp only[Option.bind_some,Q6z h (List.mem_of_getElem? ga),Q6z h (List.mem_of_getElem? gb)]
 rw[Qbp (by omega) (by omega)]
theorem Zne (h:WOk ws M W) (hL:L≤20) (hLw:L=ws.length) (k:List Int→Option (List Int)) (x:Int) (R:List Int) (hx:0≤x∧x<ws.length):∀(n:Nat) (P S:List Int),P.length<n→(P++x::S++R).length=L →
  (P++S).Pairwise (Qlv (rkey M W) ws)→(∀s∈S,Qlv (rkey M W) ws x s)→(∀y∈P++S,0≤y∧y<x) →
  ∃Q,Qbt N L 0 ws M W k n P.length (P++x::S++R)=k (Q++R)∧Q.Perm (P++x::S)∧Q.Pairwise (Qlv (rkey M W) ws):=by
 intro n
 induction n with
 |zero=>intro P S hn;exact absurd hn (Nat.not_lt_zero _)
 |succ n ih=>
  intro P S hn hl hp hs hb
  rw[Qbt]
  simp only[Qbi]
  rcases List.eq_nil_or_concat P with rfl |⟨P',y,rfl⟩
  ·refine⟨x::S,by simp,.refl _,?_⟩
   rw[List.pairwise_cons]
   exact⟨hs,by simpa using hp⟩
  ·simp only[List.concat_eq_append] at *
   have hlen:(P'++[y]).length=P'.length+1:=by simp
   have hl2:P'.length+1<L:=by rw[←hl];simp
   have e1:w64 (((P'++[y]).length:Nat)-1:Int)=(P'.length:Int):=by rw[hlen,Qbp (by omega) (by omega)];omega
   have e2:(((P'++[y]).length:Nat):Int).toNat=P'.length+1:=by rw[hlen];omega
   have e3:(P'.length:Int).toNat=P'.length:=by omega
   have gx:(P'++[y]++x::S++R)[P'.length+1]? = some x:=by
    rw[List.append_assoc,List.append_assoc,List.getElem?_append_right (by omega)]
    simp
   have gy:(P'++[y]++x::S++R)[P'.length]? = some y:=by
    rw[List.append_assoc,List.append_assoc,List.getElem?_append_right (by omega)]
    simp
   have hy:=hb y (by simp)
   have c1:(decide ((0:Int)≤(((P'++[y]).length:Nat):Int))&&decide (P'.length+1<L))=true:=by simp;omega
   have c2:(decide ((0:Int)≤(P'.length:Int))&&decide (P'.length<L))=true:=by simp;omega
   have hs1:((P'++[y]++x::S++R).set (P'.length+1) y)[P'.length]? = some y:=by rw[List.getElem?_set_ne (by omega)];exact gy
   have hsw:((P'++[y]++x::S++R).set (P'.length+1) y).set P'.length x=P'++x::(y::S)++R:=by
    have a1:(P'++[y]++x::S++R).set (P'.length+1) y=P'++[y]++y::S++R:=by
     rw[List.append_assoc,List.append_assoc,List.set_append_right _ _ (by omega),show P'.length+1-P'.length=1 by omega]
     simp
    rw[a1,List.append_assoc,List.append_assoc,List.set_append_right _ _ (by omega),Nat.sub_self]
    simp
   have hcmp:=Zrd (N:=N) h hx (show 0≤y∧y<ws.length by omega)
   simp only[show decide ((((P'++[y]).length:Nat):Int)>0)=true from decide_eq_true (by rw[hlen];omega),cond_true,e1,e2,e3,chk,c1,c2,gx,gy,Option.bind_some,hcmp,hs1,hsw]
   by_cases hlt:rkey M W (ws.getD y.toNat 0)-rkey M W (ws.getD x.toNat 0)<0
   ·rw[decide_eq_true hlt,cond_true]
    obtain⟨Q,q1,q2,q3⟩:=ih P' (y::S) (by rw[hlen] at hn;omega) (by rw[←hl];simp) (by simpa using hp) (fun s hs'=>by
     rcases List.mem_cons.1 hs' with rfl |hs'
     ·exact .inl (by omega)
     ·exact hs s hs') (fun z hz=>hb z (by simpa using hz))
    refine⟨Q,q1,q2.trans ?_,q3⟩
    rw[List.append_assoc]
    exact List.Perm.append_left P' (List.Perm.swap y x S)
   ·rw[decide_eq_false hlt,cond_false]
    refine⟨P'++[y]++x::S,rfl,.refl _,?_⟩
    have hyx:Qlv (rkey M W) ws y x:=by unfold Qlv;omega
    rw[List.pairwise_append] at hp ⊢
    obtain⟨p1,p2,p3⟩:=hp
    refine⟨p1,List.pairwise_cons.2 ⟨hs,p2⟩,fun a ha b hb'=>?_⟩
    have hax:Qlv (rkey M W) ws a x:=by
     rcases List.mem_append.1 ha with ha |ha
     ·rw[List.pairwise_append] at p1
      exact Q5e (p1.2.2 a ha y (by simp)) hyx
     ·simp at ha;subst ha;exact hyx
    rcases List.mem_cons.1 hb' with rfl |hb'
    ·exact hax
    ·exact p3 a ha b hb'
theorem Zhc (h:WOk ws M W) (hL:L≤20) (hLw:L=ws.length) (hN:1000≤N):∀(n i:Nat) (Q:List Int),L-i<n→i≤L→Q.Perm ((ixs L).take i)→Q.Pairwise (Qlv (rkey M W) ws) →
  ∃Q',Qbd N L 0 L ws M W n i (Q++(ixs L).drop i)=some Q'∧Q'.Perm (ixs L)∧Q'.Pairwise (Qlv (rkey M W) ws):=by
 intro n
 induction n with
 |zero=>intro i _ h;cases h
 |succ n ih=>
  intro i Q hn hi hp hq
  rw[Qbd]
  simp only[Qbi]
  by_cases hlt:i<L
  ·have hql:Q.length=i:=by rw[hp.length_eq,List.length_take,Qi5];omega
   have hd:(ixs L).drop i=(i:Int)::(ixs L).drop (i+1):=by
    have:=Qzw hlt
    have hi2:i<(ixs L).length:=by rw[Qi5];exact hlt
    rw[List.drop_eq_getElem_cons hi2]
    rw[List.getElem?_eq_getElem hi2] at this
    rw[Option.some.inj this]
   rw[show decide ((i:Int)<(L:Int))=true from by simpa using hlt,cond_true]
   have hmem:∀y∈Q,0≤y∧y<(i:Int):=fun y hy=>by
    have h1:=hp.mem_iff.1 hy
    obtain⟨j,hj,e⟩:=List.mem_take_iff_getElem.1 h1
    have hj2:j<L:=by rw[Qi5] at hj;omega
    have:=Qzw hj2
    rw[List.getElem?_eq_getElem (by rw[Qi5];exact hj2),e] at this
    cases this
    omega
   obtain⟨Q',q1,q2,q3⟩:=Zne (N:=N) h hL hLw (fun y8=>Qbd N L 0 L ws M W n (w64 ((i:Int)+1)) y8) (i:Int) ((ixs L).drop (i+1)) (by omega) N Q [] (by omega) (by simp[Qi5,hql];omega) (by simpa using hq) (by simp) (by simpa using hmem)
   rw[hql] at q1
   rw[hd]
   have e:Q++(i:Int)::(ixs L).drop (i+1)=Q++[(i:Int)]++(ixs L).drop (i+1):=by simp
   rw[e]
   have t:(ixs L).take (i+1)=(ixs L).take i++[(i:Int)]:=by
    rw[List.take_add_one,Qzw hlt];rfl
   obtain⟨Q2,r1,r2,r3⟩:=ih (i+1) Q' (by omega) (by omega) (q2.trans (by rw[t];exact hp.append_right _)) q3
   refine⟨Q2,q1.trans ?_,r2,r3⟩
   rw[w64S (i:=i) (by omega)]
   exact r1
  ·rw[show decide ((i:Int)<(L:Int))=false from by simpa using hlt,cond_false]
   have hiL:i=L:=by omega
   subst hiL
   rw[List.take_of_length_le (by rw[Qi5];exact Nat.le_refl _)] at hp
   exact⟨Q,by rw[List.drop_of_length_le (by rw[Qi5];exact Nat.le_refl _),List.append_nil],hp,hq⟩
theorem Zg4 (h:WOk ws M W) (hL:ws.length≤20) (h1:1≤ws.length) (hN:1000≤N):∃Q,Qcm N ws.length (ixs ws.length) ws M W=some Q∧Q.Perm (ixs ws.length)∧Q.Pairwise (Qlv (rkey M W) ws):=by
 have ht:(ixs ws.length).take 1=[0]:=by
  rw[List.take_add_one,Qzw (by omega)];rfl
 have hd:(ixs ws.length)=[0]++(ixs ws.length).drop 1:=by rw[←ht,List.take_append_drop]
 obtain⟨Q,q1,q2,q3⟩:=Zhc (N:=N) (L:=ws.length) h hL rfl hN N 1 [0] (by omega) h1 (by rw[ht]) (by simp)
 rw[←hd] at q1
 refine⟨Q,?_,q2,q3⟩
 obtain⟨m,rfl⟩:∃m,N=m+2:=⟨N-2,by omega⟩
 have hins:Qbz (m+2) ws.length 0 (ws.length:Int) (ixs ws.length) ws M W=some Q:=by
  unfold Qbz
  rw[show w64 ((0:Int)+1)=((1:Nat):Int) from Qbp (by decide) (by decide)]
  exact q1
 unfold Qcm Qe0
 simp only[Qbi]
 rw[Qb7]
 by_cases h20:ws.length=20
 ·rw[show decide ((20:Int)≤(ws.length:Int))=true from by simp;omega,cond_true]
  have e20:(20:Int)=(ws.length:Int):=by omega
  rw[show Qbz (m+2) ws.length 0 20 (ixs ws.length) ws M W=some Q from by rw[e20];exact hins,Option.bind_some,Qb7,show w64 ((20:Int)+20)=40 from Qbp (by decide) (by decide),show decide ((40:Int)≤(ws.length:Int))=false from by simp;omega,cond_false]
  dsimp only
  unfold Qbz
  rw[show w64 ((20:Int)+1)=21 from Qbp (by decide) (by decide),Qbd,show decide ((21:Int)<(ws.length:Int))=false from by simp;omega,cond_false,Option.bind_some,Qcc,show decide ((20:Int)<(ws.length:Int))=false from by simp;omega,cond_false]
  rfl
 ·rw[show decide ((20:Int)≤(ws.length:Int))=false from by simp;omega,cond_false]
  dsimp only
  rw[hins,Option.bind_some,Qcc,show decide ((20:Int)<(ws.length:Int))=false from by simp;omega,cond_false]
  rfl
theorem Zhd (ls:List Int) (k:List Int→Option (List Int)) (h8:ls.length≤20):∀(n i:Nat) (l:List Int),ls.length-i<n→i≤ls.length→l=ixs i →
  Qc4 N ls k n i l=k (ixs ls.length):=by
 intro n
 induction n with
 |zero=>intro i _ h;cases h
 |succ n ih=>
  intro i l hn hi hl
  rw[Qc4]
  by_cases h:i<ls.length
  ·have e1:w64 ((i:Int)+1)=((i+1:Nat):Int):=Qbp (by omega) (by omega)
   rw[show decide ((i:Int)<(ls.length:Int))=true from by simpa using h,cond_true,e1]
   simp only[chk]
   rw[show decide ((l.length+[(i:Int)].length)*8≤140737488355328)=true from by rw[hl,Qi5];simp;omega,cond_true]
   exact ih (i+1) _ (by omega) (by omega) (by rw[hl];simp[ixs,List.range_succ])
  ·rw[show decide ((i:Int)<(ls.length:Int))=false from by simpa using h,cond_false,hl,show i=ls.length by omega]
theorem Q1x (h:WOk ws M W) (hL:ws.length≤20) (h1:1≤ws.length) (hN:1000≤N):∃Q,Qgh N ws M W=some Q∧Q.Perm (ixs ws.length)∧Q.Pairwise (Qlv (rkey M W) ws):=by
 obtain⟨Q,q1,q2,q3⟩:=Zg4 (N:=N) h hL h1 hN
 refine⟨Q,?_,q2,q3⟩
 have hlen:=q2.length_eq
 rw[Qi5] at hlen
 unfold Qgh
 simp only[Qbi]
 have:=Zhd (N:=N) ws (fun y3=>chk (!y3.isEmpty)<|(Qcm N y3.length y3 ws M W).bind fun x7=>chk (decide (y3.length≤x7.length))<|some (x7.take y3.length)) hL N 0 [] (by omega) (by omega) rfl
 refine this.trans ?_
 have he:(!(ixs ws.length).isEmpty)=true:=by
  cases hh:ixs ws.length with
  |nil=>have:=Qi5 ws.length;rw[hh] at this;simp at this;omega
  |cons=>rfl
 simp only[chk,he,cond_true,Qi5,q1,Option.bind_some]
 rw[show decide (ws.length≤Q.length)=true by simp;omega,cond_true,List.take_of_length_le (by omega)]
end
end
section
open Go.RowKit
theorem Q2r {α:Type}{F:Nat→Int→Option Int}{p:List α}{q:α→Option Bool}{b:α→Bool}{k:Unit→Option Int}
  (h:∀n y,F (n+1) y=bif decide (y<(p.length:Int)) then(getI p y).bind fun x=>(q x).bind fun c=>bif c then some y else F n (w64 (y+1)) else k ())
  (hq:∀x,q x=some (b x)) (hk:k ()=some (-1)) (hl:p.length≤1000000):∀(n i:Nat),(p.drop i).length<n→(F n i).bind (fun x=>some (decide (x≥0)))=some ((p.drop i).any b):=by
 intro n
 induction n with
 |zero=>intro i h;cases h
 |succ n ih=>
  intro i hn
  rw[h]
  cases hd:p.drop i with
  |nil=>
   have:=Qbw hd
   rw[show decide ((i:Int)<(p.length:Int))=false by simp;omega,cond_false,hk]
   rfl
  |cons a l=>
   obtain⟨h1,h2,h3⟩:=Qbh hd
   rw[show decide ((i:Int)<(p.length:Int))=true by simp;omega,cond_true,Qb0 h1,Option.bind_some,hq,Option.bind_some]
   cases hb:b a with
   |true=>simp[hb]
   |false=>
    rw[cond_false,show w64 ((i:Int)+1)=((i+1:Nat):Int) by rw[Qbp]<;>omega,ih (i+1) (by rw[h2];rw[hd] at hn;simp at hn;omega),h2]
    simp[hb]
theorem Qjs {α:Type}{F:Nat→Int→Option Int}{p:List α}{q:α→Option Bool}{b:α→Bool}{k:Unit→Option Int}{N:Nat}
  (h:∀n y,F (n+1) y=bif decide (y<(p.length:Int)) then(getI p y).bind fun x=>(q x).bind fun c=>bif c then some y else F n (w64 (y+1)) else k ())
  (hq:∀x,q x=some (b x)) (hk:k ()=some (-1)) (hl:p.length≤1000000) (hN:p.length<N):(F N 0).bind (fun x=>some (decide (x≥0)))=some (p.any b):=by
 have:=Q2r h hq hk hl N 0 (by simpa using hN)
 simpa using this
theorem Qku (N:Nat) (a lo hi:Int):Qc1 N a lo hi=some (btw a lo hi):=by
 unfold Qc1 btw
 by_cases h:lo≤a<;>simp[h]
theorem Qw7 {α:Type}(l:List α) (b:α→Bool):(!l.any fun x=>!b x)=l.all b:=by
 induction l with
 |nil=>rfl
 |cons a l ih=>simp only[List.any_cons,List.all_cons,Bool.not_or,Bool.not_not,ih]
def wtsB (w:List Int):Bool:=btw w.length 1 20&&(w.all (fun x=>btw x 0 1000)&&w.any fun x=>decide (x>0))
def outl (x:Qam):Int:=if x.Kind=4 then 2 else if x.Kind=5 then x.Weights.length else 1
def Qiw (x:Qam):Bool:=
 btw x.Kind 1 6&&btw x.Wide 0 1000000&&btw x.Narrow 1 1000000000&&btw x.From.length (if x.Kind=1 then 0 else 1) (if x.Kind=1 then 0 else if x.Kind=2 then 6 else 1) &&
 btw x.Amount 0 (if x.Kind=3 then 1000000000 else if x.Kind=4 then 1000 else 0)&&(if x.Kind=5 then wtsB x.Weights else decide (x.Weights.length=0))
theorem Zot {N:Nat}{w:List Int}(hl:w.length≤1000) (hN:1001≤N):Qhz N w=some (w.all fun x=>btw x 0 1000):=by
 have hc:Qdf N w=some (w.any fun x=>!btw x 0 1000):=by
  unfold Qdf Qe5 Qbi
  refine Qjs (F:=Qcj N w fun _=>some (-1)) (k:=fun _=>some (-1)) (q:=Qhy N) (fun n y=>rfl) (fun x=>?_) rfl (by omega) (by omega)
  simp only[Qhy,Qhe,Qku,Option.bind_some]
 unfold Qhz
 rw[hc,Option.bind_some,Qw7]
theorem Zos {N:Nat}{w:List Int}(hl:w.length≤1000) (hN:1001≤N):Qcv N w=some (w.any fun x=>decide (x>0)):=by
 unfold Qcv Qe4 Qbi
 exact Qjs (F:=Qci N w fun _=>some (-1)) (k:=fun _=>some (-1)) (q:=Qhd N) (fun n y=>rfl) (fun x=>rfl) rfl (by omega) (by omega)
theorem Zfo {N:Nat}{x:Qam}(hw:x.Weights.length≤1000) (hN:1001≤N):Qgq N x=some (Qiw x):=by
 have key:∀(a b:Int),(bif ((x.From.length:Int) != a) then some false else
   (Qc1 N x.Amount 0 b).bind fun x16=>bif (!x16) then some false else(Qc1 N x.Wide 0 1000000).bind fun x19=>bif (!x19) then some false else
    (Qc1 N x.Narrow 1 1000000000).bind fun x22=>bif (!x22) then some false else
    bif (x.Kind != 5) then some ((x.Weights.length:Int)==0) else(Qc1 N (x.Weights.length:Int) 1 20).bind fun x7=>bif x7 then(Qhz N x.Weights).bind fun x10=>
    bif x10 then(Qcv N x.Weights).bind fun x13=>some x13 else some false else some false) =
   some (decide ((x.From.length:Int)=a)&&btw x.Amount 0 b&&btw x.Wide 0 1000000&&btw x.Narrow 1 1000000000&&(if x.Kind=5 then wtsB x.Weights else decide (x.Weights.length=0))):=fun a b=>by
  simp only[Qku,Zot hw hN,Zos hw hN,Option.bind_some]
  by_cases h1:(x.From.length:Int)=a
  ·rw[show((x.From.length:Int) != a)=false by simpa using h1,cond_false,decide_eq_true h1]
   cases btw x.Amount 0 b<;>cases btw x.Wide 0 1000000<;>cases btw x.Narrow 1 1000000000<;>simp only[Bool.not_true,Bool.not_false,cond_true,cond_false,Bool.and_true,Bool.true_and,Bool.false_and,Bool.and_false]
   by_cases h5:x.Kind=5
   ·rw[show(x.Kind != 5)=false by simpa using h5,if_pos h5,wtsB]
    cases btw x.Weights.length 1 20<;>cases (x.Weights.all fun x=>btw x 0 1000)<;>cases (x.Weights.any fun x=>decide (x>0))<;>rfl
   ·rw[show(x.Kind != 5)=true by simpa using h5,if_neg h5,cond_true]
    congr 1
    by_cases h0:x.Weights.length=0
    ·rw[h0];rfl
    ·rw[decide_eq_false h0,beq_eq_false_iff_ne];omega
  ·rw[show((x.From.length:Int) != a)=true by simpa using h1,cond_true,decide_eq_false h1]
   simp
 unfold Qgq Qiw
 simp only[Qbi]
 simp only[key]
 have hkd:∀a b:Int,decide (((x.From.length:Int))=a)=btw x.From.length a a:=fun a _=>by
  unfold btw
  by_cases h:(x.From.length:Int)=a
  ·rw[h];simp
  ·rw[decide_eq_false h]
   symm
   rw[Bool.and_eq_false_iff,decide_eq_false_iff_not,decide_eq_false_iff_not];omega
 have fin:∀(a b c d e:Bool),some (a&&b&&c&&d&&e)=some (true&&c&&d&&a&&b&&e):=by
  intro a b c d e;cases a<;>cases b<;>cases c<;>cases d<;>rfl
 by_cases h1:x.Kind=1
 ·rw[h1]
  simp only[beq_self_eq_true,cond_true,hkd 0 0]
  exact fin _ _ _ _ _
 ·have b1:(x.Kind==1)=false:=by simpa using h1
  by_cases h2:x.Kind=2
  ·rw[h2]
   have e:∀c:Int,decide (((x.From.length:Int))=(if (if (6:Int)<x.From.length then 6 else(x.From.length:Int))>1 then(if (6:Int)<x.From.length then 6 else(x.From.length:Int)) else 1))=btw x.From.length 1 6:=fun _=>by
    unfold btw
    by_cases h6:(6:Int)<x.From.length
    ·rw[if_pos h6,if_pos (by decide),decide_eq_false (by omega)]
     symm;rw[Bool.and_eq_false_iff,decide_eq_false_iff_not,decide_eq_false_iff_not];omega
    ·rw[if_neg h6]
     by_cases h7:(x.From.length:Int)>1
     ·rw[if_pos h7];simp;omega
     ·rw[if_neg h7]
      by_cases h8:(x.From.length:Int)=1
      ·rw[h8];rfl
      ·rw[decide_eq_false h8]
       symm;rw[Bool.and_eq_false_iff,decide_eq_false_iff_not,decide_eq_false_iff_not];omega
   simp only[show((2:Int)==1)=false from rfl,beq_self_eq_true,cond_true,cond_false,Option.bind_some,e 0]
   exact fin _ _ _ _ _
  ·have b2:(x.Kind==2)=false:=by simpa using h2
   by_cases h3:x.Kind=3
   ·rw[h3]
    simp only[show((3:Int)==1)=false from rfl,show((3:Int)==2)=false from rfl,beq_self_eq_true,cond_true,cond_false,hkd 1 0]
    exact fin _ _ _ _ _
   ·have b3:(x.Kind==3)=false:=by simpa using h3
    by_cases h4:x.Kind=4
    ·rw[h4]
     simp only[show((4:Int)==1)=false from rfl,show((4:Int)==2)=false from rfl,show((4:Int)==3)=false from rfl,beq_self_eq_true,cond_true,cond_false,hkd 1 0]
     exact fin _ _ _ _ _
    ·have b4:(x.Kind==4)=false:=by simpa using h4
     by_cases h5:x.Kind=5
     ·rw[h5]
      simp only[show((5:Int)==1)=false from rfl,show((5:Int)==2)=false from rfl,show((5:Int)==3)=false from rfl,show((5:Int)==4)=false from rfl,beq_self_eq_true,cond_true,cond_false,hkd 1 0]
      exact fin _ _ _ _ _
     ·have b5:(x.Kind==5)=false:=by simpa using h5
      by_cases h6:x.Kind=6
      ·rw[h6]
       simp only[show((6:Int)==1)=false from rfl,show((6:Int)==2)=false from rfl,show((6:Int)==3)=false from rfl,show((6:Int)==4)=false from rfl,show((6:Int)==5)=false from rfl,beq_self_eq_true,cond_true,cond_false,hkd 1 0]
       exact fin _ _ _ _ _
      ·have b6:(x.Kind==6)=false:=by simpa using h6
       simp only[b1,b2,b3,b4,b5,b6,cond_false]
       have:btw x.Kind 1 6=false:=by
        unfold btw
        rw[Bool.and_eq_false_iff,decide_eq_false_iff_not,decide_eq_false_iff_not];omega
       rw[this];simp
theorem Zgq {N:Nat}(w:List Int) (k:Int→Option Bool) (hl:w.length≤1000):∀(n i:Nat) (s:Int),(w.drop i).length<n→0≤s→s≤1000*i →
  Qc6 N w k n s i=bif (w.drop i).all (fun x=>btw x 0 1000) then k (s+(w.drop i).sum) else some false:=by
 intro n
 induction n with
 |zero=>intro i _ h;cases h
 |succ n ih=>
  intro i s h h0 h1
  rw[Qc6]
  cases hd:w.drop i with
  |nil=>
   have:=Qbw hd
   simp[show ¬((i:Int)<w.length) from by omega]
  |cons a l=>
   obtain⟨hg,hd',hlt⟩:=Qbh hd
   simp only[dlI hlt,cond_true,Qb0 hg,Option.bind_some,Q4j,List.all_cons]
   cases hb:btw a 0 1000 with
   |false=>rfl
   |true=>
    have hb':=Qgb.1 hb
    simp only[Bool.not_true,cond_false,Bool.true_and,List.sum_cons]
    rw[Qbp (x:=(i:Int)+1) (by omega) (by omega),Qbp (x:=s+a) (by omega) (by omega),show(i:Int)+1=((i+1:Nat):Int) by omega,ih (i+1) (s+a) (dlt hd hd' h) (by omega) (by omega),hd',Int.add_assoc]
theorem Q32 {w:List Int}(h:∀x∈w,0≤x):0≤w.sum∧(w.sum>0↔∃x∈w,x>0):=by
 induction w with
 |nil=>simp
 |cons a l ih=>
  obtain⟨h1,h2⟩:=ih fun x hx=>h x (List.mem_cons_of_mem _ hx)
  have ha:=h a List.mem_cons_self
  simp only[List.sum_cons,List.mem_cons,exists_eq_or_imp]
  refine⟨by omega,⟨fun hs=>?_,fun hs=>?_⟩⟩
  ·by_cases h3:a>0
   ·exact .inl h3
   ·exact .inr (h2.1 (by omega))
  ·rcases hs with hs |hs
   ·omega
   ·have:=h2.2 hs;omega
theorem Zc0 {N:Nat}{w:List Int}(hl:w.length≤1000) (hN:1001≤N):Qgn N w=some (wtsB w):=by
 unfold Qgn wtsB
 simp only[Qbi]
 have:=Zgq (N:=N) w (fun y1=>bif (decide ((w.length:Int)≤20)) then some (decide (y1>0)) else some false) hl N 0 0 (by simp;omega) (by omega) (by omega)
 rw[List.drop_zero,Int.zero_add] at this
 refine this.trans ?_
 cases ha:w.all fun x=>btw x 0 1000 with
 |false=>simp
 |true=>
  have ha':∀x∈w,0≤x:=fun x hx=>(Qgb.1 (List.all_eq_true.1 ha x hx)).1
  have hs:=(Q32 ha').2
  have e:(w.any fun x=>decide (x>0))=decide (w.sum>0):=by
   by_cases h:w.sum>0
   ·rw[decide_eq_true h,List.any_eq_true]
    obtain⟨x,h1,h2⟩:=hs.1 h
    exact⟨x,h1,by simpa using h2⟩
   ·rw[decide_eq_false h]
    rw[List.any_eq_false]
    exact fun x hx h2=>h (hs.2 ⟨x,hx,by simpa using h2⟩)
  rw[e,cond_true,Bool.true_and]
  by_cases h1:w.length=0
  ·have:w=[]:=List.length_eq_zero_iff.1 h1
   subst this
   rfl
  ·by_cases h2:(w.length:Int)≤20
   ·rw[show btw (w.length:Int) 1 20=true from Qgb.2 ⟨by omega,h2⟩,decide_eq_true h2];rfl
   ·rw[show btw (w.length:Int) 1 20=false by unfold btw;rw[decide_eq_false h2,Bool.and_false],decide_eq_false h2];rfl
theorem Zfn {N:Nat}{x:Qam}(hw:x.Weights.length≤1000) (hN:1001≤N):Qlj N x=some (Qiw x):=by
 unfold Qlj Qiw
 simp only[Qbi,Q4j,Zc0 hw hN,Option.bind_some]
 have hk:btw x.Kind 1 6=(!decide (x.Kind<1)&&!decide (x.Kind>6)):=by
  unfold btw
  by_cases h1:x.Kind<1
  ·rw[decide_eq_true h1,decide_eq_false (by omega)];rfl
  ·by_cases h2:x.Kind>6
   ·rw[decide_eq_true h2,decide_eq_false (show ¬x.Kind≤6 by omega)];simp
   ·rw[decide_eq_false h1,decide_eq_false h2,decide_eq_true (by omega),decide_eq_true (by omega)];rfl
 have hw0:((x.Weights.length:Int)==0)=decide (x.Weights.length=0):=by
  by_cases h0:x.Weights.length=0
  ·rw[h0];rfl
  ·rw[decide_eq_false h0,beq_eq_false_iff_ne];omega
 have fin2:∀(a b c:Bool),(bif !a then some false else bif !b then some false else some c)=some (a&&b&&c):=by
  intro a b c;cases a<;>cases b<;>cases c<;>rfl
 rw[hk,hw0]
 cases decide (x.Kind<1) with
 |true=>rfl
 |false=>
  cases decide (x.Kind>6) with
  |true=>rfl
  |false=>
   simp only[cond_false,Bool.not_false,Bool.true_and]
   cases btw x.Wide 0 1000000 with
   |false=>rfl
   |true=>
    cases btw x.Narrow 1 1000000000 with
    |false=>rfl
    |true=>
     simp only[Bool.not_true,cond_false,Bool.true_and]
     by_cases h1:x.Kind=1
     ·rw[h1]
      simp only[beq_self_eq_true,cond_true,show((1:Int)==2)=false from rfl,show((1:Int)==3)=false from rfl,show((1:Int)==4)=false from rfl,show((1:Int)==5)=false from rfl,cond_false]
      exact fin2 _ _ _
     ·have b1:(x.Kind==1)=false:=by simpa using h1
      simp only[b1,cond_false,if_neg h1]
      by_cases h2:x.Kind=2
      ·rw[h2]
       simp only[beq_self_eq_true,cond_true,show((2:Int)==3)=false from rfl,show((2:Int)==4)=false from rfl,show((2:Int)==5)=false from rfl,cond_false]
       exact fin2 _ _ _
      ·have b2:(x.Kind==2)=false:=by simpa using h2
       simp only[b2,cond_false,if_neg h2]
       by_cases h3:x.Kind=3
       ·rw[h3]
        simp only[beq_self_eq_true,cond_true,show((3:Int)==4)=false from rfl,show((3:Int)==5)=false from rfl,cond_false]
        exact fin2 _ _ _
       ·have b3:(x.Kind==3)=false:=by simpa using h3
        simp only[b3,cond_false,if_neg h3]
        by_cases h4:x.Kind=4
        ·rw[h4]
         simp only[beq_self_eq_true,cond_true,show((4:Int)==5)=false from rfl,cond_false]
         exact fin2 _ _ _
        ·have b4:(x.Kind==4)=false:=by simpa using h4
         simp only[b4,cond_false,if_neg h4]
         by_cases h5:x.Kind=5
         ·rw[h5]
          simp only[beq_self_eq_true,cond_true]
          exact fin2 _ _ _
         ·have b5:(x.Kind==5)=false:=by simpa using h5
          simp only[b5,cond_false,if_neg h5]
          exact fin2 _ _ _
theorem Zdc (N:Nat) (x:Qam):Qeu N x=some (outl x):=by
 unfold Qeu outl
 by_cases h4:x.Kind=4
 ·rw[h4];rfl
 ·by_cases h5:x.Kind=5
  ·rw[h5];rfl
  ·rw[show(x.Kind==4)=false by simpa using h4,show(x.Kind==5)=false by simpa using h5,if_neg h4,if_neg h5];rfl
theorem Zdb (N:Nat) (x:Qam):Qih N x=some (outl x):=by
 unfold Qih outl
 by_cases h4:x.Kind=4
 ·rw[h4];rfl
 ·by_cases h5:x.Kind=5
  ·rw[h5];rfl
  ·rw[show(x.Kind==4)=false by simpa using h4,show(x.Kind==5)=false by simpa using h5,if_neg h4,if_neg h5];rfl
end
end Go.Proofs.YtmbhnllcfmiajaaGreat
