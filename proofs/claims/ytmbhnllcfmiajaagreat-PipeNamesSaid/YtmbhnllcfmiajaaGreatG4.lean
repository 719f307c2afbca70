/-
  The texts X4, X5, X6, X7, X14, X12, X16, X8 of the proof, one behind the other. No conditions.
-/
import Derived.Test.YtmbhnllcfmiajaaGreatG3
namespace Go.Proofs.YtmbhnllcfmiajaaGreat
open _root_.Go.Proofs.Tryz
section
set_option maxRecDepth 100000
set_option maxHeartbeats 4000000
open Go.RowKit
def Qfk (_N:Nat) (p0:List Int):Option Unit:=
  chk (!p0.isEmpty)<|
  chk (!p0.isEmpty)<|
  chk (decide ((0+p0.length)*8≤140737488355328))<|
  some ()
def Zap:AV:=.acc 0 3 1 ((([]:List Int):List Int).map Qac)
theorem Qi9 (N:Nat) (p0:List Int) (r:Unit) (h:Qfk N p0=some r):Spec prog 95 [(.dat 1 (p0.map Qac))] [] (.own 0 1 (0) p0.length) [(.own 1 (p0.map Qac))]:=by
  refine Qam func95 rfl 1 (nle rfl) (fun X φ0 w0 hφ0 hd0=>?_)
  unfold Qfk at h
  refine Qbj<|wxz<|wsq ?_
  obtain⟨hz1,h⟩:=cko h
  refine wx tbk [(1,rp [(.tmp 3,(.dat 1 (p0.map Qac))),((.const (.slice none 0 0)),nilS)] (B false))] ⟨Qi1 rfl underlying27 rfl (Qfm hz1),tv⟩<|wfa<|Qat<|thn ?_
  obtain⟨ha3,h⟩:=cko h
  obtain⟨ha2,h⟩:=cko h
  refine wx tbk [(0,⟨[],[(0,.unused)],Zap,[(0,.tok)],false⟩),(2,⟨[(.tmp 5,Zap),(.tmp 6,(.dat 1 (p0.map Qac)))],[(0,.tok),(1,.unused)],(.own 1 1 (0) p0.length),[(0,.dead),(1,(.own 1 (p0.map Qac)))],false⟩)] ⟨Qe1 rfl underlying27 ti3 tz3,Qrx rfl underlying27 te3 (Base.acc _ _) rfl rfl (Qfm ha3) (Qid Qac Qgj _) (Qtb Qac ha2) (Qta Qac ha2 (by decide)) (List.length_map _),tv⟩ ?_
  refine wmr (mto (n:=8) (l':=[(2,(.own 0 1 (0) p0.length))]) (own':=[(.own 1 (p0.map Qac))]) [(2,(.own 1 1 (0) p0.length))] [1] [(.own 1 (p0.map Qac))] hφ0 (pc (.rn (Qaz rfl)) pn) (qc (spr Qae) qn))<|Qaj ?_
  obtain rfl:=osi h
  exact⟨_,Mor.rfl,Qca (vs:=[(.own 0 1 (0) p0.length)]) ⟨rot,tv⟩ rfl (NLt.own _ _ _ _ (by decide)) (by kernel_rfl) (Qai (Qbp Qae _) Qbe)⟩
theorem Qoj:DRet prog 96 [1,1]:=by
  refine Qo1 (t:=5) (args:=[.any,.any]) func96 rfl (fun _ _=>rfl) (by kernel_rfl) Q9e 0 (nle rfl) (fun X φ0 w0 hφ0=>?_)
  exact Qas<|wx tbk [(0,rp [(.tmp 5,(.lit .nilIface)),(.const .nilIface,(.lit .nilIface))] (B true))] ⟨Quo rfl underlying20,tv⟩<|wtr<|wxz1<|bln<|fend ⟨[],tv,rfl⟩ (.tup _ nl0)
def Qgg (_N:Nat) (p0:Qaf) (p1:Int):Option Int:=
  chk (p0.Narrow != 0)<|
  (some (if (w64 (p0.Wide-(w64 (p1.tdiv p0.Narrow))))>0 then w64 (p0.Wide-(w64 (p1.tdiv p0.Narrow))) else 0)).bind fun x2=>
  some x2
theorem Qg7 (N:Nat) (p0:Qaf) (p1 r:Int) (h:Qgg N p0 p1=some r):Spec prog 74 [(.agg (Qad p0)),(I p1)] [] (I r) []:=by
  refine Qam func74 rfl 0 (nle rfl) (fun X φ0 w0 hφ0 hd0=>?_)
  unfold Qgg at h
  refine wxz ?_
  obtain⟨hz1,h⟩:=cko h
  obtain⟨x2,hl3,h⟩:=bno h
  refine wxd tbk [(5,rp [(.tmp 7,I p1),(.tmp 9,I p0.Narrow)] (I (w64 (p1.tdiv p0.Narrow)))),(7,rp [ci 0,(.tmp 11,(I (w64 (p0.Wide-(w64 (p1.tdiv p0.Narrow))))))] (I x2))] ⟨Qn3 rfl (Qqn hz1),Qi0 hl3 (Qlm rfl),tv⟩<|Qaj ?_
  obtain rfl:=osi h
  exact fend ⟨[I x2],⟨rot,tv⟩,rfl⟩ nll
def Qha (_N:Nat) (_p0:Int) (_p1:List GRow) (_p2:List Qaf) (_p3 _p4 _p5:Nat) (_p6:List Qab) (_p7:Int) (_p8:List (List Qab)) (_p9:List Qbg) (_p10:List Int):Option Unit:=
  some ()
def Q3z (p1:List GRow) (p2:List Qaf) (p3 p4 p5:Nat) (p6:List Qab) (p7:Int):Slot:=.own 7 [[(.dat 5 (p1.map Qau)),(.dat 7 (p2.map Qad)),(.own 1 1 (0) p3),(.own 2 4 (0) p4),(.own 3 1 (0) p5),(.dat 4 (p6.map Qag)),(I p7)]]
def Q0c:AV:=.fn (.func 133) [] [(.ref 4 1 (0) 0),(.ref 5 1 (0) 0)]
def Q8f:Slot:=.own 1 [[(.ref 0 7 (0) 0)]]
theorem Ql1 (N:Nat) (p0:Int) (p1:List GRow) (p2:List Qaf) (p3 p4 p5:Nat) (p6:List Qab) (p7:Int) (p8:List (List Qab)) (p9:List Qbg) (p10:List Int) (r:Unit) (h:Qha N p0 p1 p2 p3 p4 p5 p6 p7 p8 p9 p10=some r):Spec prog 116 [(.ref 0 7 (0) 0),(I p0)] [(Q3z p1 p2 p3 p4 p5 p6 p7),(.own 1 (p8.map Qal)),(.own 4 (p9.map Qaw)),(.own 1 (p10.map Qac))] Q0c [(Q3z p1 p2 p3 p4 p5 p6 p7),(.own 1 (p8.map Qal)),(.own 4 (p9.map Qaw)),(.own 1 (p10.map Qac)),Q8f,(.own 1 [[(I p0)]])]:=by
  refine Qam func116 rfl 6 (nle rfl) (fun X φ0 w0 hφ0 hd0=>?_)
  unfold Qha at h
  refine Qbj<|wxz ?_
  refine wx tbk [(0,rp [(.tmp 2,.ref 4 1 0 0),(.tmp 3,.ref 5 1 0 0)] Q0c)] ⟨Qdv (fs:=[]) (cs:=[.ref 4 1 0 0,.ref 5 1 0 0]) rfl rfl rfl rfl,tv⟩ ?_
  refine wmr (mto (n:=6) (l':=[(4,Q0c)]) (own':=[(Q3z p1 p2 p3 p4 p5 p6 p7),(.own 1 (p8.map Qal)),(.own 4 (p9.map Qaw)),(.own 1 (p10.map Qac)),Q8f,(.own 1 [[I p0]])]) [(4,Q0c)] [0,1,2,3,4,5] [(Q3z p1 p2 p3 p4 p5 p6 p7),(.own 1 (p8.map Qal)),(.own 4 (p9.map Qaw)),(.own 1 (p10.map Qac)),Q8f,(.own 1 [[I p0]])] hφ0 (pc (.rn (Qa9 rn0 (rnc (rqr rfl) (rnc (rqr rfl) rn0)))) pn) (qb (lc (rnd Qak) (lc (rnd Qaa) (lc (.rn (Qaz rfl)) (lc (.rn (Qaz rfl)) (lc (.rn (Qaz rfl)) (lc (rnd Qah) (lc rwl ln))))))) (qc (spr Qan) (qc (spr Qa0) (qc (spr Qae) (qb (lc (.rn (rqr rfl)) ln) (qb (lc rwl ln) qn)))))))<|Qaj ?_
  obtain rfl:=osi h
  exact⟨_,Mor.rfl,Qca (vs:=[Q0c]) ⟨rot,tv⟩ rfl (NLt.fn _ _ _ nl0 (nlc (NLt.ref _ _ _ _ (by decide)) (nlc (NLt.ref _ _ _ _ (by decide)) nl0))) (by kernel_rfl) (Qai (Qav (nlc (NLt.of0 (nld Qak _)) (nlc (NLt.of0 (nld Qaa _)) (nlc (NLt.own _ _ _ _ (by decide)) (nlc (NLt.own _ _ _ _ (by decide)) (nlc (NLt.own _ _ _ _ (by decide)) (nlc (NLt.of0 (nld Qah _)) (nlc (NLt.of0 nll) nl0)))))))) (Qai (Qbp Qan _) (Qai (Qbp Qa0 _) (Qai (Qbp Qae _) (Qai (Qav (nlc (NLt.ref _ _ _ _ (by decide)) nl0)) (Qai (Qav (nlc (NLt.of0 nll) nl0)) Qbe))))))⟩
def Qcs (N:Nat) (p0:List Int) (k1:Unit→Option Int) (p1:Int):Nat→Int→Option Int
  |0,_=>none
  |n4+1,y2=>
    bif (decide (y2<(p0.length:Int))) then
     (getI p0 y2).bind fun x6=>
     bif (p1==x6) then
      some y2
     else
      Qcs N p0 k1 p1 n4 (w64 (y2+1))
    else
     k1 ()
def Qf1 (N:Nat) (p0:List Int) (p1:Int):Option Int:=
  Qdr (fun _=>
    some (-1)) fun k1:Unit→Option Int=>
  Qcs N p0 k1 p1 N 0
theorem Qgl (N:Nat) (p0:List Int) (p1 r:Int) (h:Qf1 N p0 p1=some r):Spec prog 134 [(.dat 1 (p0.map Qac)),(I p1)] [] (I r) []:=by
  refine Qam func134 rfl 0 (nle rfl) (fun X φ0 w0 hφ0 hd0=>?_)
  unfold Qf1 at h
  refine wxz ?_
  obtain⟨k1,hk_k1,h⟩:=jko h
  refine wjn (τ:=Unit) (fun t=>k1 t=some r) (fun _=>⟨mk 19 [],[]⟩) (fun t h=>?_) ?_
  ·subst hk_k1
   refine wxz<|Qaj ?_
   obtain rfl:=osi h
   exact fend ⟨[(I ((-1)))],⟨rot,tv⟩,rfl⟩ nll
  ·skip
   refine wx tbk [(1,rp _ _)] ⟨alq 1 Qac p0 underlying27,tv⟩<|Qas ?_
   refine wmr (mto (n:=19) (l':=[(0,(.dat 1 (p0.map Qac))),(1,I p1),(7,(I ((p0.length:Int)))),(8,I 0)]) (own':=[]) [(0,(.dat 1 (p0.map Qac))),(1,I p1),(7,(I ((p0.length:Int)))),(8,I 0)] [] [] hφ0 (pc (rnd Qae) (pw (pw (pw pn)))) qn) ?_
   refine Qb9 (τ:=Int) (fun n t=>Qcs N p0 k1 p1 n t=some r) (fun y2=>⟨mk 19 [(0,(.dat 1 (p0.map Qac))),(1,I p1),(7,(I ((p0.length:Int)))),(8,I y2)],[]⟩) (fun t h=>by rw[Qcs] at h;cases h) (fun n4 ih y2 h=>?_) N (0) h
   rw[Qcs] at h
   skip
   refine wxz<|wsq ?_
   refine bfe h (fun hc5 h=>?_) fun hc5 h=>?_
   ·refine wft hc5<|Qat<|thn<|wsq<|Qas<|wxz ?_
    obtain⟨x6,hg7,h⟩:=bno h
    obtain⟨hi8,hj9⟩:=gsm hg7
    refine wx tbk [(3,rp _ _)] ⟨aiq underlying27 ti3 Qac hi8 hj9,tv⟩ ?_
    refine bfe h (fun hc10 h=>?_) fun hc10 h=>?_
    ·refine wft hc10<|wxz<|Qaj<|Qa1<|Qap<|Qap<|Qa1<|Qap ?_
     obtain rfl:=osi h
     exact fend ⟨[I y2],⟨rot,tv⟩,rfl⟩ nll
    ·exact wfn hc10<|Qat<|bln<|thn<|wxz1<|thn<|arm (mto (n:=19) [(0,(.dat 1 (p0.map Qac))),(1,I p1),(7,(I ((p0.length:Int)))),(8,(I (w64 (y2+1))))] [] [] hφ0 (pc (rnd Qae) (pw (pw (pw pn)))) qn) (ih (w64 (y2+1)) h)
   ·exact wfn hc5<|Qbm<|Qa4<|Qa4<|Qbl rfl<|thn<|⟨(),h,(mto (n:=19) [] [] [] hφ0 pn qn)⟩
def Qc8 (N:Nat) (x1:Qaf) (p2:List (List Qab)):Nat→Int→Option (List Qab)
  |0,_=>none
  |n19+1,y15=>
    bif (decide (y15<(x1.From.length:Int))) then
     (getI x1.From y15).bind fun x21=>
     (getI p2 x21.Element).bind fun x25=>
     (getI x25 x21.Outlet).bind fun x29=>
     yld x29<|
     Qc8 N x1 p2 n19 (w64 (y15+1))
    else
     some ([])
def Qg9 (N:Nat) (p0:List GRow) (p1:List Qaf) (p2:List (List Qab)) (_p3:List Qbg) (_p4:List Int) (p5:List Qab) (_p6 p7:Int):Option (List Qab):=
  (getI p1 p7).bind fun x1=>
  bif (x1.Kind==1) then
   (Qfj N (⟨p0,p1⟩:GNet) 1).bind fun x7=>
   (Qf1 N x7 p7).bind fun x9=>
   (getI p5 x9).bind fun x10=>
   yld x10<|
   some ([])
  else
   Qc8 N x1 p2 N 0
def Qe5 (p1:List Qaf):AV:=.dat 7 (p1.map Qad)
def Qeo (p2:List (List Qab)):AV:=.dat 1 (p2.map Qal)
def Qe6 (p3:List Qbg):AV:=.dat 4 (p3.map Qaw)
def Qen (p5:List Qab):AV:=.dat 4 (p5.map Qag)
def Q3x (p0:List GRow) (p1:List Qaf):AV:=.agg [(.dat 5 (p0.map Qau)),(Qe5 p1)]
def Q3w (x10:Qab):AV:=.agg [(I x10.Mass),(I x10.Heat),(I x10.Silica),(I x10.Gas)]
def Q3v (x1:Qaf):AV:=.dat 2 (x1.From.map Qbc)
def Qox (x21:Qby):Slot:=.own 2 [[(I x21.Element),(I x21.Outlet)]]
def Qwv (x29:Qab):AV:=.agg [(I x29.Mass),(I x29.Heat),(I x29.Silica),(I x29.Gas)]
theorem Ql0 (N:Nat) (p0:List GRow) (p1:List Qaf) (p2:List (List Qab)) (p3:List Qbg) (p4:List Int) (p5:List Qab) (p6 p7:Int) (r:List Qab) (h:Qg9 N p0 p1 p2 p3 p4 p5 p6 p7=some r):Qq1 prog 133 [(.dptr [(.dptr [(.dat 5 (p0.map Qau)),(Qe5 p1),(Qeo p2),(Qe6 p3),(.dat 1 (p4.map Qac)),(Qen p5),(I p6)] 0)] 0),(.dptr [(I p7)] 0)] [] (fun x=>[(.agg #[(.int .i64 x.Mass),(.int .i64 x.Heat),(.int .i64 x.Silica),(.int .i64 x.Gas)])]) r:=by
  refine Qrh func133 rfl rfl (fun X φ0 w0 l J hφ0 hy=>?_)
  unfold Qg9 at h
  refine wsq ?_
  obtain⟨x1,hg2,h⟩:=bno h
  obtain⟨hi3,hj4⟩:=gsm hg2
  refine wxd tbk [(6,rp _ _)] ⟨aiq underlying40 Qfz Qad hi3 hj4,tv⟩ ?_
  refine bfe h (fun hc5 h=>?_) fun hc5 h=>?_
  ·refine wft hc5 ?_
   obtain⟨x7,hf6,h⟩:=bno h
   obtain⟨x9,hf8,h⟩:=bno h
   obtain⟨x10,hg11,h⟩:=bno h
   obtain⟨hi12,hj13⟩:=gsm hg11
   obtain⟨q14,hy_,hq_⟩:=Qvn h
   clear h
   subst hq_
   have h:=hy_
   clear hy_
   refine Qul 14 [mv 0 (.lit (.func (.yield l) #[] #[])),rp [(.tmp 1,(.dptr [(.dptr [(.dat 5 (p0.map Qau)),(Qe5 p1),(Qeo p2),(Qe6 p3),(.dat 1 (p4.map Qac)),(Qen p5),I p6] 0)] 0))] (.dptr [(.dat 5 (p0.map Qau)),(Qe5 p1),(Qeo p2),(Qe6 p3),(.dat 1 (p4.map Qac)),(Qen p5),I p6] 0),mv 17 (.dptr [(.dat 5 (p0.map Qau)),(Qe5 p1),(Qeo p2),(Qe6 p3),(.dat 1 (p4.map Qac)),(Qen p5),I p6] 0),rp [(.tmp 18,(.dptr [(.dat 5 (p0.map Qau)),(Qe5 p1),(Qeo p2),(Qe6 p3),(.dat 1 (p4.map Qac)),(Qen p5),I p6] 0))] (.dptr [(.dat 5 (p0.map Qau)),(Qe5 p1),(Qeo p2),(Qe6 p3),(.dat 1 (p4.map Qac)),(Qen p5),I p6] 5),rp [(.tmp 19,(.dptr [(.dat 5 (p0.map Qau)),(Qe5 p1),(Qeo p2),(Qe6 p3),(.dat 1 (p4.map Qac)),(Qen p5),I p6] 5))] (Qen p5),rp [(.tmp 1,(.dptr [(.dptr [(.dat 5 (p0.map Qau)),(Qe5 p1),(Qeo p2),(Qe6 p3),(.dat 1 (p4.map Qac)),(Qen p5),I p6] 0)] 0))] (.dptr [(.dat 5 (p0.map Qau)),(Qe5 p1),(Qeo p2),(Qe6 p3),(.dat 1 (p4.map Qac)),(Qen p5),I p6] 0),mv 21 (.dptr [(.dat 5 (p0.map Qau)),(Qe5 p1),(Qeo p2),(Qe6 p3),(.dat 1 (p4.map Qac)),(Qen p5),I p6] 0),mv 22 (.dptr [(.dat 5 (p0.map Qau)),(Qe5 p1),(Qeo p2),(Qe6 p3),(.dat 1 (p4.map Qac)),(Qen p5),I p6] 0),rp [(.tmp 23,(.dptr [(.dat 5 (p0.map Qau)),(Qe5 p1),(Qeo p2),(Qe6 p3),(.dat 1 (p4.map Qac)),(Qen p5),I p6] 0))] (Q3x p0 p1),rp [fu 67,(.tmp 24,(Q3x p0 p1)),(.const (.int .u8 1),(K .u8 (1)))] (.dat 1 (x7.map Qac)),rp [(.tmp 2,(.dptr [I p7] 0))] (I p7),rp [fu 134,(.tmp 25,(.dat 1 (x7.map Qac))),(.tmp 26,I p7)] (I x9),rp [(.tmp 20,(Qen p5)),(.tmp 27,I x9)] (.dptr (Qag x10) 0),rp [(.tmp 28,(.dptr (Qag x10) 0))] (Q3w x10),⟨[(.tmp 16,(.lit (.func (.yield l) #[] #[]))),(.tmp 29,(Q3w x10))],[(0,(.far (J (some (x10::q14)))))],B true,[(0,(.far (J (some q14))))],false⟩] [mv 0 (.lit (.func (.yield l) #[] #[])),rp [(.tmp 1,(.dptr [(.dptr [(.dat 5 (p0.map Qau)),(Qe5 p1),(Qeo p2),(Qe6 p3),(.dat 1 (p4.map Qac)),(Qen p5),I p6] 0)] 0))] (.dptr [(.dat 5 (p0.map Qau)),(Qe5 p1),(Qeo p2),(Qe6 p3),(.dat 1 (p4.map Qac)),(Qen p5),I p6] 0),mv 17 (.dptr [(.dat 5 (p0.map Qau)),(Qe5 p1),(Qeo p2),(Qe6 p3),(.dat 1 (p4.map Qac)),(Qen p5),I p6] 0),rp [(.tmp 18,(.dptr [(.dat 5 (p0.map Qau)),(Qe5 p1),(Qeo p2),(Qe6 p3),(.dat 1 (p4.map Qac)),(Qen p5),I p6] 0))] (.dptr [(.dat 5 (p0.map Qau)),(Qe5 p1),(Qeo p2),(Qe6 p3),(.dat 1 (p4.map Qac)),(Qen p5),I p6] 5),rp [(.tmp 19,(.dptr [(.dat 5 (p0.map Qau)),(Qe5 p1),(Qeo p2),(Qe6 p3),(.dat 1 (p4.map Qac)),(Qen p5),I p6] 5))] (Qen p5),rp [(.tmp 1,(.dptr [(.dptr [(.dat 5 (p0.map Qau)),(Qe5 p1),(Qeo p2),(Qe6 p3),(.dat 1 (p4.map Qac)),(Qen p5),I p6] 0)] 0))] (.dptr [(.dat 5 (p0.map Qau)),(Qe5 p1),(Qeo p2),(Qe6 p3),(.dat 1 (p4.map Qac)),(Qen p5),I p6] 0),mv 21 (.dptr [(.dat 5 (p0.map Qau)),(Qe5 p1),(Qeo p2),(Qe6 p3),(.dat 1 (p4.map Qac)),(Qen p5),I p6] 0),mv 22 (.dptr [(.dat 5 (p0.map Qau)),(Qe5 p1),(Qeo p2),(Qe6 p3),(.dat 1 (p4.map Qac)),(Qen p5),I p6] 0),rp [(.tmp 23,(.dptr [(.dat 5 (p0.map Qau)),(Qe5 p1),(Qeo p2),(Qe6 p3),(.dat 1 (p4.map Qac)),(Qen p5),I p6] 0))] (Q3x p0 p1),rp [fu 67,(.tmp 24,(Q3x p0 p1)),(.const (.int .u8 1),(K .u8 (1)))] (.dat 1 (x7.map Qac)),rp [(.tmp 2,(.dptr [I p7] 0))] (I p7),rp [fu 134,(.tmp 25,(.dat 1 (x7.map Qac))),(.tmp 26,I p7)] (I x9),rp [(.tmp 20,(Qen p5)),(.tmp 27,I x9)] (.dptr (Qag x10) 0),rp [(.tmp 28,(.dptr (Qag x10) 0))] (Q3w x10),⟨[(.tmp 16,(.lit (.func (.yield l) #[] #[]))),(.tmp 29,(Q3w x10))],[(0,(.far (J (some (x10::q14)))))],B false,[(0,(.far (J none)))],false⟩] (by exact⟨by kernel_rfl,by kernel_rfl⟩) (by exact⟨by kernel_rfl,by kernel_rfl⟩) rfl rfl rfl rfl (Qmz (rd':=(.tmp 16,.lit (.func (.yield l) #[] #[]))::[(.tmp 29,.lit (.agg #[(.int .i64 x10.Mass),(.int .i64 x10.Heat),(.int .i64 x10.Silica),(.int .i64 x10.Gas)]))]) ⟨rfl,lrf,rfl,(Less.lits [(.int .i64 x10.Mass),(.int .i64 x10.Heat),(.int .i64 x10.Silica),(.int .i64 x10.Gas)]),tv⟩ (Qlk (x:=x10) (rest:=q14) rfl rfl hy rfl)) (⟨fun _ _=>amv rfl,fun _ _=>ald_ rfl Qly (by decide) (nle rfl) rfl,fun _ _=>anc rfl rfl,fun _ _=>afd rfl underlying140 rfl rfl ti45 (by decide) rfl,fun _ _=>ald_ rfl ti45 (by decide) (nle rfl) rfl,fun _ _=>ald_ rfl Qly (by decide) (nle rfl) rfl,fun _ _=>anc rfl rfl,fun _ _=>afd rfl underlying140 rfl rfl ti42 (by decide) rfl,fun _ _=>ald_ rfl ti42 (by decide) (nle rfl) rfl,fun _ _=>apv Qmx (Qel N (⟨p0,p1⟩:GNet) 1 _ hf6) (nlc (NLt.agg _ (nlc (nld Qak _) (nlc (nld Qaa _) nl0))) (nlc nll nl0)) (nld Qae _),fun _ _=>ald_ rfl ti3 (by decide) (nle rfl) rfl,fun _ _=>apv Qx0 (Qgl N x7 p7 _ hf8) (nlc (nld Qae _) (nlc nll nl0)) nll,fun _ _=>aiq underlying45 ti63 Qag hi12 hj13,fun _ _=>ald_ rfl ti63 (by decide) (nle rfl) rfl,fun _ h=>absurd rfl h,tv⟩) (⟨fun _ _=>amv rfl,fun _ _=>ald_ rfl Qly (by decide) (nle rfl) rfl,fun _ _=>anc rfl rfl,fun _ _=>afd rfl underlying140 rfl rfl ti45 (by decide) rfl,fun _ _=>ald_ rfl ti45 (by decide) (nle rfl) rfl,fun _ _=>ald_ rfl Qly (by decide) (nle rfl) rfl,fun _ _=>anc rfl rfl,fun _ _=>afd rfl underlying140 rfl rfl ti42 (by decide) rfl,fun _ _=>ald_ rfl ti42 (by decide) (nle rfl) rfl,fun _ _=>apv Qmx (Qel N (⟨p0,p1⟩:GNet) 1 _ hf6) (nlc (NLt.agg _ (nlc (nld Qak _) (nlc (nld Qaa _) nl0))) (nlc nll nl0)) (nld Qae _),fun _ _=>ald_ rfl ti3 (by decide) (nle rfl) rfl,fun _ _=>apv Qx0 (Qgl N x7 p7 _ hf8) (nlc (nld Qae _) (nlc nll nl0)) nll,fun _ _=>aiq underlying45 ti63 Qag hi12 hj13,fun _ _=>ald_ rfl ti63 (by decide) (nle rfl) rfl,fun _ h=>absurd rfl h,tv⟩) ?_ ?_
   ·skip
    refine Qaj<|Qap ?_
    obtain rfl:=osi h
    exact Or.inl rfl
   ·clear h
    exact Qaj<|Qap<|Or.inr (by kernel_rfl)
  ·refine wfn hc5<|Qat<|thn ?_
   refine wxd tbk [(6,rp _ _),(9,rp _ _)] ⟨aiq underlying40 Qfz Qad hi3 hj4,alq 2 Qbc x1.From underlying116,tv⟩<|Qas ?_
   refine wmr (mto (n:=62) (l':=[(0,(.lit (.func (.yield l) #[] #[]))),(1,(.dptr [(.dptr [(.dat 5 (p0.map Qau)),(Qe5 p1),(Qeo p2),(Qe6 p3),(.dat 1 (p4.map Qac)),(Qen p5),I p6] 0)] 0)),(39,(Q3v x1)),(40,(I ((x1.From.length:Int)))),(41,I 0)]) (own':=[(.far (J (some r)))]) [(0,(.lit (.func (.yield l) #[] #[]))),(1,(.dptr [(.dptr [(.dat 5 (p0.map Qau)),(Qe5 p1),(Qeo p2),(Qe6 p3),(.dat 1 (p4.map Qac)),(Qen p5),I p6] 0)] 0)),(39,(Q3v x1)),(40,(I ((x1.From.length:Int)))),(41,I 0)] [0] [(.far (J (some r)))] hφ0 (pw (pc (.rn (.plain _ (NLt.dptr _ _ (nlc (NLt.dptr _ _ (nlc (nld Qak _) (nlc (nld Qaa _) (nlc (nld Qan _) (nlc (nld Qa0 _) (nlc (nld Qae _) (nlc (nld Qah _) (nlc nll nl0)))))))) nl0)))) (pc (rnd Qbo) (pw (pw pn))))) (qc (.far _) qn)) ?_
   refine Qb9 (τ:=(Int)×List Qab) (fun n t=>Qc8 N x1 p2 n t.1=some t.2) (fun ⟨y15,q16⟩=>⟨mk 62 [(0,(.lit (.func (.yield l) #[] #[]))),(1,(.dptr [(.dptr [(.dat 5 (p0.map Qau)),(Qe5 p1),(Qeo p2),(Qe6 p3),(.dat 1 (p4.map Qac)),(Qen p5),I p6] 0)] 0)),(39,(Q3v x1)),(40,(I ((x1.From.length:Int)))),(41,I y15)],[(.far (J (some q16)))]⟩) (fun t h=>by rw[Qc8] at h;cases h) (fun n19 ih t h=>?_) N ((0),r) h
   obtain⟨y15,q16⟩:=t
   rw[Qc8] at h
   try dsimp only at h
   refine wxz<|wsq ?_
   refine bfe h (fun hc20 h=>?_) fun hc20 h=>?_
   ·refine wft hc20<|Qat<|thn<|wsq<|Qas ?_
    obtain⟨x21,hg22,h⟩:=bno h
    obtain⟨hi23,hj24⟩:=gsm hg22
    refine wx tbk [(0,rp _ _)] ⟨aiq underlying116 Qk3 Qbc hi23 hj24,tv⟩ ?_
    obtain⟨x25,hg26,h⟩:=bno h
    obtain⟨hi27,hj28⟩:=gsm hg26
    obtain⟨x29,hg30,h⟩:=bno h
    obtain⟨hi31,hj32⟩:=gsm hg30
    obtain⟨q33,hy_,hq_⟩:=Qvn h
    clear h
    subst hq_
    have h:=hy_
    clear hy_
    refine Qul 14 [mv 0 (.lit (.func (.yield l) #[] #[])),rp [(.tmp 1,(.dptr [(.dptr [(.dat 5 (p0.map Qau)),(Qe5 p1),(Qeo p2),(Qe6 p3),(.dat 1 (p4.map Qac)),(Qen p5),I p6] 0)] 0))] (.dptr [(.dat 5 (p0.map Qau)),(Qe5 p1),(Qeo p2),(Qe6 p3),(.dat 1 (p4.map Qac)),(Qen p5),I p6] 0),mv 46 (.dptr [(.dat 5 (p0.map Qau)),(Qe5 p1),(Qeo p2),(Qe6 p3),(.dat 1 (p4.map Qac)),(Qen p5),I p6] 0),rp [(.tmp 47,(.dptr [(.dat 5 (p0.map Qau)),(Qe5 p1),(Qeo p2),(Qe6 p3),(.dat 1 (p4.map Qac)),(Qen p5),I p6] 0))] (.dptr [(.dat 5 (p0.map Qau)),(Qe5 p1),(Qeo p2),(Qe6 p3),(.dat 1 (p4.map Qac)),(Qen p5),I p6] 2),mv 48 (.dptr [(.dat 5 (p0.map Qau)),(Qe5 p1),(Qeo p2),(Qe6 p3),(.dat 1 (p4.map Qac)),(Qen p5),I p6] 2),rp [(.tmp 49,(.dptr [(.dat 5 (p0.map Qau)),(Qe5 p1),(Qeo p2),(Qe6 p3),(.dat 1 (p4.map Qac)),(Qen p5),I p6] 2))] (Qeo p2),rb [(.tmp 5,.ref 1 2 0 0)] [(1,(Qox x21))] (.ref 1 2 0 0),rb [(.tmp 51,.ref 1 2 0 0)] [(1,(Qox x21))] (I x21.Element),rp [(.tmp 50,(Qeo p2)),(.tmp 52,I x21.Element)] (.dptr (Qal x25) 0),rp [(.tmp 53,(.dptr (Qal x25) 0))] (.dat 4 (x25.map Qag)),rb [(.tmp 5,.ref 1 2 0 0)] [(1,(Qox x21))] (.ref 1 2 0 1),rb [(.tmp 55,.ref 1 2 0 1)] [(1,(Qox x21))] (I x21.Outlet),rp [(.tmp 54,(.dat 4 (x25.map Qag))),(.tmp 56,I x21.Outlet)] (.dptr (Qag x29) 0),rp [(.tmp 57,(.dptr (Qag x29) 0))] (Qwv x29),⟨[(.tmp 45,(.lit (.func (.yield l) #[] #[]))),(.tmp 58,(Qwv x29))],[(0,(.far (J (some (x29::q33)))))],B true,[(0,(.far (J (some q33))))],false⟩,rp [(.tmp 59,B true)] (B false)] [mv 0 (.lit (.func (.yield l) #[] #[])),rp [(.tmp 1,(.dptr [(.dptr [(.dat 5 (p0.map Qau)),(Qe5 p1),(Qeo p2),(Qe6 p3),(.dat 1 (p4.map Qac)),(Qen p5),I p6] 0)] 0))] (.dptr [(.dat 5 (p0.map Qau)),(Qe5 p1),(Qeo p2),(Qe6 p3),(.dat 1 (p4.map Qac)),(Qen p5),I p6] 0),mv 46 (.dptr [(.dat 5 (p0.map Qau)),(Qe5 p1),(Qeo p2),(Qe6 p3),(.dat 1 (p4.map Qac)),(Qen p5),I p6] 0),rp [(.tmp 47,(.dptr [(.dat 5 (p0.map Qau)),(Qe5 p1),(Qeo p2),(Qe6 p3),(.dat 1 (p4.map Qac)),(Qen p5),I p6] 0))] (.dptr [(.dat 5 (p0.map Qau)),(Qe5 p1),(Qeo p2),(Qe6 p3),(.dat 1 (p4.map Qac)),(Qen p5),I p6] 2),mv 48 (.dptr [(.dat 5 (p0.map Qau)),(Qe5 p1),(Qeo p2),(Qe6 p3),(.dat 1 (p4.map Qac)),(Qen p5),I p6] 2),rp [(.tmp 49,(.dptr [(.dat 5 (p0.map Qau)),(Qe5 p1),(Qeo p2),(Qe6 p3),(.dat 1 (p4.map Qac)),(Qen p5),I p6] 2))] (Qeo p2),rb [(.tmp 5,.ref 1 2 0 0)] [(1,(Qox x21))] (.ref 1 2 0 0),rb [(.tmp 51,.ref 1 2 0 0)] [(1,(Qox x21))] (I x21.Element),rp [(.tmp 50,(Qeo p2)),(.tmp 52,I x21.Element)] (.dptr (Qal x25) 0),rp [(.tmp 53,(.dptr (Qal x25) 0))] (.dat 4 (x25.map Qag)),rb [(.tmp 5,.ref 1 2 0 0)] [(1,(Qox x21))] (.ref 1 2 0 1),rb [(.tmp 55,.ref 1 2 0 1)] [(1,(Qox x21))] (I x21.Outlet),rp [(.tmp 54,(.dat 4 (x25.map Qag))),(.tmp 56,I x21.Outlet)] (.dptr (Qag x29) 0),rp [(.tmp 57,(.dptr (Qag x29) 0))] (Qwv x29),⟨[(.tmp 45,(.lit (.func (.yield l) #[] #[]))),(.tmp 58,(Qwv x29))],[(0,(.far (J (some (x29::q33)))))],B false,[(0,(.far (J none)))],false⟩,rp [(.tmp 59,B false)] (B true)] (by exact⟨by kernel_rfl,by kernel_rfl⟩) (by exact⟨by kernel_rfl,by kernel_rfl⟩) rfl rfl rfl rfl (Qmz (rd':=(.tmp 45,.lit (.func (.yield l) #[] #[]))::[(.tmp 58,.lit (.agg #[(.int .i64 x29.Mass),(.int .i64 x29.Heat),(.int .i64 x29.Silica),(.int .i64 x29.Gas)]))]) ⟨rfl,lrf,rfl,(Less.lits [(.int .i64 x29.Mass),(.int .i64 x29.Heat),(.int .i64 x29.Silica),(.int .i64 x29.Gas)]),tv⟩ (Qlk (x:=x29) (rest:=q33) rfl rfl hy rfl)) (⟨fun _ _=>amv rfl,fun _ _=>ald_ rfl Qly (by decide) (nle rfl) rfl,fun _ _=>anc rfl rfl,fun _ _=>afd rfl underlying140 rfl rfl ti34 (by decide) rfl,fun _ _=>afd rfl underlying34 rfl rfl ti31 (by decide) rfl,fun _ _=>ald_ rfl ti31 (by decide) (nle rfl) rfl,fun _ _=>afa rfl underlying120 rfl rfl ti3 (by decide) rfl,fun _ _=>ald rfl ti3 (by decide) rfl (nle rfl) rfl,fun _ _=>aiq underlying31 ti45 Qal hi27 hj28,fun _ _=>ald_ rfl ti45 (by decide) (nle rfl) rfl,fun _ _=>afa rfl underlying120 rfl rfl ti3 (by decide) rfl,fun _ _=>ald rfl ti3 (by decide) rfl (nle rfl) rfl,fun _ _=>aiq underlying45 ti63 Qag hi31 hj32,fun _ _=>ald_ rfl ti63 (by decide) (nle rfl) rfl,fun _ h=>absurd rfl h,fun _ _=>Qiz rfl,tv⟩) (⟨fun _ _=>amv rfl,fun _ _=>ald_ rfl Qly (by decide) (nle rfl) rfl,fun _ _=>anc rfl rfl,fun _ _=>afd rfl underlying140 rfl rfl ti34 (by decide) rfl,fun _ _=>afd rfl underlying34 rfl rfl ti31 (by decide) rfl,fun _ _=>ald_ rfl ti31 (by decide) (nle rfl) rfl,fun _ _=>afa rfl underlying120 rfl rfl ti3 (by decide) rfl,fun _ _=>ald rfl ti3 (by decide) rfl (nle rfl) rfl,fun _ _=>aiq underlying31 ti45 Qal hi27 hj28,fun _ _=>ald_ rfl ti45 (by decide) (nle rfl) rfl,fun _ _=>afa rfl underlying120 rfl rfl ti3 (by decide) rfl,fun _ _=>ald rfl ti3 (by decide) rfl (nle rfl) rfl,fun _ _=>aiq underlying45 ti63 Qag hi31 hj32,fun _ _=>ald_ rfl ti63 (by decide) (nle rfl) rfl,fun _ h=>absurd rfl h,fun _ _=>Qiz rfl,tv⟩) ?_ ?_
    ·skip
     exact wfa<|Qat<|bln<|thn<|wxz1<|thn<|arm (mto (n:=62) [(0,(.lit (.func (.yield l) #[] #[]))),(1,(.dptr [(.dptr [(.dat 5 (p0.map Qau)),(Qe5 p1),(Qeo p2),(Qe6 p3),(.dat 1 (p4.map Qac)),(Qen p5),I p6] 0)] 0)),(39,(Q3v x1)),(40,(I ((x1.From.length:Int)))),(41,(I (w64 (y15+1))))] [0] [(.far (J (some q33)))] hφ0 (pw (pc (.rn (.plain _ (NLt.dptr _ _ (nlc (NLt.dptr _ _ (nlc (nld Qak _) (nlc (nld Qaa _) (nlc (nld Qan _) (nlc (nld Qa0 _) (nlc (nld Qae _) (nlc (nld Qah _) (nlc nll nl0)))))))) nl0)))) (pc (rnd Qbo) (pw (pw pn))))) (qc (.far _) qn)) (ih ((w64 (y15+1)),q33) h)
    ·clear h
     exact wtr<|Qaj<|Qa1<|Qap<|Qap<|Qa1<|Or.inr (by kernel_rfl)
   ·refine wfn hc20<|Qbm<|Qa4<|Qa4<|Qbl rfl ?_
    obtain rfl:=osi h
    exact Or.inl rfl
def Qa8 (N:Nat) (k3:(List Qab)→Option (List Qab)):(List Qab)→(List Qab)→Option (List Qab)
  |[],y6=>
    k3 (y6)
  |x9::q10,y6=>
    chk (decide ((y6.length+([x9]).length)*32≤140737488355328))<|
    Qa8 N k3 q10 (y6++([x9]))
def Qcd (N:Nat) (p0:List GRow) (p1:List Qaf) (p2:List (List Qab)) (p3:List Qbg) (p4:List Int) (p5:List Qab) (p6 p7:Int):Option (List Qab):=
  Qdr (fun y2=>
    some y2) fun k3:(List Qab)→Option (List Qab)=>
  (Qg9 N p0 p1 p2 p3 p4 p5 p6 p7).bind fun q4=>
  Qa8 N k3 q4 ([])
def Q8e (p0:List GRow) (p1:List Qaf) (p2:List (List Qab)) (p3:List Qbg) (p4:List Int) (p5:List Qab) (p6 p7:Int):AV:=.fn (.func 133) [] [(.dptr [(.dptr [(.dat 5 (p0.map Qau)),(.dat 7 (p1.map Qad)),(.dat 1 (p2.map Qal)),(.dat 4 (p3.map Qaw)),(.dat 1 (p4.map Qac)),(.dat 4 (p5.map Qag)),(I p6)] 0)] 0),(.dptr [(I p7)] 0)]
def Q67 (x9:Qab):AV:=.agg [(I x9.Mass),(I x9.Heat),(I x9.Silica),(I x9.Gas)]
theorem Qex (N:Nat) (p0:List GRow) (p1:List Qaf) (p2:List (List Qab)) (p3:List Qbg) (p4:List Int) (p5:List Qab) (p6 p7:Int) (r:List Qab) (h:Qcd N p0 p1 p2 p3 p4 p5 p6 p7=some r):Spec prog 132 [nilS,(Q8e p0 p1 p2 p3 p4 p5 p6 p7)] [] (.acc 0 63 4 (r.map Qag)) [.tok]:=by
  refine Qam func132 rfl 1 (nle rfl) (fun X φ0 w0 hφ0 hd0=>?_)
  unfold Qcd at h
  refine Qbj<|wxz ?_
  obtain⟨k3,hk_k3,h⟩:=jko h
  refine wjn (τ:=(List Qab)) (fun t=>k3 t=some r) (fun y2=>⟨mk 13 [(2,.ref 0 1 0 0)],[(.own 1 [[(.acc 1 63 4 (y2.map Qag))]]),.tok]⟩) (fun y2 h=>?_) ?_
  ·subst hk_k3
   refine wxz<|wmr (mto (n:=13) (l':=[(4,(.acc 0 63 4 (y2.map Qag)))]) (own':=[.tok]) [(4,(.acc 1 63 4 (y2.map Qag)))] [1] [.tok] hφ0 (pc (.rn (Qf8 rfl (Qd3 Qah _))) pn) (qc .tok qn))<|Qaj ?_
   obtain rfl:=osi h
   exact⟨_,Mor.rfl,Qca (vs:=[(.acc 0 63 4 (y2.map Qag))]) ⟨rot,tv⟩ rfl (NLt.acc _ _ _ _ (by decide) (Qso Qah _)) (by kernel_rfl) (Qai .tok Qbe)⟩
  ·skip
   refine wxz<|Qas ?_
   obtain⟨q4,hL5,h⟩:=bno h
   refine wmr (mto (n:=13) (l':=[(2,.ref 0 1 0 0),(6,(Q8e p0 p1 p2 p3 p4 p5 p6 p7))]) (own':=[(.own 1 [[nilS]])]) [(2,.ref 0 1 0 0),(6,(Q8e p0 p1 p2 p3 p4 p5 p6 p7))] [0] [(.own 1 [[nilS]])] hφ0 (prr (pc (.rn (Qa9 rn0 (rnc (.plain _ (NLt.dptr _ _ (nlc (NLt.dptr _ _ (nlc (nld Qak _) (nlc (nld Qaa _) (nlc (nld Qan _) (nlc (nld Qa0 _) (nlc (nld Qae _) (nlc (nld Qah _) (nlc nll nl0)))))))) nl0))) (rnc (.plain _ (NLt.dptr _ _ (nlc nll nl0))) rn0)))) pn)) (qb (lc rwl ln) qn)) ?_
   refine wmr (Qxq (n:=1) (ty:=63) (m:=4) (q:=0) (mq:=1) (c:=[nilS]) 0 (by kernel_rfl) (by kernel_rfl) (by kernel_rfl) (by decide)) ?_
   refine Qrr (τ:=((List Qab))) (kb:=1) (caps:=[(.dptr [(.dptr [(.dat 5 (p0.map Qau)),(.dat 7 (p1.map Qad)),(.dat 1 (p2.map Qal)),(.dat 4 (p3.map Qaw)),(.dat 1 (p4.map Qac)),(.dat 4 (p5.map Qag)),I p6] 0)] 0),(.dptr [I p7] 0)]) (σr:=[]) (encs:=fun x=>[(.agg #[(.int .i64 x.Mass),(.int .i64 x.Heat),(.int .i64 x.Silica),(.int .i64 x.Gas)])]) (fun x=>[(.agg [I x.Mass,I x.Heat,I x.Silica,I x.Gas])]) [] (fun n hn=>hφ0 n (Nat.le_trans (nle rfl) hn)) hd0 (Ql0 N p0 p1 p2 p3 p4 p5 p6 p7 _ hL5) Q5q (by kernel_rfl) (by kernel_rfl) (Qbd (rnc (.plain _ (NLt.dptr _ _ (nlc (NLt.dptr _ _ (nlc (nld Qak _) (nlc (nld Qaa _) (nlc (nld Qan _) (nlc (nld Qa0 _) (nlc (nld Qae _) (nlc (nld Qah _) (nlc nll nl0)))))))) nl0))) (rnc (.plain _ (NLt.dptr _ _ (nlc nll nl0))) rn0))) Qaq (by kernel_rfl) (fun _=>rfl) (fun x=>⟨(Less.unlits [(.int .i64 x.Mass),(.int .i64 x.Heat),(.int .i64 x.Silica),(.int .i64 x.Gas)]),tv⟩) (Q70 (Qph (NLt.ref _ _ _ _ (by decide)) (Qph (NLt.of0 (NLt.fn _ _ _ nl0 (nlc (NLt.dptr _ _ (nlc (NLt.dptr _ _ (nlc (nld Qak _) (nlc (nld Qaa _) (nlc (nld Qan _) (nlc (nld Qa0 _) (nlc (nld Qae _) (nlc (nld Qah _) (nlc nll nl0)))))))) nl0)) (nlc (NLt.dptr _ _ (nlc nll nl0)) nl0)))) Q1z))) (fun y6=>[(.own 1 [[(.acc 1 63 4 (y6.map Qag))]]),.tok]) (fun _=>rfl) (fun _=>rfl) (fun l t=>Qa8 N k3 l t=some r) ([]) h (by kernel_rfl) ?_ ?_
   ·intro l11 o12 X15 φ16 w17 hφ14 x9 q10 y6 h
    rw[Qa8] at h
    refine wxz1 ?_
    refine⟨by kernel_rfl,fun o13=>?_⟩
    refine Qas ?_
    obtain⟨ha18,h⟩:=cko h
    refine wx1 tbk [(2,rp [(.tmp 9,(Q67 x9))] (.dat 4 (([x9]:List Qab).map Qag))),(3,⟨[(.tmp 8,(.acc 1 63 4 (y6.map Qag))),(.tmp 10,(.dat 4 (([x9]:List Qab).map Qag)))],[(1,.tok),(4,.unused)],(.acc 4 63 4 ((y6++([x9]):List Qab).map Qag)),[(1,.dead),(4,.tok)],false⟩)] ⟨Qbi (vs:=[(Q67 x9)]) rfl underlying45 ti63 tz63 rfl (by decide) rfl (by decide) (by rfl) (by rfl) (by rfl) rfl,Qft rfl underlying45 te63 (Base.acc _ _) rfl rfl (by rfl) (Qi4 Qag ha18) (Qi3 Qag ha18 (by decide)) (Qi2 Qag) rfl rfl,tv⟩<|bln ?_
    exact⟨(y6++([x9])),h,Q7w (own':=[(.own 1 [[(.acc 1 63 4 (((y6++([x9])):List Qab).map Qag))]]),.tok,(.far (farL l11 o13))]) [0,4,2] [(.own 1 [[(.acc 4 63 4 ((y6++([x9]):List Qab).map Qag))]]),.tok,(.far (farL l11 o13))] (by kernel_rfl) (by kernel_rfl) ⟨(spb (lc (.rn (Qf8 rfl (Qd3 Qah _))) ln)),.tok,.far _,tv⟩⟩
   ·intro y6 h
    rw[Qa8] at h
    exact bln<|thn<|⟨(y6),h,(mto (n:=13) [(2,.ref 0 1 0 0)] [0,1] [(.own 1 [[(.acc 1 63 4 (y6.map Qag))]]),.tok] hφ0 (prr pn) (qb (lc (.rn (Qf8 rfl (Qd3 Qah _))) ln) (qc .tok qn)))⟩
def Qdl (N:Nat) (p0:List GRow) (p1:List Qaf) (p2:List (List Qab)) (p3:List Qbg) (p4:List Int) (p5:List Qab) (p6 p7:Int):Option (List Qab):=
  (Qcd N p0 p1 p2 p3 p4 p5 p6 p7).bind fun x3=>
  some x3
def Zam (p0:List GRow) (p1:List Qaf) (p2:List (List Qab)) (p3:List Qbg) (p4:List Int) (p5:List Qab) (p6 p7:Int):AV:=.fn (.func 133) [] [(.dptr [(.dptr [(.dat 5 (p0.map Qau)),(.dat 7 (p1.map Qad)),(.dat 1 (p2.map Qal)),(.dat 4 (p3.map Qaw)),(.dat 1 (p4.map Qac)),(.dat 4 (p5.map Qag)),(I p6)] 0)] 0),(.dptr [(I p7)] 0)]
def Q3y (x3:List Qab):AV:=.acc 0 63 4 (x3.map Qag)
theorem Qgy (N:Nat) (p0:List GRow) (p1:List Qaf) (p2:List (List Qab)) (p3:List Qbg) (p4:List Int) (p5:List Qab) (p6 p7:Int) (r:List Qab) (h:Qdl N p0 p1 p2 p3 p4 p5 p6 p7=some r):Spec prog 115 [(Zam p0 p1 p2 p3 p4 p5 p6 p7)] [] (.acc 0 63 4 (r.map Qag)) [.tok]:=by
  refine Qam func115 rfl 1 (nle rfl) (fun X φ0 w0 hφ0 hd0=>?_)
  unfold Qdl at h
  refine Qbj<|wxz ?_
  obtain⟨x3,hf2,h⟩:=bno h
  refine wx tbk [(1,⟨_,_,_,_,false⟩)] ⟨Qar (first:=[]) (cap:=[]) (vs:=[nilS,(Zam p0 p1 p2 p3 p4 p5 p6 p7)]) (σr:=[]) (σr':=[.tok]) (res':=(Q3y x3)) [0] rfl Q5r (Qex N p0 p1 p2 p3 p4 p5 p6 p7 _ hf2) rfl (Qbd (rnc (.plain _ nll) (rnc (.plain _ (NLt.fn _ _ _ nl0 (nlc (NLt.dptr _ _ (nlc (NLt.dptr _ _ (nlc (nld Qak _) (nlc (nld Qaa _) (nlc (nld Qan _) (nlc (nld Qa0 _) (nlc (nld Qae _) (nlc (nld Qah _) (nlc nll nl0)))))))) nl0)) (nlc (NLt.dptr _ _ (nlc nll nl0)) nl0)))) rn0))) Qaq (slc .tok Qaq) (Q1r rfl (Qd3 Qah _)) rfl rfl rfl,tv⟩ ?_
  refine wmr (mto (n:=5) (l':=[(2,(Q3y x3))]) (own':=[.tok]) [(2,(Q3y x3))] [0] [.tok] hφ0 (pc (.rn (Qf8 rfl (Qd3 Qah _))) pn) (qc .tok qn))<|Qaj ?_
  obtain rfl:=osi h
  exact⟨_,Mor.rfl,Qca (vs:=[(Q3y x3)]) ⟨rot,tv⟩ rfl (NLt.acc _ _ _ _ (by decide) (Qso Qah _)) (by kernel_rfl) (Qai .tok Qbe)⟩
def Qe9 (_N:Nat) (_p0:Int) (p1:Qab) (_p2:List GRow) (_p3:List Qaf) (_p4 _p5 _p6:Nat) (_p7:List Qab) (_p8:Int) (_p9:List (List Qab)) (_p10:List Qbg) (_p11:List Int):Option (List Qab):=
  some ([p1])
def Q8d (p1:Qab):AV:=.agg [(I p1.Mass),(I p1.Heat),(I p1.Silica),(I p1.Gas)]
def Q3t (p2:List GRow) (p3:List Qaf) (p4 p5 p6:Nat) (p7:List Qab) (p8:Int):Slot:=.own 7 [[(.dat 5 (p2.map Qau)),(.dat 7 (p3.map Qad)),(.own 1 1 (0) p4),(.own 2 4 (0) p5),(.own 3 1 (0) p6),(.dat 4 (p7.map Qag)),(I p8)]]
def Q3u (p1:Qab):AV:=.dat 4 (([p1]:List Qab).map Qag)
theorem Qf9 (N:Nat) (p0:Int) (p1:Qab) (p2:List GRow) (p3:List Qaf) (p4 p5 p6:Nat) (p7:List Qab) (p8:Int) (p9:List (List Qab)) (p10:List Qbg) (p11:List Int) (r:List Qab) (h:Qe9 N p0 p1 p2 p3 p4 p5 p6 p7 p8 p9 p10 p11=some r):Spec prog 117 [(.ref 0 7 (0) 0),(I p0),(Q8d p1)] [(Q3t p2 p3 p4 p5 p6 p7 p8),(.own 1 (p9.map Qal)),(.own 4 (p10.map Qaw)),(.own 1 (p11.map Qac))] (.dat 4 (r.map Qag)) [(Q3t p2 p3 p4 p5 p6 p7 p8),(.own 1 (p9.map Qal)),(.own 4 (p10.map Qaw)),(.own 1 (p11.map Qac))]:=by
  refine Qam func117 rfl 4 (nle rfl) (fun X φ0 w0 hφ0 hd0=>?_)
  unfold Qe9 at h
  refine Qbj<|wxz ?_
  refine wx tbk [(1,rp [(.tmp 7,(Q8d p1))] (Q3u p1))] ⟨Qbi (vs:=[(Q8d p1)]) rfl underlying45 ti63 tz63 rfl (by decide) rfl (by decide) (by rfl) (by rfl) (by rfl) rfl,tv⟩ ?_
  refine wmr (mto (n:=9) (l':=[(6,(Q3u p1))]) (own':=[(Q3t p2 p3 p4 p5 p6 p7 p8),(.own 1 (p9.map Qal)),(.own 4 (p10.map Qaw)),(.own 1 (p11.map Qac))]) [(6,(Q3u p1))] [0,1,2,3] [(Q3t p2 p3 p4 p5 p6 p7 p8),(.own 1 (p9.map Qal)),(.own 4 (p10.map Qaw)),(.own 1 (p11.map Qac))] hφ0 (pc (rnd Qah) pn) (qb (lc (rnd Qak) (lc (rnd Qaa) (lc (.rn (Qaz rfl)) (lc (.rn (Qaz rfl)) (lc (.rn (Qaz rfl)) (lc (rnd Qah) (lc rwl ln))))))) (qc (spr Qan) (qc (spr Qa0) (qc (spr Qae) qn)))))<|Qaj ?_
  obtain rfl:=osi h
  exact⟨_,Mor.rfl,Qca (vs:=[(Q3u p1)]) ⟨rot,tv⟩ rfl (NLt.of0 (nld Qah _)) (by kernel_rfl) (Qai (Qav (nlc (NLt.of0 (nld Qak _)) (nlc (NLt.of0 (nld Qaa _)) (nlc (NLt.own _ _ _ _ (by decide)) (nlc (NLt.own _ _ _ _ (by decide)) (nlc (NLt.own _ _ _ _ (by decide)) (nlc (NLt.of0 (nld Qah _)) (nlc (NLt.of0 nll) nl0)))))))) (Qai (Qbp Qan _) (Qai (Qbp Qa0 _) (Qai (Qbp Qae _) Qbe))))⟩
def Qhb (_N:Nat) (p0:Int) (p1:Qab) (_p2:List GRow) (p3:List Qaf) (_p4 p5 _p6:Nat) (_p7:List Qab) (_p8:Int) (_p9:List (List Qab)) (p10:List Qbg) (_p11:List Int):Option ((List Qab)×(List Qbg)):=
  (getI p3 p0).bind fun x3=>
  (some (if p1.Heat<x3.Amount then p1.Heat else x3.Amount)).bind fun x7=>
  chk (decide (0≤p0)&&decide (p0.toNat<p5))<|
  (p10[p0.toNat]?).bind fun x10=>
  some ([(⟨p1.Mass,w64 (p1.Heat-x7),p1.Silica,p1.Gas⟩:Qab)],p10.set p0.toNat (⟨x7,x10.Silica,x10.Gas,x10.Scale⟩:Qbg))
def Qyn (p2:List GRow) (p3:List Qaf) (p4 p5 p6:Nat) (p7:List Qab) (p8:Int):Slot:=.own 7 [[(.dat 5 (p2.map Qau)),(.dat 7 (p3.map Qad)),(.own 1 1 (0) p4),(.own 2 4 (0) p5),(.own 3 1 (0) p6),(.dat 4 (p7.map Qag)),(I p8)]]
def Q66 (p1:Qab) (x7:Int):AV:=.agg [(I p1.Mass),(I (w64 (p1.Heat-x7))),(I p1.Silica),(I p1.Gas)]
def Qwu (p1:Qab) (x7:Int):AV:=.dat 4 (([(⟨p1.Mass,w64 (p1.Heat-x7),p1.Silica,p1.Gas⟩:Qab)]:List Qab).map Qag)
theorem Ql2 (N:Nat) (p0:Int) (p1:Qab) (p2:List GRow) (p3:List Qaf) (p4 p5 p6:Nat) (p7:List Qab) (p8:Int) (p9:List (List Qab)) (p10:List Qbg) (p11:List Int) (r:((List Qab)×(List Qbg))) (h:Qhb N p0 p1 p2 p3 p4 p5 p6 p7 p8 p9 p10 p11=some r):Spec prog 118 [(.ref 0 7 (0) 0),(I p0),(.agg [(I p1.Mass),(I p1.Heat),(I p1.Silica),(I p1.Gas)])] [(Qyn p2 p3 p4 p5 p6 p7 p8),(.own 1 (p9.map Qal)),(.own 4 (p10.map Qaw)),(.own 1 (p11.map Qac))] (.dat 4 (r.1.map Qag)) [(Qyn p2 p3 p4 p5 p6 p7 p8),(.own 1 (p9.map Qal)),(.own 4 (r.2.map Qaw)),(.own 1 (p11.map Qac))]:=by
  refine Qam func118 rfl 4 (nle rfl) (fun X φ0 w0 hφ0 hd0=>?_)
  unfold Qhb at h
  refine Qbj<|wxz ?_
  obtain⟨x3,hg4,h⟩:=bno h
  obtain⟨hi5,hj6⟩:=gsm hg4
  obtain⟨x7,hl8,h⟩:=bno h
  refine wxd tbk [(1,rb [(.tmp 8,.ref 0 7 0 0)] [(0,(Qyn p2 p3 p4 p5 p6 p7 p8))] (.ref 0 7 0 0)),(6,rp _ _),(11,rp [(.tmp 16,I x3.Amount),(.tmp 18,I p1.Heat)] (I ((if p1.Heat<x3.Amount then p1.Heat else x3.Amount)))),(12,rp [(.tmp 19,(I ((if p1.Heat<x3.Amount then p1.Heat else x3.Amount))))] (I x7))] ⟨Qa6 rfl,aiq underlying40 Qfz Qad hi5 hj6,Qn5 rfl,Qi0 hl8 (aas rfl),tv⟩ ?_
  obtain⟨hi9,h⟩:=cko h
  obtain⟨hi9a,hi9b⟩:=Qcx hi9
  obtain⟨x10,hg11,h⟩:=bno h
  refine wx tbk [(1,rb [(.tmp 20,.ref 0 7 0 0)] [(0,(Qyn p2 p3 p4 p5 p6 p7 p8))] (.ref 0 7 0 0)),(7,rb [(.tmp 24,(.own 2 4 (0) p5)),(.tmp 25,I p0)] [(2,(.own 4 (p10.map Qaw)))] (.ref 2 4 p0.toNat 0)),(9,⟨[(.tmp 28,(.ref 2 4 p0.toNat 0)),(.tmp 26,I x7)],[(2,(.own 4 (p10.map Qaw)))],.any,[(2,(.own 4 ((p10.set p0.toNat (⟨x7,x10.Silica,x10.Gas,x10.Scale⟩:Qbg):List Qbg).map Qaw)))],false⟩)] ⟨Qa6 rfl,aio rfl underlying32 ti82 (odt hi9a) (odt hi9b) (Nat.zero_add _),ast rfl ti3 (by rfl) (mgt Qaw hg11) (nle rfl) (Qd2 Qaw rfl),tv⟩<|wxz ?_
  refine wx tbk [(1,rp [(.tmp 34,(Q66 p1 x7))] (Qwu p1 x7))] ⟨Qbi (vs:=[(Q66 p1 x7)]) rfl underlying45 ti63 tz63 rfl (by decide) rfl (by decide) (by rfl) (by rfl) (by rfl) rfl,tv⟩ ?_
  refine wmr (mto (n:=36) (l':=[(6,(Qwu p1 x7))]) (own':=[(Qyn p2 p3 p4 p5 p6 p7 p8),(.own 1 (p9.map Qal)),(.own 4 (((p10.set p0.toNat (⟨x7,x10.Silica,x10.Gas,x10.Scale⟩:Qbg)):List Qbg).map Qaw)),(.own 1 (p11.map Qac))]) [(6,(Qwu p1 x7))] [0,1,2,3] [(Qyn p2 p3 p4 p5 p6 p7 p8),(.own 1 (p9.map Qal)),(.own 4 ((p10.set p0.toNat (⟨x7,x10.Silica,x10.Gas,x10.Scale⟩:Qbg):List Qbg).map Qaw)),(.own 1 (p11.map Qac))] hφ0 (pc (rnd Qah) pn) (qb (lc (rnd Qak) (lc (rnd Qaa) (lc (.rn (Qaz rfl)) (lc (.rn (Qaz rfl)) (lc (.rn (Qaz rfl)) (lc (rnd Qah) (lc rwl ln))))))) (qc (spr Qan) (qc (spr Qa0) (qc (spr Qae) qn)))))<|Qaj ?_
  obtain rfl:=osi h
  exact⟨_,Mor.rfl,Qca (vs:=[(Qwu p1 x7)]) ⟨rot,tv⟩ rfl (NLt.of0 (nld Qah _)) (by kernel_rfl) (Qai (Qav (nlc (NLt.of0 (nld Qak _)) (nlc (NLt.of0 (nld Qaa _)) (nlc (NLt.own _ _ _ _ (by decide)) (nlc (NLt.own _ _ _ _ (by decide)) (nlc (NLt.own _ _ _ _ (by decide)) (nlc (NLt.of0 (nld Qah _)) (nlc (NLt.of0 nll) nl0)))))))) (Qai (Qbp Qan _) (Qai (Qbp Qa0 _) (Qai (Qbp Qae _) Qbe))))⟩
def Qh1 (N:Nat) (p0:List GRow) (p1:Int):Option Bool:=
  (Qcw N p1 0 (w64 ((p0.length:Int)-1))).bind fun x2=>
  some x2
theorem Qml (N:Nat) (p0:List GRow) (p1:Int) (r:Bool) (h:Qh1 N p0 p1=some r):Spec prog 143 [(.dat 5 (p0.map Qau)),(I p1)] [] (B r) []:=by
  refine Qam func143 rfl 0 (nle rfl) (fun X φ0 w0 hφ0 hd0=>?_)
  unfold Qh1 at h
  refine wxz ?_
  obtain⟨x2,hf1,h⟩:=bno h
  exact wx tbk [(2,rp _ _),(4,rp _ _)] ⟨alq 5 Qau p0 underlying39,apv Qg5 (Qci N p1 0 (w64 ((p0.length:Int)-1)) _ hf1) (nlcc (nlc nll nl0)) nll,tv⟩<|Qaj<|frb h
def Qim (_N:Nat) (p0:List GRow) (p1:Int):Option Qj7:=
  (getI p0 p1).bind fun x1=>
  some (⟨x1⟩:Qj7)
def Q8b (x1:GRow):AV:=.agg [(I x1.T),(I x1.P),(I x1.Liquid),(I x1.Vapour),(I x1.Silica)]
theorem Qnf (N:Nat) (p0:List GRow) (p1:Int) (r:Qj7) (h:Qim N p0 p1=some r):Spec prog 144 [(.dat 5 (p0.map Qau)),(I p1)] [] (.agg (Qs4 r)) []:=by
  refine Qam func144 rfl 0 (nle rfl) (fun X φ0 w0 hφ0 hd0=>?_)
  unfold Qim at h
  refine wxz ?_
  obtain⟨x1,hg2,h⟩:=bno h
  obtain⟨hi3,hj4⟩:=gsm hg2
  refine wx tbk [(2,rp _ _),(4,mv 8 (Q8b x1))] ⟨aiq underlying39 Qpa Qau hi3 hj4,Qay (vs:=[(Q8b x1)]) rfl Zc5 Zbr rfl (by rfl) rfl,tv⟩<|Qaj ?_
  obtain rfl:=osi h
  exact fend ⟨[(Q8b x1)],⟨Qbk (n:=0) (m:=5) (j:=0) (i:=0) (xs:=[[I x1.T,I x1.P,I x1.Liquid,I x1.Vapour,I x1.Silica]]) (by kernel_rfl) (by kernel_rfl) Zby (by decide) rfl (nle rfl) rfl,tv⟩,rfl⟩ (NLt.agg _ (nlcc (nlcc (nlc nll nl0))))
def Qgq (_N:Nat) (p0:Qj7) (p1:Qab):Option Int:=
  (some (w64 (p1.Heat-(w64 (p1.Mass*p0.Row.Liquid))))).bind fun x1=>
  bif (decide (x1≤0)) then
   some 0
  else
   bif (decide (p1.Heat≥(w64 (p1.Mass*p0.Row.Vapour)))) then
    some p1.Mass
   else
    chk ((w64 (p0.Row.Vapour-p0.Row.Liquid)) != 0)<|
    (some (w64 (x1.tdiv (w64 (p0.Row.Vapour-p0.Row.Liquid))))).bind fun x6=>
    some x6
theorem Qk4 (N:Nat) (p0:Qj7) (p1:Qab) (r:Int) (h:Qgq N p0 p1=some r):Spec prog 149 [(.agg (Qs4 p0)),(.agg (Qag p1))] [] (I r) []:=by
  refine Qam func149 rfl 0 (nle rfl) (fun X φ0 w0 hφ0 hd0=>?_)
  unfold Qgq at h
  refine wxz ?_
  obtain⟨x1,hl2,h⟩:=bno h
  refine wx tbk [(9,rp [(.tmp 14,(I (w64 (p1.Heat-(w64 (p1.Mass*p0.Row.Liquid))))))] (I x1))] ⟨Qi0 hl2 (aas rfl),tv⟩<|wsq<|Qas<|wxz ?_
  refine bfe h (fun hc3 h=>?_) fun hc3 h=>?_
  ·refine wft hc3<|wxz<|Qaj<|Qa1<|Qap ?_
   obtain rfl:=osi h
   exact fend ⟨[I 0],⟨rot,tv⟩,rfl⟩ nll
  ·refine wfn hc3<|wxz ?_
   refine bfe h (fun hc4 h=>?_) fun hc4 h=>?_
   ·refine wft hc4<|wxz<|Qaj<|Qa1<|Qap ?_
    obtain rfl:=osi h
    exact fend ⟨[I p1.Mass],⟨rot,tv⟩,rfl⟩ nll
   ·refine wfn hc4<|Qat<|bln<|thn ?_
    obtain⟨hz5,h⟩:=cko h
    obtain⟨x6,hl7,h⟩:=bno h
    refine wx tbk [(8,rp [(.tmp 30,I x1),(.tmp 37,(I (w64 (p0.Row.Vapour-p0.Row.Liquid))))] (I (w64 (x1.tdiv (w64 (p0.Row.Vapour-p0.Row.Liquid)))))),(9,rp [(.tmp 38,(I (w64 (x1.tdiv (w64 (p0.Row.Vapour-p0.Row.Liquid))))))] (I x6))] ⟨Qn3 rfl (Qqn hz5),Qi0 hl7 (aas rfl),tv⟩<|Qaj ?_
    obtain rfl:=osi h
    exact fend ⟨[I x6],⟨rot,tv⟩,rfl⟩ nll
def Qik (N:Nat) (p0:Qj7) (p1:Qab):Option Qgo:=
  (Qgq N (⟨(⟨p0.Row.T,p0.Row.P,p0.Row.Liquid,p0.Row.Vapour,p0.Row.Silica⟩:GRow)⟩:Qj7) p1).bind fun x2=>
  Qdr (fun ⟨y3,y4,y5,y6,y7,_,y9⟩=>
    (some (if (w64 (y6*p0.Row.Silica))<p1.Silica then w64 (y6*p0.Row.Silica) else p1.Silica)).bind fun x11=>
    bif (decide (y6>0)) then
     (some (if (w64 (y7-(w64 (y6*p0.Row.Liquid))))>0 then w64 (y7-(w64 (y6*p0.Row.Liquid))) else 0)).bind fun x14=>
     some (⟨(⟨y3,y4,0,y5⟩:Qab),(⟨y6,y7,x11,y9⟩:Qab),x14,w64 (p1.Silica-x11)⟩:Qgo)
    else
     some (⟨(⟨y3,y4,0,y5⟩:Qab),(⟨y6,y7,x11,y9⟩:Qab),0,w64 (p1.Silica-x11)⟩:Qgo)) fun k10:Int×Int×Int×Int×Int×Int×Int→Option Qgo=>
  bif (x2==0) then
   k10 (0,0,0,p1.Mass,p1.Heat,p1.Silica,p1.Gas)
  else
   bif (x2==p1.Mass) then
    k10 (x2,p1.Heat,p1.Gas,0,0,0,0)
   else
    k10 (x2,w64 (x2*p0.Row.Vapour),p1.Gas,w64 (p1.Mass-x2),w64 (p1.Heat-(w64 (x2*p0.Row.Vapour))),0,0)
def Q3s (p0:Qj7):Slot:=.own 5 [[(I p0.Row.T),(I p0.Row.P),(I p0.Row.Liquid),(I p0.Row.Vapour),(I p0.Row.Silica)]]
def Q3r (p1:Qab):Slot:=.own 4 [[(I p1.Mass),(I p1.Heat),(I p1.Silica),(I p1.Gas)]]
theorem Qne (N:Nat) (p0:Qj7) (p1:Qab) (r:Qgo) (h:Qik N p0 p1=some r):Spec prog 145 [(.agg (Qs4 p0)),(.agg (Qag p1))] [] (.agg (Qyb r)) []:=by
  refine Qam func145 rfl 0 (nle rfl) (fun X φ0 w0 hφ0 hd0=>?_)
  unfold Qik at h
  refine wxz ?_
  obtain⟨x2,hf1,h⟩:=bno h
  refine wx tbk [(2,rp _ _)] ⟨apv Q5e (Qk4 N (⟨(⟨p0.Row.T,p0.Row.P,p0.Row.Liquid,p0.Row.Vapour,p0.Row.Silica⟩:GRow)⟩:Qj7) p1 _ hf1) (nlc (NLt.agg _ (nlcc (nlcc (nlc nll nl0)))) (nlc (NLt.agg _ (nlcc (nlcc nl0))) nl0)) nll,tv⟩ ?_
  obtain⟨k10,hk_k10,h⟩:=jko h
  refine wjn (τ:=Int×Int×Int×Int×Int×Int×Int) (fun t=>k10 t=some r) (fun ⟨y3,y4,y5,y6,y7,y8,y9⟩=>⟨mk 87 [(2,.ref 0 5 0 0),(3,.ref 1 4 0 0),(4,.ref 2 10 0 0)],[(Q3s p0),(Q3r p1),(.own 10 [[I y3,I y4,I 0,I y5,I y6,I y7,I y8,I y9,I 0,I 0]])]⟩) (fun t h=>?_) ?_
  ·subst hk_k10
   obtain⟨y3,y4,y5,y6,y7,y8,y9⟩:=t
   obtain⟨x11,hl12,h⟩:=bno h
   refine wx tbk [(9,rp [(.tmp 52,I p1.Silica),(.tmp 59,(I (w64 (y6*p0.Row.Silica))))] (I x11))] ⟨Qi0 hl12 (Qn5 rfl),tv⟩<|wxe<|wsq<|wxz ?_
   refine bfe h (fun hc13 h=>?_) fun hc13 h=>?_
   ·refine wft hc13 ?_
    obtain⟨x14,hl15,h⟩:=bno h
    refine wx1 tbk [(11,rp [ci 0,(.tmp 83,(I (w64 (y7-(w64 (y6*p0.Row.Liquid))))))] (I x14))] ⟨Qi0 hl15 (Qlm rfl),tv⟩<|thn<|wxz<|Qaj ?_
    obtain rfl:=osi h
    exact fend ⟨[(.agg [I y3,I y4,I 0,I y5,I y6,I y7,I x11,I y9,I x14,(I (w64 (p1.Silica-x11)))])],⟨Qbk (n:=2) (m:=10) (j:=0) (i:=0) (xs:=[[I y3,I y4,I 0,I y5,I y6,I y7,I x11,I y9,I x14,(I (w64 (p1.Silica-x11)))]]) (by kernel_rfl) (by kernel_rfl) Qvp (by decide) rfl (nle rfl) rfl,tv⟩,rfl⟩ (NLt.agg _ (nlcc (nlcc (nlcc (nlcc (nlcc nl0))))))
   ·refine wfn hc13<|Qat<|thn<|wxz<|Qaj ?_
    obtain rfl:=osi h
    exact fend ⟨[(.agg [I y3,I y4,I 0,I y5,I y6,I y7,I x11,I y9,I 0,(I (w64 (p1.Silica-x11)))])],⟨Qbk (n:=2) (m:=10) (j:=0) (i:=0) (xs:=[[I y3,I y4,I 0,I y5,I y6,I y7,I x11,I y9,I 0,(I (w64 (p1.Silica-x11)))]]) (by kernel_rfl) (by kernel_rfl) Qvp (by decide) rfl (nle rfl) rfl,tv⟩,rfl⟩ (NLt.agg _ (nlcc (nlcc (nlcc (nlcc (nlcc nl0))))))
  ·skip
   refine Qas<|wxz ?_
   refine bfe h (fun hc16 h=>?_) fun hc16 h=>?_
   ·exact wft hc16<|wxz1<|bln<|thn<|⟨(0,0,0,p1.Mass,p1.Heat,p1.Silica,p1.Gas),h,(mto (n:=87) [(2,.ref 0 5 0 0),(3,.ref 1 4 0 0),(4,.ref 2 10 0 0)] [0,1,2] [(Q3s p0),(Q3r p1),(.own 10 [[I 0,I 0,I 0,I 0,I p1.Mass,I p1.Heat,I p1.Silica,I p1.Gas,I 0,I 0]])] hφ0 (prr (prr (prr pn))) (qb (lcc (lcc (lc rwl ln))) (qb (lcc (lcc ln)) (qb (lcc (lcc (lcc (lcc (lcc ln))))) qn))))⟩
   ·refine wfn hc16<|wxz ?_
    refine bfe h (fun hc17 h=>?_) fun hc17 h=>?_
    ·exact wft hc17<|wx1 tbk [(5,rp _ _)] ⟨Qay (vs:=[I x2,I p1.Heat,I p1.Gas]) rfl ts63 tz63 rfl (by rfl) rfl,tv⟩<|bln<|thn<|⟨(x2,p1.Heat,p1.Gas,0,0,0,0),h,(mto (n:=87) [(2,.ref 0 5 0 0),(3,.ref 1 4 0 0),(4,.ref 2 10 0 0)] [0,1,2] [(Q3s p0),(Q3r p1),(.own 10 [[I x2,I p1.Heat,I 0,I p1.Gas,I 0,I 0,I 0,I 0,I 0,I 0]])] hφ0 (prr (prr (prr pn))) (qb (lcc (lcc (lc rwl ln))) (qb (lcc (lcc ln)) (qb (lcc (lcc (lcc (lcc (lcc ln))))) qn))))⟩
    ·refine wfn hc17<|wx tbk [(8,rp _ _)] ⟨Qay (vs:=[I x2,(I (w64 (x2*p0.Row.Vapour))),I p1.Gas]) rfl ts63 tz63 rfl (by rfl) rfl,tv⟩ ?_
     exact wx1 tbk [(12,rp _ _)] ⟨Qay (vs:=[(I (w64 (p1.Mass-x2))),(I (w64 (p1.Heat-(w64 (x2*p0.Row.Vapour)))))]) rfl ts63 tz63 rfl (by rfl) rfl,tv⟩<|bln<|thn<|⟨(x2,w64 (x2*p0.Row.Vapour),p1.Gas,w64 (p1.Mass-x2),w64 (p1.Heat-(w64 (x2*p0.Row.Vapour))),0,0),h,(mto (n:=87) [(2,.ref 0 5 0 0),(3,.ref 1 4 0 0),(4,.ref 2 10 0 0)] [0,1,2] [(Q3s p0),(Q3r p1),(.own 10 [[I x2,(I (w64 (x2*p0.Row.Vapour))),I 0,I p1.Gas,(I (w64 (p1.Mass-x2))),(I (w64 (p1.Heat-(w64 (x2*p0.Row.Vapour))))),I 0,I 0,I 0,I 0]])] hφ0 (prr (prr (prr pn))) (qb (lcc (lcc (lc rwl ln))) (qb (lcc (lcc ln)) (qb (lcc (lcc (lcc (lcc (lcc ln))))) qn))))⟩
def Qk7 (N:Nat) (p0:List GRow) (p1:Int) (p2:Qab):Option (Qgo×Int):=
  (Qfx N p0).bind fun x2=>
  bif (!x2) then
   some ((⟨(⟨0,0,0,0⟩:Qab),(⟨0,0,0,0⟩:Qab),0,0⟩:Qgo),1)
  else
   (Qh1 N p0 p1).bind fun x5=>
   bif (!x5) then
    some ((⟨(⟨0,0,0,0⟩:Qab),(⟨0,0,0,0⟩:Qab),0,0⟩:Qgo),2)
   else
    (Qd9 N p2).bind fun x8=>
    bif (!x8) then
     some ((⟨(⟨0,0,0,0⟩:Qab),(⟨0,0,0,0⟩:Qab),0,0⟩:Qgo),1)
    else
     (Qim N p0 p1).bind fun x11=>
     (Qik N (⟨(⟨x11.Row.T,x11.Row.P,x11.Row.Liquid,x11.Row.Vapour,x11.Row.Silica⟩:GRow)⟩:Qj7) p2).bind fun x13=>
     some ((⟨(⟨x13.Steam.Mass,x13.Steam.Heat,x13.Steam.Silica,x13.Steam.Gas⟩:Qab),(⟨x13.Water.Mass,x13.Water.Heat,x13.Water.Silica,x13.Water.Gas⟩:Qab),x13.Rest,x13.Scale⟩:Qgo),0)
def Q8c:AV:=.agg [(I (0)),(I (0)),(I (0)),(I (0)),(I (0)),(I (0)),(I (0)),(I (0)),(I (0)),(I (0))]
def Zck (x13:Qgo):AV:=.agg [(I x13.Steam.Mass),(I x13.Steam.Heat),(I x13.Steam.Silica),(I x13.Steam.Gas),(I x13.Water.Mass),(I x13.Water.Heat),(I x13.Water.Silica),(I x13.Water.Gas),(I x13.Rest),(I x13.Scale)]
theorem Qpz (N:Nat) (p0:List GRow) (p1:Int) (p2:Qab) (r:(Qgo×Int)) (h:Qk7 N p0 p1 p2=some r):Spec prog 135 [(.dat 5 (p0.map Qau)),(I p1),(.agg (Qag p2))] [] (.tup [(.agg (Qyb r.1)),(I r.2)]) []:=by
  refine Qam func135 rfl 0 (nle rfl) (fun X φ0 w0 hφ0 hd0=>?_)
  unfold Qk7 at h
  refine wxz<|wsq<|Qas ?_
  obtain⟨x2,hf1,h⟩:=bno h
  refine wx tbk [(1,rp _ _)] ⟨apv Qx2 (Qhl N p0 _ hf1) (nlc (nld Qak _) nl0) nll,tv⟩ ?_
  refine bfe h (fun hc3 h=>?_) fun hc3 h=>?_
  ·refine wft hc3<|wx tbk [(0,rp _ _)] ⟨Qay (vs:=[]) rfl Q87 Q4j rfl (by rfl) rfl,tv⟩<|Qaj<|Qa1<|Qap ?_
   obtain rfl:=osi h
   exact fend ⟨[Q8c,I 1],⟨Qbk (n:=1) (m:=10) (j:=0) (i:=0) (xs:=[[I 0,I 0,I 0,I 0,I 0,I 0,I 0,I 0,I 0,I 0]]) (by kernel_rfl) (by kernel_rfl) Qvp (by decide) rfl (nle rfl) rfl,rot,tv⟩,rfl⟩ (NLt.tup _ (nlc (NLt.agg _ (nlcc (nlcc (nlcc (nlcc (nlcc nl0)))))) (nlc nll nl0)))
  ·refine wfn hc3 ?_
   obtain⟨x5,hf4,h⟩:=bno h
   refine wx tbk [(2,rp _ _)] ⟨apv Q5k (Qml N p0 p1 _ hf4) (nlc (nld Qak _) (nlc nll nl0)) nll,tv⟩ ?_
   refine bfe h (fun hc6 h=>?_) fun hc6 h=>?_
   ·refine wft hc6<|wx tbk [(0,rp _ _)] ⟨Qay (vs:=[]) rfl Q87 Q4j rfl (by rfl) rfl,tv⟩<|Qaj<|Qa1<|Qap ?_
    obtain rfl:=osi h
    exact fend ⟨[Q8c,I 2],⟨Qbk (n:=1) (m:=10) (j:=0) (i:=0) (xs:=[[I 0,I 0,I 0,I 0,I 0,I 0,I 0,I 0,I 0,I 0]]) (by kernel_rfl) (by kernel_rfl) Qvp (by decide) rfl (nle rfl) rfl,rot,tv⟩,rfl⟩ (NLt.tup _ (nlc (NLt.agg _ (nlcc (nlcc (nlcc (nlcc (nlcc nl0)))))) (nlc nll nl0)))
   ·refine wfn hc6 ?_
    obtain⟨x8,hf7,h⟩:=bno h
    refine wx tbk [(1,rp _ _)] ⟨apv Qsz (Qfv N p2 _ hf7) (nlc (NLt.agg _ (nlcc (nlcc nl0))) nl0) nll,tv⟩ ?_
    refine bfe h (fun hc9 h=>?_) fun hc9 h=>?_
    ·refine wft hc9<|wx tbk [(0,rp _ _)] ⟨Qay (vs:=[]) rfl Q87 Q4j rfl (by rfl) rfl,tv⟩<|Qaj<|Qa1<|Qap ?_
     obtain rfl:=osi h
     exact fend ⟨[Q8c,I 1],⟨Qbk (n:=1) (m:=10) (j:=0) (i:=0) (xs:=[[I 0,I 0,I 0,I 0,I 0,I 0,I 0,I 0,I 0,I 0]]) (by kernel_rfl) (by kernel_rfl) Qvp (by decide) rfl (nle rfl) rfl,rot,tv⟩,rfl⟩ (NLt.tup _ (nlc (NLt.agg _ (nlcc (nlcc (nlcc (nlcc (nlcc nl0)))))) (nlc nll nl0)))
    ·refine wfn hc9<|Qat<|bln<|thn ?_
     obtain⟨x11,hf10,h⟩:=bno h
     obtain⟨x13,hf12,h⟩:=bno h
     refine wxd tbk [(2,rp _ _),(4,rp _ _)] ⟨apv Q5j (Qnf N p0 p1 _ hf10) (nlc (nld Qak _) (nlc nll nl0)) (NLt.agg _ (nlcc (nlcc (nlc nll nl0)))),apv Q5i (Qne N (⟨(⟨x11.Row.T,x11.Row.P,x11.Row.Liquid,x11.Row.Vapour,x11.Row.Silica⟩:GRow)⟩:Qj7) p2 _ hf12) (nlc (NLt.agg _ (nlcc (nlcc (nlc nll nl0)))) (nlc (NLt.agg _ (nlcc (nlcc nl0))) nl0)) (NLt.agg _ (nlcc (nlcc (nlcc (nlcc (nlcc nl0)))))),tv⟩<|Qaj ?_
     obtain rfl:=osi h
     exact fend ⟨[(Zck x13),I 0],⟨Qbk (n:=1) (m:=10) (j:=0) (i:=0) (xs:=[[I x13.Steam.Mass,I x13.Steam.Heat,I x13.Steam.Silica,I x13.Steam.Gas,I x13.Water.Mass,I x13.Water.Heat,I x13.Water.Silica,I x13.Water.Gas,I x13.Rest,I x13.Scale]]) (by kernel_rfl) (by kernel_rfl) Qvp (by decide) rfl (nle rfl) rfl,rot,tv⟩,rfl⟩ (NLt.tup _ (nlc (NLt.agg _ (nlcc (nlcc (nlcc (nlcc (nlcc nl0)))))) (nlc nll nl0)))
def Qfy (N:Nat) (p0:Int) (p1:Qab) (p2:List Int) (_p3:List GRow) (_p4:List Qaf) (_p5 p6 _p7:Nat) (_p8:List Qab) (_p9:Int) (_p10:List (List Qab)) (p11:List Qbg) (_p12:List Int):Option ((List Qab)×(List Qbg)):=
  (Qk6 N p1 p2).bind fun x4=>
  chk (decide (0≤p0)&&decide (p0.toNat<p6))<|
  (p11[p0.toNat]?).bind fun x6=>
  chk (decide (0≤p0)&&decide (p0.toNat<p6))<|
  ((p11.set p0.toNat (⟨x4.2.1.Heat,x6.Silica,x6.Gas,x6.Scale⟩:Qbg))[p0.toNat]?).bind fun x9=>
  chk (decide (0≤p0)&&decide (p0.toNat<p6))<|
  (((p11.set p0.toNat (⟨x4.2.1.Heat,x6.Silica,x6.Gas,x6.Scale⟩:Qbg)).set p0.toNat (⟨x9.Heat,x4.2.1.Silica,x9.Gas,x9.Scale⟩:Qbg))[p0.toNat]?).bind fun x12=>
  some (x4.1,((p11.set p0.toNat (⟨x4.2.1.Heat,x6.Silica,x6.Gas,x6.Scale⟩:Qbg)).set p0.toNat (⟨x9.Heat,x4.2.1.Silica,x9.Gas,x9.Scale⟩:Qbg)).set p0.toNat (⟨x12.Heat,x12.Silica,x4.2.1.Gas,x12.Scale⟩:Qbg))
def Zcj (p1:Qab):AV:=.agg [(I p1.Mass),(I p1.Heat),(I p1.Silica),(I p1.Gas)]
def Quv (p3:List GRow) (p4:List Qaf) (p5 p6 p7:Nat) (p8:List Qab) (p9:Int):Slot:=.own 7 [[(.dat 5 (p3.map Qau)),(.dat 7 (p4.map Qad)),(.own 1 1 (0) p5),(.own 2 4 (0) p6),(.own 3 1 (0) p7),(.dat 4 (p8.map Qag)),(I p9)]]
def Qz8 (p11:List Qbg) (p0:Int) (x4:((List Qab)×Qm0×Int)) (x6:Qbg):Slot:=.own 4 ((p11.set p0.toNat (⟨x4.2.1.Heat,x6.Silica,x6.Gas,x6.Scale⟩:Qbg):List Qbg).map Qaw)
def Qz7 (p11:List Qbg) (p0:Int) (x4:((List Qab)×Qm0×Int)) (x6 x9:Qbg):Slot:=.own 4 (((p11.set p0.toNat (⟨x4.2.1.Heat,x6.Silica,x6.Gas,x6.Scale⟩:Qbg)).set p0.toNat (⟨x9.Heat,x4.2.1.Silica,x9.Gas,x9.Scale⟩:Qbg):List Qbg).map Qaw)
def Q60 (p11:List Qbg) (p0:Int) (x4:((List Qab)×Qm0×Int)) (x6 x9 x12:Qbg):Slot:=.own 4 ((((p11.set p0.toNat (⟨x4.2.1.Heat,x6.Silica,x6.Gas,x6.Scale⟩:Qbg)).set p0.toNat (⟨x9.Heat,x4.2.1.Silica,x9.Gas,x9.Scale⟩:Qbg)).set p0.toNat (⟨x12.Heat,x12.Silica,x4.2.1.Gas,x12.Scale⟩:Qbg):List Qbg).map Qaw)
theorem Qht (N:Nat) (p0:Int) (p1:Qab) (p2:List Int) (p3:List GRow) (p4:List Qaf) (p5 p6 p7:Nat) (p8:List Qab) (p9:Int) (p10:List (List Qab)) (p11:List Qbg) (p12:List Int) (r:((List Qab)×(List Qbg))) (h:Qfy N p0 p1 p2 p3 p4 p5 p6 p7 p8 p9 p10 p11 p12=some r):Spec prog 136 [(.ref 0 7 (0) 0),(I p0),(Zcj p1),(.dat 1 (p2.map Qac))] [(Quv p3 p4 p5 p6 p7 p8 p9),(.own 1 (p10.map Qal)),(.own 4 (p11.map Qaw)),(.own 1 (p12.map Qac))] (.dat 4 (r.1.map Qag)) [(Quv p3 p4 p5 p6 p7 p8 p9),(.own 1 (p10.map Qal)),(.own 4 (r.2.map Qaw)),(.own 1 (p12.map Qac))]:=by
  refine Qam func136 rfl 4 (nle rfl) (fun X φ0 w0 hφ0 hd0=>?_)
  unfold Qfy at h
  refine Qbj<|wxz ?_
  obtain⟨x4,hf3,h⟩:=bno h
  refine wx tbk [(2,rp _ _)] ⟨apv Q5h (Qpy N p1 p2 _ hf3) (nlc (NLt.agg _ (nlcc (nlcc nl0))) (nlc (nld Qae _) nl0)) (NLt.tup _ (nlc (nld Qah _) (nlc (NLt.agg _ (nlcc (nlc nll nl0))) (nlc nll nl0)))),tv⟩ ?_
  obtain⟨hi5,h⟩:=cko h
  obtain⟨hi5a,hi5b⟩:=Qcx hi5
  obtain⟨x6,hg7,h⟩:=bno h
  obtain⟨hi8,h⟩:=cko h
  obtain⟨hi8a,hi8b⟩:=Qcx hi8
  obtain⟨x9,hg10,h⟩:=bno h
  obtain⟨hi11,h⟩:=cko h
  obtain⟨hi11a,hi11b⟩:=Qcx hi11
  obtain⟨x12,hg13,h⟩:=bno h
  refine wxd tbk [(1,rb [(.tmp 19,.ref 0 7 0 0)] [(0,(Quv p3 p4 p5 p6 p7 p8 p9))] (.ref 0 7 0 0)),(7,rb [(.tmp 25,.ref 0 7 0 0)] [(0,(Quv p3 p4 p5 p6 p7 p8 p9))] (.ref 0 7 0 0)),(13,rb [(.tmp 31,.ref 0 7 0 0)] [(0,(Quv p3 p4 p5 p6 p7 p8 p9))] (.ref 0 7 0 0)),(24,rb [(.tmp 23,(.own 2 4 (0) p6)),(.tmp 24,I p0)] [(2,(.own 4 (p11.map Qaw)))] (.ref 2 4 p0.toNat 0)),(26,⟨[(.tmp 44,(.ref 2 4 p0.toNat 0)),(.tmp 38,I x4.2.1.Heat)],[(2,(.own 4 (p11.map Qaw)))],.any,[(2,(Qz8 p11 p0 x4 x6))],false⟩),(27,rb [(.tmp 29,(.own 2 4 (0) p6)),(.tmp 30,I p0)] [(2,(Qz8 p11 p0 x4 x6))] (.ref 2 4 p0.toNat 0)),(29,⟨[(.tmp 46,(.ref 2 4 p0.toNat 1)),(.tmp 40,I x4.2.1.Silica)],[(2,(Qz8 p11 p0 x4 x6))],.any,[(2,(Qz7 p11 p0 x4 x6 x9))],false⟩),(30,rb [(.tmp 35,(.own 2 4 (0) p6)),(.tmp 36,I p0)] [(2,(Qz7 p11 p0 x4 x6 x9))] (.ref 2 4 p0.toNat 0)),(32,⟨[(.tmp 48,(.ref 2 4 p0.toNat 2)),(.tmp 42,I x4.2.1.Gas)],[(2,(Qz7 p11 p0 x4 x6 x9))],.any,[(2,(Q60 p11 p0 x4 x6 x9 x12))],false⟩)] ⟨Qa6 rfl,Qa6 rfl,Qa6 rfl,aio rfl underlying32 ti82 (odt hi5a) (odt hi5b) (Nat.zero_add _),ast rfl ti3 (by rfl) (mgt Qaw hg7) (nle rfl) (Qd2 Qaw rfl),aio rfl underlying32 ti82 (odt hi8a) (odt hi8b) (Nat.zero_add _),ast rfl ti3 (by rfl) (mgt Qaw hg10) (nle rfl) (Qd2 Qaw rfl),aio rfl underlying32 ti82 (odt hi11a) (odt hi11b) (Nat.zero_add _),ast rfl ti3 (by rfl) (mgt Qaw hg13) (nle rfl) (Qd2 Qaw rfl),tv⟩<|wxz ?_
  refine wmr (mto (n:=50) (l':=[(8,(.dat 4 (x4.1.map Qag)))]) (own':=[(Quv p3 p4 p5 p6 p7 p8 p9),(.own 1 (p10.map Qal)),(.own 4 (((((p11.set p0.toNat (⟨x4.2.1.Heat,x6.Silica,x6.Gas,x6.Scale⟩:Qbg)).set p0.toNat (⟨x9.Heat,x4.2.1.Silica,x9.Gas,x9.Scale⟩:Qbg)).set p0.toNat (⟨x12.Heat,x12.Silica,x4.2.1.Gas,x12.Scale⟩:Qbg)):List Qbg).map Qaw)),(.own 1 (p12.map Qac))]) [(8,(.dat 4 (x4.1.map Qag)))] [0,1,2,3] [(Quv p3 p4 p5 p6 p7 p8 p9),(.own 1 (p10.map Qal)),(Q60 p11 p0 x4 x6 x9 x12),(.own 1 (p12.map Qac))] hφ0 (pc (rnd Qah) pn) (qb (lc (rnd Qak) (lc (rnd Qaa) (lc (.rn (Qaz rfl)) (lc (.rn (Qaz rfl)) (lc (.rn (Qaz rfl)) (lc (rnd Qah) (lc rwl ln))))))) (qc (spr Qan) (qc (spr Qa0) (qc (spr Qae) qn)))))<|Qaj ?_
  obtain rfl:=osi h
  exact⟨_,Mor.rfl,Qca (vs:=[(.dat 4 (x4.1.map Qag))]) ⟨rot,tv⟩ rfl (NLt.of0 (nld Qah _)) (by kernel_rfl) (Qai (Qav (nlc (NLt.of0 (nld Qak _)) (nlc (NLt.of0 (nld Qaa _)) (nlc (NLt.own _ _ _ _ (by decide)) (nlc (NLt.own _ _ _ _ (by decide)) (nlc (NLt.own _ _ _ _ (by decide)) (nlc (NLt.of0 (nld Qah _)) (nlc (NLt.of0 nll) nl0)))))))) (Qai (Qbp Qan _) (Qai (Qbp Qa0 _) (Qai (Qbp Qae _) Qbe))))⟩
def Qf2 (N:Nat) (p0:Int) (p1:Qab) (p2:List GRow) (p3:List Qaf) (p4 p5 p6:Nat) (p7:List Qab) (p8:Int) (p9:List (List Qab)) (p10:List Qbg) (p11:List Int):Option ((List Qab)×Int×(List Qbg)×(List Int)):=
  (getI p3 p0).bind fun x5=>
  (Qk7 N p2 x5.Level p1).bind fun x10=>
  chk (decide (0≤p0)&&decide (p0.toNat<p5))<|
  (p10[p0.toNat]?).bind fun x12=>
  chk (decide (0≤p0)&&decide (p0.toNat<p6))<|
  (p11[p0.toNat]?).bind fun x15=>
  chk (decide (0≤p0)&&decide (p0.toNat<p6))<|
  (p11[p0.toNat]?).bind fun _=>
  bif (x5.Amount==0) then
   some ([(⟨x10.1.Steam.Mass,x10.1.Steam.Heat,x10.1.Steam.Silica,x10.1.Steam.Gas⟩:Qab),(⟨x10.1.Water.Mass,x10.1.Water.Heat,x10.1.Water.Silica,x10.1.Water.Gas⟩:Qab)],w64 (p8+x10.1.Steam.Mass),p10.set p0.toNat (⟨x12.Heat,x12.Silica,x12.Gas,x10.1.Scale⟩:Qbg),p11.set p0.toNat (w64 (x15+x10.1.Scale)))
  else
   (Qfy N p0 (⟨x10.1.Water.Mass,x10.1.Water.Heat,x10.1.Water.Silica,x10.1.Water.Gas⟩:Qab) ([w64 (1000-x5.Amount),x5.Amount]) p2 p3 p4 p5 p6 p7 (w64 (p8+x10.1.Steam.Mass)) p9 (p10.set p0.toNat (⟨x12.Heat,x12.Silica,x12.Gas,x10.1.Scale⟩:Qbg)) (p11.set p0.toNat (w64 (x15+x10.1.Scale)))).bind fun x22=>
   (getI x22.1 1).bind fun x23=>
   (Qip N ([(⟨x10.1.Steam.Mass,x10.1.Steam.Heat,x10.1.Steam.Silica,x10.1.Steam.Gas⟩:Qab),x23])).bind fun x28=>
   (getI x22.1 0).bind fun x29=>
   some ([x28,x29],w64 (p8+x10.1.Steam.Mass),x22.2,p11.set p0.toNat (w64 (x15+x10.1.Scale)))
def Zcl (p1:Qab):AV:=.agg [(I p1.Mass),(I p1.Heat),(I p1.Silica),(I p1.Gas)]
def Q0b (p3:List Qaf):AV:=.dat 7 (p3.map Qad)
def Q0a (p7:List Qab):AV:=.dat 4 (p7.map Qag)
def Quw (p2:List GRow) (p3:List Qaf) (p4 p5 p6:Nat) (p7:List Qab) (p8:Int):Slot:=.own 7 [[(.dat 5 (p2.map Qau)),(Q0b p3),(.own 1 1 (0) p4),(.own 2 4 (0) p5),(.own 3 1 (0) p6),(Q0a p7),(I p8)]]
def Qow (p9:List (List Qab)):Slot:=.own 1 (p9.map Qal)
def Qz9 (p10:List Qbg) (p0:Int) (x12:Qbg) (x10:(Qgo×Int)):Slot:=.own 4 ((p10.set p0.toNat (⟨x12.Heat,x12.Silica,x12.Gas,x10.1.Scale⟩:Qbg):List Qbg).map Qaw)
def Qtf (p11:List Int) (p0 x15:Int) (x10:(Qgo×Int)):Slot:=.own 1 ((p11.set p0.toNat (w64 (x15+x10.1.Scale)):List Int).map Qac)
def Qws (x10:(Qgo×Int)):AV:=.agg [(I x10.1.Steam.Mass),(I x10.1.Steam.Heat),(I x10.1.Steam.Silica),(I x10.1.Steam.Gas)]
def Q65 (x10:(Qgo×Int)):AV:=.agg [(I x10.1.Water.Mass),(I x10.1.Water.Heat),(I x10.1.Water.Silica),(I x10.1.Water.Gas)]
def Qwr (x10:(Qgo×Int)):AV:=.dat 4 (([(⟨x10.1.Steam.Mass,x10.1.Steam.Heat,x10.1.Steam.Silica,x10.1.Steam.Gas⟩:Qab),(⟨x10.1.Water.Mass,x10.1.Water.Heat,x10.1.Water.Silica,x10.1.Water.Gas⟩:Qab)]:List Qab).map Qag)
def Qwt (p2:List GRow) (p3:List Qaf) (p4 p5 p6:Nat) (p7:List Qab) (p8:Int) (x10:(Qgo×Int)):Slot:=.own 7 [[(.dat 5 (p2.map Qau)),(Q0b p3),(.own 1 1 (0) p4),(.own 2 4 (0) p5),(.own 3 1 (0) p6),(Q0a p7),(I (w64 (p8+x10.1.Steam.Mass)))]]
def Q64 (x5:Qaf):AV:=.dat 1 (([w64 (1000-x5.Amount),x5.Amount]:List Int).map Qac)
def Q63 (x23:Qab):AV:=.agg [(I x23.Mass),(I x23.Heat),(I x23.Silica),(I x23.Gas)]
def Zal (x10:(Qgo×Int)) (x23:Qab):AV:=.dat 4 (([(⟨x10.1.Steam.Mass,x10.1.Steam.Heat,x10.1.Steam.Silica,x10.1.Steam.Gas⟩:Qab),x23]:List Qab).map Qag)
def Q62 (x28:Qab):AV:=.agg [(I x28.Mass),(I x28.Heat),(I x28.Silica),(I x28.Gas)]
def Q61 (x29:Qab):AV:=.agg [(I x29.Mass),(I x29.Heat),(I x29.Silica),(I x29.Gas)]
def Qwq (x28 x29:Qab):AV:=.dat 4 (([x28,x29]:List Qab).map Qag)
theorem Qjv (N:Nat) (p0:Int) (p1:Qab) (p2:List GRow) (p3:List Qaf) (p4 p5 p6:Nat) (p7:List Qab) (p8:Int) (p9:List (List Qab)) (p10:List Qbg) (p11:List Int) (r:((List Qab)×Int×(List Qbg)×(List Int))) (h:Qf2 N p0 p1 p2 p3 p4 p5 p6 p7 p8 p9 p10 p11=some r):Spec prog 119 [(.ref 0 7 (0) 0),(I p0),(Zcl p1)] [(Quw p2 p3 p4 p5 p6 p7 p8),(Qow p9),(.own 4 (p10.map Qaw)),(.own 1 (p11.map Qac))] (.dat 4 (r.1.map Qag)) [(.own 7 [[(.dat 5 (p2.map Qau)),(Q0b p3),(.own 1 1 (0) p4),(.own 2 4 (0) p5),(.own 3 1 (0) p6),(Q0a p7),(I r.2.1)]]),(Qow p9),(.own 4 (r.2.2.1.map Qaw)),(.own 1 (r.2.2.2.map Qac))]:=by
  refine Qam func119 rfl 4 (nle rfl) (fun X φ0 w0 hφ0 hd0=>?_)
  unfold Qf2 at h
  refine Qbj<|wxz ?_
  obtain⟨x5,hg6,h⟩:=bno h
  obtain⟨hi7,hj8⟩:=gsm hg6
  refine wx tbk [(1,rb [(.tmp 11,.ref 0 7 0 0)] [(0,(Quw p2 p3 p4 p5 p6 p7 p8))] (.ref 0 7 0 0)),(6,rp _ _)] ⟨Qa6 rfl,aiq underlying40 Qfz Qad hi7 hj8,tv⟩ ?_
  obtain⟨x10,hf9,h⟩:=bno h
  refine wxd tbk [(1,rb [(.tmp 20,.ref 0 7 0 0)] [(0,(Quw p2 p3 p4 p5 p6 p7 p8))] (.ref 0 7 0 0)),(8,rp _ _)] ⟨Qa6 rfl,apv Q5p (Qpz N p2 x5.Level p1 _ hf9) (nlc (nld Qak _) (nlc nll (nlc (NLt.agg _ (nlcc (nlcc nl0))) nl0))) (NLt.tup _ (nlc (NLt.agg _ (nlcc (nlcc (nlcc (nlcc (nlcc nl0)))))) (nlc nll nl0))),tv⟩ ?_
  obtain⟨hi11,h⟩:=cko h
  obtain⟨hi11a,hi11b⟩:=Qcx hi11
  obtain⟨x12,hg13,h⟩:=bno h
  refine wxd tbk [(1,rb [(.tmp 31,.ref 0 7 0 0)] [(0,(Quw p2 p3 p4 p5 p6 p7 p8))] (.ref 0 7 0 0)),(8,rb [(.tmp 35,(.own 2 4 (0) p5)),(.tmp 36,I p0)] [(2,(.own 4 (p10.map Qaw)))] (.ref 2 4 p0.toNat 0)),(10,⟨[(.tmp 40,(.ref 2 4 p0.toNat 3)),(.tmp 38,I x10.1.Scale)],[(2,(.own 4 (p10.map Qaw)))],.any,[(2,(Qz9 p10 p0 x12 x10))],false⟩)] ⟨Qa6 rfl,aio rfl underlying32 ti82 (odt hi11a) (odt hi11b) (Nat.zero_add _),ast rfl ti3 (by rfl) (mgt Qaw hg13) (nle rfl) (Qd2 Qaw rfl),tv⟩ ?_
  obtain⟨hi14,h⟩:=cko h
  obtain⟨hi14a,hi14b⟩:=Qcx hi14
  obtain⟨x15,hg16,h⟩:=bno h
  obtain⟨hi17,h⟩:=cko h
  obtain⟨hi17a,hi17b⟩:=Qcx hi17
  obtain⟨x18,hg19,h⟩:=bno h
  refine wxd tbk [(1,rb [(.tmp 41,.ref 0 7 0 0)] [(0,(Quw p2 p3 p4 p5 p6 p7 p8))] (.ref 0 7 0 0)),(6,rb [(.tmp 45,(.own 3 1 (0) p6)),(.tmp 46,I p0)] [(3,(.own 1 (p11.map Qac)))] (.ref 3 1 p0.toNat 0)),(7,rb [(.tmp 47,(.ref 3 1 p0.toNat 0))] [(3,(.own 1 (p11.map Qac)))] (I x15)),(11,rb [(.tmp 45,(.own 3 1 (0) p6)),(.tmp 46,I p0)] [(3,(.own 1 (p11.map Qac)))] (.ref 3 1 p0.toNat 0)),(12,⟨[(.tmp 52,(.ref 3 1 p0.toNat 0)),(.tmp 51,(I (w64 (x15+x10.1.Scale))))],[(3,(.own 1 (p11.map Qac)))],.any,[(3,(Qtf p11 p0 x15 x10))],false⟩)] ⟨Qa6 rfl,aio rfl underlying27 ti3 (odt hi14a) (odt hi14b) (Nat.zero_add _),ald rfl ti3 (by decide) (mgt Qac hg16) (nle rfl) rfl,aio rfl underlying27 ti3 (odt hi17a) (odt hi17b) (Nat.zero_add _),ast rfl ti3 (by rfl) (mgt Qac hg19) (nle rfl) (Qd2 Qac rfl),tv⟩ ?_
  refine wxd tbk [(1,rb [(.tmp 53,.ref 0 7 0 0)] [(0,(Quw p2 p3 p4 p5 p6 p7 p8))] (.ref 0 7 0 0)),(8,rb [(.tmp 53,.ref 0 7 0 0)] [(0,(Quw p2 p3 p4 p5 p6 p7 p8))] (.ref 0 7 0 0))] ⟨Qa6 rfl,Qa6 rfl,tv⟩<|wsq<|wxz ?_
  refine bfe h (fun hc20 h=>?_) fun hc20 h=>?_
  ·refine wft hc20<|wx tbk [(4,rp [(.tmp 67,(Qws x10)),(.tmp 69,(Q65 x10))] (Qwr x10))] ⟨Qbi (vs:=[(Qws x10),(Q65 x10)]) rfl underlying45 ti63 tz63 rfl (by decide) rfl (by decide) (by rfl) (by rfl) (by rfl) rfl,tv⟩ ?_
   refine wmr (mto (n:=93) (l':=[(6,(Qwr x10))]) (own':=[(.own 7 [[(.dat 5 (p2.map Qau)),(Q0b p3),(.own 1 1 (0) p4),(.own 2 4 (0) p5),(.own 3 1 (0) p6),(Q0a p7),(I ((w64 (p8+x10.1.Steam.Mass))))]]),(Qow p9),(.own 4 (((p10.set p0.toNat (⟨x12.Heat,x12.Silica,x12.Gas,x10.1.Scale⟩:Qbg)):List Qbg).map Qaw)),(.own 1 (((p11.set p0.toNat (w64 (x15+x10.1.Scale))):List Int).map Qac))]) [(6,(Qwr x10))] [0,1,2,3] [(Qwt p2 p3 p4 p5 p6 p7 p8 x10),(Qow p9),(Qz9 p10 p0 x12 x10),(Qtf p11 p0 x15 x10)] hφ0 (pc (rnd Qah) pn) (qb (lc (rnd Qak) (lc (rnd Qaa) (lc (.rn (Qaz rfl)) (lc (.rn (Qaz rfl)) (lc (.rn (Qaz rfl)) (lc (rnd Qah) (lc rwl ln))))))) (qc (spr Qan) (qc (spr Qa0) (qc (spr Qae) qn)))))<|Qaj<|Qap ?_
   obtain rfl:=osi h
   exact⟨_,Mor.rfl,Qca (vs:=[(Qwr x10)]) ⟨rot,tv⟩ rfl (NLt.of0 (nld Qah _)) (by kernel_rfl) (Qai (Qav (nlc (NLt.of0 (nld Qak _)) (nlc (NLt.of0 (nld Qaa _)) (nlc (NLt.own _ _ _ _ (by decide)) (nlc (NLt.own _ _ _ _ (by decide)) (nlc (NLt.own _ _ _ _ (by decide)) (nlc (NLt.of0 (nld Qah _)) (nlc (NLt.of0 nll) nl0)))))))) (Qai (Qbp Qan _) (Qai (Qbp Qa0 _) (Qai (Qbp Qae _) Qbe))))⟩
  ·refine wfn hc20<|Qat<|thn ?_
   obtain⟨x22,hf21,h⟩:=bno h
   refine wx tbk [(9,rp [(.tmp 77,(I (w64 (1000-x5.Amount)))),(.tmp 79,I x5.Amount)] (Q64 x5)),(10,⟨_,_,_,_,false⟩)] ⟨Qbi (vs:=[(I (w64 (1000-x5.Amount))),I x5.Amount]) rfl underlying27 ti3 tz3 rfl (by decide) rfl (by decide) (by rfl) (by rfl) (by rfl) rfl,Qar (first:=[]) (cap:=[]) (vs:=[.ref 0 7 0 0,I p0,(.agg [(I ((⟨x10.1.Water.Mass,x10.1.Water.Heat,x10.1.Water.Silica,x10.1.Water.Gas⟩:Qab).Mass)),(I ((⟨x10.1.Water.Mass,x10.1.Water.Heat,x10.1.Water.Silica,x10.1.Water.Gas⟩:Qab).Heat)),(I ((⟨x10.1.Water.Mass,x10.1.Water.Heat,x10.1.Water.Silica,x10.1.Water.Gas⟩:Qab).Silica)),(I ((⟨x10.1.Water.Mass,x10.1.Water.Heat,x10.1.Water.Silica,x10.1.Water.Gas⟩:Qab).Gas))]),(Q64 x5)]) (σr:=[(Qwt p2 p3 p4 p5 p6 p7 p8 x10),(Qow p9),(Qz9 p10 p0 x12 x10),(Qtf p11 p0 x15 x10)]) (σr':=[(Qwt p2 p3 p4 p5 p6 p7 p8 x10),(Qow p9),(.own 4 (x22.2.map Qaw)),(Qtf p11 p0 x15 x10)]) (res':=(.dat 4 (x22.1.map Qag))) [0,1,2,3] rfl Qxz (Qht N p0 (⟨x10.1.Water.Mass,x10.1.Water.Heat,x10.1.Water.Silica,x10.1.Water.Gas⟩:Qab) ([w64 (1000-x5.Amount),x5.Amount]) p2 p3 p4 p5 p6 p7 (w64 (p8+x10.1.Steam.Mass)) p9 (p10.set p0.toNat (⟨x12.Heat,x12.Silica,x12.Gas,x10.1.Scale⟩:Qbg)) (p11.set p0.toNat (w64 (x15+x10.1.Scale))) _ hf21) rfl (Qbd (rnc (Qax rfl) (rnc (.plain _ nll) (rnc (.plain _ (NLt.agg _ (nlcc (nlcc nl0)))) (rnc (pld Qae) rn0))))) (slc (Qao (rnc (pld Qak) (rnc (pld Qaa) (rnc (Qce rfl) (rnc (Qce rfl) (rnc (Qce rfl) (rnc (pld Qah) (rnc (.plain _ nll) rn0)))))))) (slc (Qa3 Qan) (slc (Qa3 Qa0) (slc (Qa3 Qae) Qaq)))) (slc (Qao (rnc (pld Qak) (rnc (pld Qaa) (rnc (Qbt rfl) (rnc (Qbt rfl) (rnc (Qbt rfl) (rnc (pld Qah) (rnc (.plain _ nll) rn0)))))))) (slc (Qa3 Qan) (slc (Qa3 Qa0) (slc (Qa3 Qae) Qaq)))) (pld Qah) rfl rfl rfl,tv⟩ ?_
   obtain⟨x23,hg24,h⟩:=bno h
   obtain⟨hi25,hj26⟩:=gsm hg24
   obtain⟨x28,hf27,h⟩:=bno h
   obtain⟨x29,hg30,h⟩:=bno h
   obtain⟨hi31,hj32⟩:=gsm hg30
   refine wxd tbk [(3,rp _ _),(5,rp [(.tmp 83,(Qws x10)),(.tmp 86,(Q63 x23))] (Zal x10 x23)),(6,rp _ _),(8,rp _ _),(10,rp [(.tmp 88,(Q62 x28)),(.tmp 91,(Q61 x29))] (Qwq x28 x29))] ⟨aiq underlying45 ti63 Qag hi25 hj26,Qbi (vs:=[(Qws x10),(Q63 x23)]) rfl underlying45 ti63 tz63 rfl (by decide) rfl (by decide) (by rfl) (by rfl) (by rfl) rfl,apv Qv1 (Qjp N ([(⟨x10.1.Steam.Mass,x10.1.Steam.Heat,x10.1.Steam.Silica,x10.1.Steam.Gas⟩:Qab),x23]) _ hf27) (nlc (nld Qah _) nl0) (NLt.agg _ (nlcc (nlcc nl0))),aiq underlying45 ti63 Qag hi31 hj32,Qbi (vs:=[(Q62 x28),(Q61 x29)]) rfl underlying45 ti63 tz63 rfl (by decide) rfl (by decide) (by rfl) (by rfl) (by rfl) rfl,tv⟩ ?_
   refine wmr (mto (n:=93) (l':=[(6,(Qwq x28 x29))]) (own':=[(.own 7 [[(.dat 5 (p2.map Qau)),(Q0b p3),(.own 1 1 (0) p4),(.own 2 4 (0) p5),(.own 3 1 (0) p6),(Q0a p7),(I ((w64 (p8+x10.1.Steam.Mass))))]]),(Qow p9),(.own 4 (x22.2.map Qaw)),(.own 1 (((p11.set p0.toNat (w64 (x15+x10.1.Scale))):List Int).map Qac))]) [(6,(Qwq x28 x29))] [0,1,2,3] [(Qwt p2 p3 p4 p5 p6 p7 p8 x10),(Qow p9),(.own 4 (x22.2.map Qaw)),(Qtf p11 p0 x15 x10)] hφ0 (pc (rnd Qah) pn) (qb (lc (rnd Qak) (lc (rnd Qaa) (lc (.rn (Qaz rfl)) (lc (.rn (Qaz rfl)) (lc (.rn (Qaz rfl)) (lc (rnd Qah) (lc rwl ln))))))) (qc (spr Qan) (qc (spr Qa0) (qc (spr Qae) qn)))))<|Qaj ?_
   obtain rfl:=osi h
   exact⟨_,Mor.rfl,Qca (vs:=[(Qwq x28 x29)]) ⟨rot,tv⟩ rfl (NLt.of0 (nld Qah _)) (by kernel_rfl) (Qai (Qav (nlc (NLt.of0 (nld Qak _)) (nlc (NLt.of0 (nld Qaa _)) (nlc (NLt.own _ _ _ _ (by decide)) (nlc (NLt.own _ _ _ _ (by decide)) (nlc (NLt.own _ _ _ _ (by decide)) (nlc (NLt.of0 (nld Qah _)) (nlc (NLt.of0 nll) nl0)))))))) (Qai (Qbp Qan _) (Qai (Qbp Qa0 _) (Qai (Qbp Qae _) Qbe))))⟩
def Qg0 (N:Nat) (p0:Int) (p1:Qab) (p2:List GRow) (p3:List Qaf) (p4 p5 p6:Nat) (p7:List Qab) (p8:Int) (p9:List (List Qab)) (p10:List Qbg) (p11:List Int):Option ((List Qab)×(List Qbg)):=
  (getI p3 p0).bind fun x3=>
  (Qfy N p0 p1 x3.Weights p2 p3 p4 p5 p6 p7 p8 p9 p10 p11).bind fun x8=>
  some (x8.1,x8.2)
def Zak (p1:Qab):AV:=.agg [(I p1.Mass),(I p1.Heat),(I p1.Silica),(I p1.Gas)]
def Quu (p2:List GRow) (p3:List Qaf) (p4 p5 p6:Nat) (p7:List Qab) (p8:Int):Slot:=.own 7 [[(.dat 5 (p2.map Qau)),(.dat 7 (p3.map Qad)),(.own 1 1 (0) p4),(.own 2 4 (0) p5),(.own 3 1 (0) p6),(.dat 4 (p7.map Qag)),(I p8)]]
def Qym (p9:List (List Qab)):Slot:=.own 1 (p9.map Qal)
def Qwp (x8:((List Qab)×(List Qbg))):AV:=.dat 4 (x8.1.map Qag)
theorem Qlb (N:Nat) (p0:Int) (p1:Qab) (p2:List GRow) (p3:List Qaf) (p4 p5 p6:Nat) (p7:List Qab) (p8:Int) (p9:List (List Qab)) (p10:List Qbg) (p11:List Int) (r:((List Qab)×(List Qbg))) (h:Qg0 N p0 p1 p2 p3 p4 p5 p6 p7 p8 p9 p10 p11=some r):Spec prog 120 [(.ref 0 7 (0) 0),(I p0),(Zak p1)] [(Quu p2 p3 p4 p5 p6 p7 p8),(Qym p9),(.own 4 (p10.map Qaw)),(.own 1 (p11.map Qac))] (.dat 4 (r.1.map Qag)) [(Quu p2 p3 p4 p5 p6 p7 p8),(Qym p9),(.own 4 (r.2.map Qaw)),(.own 1 (p11.map Qac))]:=by
  refine Qam func120 rfl 4 (nle rfl) (fun X φ0 w0 hφ0 hd0=>?_)
  unfold Qg0 at h
  refine Qbj<|wxz ?_
  obtain⟨x3,hg4,h⟩:=bno h
  obtain⟨hi5,hj6⟩:=gsm hg4
  obtain⟨x8,hf7,h⟩:=bno h
  refine wxd tbk [(4,rb [(.tmp 10,.ref 0 7 0 0)] [(0,(Quu p2 p3 p4 p5 p6 p7 p8))] (.ref 0 7 0 0)),(9,rp _ _),(12,⟨_,_,_,_,false⟩)] ⟨Qa6 rfl,aiq underlying40 Qfz Qad hi5 hj6,Qar (first:=[]) (cap:=[]) (vs:=[.ref 0 7 0 0,I p0,(Zak p1),(.dat 1 (x3.Weights.map Qac))]) (σr:=[(Quu p2 p3 p4 p5 p6 p7 p8),(Qym p9),(.own 4 (p10.map Qaw)),(.own 1 (p11.map Qac))]) (σr':=[(Quu p2 p3 p4 p5 p6 p7 p8),(Qym p9),(.own 4 (x8.2.map Qaw)),(.own 1 (p11.map Qac))]) (res':=(Qwp x8)) [0,1,2,3] rfl Qxz (Qht N p0 p1 x3.Weights p2 p3 p4 p5 p6 p7 p8 p9 p10 p11 _ hf7) rfl (Qbd (rnc (Qax rfl) (rnc (.plain _ nll) (rnc (.plain _ (NLt.agg _ (nlcc (nlcc nl0)))) (rnc (pld Qae) rn0))))) (slc (Qao (rnc (pld Qak) (rnc (pld Qaa) (rnc (Qce rfl) (rnc (Qce rfl) (rnc (Qce rfl) (rnc (pld Qah) (rnc (.plain _ nll) rn0)))))))) (slc (Qa3 Qan) (slc (Qa3 Qa0) (slc (Qa3 Qae) Qaq)))) (slc (Qao (rnc (pld Qak) (rnc (pld Qaa) (rnc (Qbt rfl) (rnc (Qbt rfl) (rnc (Qbt rfl) (rnc (pld Qah) (rnc (.plain _ nll) rn0)))))))) (slc (Qa3 Qan) (slc (Qa3 Qa0) (slc (Qa3 Qae) Qaq)))) (pld Qah) rfl rfl rfl,tv⟩ ?_
  refine wmr (mto (n:=20) (l':=[(6,(Qwp x8))]) (own':=[(Quu p2 p3 p4 p5 p6 p7 p8),(Qym p9),(.own 4 (x8.2.map Qaw)),(.own 1 (p11.map Qac))]) [(6,(Qwp x8))] [0,1,2,3] [(Quu p2 p3 p4 p5 p6 p7 p8),(Qym p9),(.own 4 (x8.2.map Qaw)),(.own 1 (p11.map Qac))] hφ0 (pc (rnd Qah) pn) (qb (lc (rnd Qak) (lc (rnd Qaa) (lc (.rn (Qaz rfl)) (lc (.rn (Qaz rfl)) (lc (.rn (Qaz rfl)) (lc (rnd Qah) (lc rwl ln))))))) (qc (spr Qan) (qc (spr Qa0) (qc (spr Qae) qn)))))<|Qaj ?_
  obtain rfl:=osi h
  exact⟨_,Mor.rfl,Qca (vs:=[(Qwp x8)]) ⟨rot,tv⟩ rfl (NLt.of0 (nld Qah _)) (by kernel_rfl) (Qai (Qav (nlc (NLt.of0 (nld Qak _)) (nlc (NLt.of0 (nld Qaa _)) (nlc (NLt.own _ _ _ _ (by decide)) (nlc (NLt.own _ _ _ _ (by decide)) (nlc (NLt.own _ _ _ _ (by decide)) (nlc (NLt.of0 (nld Qah _)) (nlc (NLt.of0 nll) nl0)))))))) (Qai (Qbp Qan _) (Qai (Qbp Qa0 _) (Qai (Qbp Qae _) Qbe))))⟩
def Qdx (N:Nat) (p0 p1:Int) (p2:List GRow) (p3:List Qaf) (p4 p5 p6:Nat) (p7:List Qab) (p8:Int) (p9:List (List Qab)) (p10:List Qbg) (p11:List Int):Option ((Int×(List (List Qab))×(List Qbg)×(List Int))⊕Int):=
  (Qha N p0 p2 p3 p4 p5 p6 p7 p8 p9 p10 p11).bind fun _=>
  chk (decide (p4≤p9.length))<|
  chk (decide (p5≤p10.length))<|
  chk (decide (p6≤p11.length))<|
  (Qdl N p2 p3 (p9.take p4) (p10.take p5) (p11.take p6) p7 p8 p0).bind fun x12=>
  (Qip N x12).bind fun x14=>
  Qdr (fun _=>
    (getI p3 p0).bind fun x16=>
    bif (x16.Kind==0) then
     none
    else
     bif (x16.Kind==1) then
      (Qe9 N p0 x14 p2 p3 p4 p5 p6 p7 p8 p9 p10 p11).bind fun x23=>
      chk (decide (0≤p0)&&decide (p0.toNat<p4))<|
      (p9[p0.toNat]?).bind fun _=>
      some (.inl (p8,p9.set p0.toNat x23,p10,p11))
     else
      bif (x16.Kind==2) then
       (Qe9 N p0 x14 p2 p3 p4 p5 p6 p7 p8 p9 p10 p11).bind fun x29=>
       chk (decide (0≤p0)&&decide (p0.toNat<p4))<|
       (p9[p0.toNat]?).bind fun _=>
       some (.inl (p8,p9.set p0.toNat x29,p10,p11))
      else
       bif (x16.Kind==3) then
        (Qhb N p0 x14 p2 p3 p4 p5 p6 p7 p8 p9 p10 p11).bind fun x35=>
        chk (decide (0≤p0)&&decide (p0.toNat<p4))<|
        (p9[p0.toNat]?).bind fun _=>
        some (.inl (p8,p9.set p0.toNat x35.1,x35.2,p11))
       else
        bif (x16.Kind==4) then
         (Qf2 N p0 x14 p2 p3 p4 p5 p6 p7 p8 p9 p10 p11).bind fun x41=>
         chk (decide (0≤p0)&&decide (p0.toNat<p4))<|
         (p9[p0.toNat]?).bind fun _=>
         some (.inl (x41.2.1,p9.set p0.toNat x41.1,x41.2.2.1,x41.2.2.2))
        else
         bif (x16.Kind==5) then
          (Qg0 N p0 x14 p2 p3 p4 p5 p6 p7 p8 p9 p10 p11).bind fun x47=>
          chk (decide (0≤p0)&&decide (p0.toNat<p4))<|
          (p9[p0.toNat]?).bind fun _=>
          some (.inl (p8,p9.set p0.toNat x47.1,x47.2,p11))
         else
          bif (x16.Kind==6) then
           (Qe9 N p0 x14 p2 p3 p4 p5 p6 p7 p8 p9 p10 p11).bind fun x53=>
           chk (decide (0≤p0)&&decide (p0.toNat<p4))<|
           (p9[p0.toNat]?).bind fun _=>
           some (.inl (p8,p9.set p0.toNat x53,p10,p11))
          else
           none) fun k15:Unit→Option ((Int×(List (List Qab))×(List Qbg)×(List Int))⊕Int)=>
  bif (decide (x14.Mass>p1)) then
   some (.inr p0)
  else
   k15 ()
def Qii (p3:List Qaf):AV:=.dat 7 (p3.map Qad)
def Qpn (p7:List Qab):AV:=.dat 4 (p7.map Qag)
def Qfh (p2:List GRow) (p3:List Qaf) (p4 p5 p6:Nat) (p7:List Qab) (p8:Int):Slot:=.own 7 [[(.dat 5 (p2.map Qau)),(Qii p3),(.own 1 1 (0) p4),(.own 2 4 (0) p5),(.own 3 1 (0) p6),(Qpn p7),(I p8)]]
def Qes (p9:List (List Qab)):Slot:=.own 1 (p9.map Qal)
def Qga (p10:List Qbg):Slot:=.own 4 (p10.map Qaw)
def Zan:AV:=.fn (.func 133) [] [(.ref 4 1 (0) 0),(.ref 5 1 (0) 0)]
def Zao:Slot:=.own 1 [[(.ref 0 7 (0) 0)]]
def Qgp (x14:Qab):AV:=.agg [(I x14.Mass),(I x14.Heat),(I x14.Silica),(I x14.Gas)]
def Qoy (x14:Qab):Slot:=.own 4 [[(I x14.Mass),(I x14.Heat),(I x14.Silica),(I x14.Gas)]]
def Qkp:Slot:=.own 7 [[(.lit .nilFunc),(.fn (.func 117) [] []),(.fn (.func 117) [] []),(.fn (.func 118) [] []),(.fn (.func 119) [] []),(.fn (.func 120) [] []),(.fn (.func 117) [] [])]]
def Qww (p2:List GRow) (p3:List Qaf) (p4 p5 p6:Nat) (p7:List Qab) (x41:((List Qab)×Int×(List Qbg)×(List Int))):Slot:=.own 7 [[(.dat 5 (p2.map Qau)),(Qii p3),(.own 1 1 (0) p4),(.own 2 4 (0) p5),(.own 3 1 (0) p6),(Qpn p7),(I x41.2.1)]]
theorem Qg1 (N:Nat) (p0 p1:Int) (p2:List GRow) (p3:List Qaf) (p4 p5 p6:Nat) (p7:List Qab) (p8:Int) (p9:List (List Qab)) (p10:List Qbg) (p11:List Int) (r:((Int×(List (List Qab))×(List Qbg)×(List Int))⊕Int)) (h:Qdx N p0 p1 p2 p3 p4 p5 p6 p7 p8 p9 p10 p11=some r):Zcc prog 97 [(.ref 0 7 (0) 0),(I p0),(I p1)] [(Qfh p2 p3 p4 p5 p6 p7 p8),(Qes p9),(Qga p10),(.own 1 (p11.map Qac))]  ((Sum.elim (fun r=>.ret (.tup []) [(.own 7 [[(.dat 5 (p2.map Qau)),(.dat 7 (p3.map Qad)),(.own 1 1 (0) p4),(.own 2 4 (0) p5),(.own 3 1 (0) p6),(.dat 4 (p7.map Qag)),(I r.1)]]),(.own 1 (r.2.1.map Qal)),(.own 4 (r.2.2.1.map Qaw)),(.own 1 (r.2.2.2.map Qac))]) (fun r=>.pan (.iface 182 (.agg #[(.int .i64 r)]))):((Int×(List (List Qab))×(List Qbg)×(List Int))⊕Int)→Out) r):=by
  refine Qtr func97 rfl 4 (nle rfl) (fun X φ0 w0 hφ0 hd0=>?_)
  unfold Qdx at h
  obtain⟨x7,hf6,h⟩:=bno h
  obtain⟨hz8,h⟩:=cko h
  obtain⟨hz9,h⟩:=cko h
  obtain⟨hz10,h⟩:=cko h
  obtain⟨x12,hf11,h⟩:=bno h
  obtain⟨x14,hf13,h⟩:=bno h
  refine wx tbk [(2,⟨_,_,_,_,false⟩),(3,⟨[fu 115,(.tmp 10,Zan)],[(4,Zao),(0,(Qfh p2 p3 p4 p5 p6 p7 p8)),(1,(Qes p9)),(2,(Qga p10)),(3,(.own 1 (p11.map Qac))),(5,.own 1 [[I p0]]),(6,.unused)],(.acc 6 63 4 (x12.map Qag)),[(6,.tok)],false⟩),(4,rp [fu 76,(.tmp 11,(.acc 6 63 4 (x12.map Qag)))] (Qgp x14))] ⟨Qar (first:=[]) (cap:=[]) (vs:=[.ref 0 7 0 0,I p0]) (σr:=[(Qfh p2 p3 p4 p5 p6 p7 p8),(Qes p9),(Qga p10),(.own 1 (p11.map Qac))]) (σr':=[(Qfh p2 p3 p4 p5 p6 p7 p8),(Qes p9),(Qga p10),(.own 1 (p11.map Qac)),Zao,(.own 1 [[I p0]])]) (res':=Zan) [0,1,2,3,4,5] rfl Q51 (Ql1 N p0 p2 p3 p4 p5 p6 p7 p8 p9 p10 p11 _ hf6) rfl (Qbd (rnc (Qax rfl) (rnc (.plain _ nll) rn0))) (slc (Qao (rnc (pld Qak) (rnc (pld Qaa) (rnc (Qce rfl) (rnc (Qce rfl) (rnc (Qce rfl) (rnc (pld Qah) (rnc (.plain _ nll) rn0)))))))) (slc (Qa3 Qan) (slc (Qa3 Qa0) (slc (Qa3 Qae) Qaq)))) (slc (Qao (rnc (pld Qak) (rnc (pld Qaa) (rnc (Qbt rfl) (rnc (Qbt rfl) (rnc (Qbt rfl) (rnc (pld Qah) (rnc (.plain _ nll) rn0)))))))) (slc (Qa3 Qan) (slc (Qa3 Qa0) (slc (Qa3 Qae) (slc (Qao (rnc (Qa5 rfl) rn0)) (slc (Qao (rnc (.plain _ nll) rn0)) Qaq)))))) (Qa9 rn0 (rnc (Qa5 rfl) (rnc (Qa5 rfl) rn0))) rfl rfl rfl,Qfn (rd':=[fu 115,(.tmp 10,(.fn (.func 133) [] [(.dptr [(.dptr [(.dat 5 (p2.map Qau)),(Qii p3),(.dat 1 ((p9.take p4:List (List Qab)).map Qal)),(.dat 4 ((p10.take p5:List Qbg).map Qaw)),(.dat 1 ((p11.take p6:List Int).map Qac)),(Qpn p7),I p8] 0)] 0),(.dptr [I p0] 0)]))]) [(4,1,[[.ref 0 7 0 0]]),(0,7,[[(.dat 5 (p2.map Qau)),(Qii p3),(.own 1 1 (0) p4),(.own 2 4 (0) p5),(.own 3 1 (0) p6),(Qpn p7),I p8]]),(1,1,p9.map Qal),(2,4,p10.map Qaw),(3,1,p11.map Qac),(5,1,[[I p0]])] ⟨rfl,.same _,rfl,(Q6c tv ⟨(Qnz 0 rfl (lc (Qnz 1 rfl (lc (.same _) (lc (.same _) (lc (Qs1 2 rfl hz8) (lc (Qs1 3 rfl hz9) (lc (Qs1 4 rfl hz10) (lc (.same _) (lc (.same _) ln)))))))) ln)),(Qnz 5 rfl (lc (.same _) ln)),tv⟩),tv⟩ (by rfl) (.acc _ _ _ _ (nin rfl) (by simp) (Qxt Qvx _)) (Qxi .tok Qmn) (Qar (first:=[]) (cap:=[]) (vs:=[(.fn (.func 133) [] [(.dptr [(.dptr [(.dat 5 (p2.map Qau)),(Qii p3),(.dat 1 ((p9.take p4:List (List Qab)).map Qal)),(.dat 4 ((p10.take p5:List Qbg).map Qaw)),(.dat 1 ((p11.take p6:List Int).map Qac)),(Qpn p7),I p8] 0)] 0),(.dptr [I p0] 0)])]) (σr:=[]) (σr':=[.tok]) (res':=(.acc 6 63 4 (x12.map Qag))) [6] rfl Q52 (Qgy N p2 p3 (p9.take p4) (p10.take p5) (p11.take p6) p7 p8 p0 _ hf11) rfl (Qbd (rnc (.plain _ (NLt.fn _ _ _ nl0 (nlc (NLt.dptr _ _ (nlc (NLt.dptr _ _ (nlc (nld Qak _) (nlc (nld Qaa _) (nlc (nld Qan _) (nlc (nld Qa0 _) (nlc (nld Qae _) (nlc (nld Qah _) (nlc nll nl0)))))))) nl0)) (nlc (NLt.dptr _ _ (nlc nll nl0)) nl0)))) rn0)) Qaq (slc .tok Qaq) (Q1r rfl (Qd3 Qah _)) rfl rfl rfl),awk (rd':=(.func 76,(.fn (.func 76) [] []))::[(.tmp 11,(.dat 4 (x12.map Qag)))]) ⟨rfl,lrf,rfl,Less.acc,tv⟩ (apv Qv1 (Qjp N x12 _ hf13) (nlc (nld Qah _) nl0) (NLt.agg _ (nlcc (nlcc nl0)))),tv⟩ ?_
  obtain⟨k15,hk_k15,h⟩:=jko h
  refine wjn (τ:=Unit) (fun t=>k15 t=some r) (fun _=>⟨mk 43 [(0,.ref 0 7 0 0),(1,I p0),(6,.ref 4 4 0 0)],[(Qfh p2 p3 p4 p5 p6 p7 p8),(Qes p9),(Qga p10),(.own 1 (p11.map Qac)),(Qoy x14)]⟩) (fun t h=>?_) ?_
  ·subst hk_k15
   refine wx tbk [(0,rp [fu 117,fu 117,fu 118,fu 119,fu 120,fu 117] (.agg [(.lit .nilFunc),(.fn (.func 117) [] []),(.fn (.func 117) [] []),(.fn (.func 118) [] []),(.fn (.func 119) [] []),(.fn (.func 120) [] []),(.fn (.func 117) [] [])]))] ⟨Qo4 (vs:=[(.fn (.func 117) [] []),(.fn (.func 117) [] []),(.fn (.func 118) [] []),(.fn (.func 119) [] []),(.fn (.func 120) [] []),(.fn (.func 117) [] [])]) rfl underlying209 Qnd Zbs rfl (by rfl) rfl,tv⟩ ?_
   obtain⟨x16,hg17,h⟩:=bno h
   obtain⟨hi18,hj19⟩:=gsm hg17
   refine bfe h (fun hb20 h=>?_) fun hb20 h=>?_
   ·cases h
   ·refine bfe h (fun hb21 h=>?_) fun hb21 h=>?_
    ·obtain⟨x23,hf22,h⟩:=bno h
     obtain⟨hi24,h⟩:=cko h
     obtain⟨hi24a,hi24b⟩:=Qcx hi24
     obtain⟨x25,hg26,h⟩:=bno h
     refine Qj6 0 (.own 7 [[(.dat 5 (p2.map Qau)),(Qii p3),(.own 1 1 (0) p4),(.own 2 4 (0) p5),(.own 3 1 (0) p6),(Qpn p7),I p8]]) [mv 0 (.ref 0 7 0 0),⟨[(.tmp 21,.ref 0 7 0 0)],[],.ref 0 7 0 0,[],false⟩,⟨[(.tmp 22,.ref 0 7 0 0)],[],.ref 0 7 0 2,[],false⟩,⟨[(.tmp 23,.ref 0 7 0 2)],[],.ref 0 7 0 2,[],false⟩,⟨[(.tmp 24,.ref 0 7 0 2)],[],(.own 1 1 (0) p4),[],false⟩,mv 1 (I p0),mv 0 (.ref 0 7 0 0),⟨[(.tmp 27,.ref 0 7 0 0)],[],.ref 0 7 0 0,[],false⟩,⟨[(.tmp 28,.ref 0 7 0 0)],[],.ref 0 7 0 0,[],false⟩,⟨[(.tmp 29,.ref 0 7 0 0)],[],.ref 0 7 0 1,[],false⟩,⟨[(.tmp 30,.ref 0 7 0 1)],[],(Qii p3),[],false⟩,mv 1 (I p0),rp [(.tmp 31,(Qii p3)),(.tmp 32,I p0)] (.dptr (Qad x16) 0),mv 33 (.dptr (Qad x16) 0),rp [(.tmp 34,(.dptr (Qad x16) 0))] (K .u8 x16.Kind),rb [(.tmp 7,.ref 5 7 0 0),(.tmp 35,(K .u8 x16.Kind))] [(5,Qkp)] (.ref 5 7 0 1),rb [(.tmp 36,.ref 5 7 0 1)] [(5,Qkp)] (.fn (.func 117) [] []),mv 0 (.ref 0 7 0 0),mv 1 (I p0),rb [(.tmp 6,.ref 4 4 0 0)] [(4,(Qoy x14))] (Qgp x14),⟨[(.tmp 37,(.fn (.func 117) [] [])),(.tmp 38,.ref 0 7 0 0),(.tmp 39,I p0),(.tmp 40,(Qgp x14))],[(0,(Qfh p2 p3 p4 p5 p6 p7 p8)),(1,(Qes p9)),(2,(Qga p10)),(3,(.own 1 (p11.map Qac)))],(.dat 4 (x23.map Qag)),[(0,(Qfh p2 p3 p4 p5 p6 p7 p8)),(1,(Qes p9)),(2,(Qga p10)),(3,(.own 1 (p11.map Qac)))],false⟩,rb [(.tmp 25,(.own 1 1 (0) p4)),(.tmp 26,I p0)] [(1,(Qes p9))] (.ref 1 1 p0.toNat 0),⟨[(.tmp 42,(.ref 1 1 p0.toNat 0)),(.tmp 41,(.dat 4 (x23.map Qag)))],[(1,(Qes p9))],.any,[(1,(.own 1 ((p9.set p0.toNat x23:List (List Qab)).map Qal)))],false⟩] (SImp.box ⟨lrf,lrf,lrf,lrf,lrf,lrf,lrf,tv⟩) ⟨tv,tv,tv,tv,tv,tv,tv,tv,tv,tv,tv,tv,tv,tv,tv,tv,tv,tv,tv,tv,⟨(SImp.box ⟨lrf,lrf,lrf,lrf,lrf,lrf,lrf,tv⟩),tv,tv,tv,tv⟩,tv,⟨tv,tv⟩,tv⟩ ?_ ?_
     ·exact⟨hr_ (amv rfl),sf_ (Qa6 rfl),sf_ (afa rfl underlying140 rfl rfl ti34 (by decide) rfl),sf_ (afa rfl underlying34 rfl rfl ti31 (by decide) rfl),sf_ (ald rfl ti31 (by decide) rfl (nle rfl) rfl),hr_ (amv rfl),hr_ (amv rfl),sf_ (Qa6 rfl),sf_ (afa rfl underlying140 rfl rfl ti42 (by decide) rfl),sf_ (afa rfl underlying42 rfl rfl ti40 (by decide) rfl),sf_ (ald rfl ti40 (by decide) rfl (nle rfl) rfl),hr_ (amv rfl),hr_ (aiq underlying40 Qfz Qad hi18 hj19),hr_ (afd rfl underlying133 rfl rfl ti5 (by decide) rfl),hr_ (ald_ rfl ti5 (by decide) (nle rfl) rfl),hr_ (Qig hb21 (Qih rfl underlying209 Qnd (by decide) (by decide) rfl)),hr_ (ald rfl Qnd (by decide) rfl (nle rfl) rfl),hr_ (amv rfl),hr_ (amv rfl),hr_ (ald rfl ti63 (by decide) rfl (nle rfl) rfl),hr_ (Qar (first:=[]) (cap:=[]) (vs:=[.ref 0 7 0 0,I p0,(Qgp x14)]) (σr:=[(Qfh p2 p3 p4 p5 p6 p7 p8),(Qes p9),(Qga p10),(.own 1 (p11.map Qac))]) (σr':=[(Qfh p2 p3 p4 p5 p6 p7 p8),(Qes p9),(Qga p10),(.own 1 (p11.map Qac))]) (res':=(.dat 4 (x23.map Qag))) [0,1,2,3] rfl Qs0 (Qf9 N p0 x14 p2 p3 p4 p5 p6 p7 p8 p9 p10 p11 _ hf22) rfl (Qbd (rnc (Qax rfl) (rnc (.plain _ nll) (rnc (.plain _ (NLt.agg _ (nlcc (nlcc nl0)))) rn0)))) (slc (Qao (rnc (pld Qak) (rnc (pld Qaa) (rnc (Qce rfl) (rnc (Qce rfl) (rnc (Qce rfl) (rnc (pld Qah) (rnc (.plain _ nll) rn0)))))))) (slc (Qa3 Qan) (slc (Qa3 Qa0) (slc (Qa3 Qae) Qaq)))) (slc (Qao (rnc (pld Qak) (rnc (pld Qaa) (rnc (Qbt rfl) (rnc (Qbt rfl) (rnc (Qbt rfl) (rnc (pld Qah) (rnc (.plain _ nll) rn0)))))))) (slc (Qa3 Qan) (slc (Qa3 Qa0) (slc (Qa3 Qae) Qaq)))) (pld Qah) rfl rfl rfl),hr_ (aio rfl underlying31 ti45 (odt hi24a) (odt hi24b) (Nat.zero_add _)),hr_ (ast rfl ti45 (by rfl) (mgt Qal hg26) (nle rfl) (Qd2 Qal rfl)),tv⟩
     obtain rfl:=osi h
     exact⟨_,(mto (n:=43) (l':=[]) (own':=[(Qfh p2 p3 p4 p5 p6 p7 p8),(.own 1 (((p9.set p0.toNat x23):List (List Qab)).map Qal)),(Qga p10),(.own 1 (p11.map Qac))]) [] [0,1,2,3] [(Qfh p2 p3 p4 p5 p6 p7 p8),(.own 1 ((p9.set p0.toNat x23:List (List Qab)).map Qal)),(Qga p10),(.own 1 (p11.map Qac))] hφ0 pn (qb (lc (rnd Qak) (lc (rnd Qaa) (lc (.rn (Qaz rfl)) (lc (.rn (Qaz rfl)) (lc (.rn (Qaz rfl)) (lc (rnd Qah) (lc rwl ln))))))) (qc (spr Qan) (qc (spr Qa0) (qc (spr Qae) qn))))),Qjg (vs:=[]) tv rfl (NLt.tup _ nl0) (by kernel_rfl) (Qai (Qav (nlc (NLt.of0 (nld Qak _)) (nlc (NLt.of0 (nld Qaa _)) (nlc (NLt.own _ _ _ _ (by decide)) (nlc (NLt.own _ _ _ _ (by decide)) (nlc (NLt.own _ _ _ _ (by decide)) (nlc (NLt.of0 (nld Qah _)) (nlc (NLt.of0 nll) nl0)))))))) (Qai (Qbp Qan _) (Qai (Qbp Qa0 _) (Qai (Qbp Qae _) Qbe))))⟩
    ·refine bfe h (fun hb27 h=>?_) fun hb27 h=>?_
     ·obtain⟨x29,hf28,h⟩:=bno h
      obtain⟨hi30,h⟩:=cko h
      obtain⟨hi30a,hi30b⟩:=Qcx hi30
      obtain⟨x31,hg32,h⟩:=bno h
      refine Qj6 0 (.own 7 [[(.dat 5 (p2.map Qau)),(Qii p3),(.own 1 1 (0) p4),(.own 2 4 (0) p5),(.own 3 1 (0) p6),(Qpn p7),I p8]]) [mv 0 (.ref 0 7 0 0),⟨[(.tmp 21,.ref 0 7 0 0)],[],.ref 0 7 0 0,[],false⟩,⟨[(.tmp 22,.ref 0 7 0 0)],[],.ref 0 7 0 2,[],false⟩,⟨[(.tmp 23,.ref 0 7 0 2)],[],.ref 0 7 0 2,[],false⟩,⟨[(.tmp 24,.ref 0 7 0 2)],[],(.own 1 1 (0) p4),[],false⟩,mv 1 (I p0),mv 0 (.ref 0 7 0 0),⟨[(.tmp 27,.ref 0 7 0 0)],[],.ref 0 7 0 0,[],false⟩,⟨[(.tmp 28,.ref 0 7 0 0)],[],.ref 0 7 0 0,[],false⟩,⟨[(.tmp 29,.ref 0 7 0 0)],[],.ref 0 7 0 1,[],false⟩,⟨[(.tmp 30,.ref 0 7 0 1)],[],(Qii p3),[],false⟩,mv 1 (I p0),rp [(.tmp 31,(Qii p3)),(.tmp 32,I p0)] (.dptr (Qad x16) 0),mv 33 (.dptr (Qad x16) 0),rp [(.tmp 34,(.dptr (Qad x16) 0))] (K .u8 x16.Kind),rb [(.tmp 7,.ref 5 7 0 0),(.tmp 35,(K .u8 x16.Kind))] [(5,Qkp)] (.ref 5 7 0 2),rb [(.tmp 36,.ref 5 7 0 2)] [(5,Qkp)] (.fn (.func 117) [] []),mv 0 (.ref 0 7 0 0),mv 1 (I p0),rb [(.tmp 6,.ref 4 4 0 0)] [(4,(Qoy x14))] (Qgp x14),⟨[(.tmp 37,(.fn (.func 117) [] [])),(.tmp 38,.ref 0 7 0 0),(.tmp 39,I p0),(.tmp 40,(Qgp x14))],[(0,(Qfh p2 p3 p4 p5 p6 p7 p8)),(1,(Qes p9)),(2,(Qga p10)),(3,(.own 1 (p11.map Qac)))],(.dat 4 (x29.map Qag)),[(0,(Qfh p2 p3 p4 p5 p6 p7 p8)),(1,(Qes p9)),(2,(Qga p10)),(3,(.own 1 (p11.map Qac)))],false⟩,rb [(.tmp 25,(.own 1 1 (0) p4)),(.tmp 26,I p0)] [(1,(Qes p9))] (.ref 1 1 p0.toNat 0),⟨[(.tmp 42,(.ref 1 1 p0.toNat 0)),(.tmp 41,(.dat 4 (x29.map Qag)))],[(1,(Qes p9))],.any,[(1,(.own 1 ((p9.set p0.toNat x29:List (List Qab)).map Qal)))],false⟩] (SImp.box ⟨lrf,lrf,lrf,lrf,lrf,lrf,lrf,tv⟩) ⟨tv,tv,tv,tv,tv,tv,tv,tv,tv,tv,tv,tv,tv,tv,tv,tv,tv,tv,tv,tv,⟨(SImp.box ⟨lrf,lrf,lrf,lrf,lrf,lrf,lrf,tv⟩),tv,tv,tv,tv⟩,tv,⟨tv,tv⟩,tv⟩ ?_ ?_
      ·exact⟨hr_ (amv rfl),sf_ (Qa6 rfl),sf_ (afa rfl underlying140 rfl rfl ti34 (by decide) rfl),sf_ (afa rfl underlying34 rfl rfl ti31 (by decide) rfl),sf_ (ald rfl ti31 (by decide) rfl (nle rfl) rfl),hr_ (amv rfl),hr_ (amv rfl),sf_ (Qa6 rfl),sf_ (afa rfl underlying140 rfl rfl ti42 (by decide) rfl),sf_ (afa rfl underlying42 rfl rfl ti40 (by decide) rfl),sf_ (ald rfl ti40 (by decide) rfl (nle rfl) rfl),hr_ (amv rfl),hr_ (aiq underlying40 Qfz Qad hi18 hj19),hr_ (afd rfl underlying133 rfl rfl ti5 (by decide) rfl),hr_ (ald_ rfl ti5 (by decide) (nle rfl) rfl),hr_ (Qig hb27 (Qih rfl underlying209 Qnd (by decide) (by decide) rfl)),hr_ (ald rfl Qnd (by decide) rfl (nle rfl) rfl),hr_ (amv rfl),hr_ (amv rfl),hr_ (ald rfl ti63 (by decide) rfl (nle rfl) rfl),hr_ (Qar (first:=[]) (cap:=[]) (vs:=[.ref 0 7 0 0,I p0,(Qgp x14)]) (σr:=[(Qfh p2 p3 p4 p5 p6 p7 p8),(Qes p9),(Qga p10),(.own 1 (p11.map Qac))]) (σr':=[(Qfh p2 p3 p4 p5 p6 p7 p8),(Qes p9),(Qga p10),(.own 1 (p11.map Qac))]) (res':=(.dat 4 (x29.map Qag))) [0,1,2,3] rfl Qs0 (Qf9 N p0 x14 p2 p3 p4 p5 p6 p7 p8 p9 p10 p11 _ hf28) rfl (Qbd (rnc (Qax rfl) (rnc (.plain _ nll) (rnc (.plain _ (NLt.agg _ (nlcc (nlcc nl0)))) rn0)))) (slc (Qao (rnc (pld Qak) (rnc (pld Qaa) (rnc (Qce rfl) (rnc (Qce rfl) (rnc (Qce rfl) (rnc (pld Qah) (rnc (.plain _ nll) rn0)))))))) (slc (Qa3 Qan) (slc (Qa3 Qa0) (slc (Qa3 Qae) Qaq)))) (slc (Qao (rnc (pld Qak) (rnc (pld Qaa) (rnc (Qbt rfl) (rnc (Qbt rfl) (rnc (Qbt rfl) (rnc (pld Qah) (rnc (.plain _ nll) rn0)))))))) (slc (Qa3 Qan) (slc (Qa3 Qa0) (slc (Qa3 Qae) Qaq)))) (pld Qah) rfl rfl rfl),hr_ (aio rfl underlying31 ti45 (odt hi30a) (odt hi30b) (Nat.zero_add _)),hr_ (ast rfl ti45 (by rfl) (mgt Qal hg32) (nle rfl) (Qd2 Qal rfl)),tv⟩
      obtain rfl:=osi h
      exact⟨_,(mto (n:=43) (l':=[]) (own':=[(Qfh p2 p3 p4 p5 p6 p7 p8),(.own 1 (((p9.set p0.toNat x29):List (List Qab)).map Qal)),(Qga p10),(.own 1 (p11.map Qac))]) [] [0,1,2,3] [(Qfh p2 p3 p4 p5 p6 p7 p8),(.own 1 ((p9.set p0.toNat x29:List (List Qab)).map Qal)),(Qga p10),(.own 1 (p11.map Qac))] hφ0 pn (qb (lc (rnd Qak) (lc (rnd Qaa) (lc (.rn (Qaz rfl)) (lc (.rn (Qaz rfl)) (lc (.rn (Qaz rfl)) (lc (rnd Qah) (lc rwl ln))))))) (qc (spr Qan) (qc (spr Qa0) (qc (spr Qae) qn))))),Qjg (vs:=[]) tv rfl (NLt.tup _ nl0) (by kernel_rfl) (Qai (Qav (nlc (NLt.of0 (nld Qak _)) (nlc (NLt.of0 (nld Qaa _)) (nlc (NLt.own _ _ _ _ (by decide)) (nlc (NLt.own _ _ _ _ (by decide)) (nlc (NLt.own _ _ _ _ (by decide)) (nlc (NLt.of0 (nld Qah _)) (nlc (NLt.of0 nll) nl0)))))))) (Qai (Qbp Qan _) (Qai (Qbp Qa0 _) (Qai (Qbp Qae _) Qbe))))⟩
     ·refine bfe h (fun hb33 h=>?_) fun hb33 h=>?_
      ·obtain⟨x35,hf34,h⟩:=bno h
       obtain⟨hi36,h⟩:=cko h
       obtain⟨hi36a,hi36b⟩:=Qcx hi36
       obtain⟨x37,hg38,h⟩:=bno h
       refine Qj6 0 (.own 7 [[(.dat 5 (p2.map Qau)),(Qii p3),(.own 1 1 (0) p4),(.own 2 4 (0) p5),(.own 3 1 (0) p6),(Qpn p7),I p8]]) [mv 0 (.ref 0 7 0 0),⟨[(.tmp 21,.ref 0 7 0 0)],[],.ref 0 7 0 0,[],false⟩,⟨[(.tmp 22,.ref 0 7 0 0)],[],.ref 0 7 0 2,[],false⟩,⟨[(.tmp 23,.ref 0 7 0 2)],[],.ref 0 7 0 2,[],false⟩,⟨[(.tmp 24,.ref 0 7 0 2)],[],(.own 1 1 (0) p4),[],false⟩,mv 1 (I p0),mv 0 (.ref 0 7 0 0),⟨[(.tmp 27,.ref 0 7 0 0)],[],.ref 0 7 0 0,[],false⟩,⟨[(.tmp 28,.ref 0 7 0 0)],[],.ref 0 7 0 0,[],false⟩,⟨[(.tmp 29,.ref 0 7 0 0)],[],.ref 0 7 0 1,[],false⟩,⟨[(.tmp 30,.ref 0 7 0 1)],[],(Qii p3),[],false⟩,mv 1 (I p0),rp [(.tmp 31,(Qii p3)),(.tmp 32,I p0)] (.dptr (Qad x16) 0),mv 33 (.dptr (Qad x16) 0),rp [(.tmp 34,(.dptr (Qad x16) 0))] (K .u8 x16.Kind),rb [(.tmp 7,.ref 5 7 0 0),(.tmp 35,(K .u8 x16.Kind))] [(5,Qkp)] (.ref 5 7 0 3),rb [(.tmp 36,.ref 5 7 0 3)] [(5,Qkp)] (.fn (.func 118) [] []),mv 0 (.ref 0 7 0 0),mv 1 (I p0),rb [(.tmp 6,.ref 4 4 0 0)] [(4,(Qoy x14))] (Qgp x14),⟨[(.tmp 37,(.fn (.func 118) [] [])),(.tmp 38,.ref 0 7 0 0),(.tmp 39,I p0),(.tmp 40,(Qgp x14))],[(0,(Qfh p2 p3 p4 p5 p6 p7 p8)),(1,(Qes p9)),(2,(Qga p10)),(3,(.own 1 (p11.map Qac)))],(.dat 4 (x35.1.map Qag)),[(0,(Qfh p2 p3 p4 p5 p6 p7 p8)),(1,(Qes p9)),(2,(.own 4 (x35.2.map Qaw))),(3,(.own 1 (p11.map Qac)))],false⟩,rb [(.tmp 25,(.own 1 1 (0) p4)),(.tmp 26,I p0)] [(1,(Qes p9))] (.ref 1 1 p0.toNat 0),⟨[(.tmp 42,(.ref 1 1 p0.toNat 0)),(.tmp 41,(.dat 4 (x35.1.map Qag)))],[(1,(Qes p9))],.any,[(1,(.own 1 ((p9.set p0.toNat x35.1:List (List Qab)).map Qal)))],false⟩] (SImp.box ⟨lrf,lrf,lrf,lrf,lrf,lrf,lrf,tv⟩) ⟨tv,tv,tv,tv,tv,tv,tv,tv,tv,tv,tv,tv,tv,tv,tv,tv,tv,tv,tv,tv,⟨(SImp.box ⟨lrf,lrf,lrf,lrf,lrf,lrf,lrf,tv⟩),tv,tv,tv,tv⟩,tv,⟨tv,tv⟩,tv⟩ ?_ ?_
       ·exact⟨hr_ (amv rfl),sf_ (Qa6 rfl),sf_ (afa rfl underlying140 rfl rfl ti34 (by decide) rfl),sf_ (afa rfl underlying34 rfl rfl ti31 (by decide) rfl),sf_ (ald rfl ti31 (by decide) rfl (nle rfl) rfl),hr_ (amv rfl),hr_ (amv rfl),sf_ (Qa6 rfl),sf_ (afa rfl underlying140 rfl rfl ti42 (by decide) rfl),sf_ (afa rfl underlying42 rfl rfl ti40 (by decide) rfl),sf_ (ald rfl ti40 (by decide) rfl (nle rfl) rfl),hr_ (amv rfl),hr_ (aiq underlying40 Qfz Qad hi18 hj19),hr_ (afd rfl underlying133 rfl rfl ti5 (by decide) rfl),hr_ (ald_ rfl ti5 (by decide) (nle rfl) rfl),hr_ (Qig hb33 (Qih rfl underlying209 Qnd (by decide) (by decide) rfl)),hr_ (ald rfl Qnd (by decide) rfl (nle rfl) rfl),hr_ (amv rfl),hr_ (amv rfl),hr_ (ald rfl ti63 (by decide) rfl (nle rfl) rfl),hr_ (Qar (first:=[]) (cap:=[]) (vs:=[.ref 0 7 0 0,I p0,(Qgp x14)]) (σr:=[(Qfh p2 p3 p4 p5 p6 p7 p8),(Qes p9),(Qga p10),(.own 1 (p11.map Qac))]) (σr':=[(Qfh p2 p3 p4 p5 p6 p7 p8),(Qes p9),(.own 4 (x35.2.map Qaw)),(.own 1 (p11.map Qac))]) (res':=(.dat 4 (x35.1.map Qag))) [0,1,2,3] rfl Q50 (Ql2 N p0 x14 p2 p3 p4 p5 p6 p7 p8 p9 p10 p11 _ hf34) rfl (Qbd (rnc (Qax rfl) (rnc (.plain _ nll) (rnc (.plain _ (NLt.agg _ (nlcc (nlcc nl0)))) rn0)))) (slc (Qao (rnc (pld Qak) (rnc (pld Qaa) (rnc (Qce rfl) (rnc (Qce rfl) (rnc (Qce rfl) (rnc (pld Qah) (rnc (.plain _ nll) rn0)))))))) (slc (Qa3 Qan) (slc (Qa3 Qa0) (slc (Qa3 Qae) Qaq)))) (slc (Qao (rnc (pld Qak) (rnc (pld Qaa) (rnc (Qbt rfl) (rnc (Qbt rfl) (rnc (Qbt rfl) (rnc (pld Qah) (rnc (.plain _ nll) rn0)))))))) (slc (Qa3 Qan) (slc (Qa3 Qa0) (slc (Qa3 Qae) Qaq)))) (pld Qah) rfl rfl rfl),hr_ (aio rfl underlying31 ti45 (odt hi36a) (odt hi36b) (Nat.zero_add _)),hr_ (ast rfl ti45 (by rfl) (mgt Qal hg38) (nle rfl) (Qd2 Qal rfl)),tv⟩
       obtain rfl:=osi h
       exact⟨_,(mto (n:=43) (l':=[]) (own':=[(Qfh p2 p3 p4 p5 p6 p7 p8),(.own 1 (((p9.set p0.toNat x35.1):List (List Qab)).map Qal)),(.own 4 (x35.2.map Qaw)),(.own 1 (p11.map Qac))]) [] [0,1,2,3] [(Qfh p2 p3 p4 p5 p6 p7 p8),(.own 1 ((p9.set p0.toNat x35.1:List (List Qab)).map Qal)),(.own 4 (x35.2.map Qaw)),(.own 1 (p11.map Qac))] hφ0 pn (qb (lc (rnd Qak) (lc (rnd Qaa) (lc (.rn (Qaz rfl)) (lc (.rn (Qaz rfl)) (lc (.rn (Qaz rfl)) (lc (rnd Qah) (lc rwl ln))))))) (qc (spr Qan) (qc (spr Qa0) (qc (spr Qae) qn))))),Qjg (vs:=[]) tv rfl (NLt.tup _ nl0) (by kernel_rfl) (Qai (Qav (nlc (NLt.of0 (nld Qak _)) (nlc (NLt.of0 (nld Qaa _)) (nlc (NLt.own _ _ _ _ (by decide)) (nlc (NLt.own _ _ _ _ (by decide)) (nlc (NLt.own _ _ _ _ (by decide)) (nlc (NLt.of0 (nld Qah _)) (nlc (NLt.of0 nll) nl0)))))))) (Qai (Qbp Qan _) (Qai (Qbp Qa0 _) (Qai (Qbp Qae _) Qbe))))⟩
      ·refine bfe h (fun hb39 h=>?_) fun hb39 h=>?_
       ·obtain⟨x41,hf40,h⟩:=bno h
        obtain⟨hi42,h⟩:=cko h
        obtain⟨hi42a,hi42b⟩:=Qcx hi42
        obtain⟨x43,hg44,h⟩:=bno h
        refine Qj6 0 (.own 7 [[(.dat 5 (p2.map Qau)),(Qii p3),(.own 1 1 (0) p4),(.own 2 4 (0) p5),(.own 3 1 (0) p6),(Qpn p7),.any]]) [mv 0 (.ref 0 7 0 0),⟨[(.tmp 21,.ref 0 7 0 0)],[],.ref 0 7 0 0,[],false⟩,⟨[(.tmp 22,.ref 0 7 0 0)],[],.ref 0 7 0 2,[],false⟩,⟨[(.tmp 23,.ref 0 7 0 2)],[],.ref 0 7 0 2,[],false⟩,⟨[(.tmp 24,.ref 0 7 0 2)],[],(.own 1 1 (0) p4),[],false⟩,mv 1 (I p0),mv 0 (.ref 0 7 0 0),⟨[(.tmp 27,.ref 0 7 0 0)],[],.ref 0 7 0 0,[],false⟩,⟨[(.tmp 28,.ref 0 7 0 0)],[],.ref 0 7 0 0,[],false⟩,⟨[(.tmp 29,.ref 0 7 0 0)],[],.ref 0 7 0 1,[],false⟩,⟨[(.tmp 30,.ref 0 7 0 1)],[],(Qii p3),[],false⟩,mv 1 (I p0),rp [(.tmp 31,(Qii p3)),(.tmp 32,I p0)] (.dptr (Qad x16) 0),mv 33 (.dptr (Qad x16) 0),rp [(.tmp 34,(.dptr (Qad x16) 0))] (K .u8 x16.Kind),rb [(.tmp 7,.ref 5 7 0 0),(.tmp 35,(K .u8 x16.Kind))] [(5,Qkp)] (.ref 5 7 0 4),rb [(.tmp 36,.ref 5 7 0 4)] [(5,Qkp)] (.fn (.func 119) [] []),mv 0 (.ref 0 7 0 0),mv 1 (I p0),rb [(.tmp 6,.ref 4 4 0 0)] [(4,(Qoy x14))] (Qgp x14),⟨[(.tmp 37,(.fn (.func 119) [] [])),(.tmp 38,.ref 0 7 0 0),(.tmp 39,I p0),(.tmp 40,(Qgp x14))],[(0,(Qfh p2 p3 p4 p5 p6 p7 p8)),(1,(Qes p9)),(2,(Qga p10)),(3,(.own 1 (p11.map Qac)))],(.dat 4 (x41.1.map Qag)),[(0,(Qww p2 p3 p4 p5 p6 p7 x41)),(1,(Qes p9)),(2,(.own 4 (x41.2.2.1.map Qaw))),(3,(.own 1 (x41.2.2.2.map Qac)))],false⟩,rb [(.tmp 25,(.own 1 1 (0) p4)),(.tmp 26,I p0)] [(1,(Qes p9))] (.ref 1 1 p0.toNat 0),⟨[(.tmp 42,(.ref 1 1 p0.toNat 0)),(.tmp 41,(.dat 4 (x41.1.map Qag)))],[(1,(Qes p9))],.any,[(1,(.own 1 ((p9.set p0.toNat x41.1:List (List Qab)).map Qal)))],false⟩] (SImp.box ⟨lrf,lrf,lrf,lrf,lrf,lrf,Less.any,tv⟩) ⟨tv,tv,tv,tv,tv,tv,tv,tv,tv,tv,tv,tv,tv,tv,tv,tv,tv,tv,tv,tv,⟨(SImp.box ⟨lrf,lrf,lrf,lrf,lrf,lrf,Less.any,tv⟩),tv,tv,tv,tv⟩,tv,⟨tv,tv⟩,tv⟩ ?_ ?_
        ·exact⟨hr_ (amv rfl),sf_ (Qa6 rfl),sf_ (afa rfl underlying140 rfl rfl ti34 (by decide) rfl),sf_ (afa rfl underlying34 rfl rfl ti31 (by decide) rfl),sf_ (ald rfl ti31 (by decide) rfl (nle rfl) rfl),hr_ (amv rfl),hr_ (amv rfl),sf_ (Qa6 rfl),sf_ (afa rfl underlying140 rfl rfl ti42 (by decide) rfl),sf_ (afa rfl underlying42 rfl rfl ti40 (by decide) rfl),sf_ (ald rfl ti40 (by decide) rfl (nle rfl) rfl),hr_ (amv rfl),hr_ (aiq underlying40 Qfz Qad hi18 hj19),hr_ (afd rfl underlying133 rfl rfl ti5 (by decide) rfl),hr_ (ald_ rfl ti5 (by decide) (nle rfl) rfl),hr_ (Qig hb39 (Qih rfl underlying209 Qnd (by decide) (by decide) rfl)),hr_ (ald rfl Qnd (by decide) rfl (nle rfl) rfl),hr_ (amv rfl),hr_ (amv rfl),hr_ (ald rfl ti63 (by decide) rfl (nle rfl) rfl),hr_ (Qar (first:=[]) (cap:=[]) (vs:=[.ref 0 7 0 0,I p0,(Qgp x14)]) (σr:=[(Qfh p2 p3 p4 p5 p6 p7 p8),(Qes p9),(Qga p10),(.own 1 (p11.map Qac))]) (σr':=[(Qww p2 p3 p4 p5 p6 p7 x41),(Qes p9),(.own 4 (x41.2.2.1.map Qaw)),(.own 1 (x41.2.2.2.map Qac))]) (res':=(.dat 4 (x41.1.map Qag))) [0,1,2,3] rfl Q5z (Qjv N p0 x14 p2 p3 p4 p5 p6 p7 p8 p9 p10 p11 _ hf40) rfl (Qbd (rnc (Qax rfl) (rnc (.plain _ nll) (rnc (.plain _ (NLt.agg _ (nlcc (nlcc nl0)))) rn0)))) (slc (Qao (rnc (pld Qak) (rnc (pld Qaa) (rnc (Qce rfl) (rnc (Qce rfl) (rnc (Qce rfl) (rnc (pld Qah) (rnc (.plain _ nll) rn0)))))))) (slc (Qa3 Qan) (slc (Qa3 Qa0) (slc (Qa3 Qae) Qaq)))) (slc (Qao (rnc (pld Qak) (rnc (pld Qaa) (rnc (Qbt rfl) (rnc (Qbt rfl) (rnc (Qbt rfl) (rnc (pld Qah) (rnc (.plain _ nll) rn0)))))))) (slc (Qa3 Qan) (slc (Qa3 Qa0) (slc (Qa3 Qae) Qaq)))) (pld Qah) rfl rfl rfl),hr_ (aio rfl underlying31 ti45 (odt hi42a) (odt hi42b) (Nat.zero_add _)),hr_ (ast rfl ti45 (by rfl) (mgt Qal hg44) (nle rfl) (Qd2 Qal rfl)),tv⟩
        obtain rfl:=osi h
        exact⟨_,(mto (n:=43) (l':=[]) (own':=[(Qww p2 p3 p4 p5 p6 p7 x41),(.own 1 (((p9.set p0.toNat x41.1):List (List Qab)).map Qal)),(.own 4 (x41.2.2.1.map Qaw)),(.own 1 (x41.2.2.2.map Qac))]) [] [0,1,2,3] [(Qww p2 p3 p4 p5 p6 p7 x41),(.own 1 ((p9.set p0.toNat x41.1:List (List Qab)).map Qal)),(.own 4 (x41.2.2.1.map Qaw)),(.own 1 (x41.2.2.2.map Qac))] hφ0 pn (qb (lc (rnd Qak) (lc (rnd Qaa) (lc (.rn (Qaz rfl)) (lc (.rn (Qaz rfl)) (lc (.rn (Qaz rfl)) (lc (rnd Qah) (lc rwl ln))))))) (qc (spr Qan) (qc (spr Qa0) (qc (spr Qae) qn))))),Qjg (vs:=[]) tv rfl (NLt.tup _ nl0) (by kernel_rfl) (Qai (Qav (nlc (NLt.of0 (nld Qak _)) (nlc (NLt.of0 (nld Qaa _)) (nlc (NLt.own _ _ _ _ (by decide)) (nlc (NLt.own _ _ _ _ (by decide)) (nlc (NLt.own _ _ _ _ (by decide)) (nlc (NLt.of0 (nld Qah _)) (nlc (NLt.of0 nll) nl0)))))))) (Qai (Qbp Qan _) (Qai (Qbp Qa0 _) (Qai (Qbp Qae _) Qbe))))⟩
       ·refine bfe h (fun hb45 h=>?_) fun hb45 h=>?_
        ·obtain⟨x47,hf46,h⟩:=bno h
         obtain⟨hi48,h⟩:=cko h
         obtain⟨hi48a,hi48b⟩:=Qcx hi48
         obtain⟨x49,hg50,h⟩:=bno h
         refine Qj6 0 (.own 7 [[(.dat 5 (p2.map Qau)),(Qii p3),(.own 1 1 (0) p4),(.own 2 4 (0) p5),(.own 3 1 (0) p6),(Qpn p7),I p8]]) [mv 0 (.ref 0 7 0 0),⟨[(.tmp 21,.ref 0 7 0 0)],[],.ref 0 7 0 0,[],false⟩,⟨[(.tmp 22,.ref 0 7 0 0)],[],.ref 0 7 0 2,[],false⟩,⟨[(.tmp 23,.ref 0 7 0 2)],[],.ref 0 7 0 2,[],false⟩,⟨[(.tmp 24,.ref 0 7 0 2)],[],(.own 1 1 (0) p4),[],false⟩,mv 1 (I p0),mv 0 (.ref 0 7 0 0),⟨[(.tmp 27,.ref 0 7 0 0)],[],.ref 0 7 0 0,[],false⟩,⟨[(.tmp 28,.ref 0 7 0 0)],[],.ref 0 7 0 0,[],false⟩,⟨[(.tmp 29,.ref 0 7 0 0)],[],.ref 0 7 0 1,[],false⟩,⟨[(.tmp 30,.ref 0 7 0 1)],[],(Qii p3),[],false⟩,mv 1 (I p0),rp [(.tmp 31,(Qii p3)),(.tmp 32,I p0)] (.dptr (Qad x16) 0),mv 33 (.dptr (Qad x16) 0),rp [(.tmp 34,(.dptr (Qad x16) 0))] (K .u8 x16.Kind),rb [(.tmp 7,.ref 5 7 0 0),(.tmp 35,(K .u8 x16.Kind))] [(5,Qkp)] (.ref 5 7 0 5),rb [(.tmp 36,.ref 5 7 0 5)] [(5,Qkp)] (.fn (.func 120) [] []),mv 0 (.ref 0 7 0 0),mv 1 (I p0),rb [(.tmp 6,.ref 4 4 0 0)] [(4,(Qoy x14))] (Qgp x14),⟨[(.tmp 37,(.fn (.func 120) [] [])),(.tmp 38,.ref 0 7 0 0),(.tmp 39,I p0),(.tmp 40,(Qgp x14))],[(0,(Qfh p2 p3 p4 p5 p6 p7 p8)),(1,(Qes p9)),(2,(Qga p10)),(3,(.own 1 (p11.map Qac)))],(.dat 4 (x47.1.map Qag)),[(0,(Qfh p2 p3 p4 p5 p6 p7 p8)),(1,(Qes p9)),(2,(.own 4 (x47.2.map Qaw))),(3,(.own 1 (p11.map Qac)))],false⟩,rb [(.tmp 25,(.own 1 1 (0) p4)),(.tmp 26,I p0)] [(1,(Qes p9))] (.ref 1 1 p0.toNat 0),⟨[(.tmp 42,(.ref 1 1 p0.toNat 0)),(.tmp 41,(.dat 4 (x47.1.map Qag)))],[(1,(Qes p9))],.any,[(1,(.own 1 ((p9.set p0.toNat x47.1:List (List Qab)).map Qal)))],false⟩] (SImp.box ⟨lrf,lrf,lrf,lrf,lrf,lrf,lrf,tv⟩) ⟨tv,tv,tv,tv,tv,tv,tv,tv,tv,tv,tv,tv,tv,tv,tv,tv,tv,tv,tv,tv,⟨(SImp.box ⟨lrf,lrf,lrf,lrf,lrf,lrf,lrf,tv⟩),tv,tv,tv,tv⟩,tv,⟨tv,tv⟩,tv⟩ ?_ ?_
         ·exact⟨hr_ (amv rfl),sf_ (Qa6 rfl),sf_ (afa rfl underlying140 rfl rfl ti34 (by decide) rfl),sf_ (afa rfl underlying34 rfl rfl ti31 (by decide) rfl),sf_ (ald rfl ti31 (by decide) rfl (nle rfl) rfl),hr_ (amv rfl),hr_ (amv rfl),sf_ (Qa6 rfl),sf_ (afa rfl underlying140 rfl rfl ti42 (by decide) rfl),sf_ (afa rfl underlying42 rfl rfl ti40 (by decide) rfl),sf_ (ald rfl ti40 (by decide) rfl (nle rfl) rfl),hr_ (amv rfl),hr_ (aiq underlying40 Qfz Qad hi18 hj19),hr_ (afd rfl underlying133 rfl rfl ti5 (by decide) rfl),hr_ (ald_ rfl ti5 (by decide) (nle rfl) rfl),hr_ (Qig hb45 (Qih rfl underlying209 Qnd (by decide) (by decide) rfl)),hr_ (ald rfl Qnd (by decide) rfl (nle rfl) rfl),hr_ (amv rfl),hr_ (amv rfl),hr_ (ald rfl ti63 (by decide) rfl (nle rfl) rfl),hr_ (Qar (first:=[]) (cap:=[]) (vs:=[.ref 0 7 0 0,I p0,(Qgp x14)]) (σr:=[(Qfh p2 p3 p4 p5 p6 p7 p8),(Qes p9),(Qga p10),(.own 1 (p11.map Qac))]) (σr':=[(Qfh p2 p3 p4 p5 p6 p7 p8),(Qes p9),(.own 4 (x47.2.map Qaw)),(.own 1 (p11.map Qac))]) (res':=(.dat 4 (x47.1.map Qag))) [0,1,2,3] rfl Q5y (Qlb N p0 x14 p2 p3 p4 p5 p6 p7 p8 p9 p10 p11 _ hf46) rfl (Qbd (rnc (Qax rfl) (rnc (.plain _ nll) (rnc (.plain _ (NLt.agg _ (nlcc (nlcc nl0)))) rn0)))) (slc (Qao (rnc (pld Qak) (rnc (pld Qaa) (rnc (Qce rfl) (rnc (Qce rfl) (rnc (Qce rfl) (rnc (pld Qah) (rnc (.plain _ nll) rn0)))))))) (slc (Qa3 Qan) (slc (Qa3 Qa0) (slc (Qa3 Qae) Qaq)))) (slc (Qao (rnc (pld Qak) (rnc (pld Qaa) (rnc (Qbt rfl) (rnc (Qbt rfl) (rnc (Qbt rfl) (rnc (pld Qah) (rnc (.plain _ nll) rn0)))))))) (slc (Qa3 Qan) (slc (Qa3 Qa0) (slc (Qa3 Qae) Qaq)))) (pld Qah) rfl rfl rfl),hr_ (aio rfl underlying31 ti45 (odt hi48a) (odt hi48b) (Nat.zero_add _)),hr_ (ast rfl ti45 (by rfl) (mgt Qal hg50) (nle rfl) (Qd2 Qal rfl)),tv⟩
         obtain rfl:=osi h
         exact⟨_,(mto (n:=43) (l':=[]) (own':=[(Qfh p2 p3 p4 p5 p6 p7 p8),(.own 1 (((p9.set p0.toNat x47.1):List (List Qab)).map Qal)),(.own 4 (x47.2.map Qaw)),(.own 1 (p11.map Qac))]) [] [0,1,2,3] [(Qfh p2 p3 p4 p5 p6 p7 p8),(.own 1 ((p9.set p0.toNat x47.1:List (List Qab)).map Qal)),(.own 4 (x47.2.map Qaw)),(.own 1 (p11.map Qac))] hφ0 pn (qb (lc (rnd Qak) (lc (rnd Qaa) (lc (.rn (Qaz rfl)) (lc (.rn (Qaz rfl)) (lc (.rn (Qaz rfl)) (lc (rnd Qah) (lc rwl ln))))))) (qc (spr Qan) (qc (spr Qa0) (qc (spr Qae) qn))))),Qjg (vs:=[]) tv rfl (NLt.tup _ nl0) (by kernel_rfl) (Qai (Qav (nlc (NLt.of0 (nld Qak _)) (nlc (NLt.of0 (nld Qaa _)) (nlc (NLt.own _ _ _ _ (by decide)) (nlc (NLt.own _ _ _ _ (by decide)) (nlc (NLt.own _ _ _ _ (by decide)) (nlc (NLt.of0 (nld Qah _)) (nlc (NLt.of0 nll) nl0)))))))) (Qai (Qbp Qan _) (Qai (Qbp Qa0 _) (Qai (Qbp Qae _) Qbe))))⟩
        ·refine bfe h (fun hb51 h=>?_) fun hb51 h=>?_
         ·obtain⟨x53,hf52,h⟩:=bno h
          obtain⟨hi54,h⟩:=cko h
          obtain⟨hi54a,hi54b⟩:=Qcx hi54
          obtain⟨x55,hg56,h⟩:=bno h
          refine Qj6 0 (.own 7 [[(.dat 5 (p2.map Qau)),(Qii p3),(.own 1 1 (0) p4),(.own 2 4 (0) p5),(.own 3 1 (0) p6),(Qpn p7),I p8]]) [mv 0 (.ref 0 7 0 0),⟨[(.tmp 21,.ref 0 7 0 0)],[],.ref 0 7 0 0,[],false⟩,⟨[(.tmp 22,.ref 0 7 0 0)],[],.ref 0 7 0 2,[],false⟩,⟨[(.tmp 23,.ref 0 7 0 2)],[],.ref 0 7 0 2,[],false⟩,⟨[(.tmp 24,.ref 0 7 0 2)],[],(.own 1 1 (0) p4),[],false⟩,mv 1 (I p0),mv 0 (.ref 0 7 0 0),⟨[(.tmp 27,.ref 0 7 0 0)],[],.ref 0 7 0 0,[],false⟩,⟨[(.tmp 28,.ref 0 7 0 0)],[],.ref 0 7 0 0,[],false⟩,⟨[(.tmp 29,.ref 0 7 0 0)],[],.ref 0 7 0 1,[],false⟩,⟨[(.tmp 30,.ref 0 7 0 1)],[],(Qii p3),[],false⟩,mv 1 (I p0),rp [(.tmp 31,(Qii p3)),(.tmp 32,I p0)] (.dptr (Qad x16) 0),mv 33 (.dptr (Qad x16) 0),rp [(.tmp 34,(.dptr (Qad x16) 0))] (K .u8 x16.Kind),rb [(.tmp 7,.ref 5 7 0 0),(.tmp 35,(K .u8 x16.Kind))] [(5,Qkp)] (.ref 5 7 0 6),rb [(.tmp 36,.ref 5 7 0 6)] [(5,Qkp)] (.fn (.func 117) [] []),mv 0 (.ref 0 7 0 0),mv 1 (I p0),rb [(.tmp 6,.ref 4 4 0 0)] [(4,(Qoy x14))] (Qgp x14),⟨[(.tmp 37,(.fn (.func 117) [] [])),(.tmp 38,.ref 0 7 0 0),(.tmp 39,I p0),(.tmp 40,(Qgp x14))],[(0,(Qfh p2 p3 p4 p5 p6 p7 p8)),(1,(Qes p9)),(2,(Qga p10)),(3,(.own 1 (p11.map Qac)))],(.dat 4 (x53.map Qag)),[(0,(Qfh p2 p3 p4 p5 p6 p7 p8)),(1,(Qes p9)),(2,(Qga p10)),(3,(.own 1 (p11.map Qac)))],false⟩,rb [(.tmp 25,(.own 1 1 (0) p4)),(.tmp 26,I p0)] [(1,(Qes p9))] (.ref 1 1 p0.toNat 0),⟨[(.tmp 42,(.ref 1 1 p0.toNat 0)),(.tmp 41,(.dat 4 (x53.map Qag)))],[(1,(Qes p9))],.any,[(1,(.own 1 ((p9.set p0.toNat x53:List (List Qab)).map Qal)))],false⟩] (SImp.box ⟨lrf,lrf,lrf,lrf,lrf,lrf,lrf,tv⟩) ⟨tv,tv,tv,tv,tv,tv,tv,tv,tv,tv,tv,tv,tv,tv,tv,tv,tv,tv,tv,tv,⟨(SImp.box ⟨lrf,lrf,lrf,lrf,lrf,lrf,lrf,tv⟩),tv,tv,tv,tv⟩,tv,⟨tv,tv⟩,tv⟩ ?_ ?_
          ·exact⟨hr_ (amv rfl),sf_ (Qa6 rfl),sf_ (afa rfl underlying140 rfl rfl ti34 (by decide) rfl),sf_ (afa rfl underlying34 rfl rfl ti31 (by decide) rfl),sf_ (ald rfl ti31 (by decide) rfl (nle rfl) rfl),hr_ (amv rfl),hr_ (amv rfl),sf_ (Qa6 rfl),sf_ (afa rfl underlying140 rfl rfl ti42 (by decide) rfl),sf_ (afa rfl underlying42 rfl rfl ti40 (by decide) rfl),sf_ (ald rfl ti40 (by decide) rfl (nle rfl) rfl),hr_ (amv rfl),hr_ (aiq underlying40 Qfz Qad hi18 hj19),hr_ (afd rfl underlying133 rfl rfl ti5 (by decide) rfl),hr_ (ald_ rfl ti5 (by decide) (nle rfl) rfl),hr_ (Qig hb51 (Qih rfl underlying209 Qnd (by decide) (by decide) rfl)),hr_ (ald rfl Qnd (by decide) rfl (nle rfl) rfl),hr_ (amv rfl),hr_ (amv rfl),hr_ (ald rfl ti63 (by decide) rfl (nle rfl) rfl),hr_ (Qar (first:=[]) (cap:=[]) (vs:=[.ref 0 7 0 0,I p0,(Qgp x14)]) (σr:=[(Qfh p2 p3 p4 p5 p6 p7 p8),(Qes p9),(Qga p10),(.own 1 (p11.map Qac))]) (σr':=[(Qfh p2 p3 p4 p5 p6 p7 p8),(Qes p9),(Qga p10),(.own 1 (p11.map Qac))]) (res':=(.dat 4 (x53.map Qag))) [0,1,2,3] rfl Qs0 (Qf9 N p0 x14 p2 p3 p4 p5 p6 p7 p8 p9 p10 p11 _ hf52) rfl (Qbd (rnc (Qax rfl) (rnc (.plain _ nll) (rnc (.plain _ (NLt.agg _ (nlcc (nlcc nl0)))) rn0)))) (slc (Qao (rnc (pld Qak) (rnc (pld Qaa) (rnc (Qce rfl) (rnc (Qce rfl) (rnc (Qce rfl) (rnc (pld Qah) (rnc (.plain _ nll) rn0)))))))) (slc (Qa3 Qan) (slc (Qa3 Qa0) (slc (Qa3 Qae) Qaq)))) (slc (Qao (rnc (pld Qak) (rnc (pld Qaa) (rnc (Qbt rfl) (rnc (Qbt rfl) (rnc (Qbt rfl) (rnc (pld Qah) (rnc (.plain _ nll) rn0)))))))) (slc (Qa3 Qan) (slc (Qa3 Qa0) (slc (Qa3 Qae) Qaq)))) (pld Qah) rfl rfl rfl),hr_ (aio rfl underlying31 ti45 (odt hi54a) (odt hi54b) (Nat.zero_add _)),hr_ (ast rfl ti45 (by rfl) (mgt Qal hg56) (nle rfl) (Qd2 Qal rfl)),tv⟩
          obtain rfl:=osi h
          exact⟨_,(mto (n:=43) (l':=[]) (own':=[(Qfh p2 p3 p4 p5 p6 p7 p8),(.own 1 (((p9.set p0.toNat x53):List (List Qab)).map Qal)),(Qga p10),(.own 1 (p11.map Qac))]) [] [0,1,2,3] [(Qfh p2 p3 p4 p5 p6 p7 p8),(.own 1 ((p9.set p0.toNat x53:List (List Qab)).map Qal)),(Qga p10),(.own 1 (p11.map Qac))] hφ0 pn (qb (lc (rnd Qak) (lc (rnd Qaa) (lc (.rn (Qaz rfl)) (lc (.rn (Qaz rfl)) (lc (.rn (Qaz rfl)) (lc (rnd Qah) (lc rwl ln))))))) (qc (spr Qan) (qc (spr Qa0) (qc (spr Qae) qn))))),Qjg (vs:=[]) tv rfl (NLt.tup _ nl0) (by kernel_rfl) (Qai (Qav (nlc (NLt.of0 (nld Qak _)) (nlc (NLt.of0 (nld Qaa _)) (nlc (NLt.own _ _ _ _ (by decide)) (nlc (NLt.own _ _ _ _ (by decide)) (nlc (NLt.own _ _ _ _ (by decide)) (nlc (NLt.of0 (nld Qah _)) (nlc (NLt.of0 nll) nl0)))))))) (Qai (Qbp Qan _) (Qai (Qbp Qa0 _) (Qai (Qbp Qae _) Qbe))))⟩
         ·cases h
  ·skip
   refine wxz ?_
   refine bfe h (fun hc57 h=>?_) fun hc57 h=>?_
   ·refine wft hc57<|Q6f 3 [mv 1 (I p0),rp [(.tmp 17,I p0)] (.agg [I p0]),rp [(.tmp 18,(.agg [I p0]))] (.lit (.iface 182 (.agg #[(.int .i64 p0)]))),⟨[(.tmp 19,(.lit (.iface 182 (.agg #[(.int .i64 p0)]))))],[],.any,[],false⟩] (by exact⟨by kernel_rfl,by kernel_rfl⟩) rfl (by kernel_rfl) rfl (Qvt rfl) (⟨fun _ _=>amv rfl,fun _ _=>Qay (vs:=[I p0]) rfl Zc6 Zbt rfl (by rfl) rfl,fun _ _=>awk (rd':=[(.tmp 18,.lit (.agg #[(.int .i64 p0)]))]) ⟨rfl,(Less.lits [(.int .i64 p0)]),tv⟩ (Qwe rfl underlying182),fun _ h=>absurd rfl h,tv⟩) ?_
    obtain rfl:=osi h
    exact rfl
   ·exact wfn hc57<|Qat<|thn<|⟨(),h,(mto (n:=43) [(0,.ref 0 7 0 0),(1,I p0),(6,.ref 7 4 0 0)] [0,1,2,3,7] [(Qfh p2 p3 p4 p5 p6 p7 p8),(Qes p9),(Qga p10),(.own 1 (p11.map Qac)),(Qoy x14)] hφ0 (prr (pw (prr pn))) (qb (lc (rnd Qak) (lc (rnd Qaa) (lc (.rn (Qaz rfl)) (lc (.rn (Qaz rfl)) (lc (.rn (Qaz rfl)) (lc (rnd Qah) (lc rwl ln))))))) (qc (spr Qan) (qc (spr Qa0) (qc (spr Qae) (qb (lcc (lcc ln)) qn))))))⟩
theorem Qjx (N:Nat) (p0 p1:Int) (p2:List GRow) (p3:List Qaf) (p4 p5 p6:Nat) (p7:List Qab) (p8:Int) (p9:List (List Qab)) (p10:List Qbg) (p11:List Int) (r:(Int×(List (List Qab))×(List Qbg)×(List Int))) (h:Qdx N p0 p1 p2 p3 p4 p5 p6 p7 p8 p9 p10 p11=some (.inl r)):Spec prog 97 [.ref 0 7 0 0,I p0,I p1] [(Qfh p2 p3 p4 p5 p6 p7 p8),(Qes p9),(Qga p10),(.own 1 (p11.map Qac))] (.tup []) [(.own 7 [[(.dat 5 (p2.map Qau)),(.dat 7 (p3.map Qad)),(.own 1 1 (0) p4),(.own 2 4 (0) p5),(.own 3 1 (0) p6),(.dat 4 (p7.map Qag)),I r.1]]),(.own 1 (r.2.1.map Qal)),(.own 4 (r.2.2.1.map Qaw)),(.own 1 (r.2.2.2.map Qac))]:=Qg1 N p0 p1 p2 p3 p4 p5 p6 p7 p8 p9 p10 p11 _ h
theorem Qjw (N:Nat) (p0 p1:Int) (p2:List GRow) (p3:List Qaf) (p4 p5 p6:Nat) (p7:List Qab) (p8:Int) (p9:List (List Qab)) (p10:List Qbg) (p11:List Int) (r:Int) (h:Qdx N p0 p1 p2 p3 p4 p5 p6 p7 p8 p9 p10 p11=some (.inr r)):Q6o prog 97 [.ref 0 7 0 0,I p0,I p1] [(Qfh p2 p3 p4 p5 p6 p7 p8),(Qes p9),(Qga p10),(.own 1 (p11.map Qac))] (.iface 182 (.agg #[(.int .i64 r)])):=Qg1 N p0 p1 p2 p3 p4 p5 p6 p7 p8 p9 p10 p11 _ h
def Zaj:Slot:=.own 1 [[(.lit (.pointer none))]]
theorem Qnn (v0:Int):DPan prog 96 [1,1] (.iface 182 (.agg #[(.int .i64 v0)])) [[(.lit (.pointer none))],[(I v0)]]:=by
  refine Qo1 (t:=5) (args:=[.ref 0 1 0 0,.ref 1 1 0 0]) func96 rfl (fun _ _=>rfl) (by kernel_rfl) Q9f 2 (nle rfl) (fun X φ0 w0 hφ0=>?_)
  refine Qbj<|Qas ?_
  refine wx tbk [(0,rp [(.tmp 5,(.lit (.iface 182 (.agg #[(.int .i64 v0)])))),(.const .nilIface,(.lit .nilIface))] (B false))] ⟨Qwd rfl underlying20,tv⟩<|wfa ?_
  exact wx tbk [(0,rp [(.tmp 5,(.lit (.iface 182 (.agg #[(.int .i64 v0)]))))] (.tup [(.agg [I v0]),B true]))] ⟨Qwa (r:=.lit (.tuple #[(.agg #[(.int .i64 v0)]),(.bool true)])) (Less.trans Q2a (Less.tup ⟨Q2b (l:=[(.int .i64 v0)]),lrf,tv⟩)) (Qs7 rfl underlying182),tv⟩<|wtr<|wxz<|wxe1<|bln<|⟨_,(mto (n:=13) (l':=[]) (own':=[Zaj,(.own 1 [[I v0]])]) [] [0,1] [Zaj,(.own 1 [[I v0]])] hφ0 pn (qb (lc rwl ln) (qb (lc rwl ln) qn))),Qca (vs:=[]) tv rfl (NLt.tup _ nl0) (by kernel_rfl) (Qai (Qav (nlt0 (nlc nll nl0))) (Qai (Qav (nlt0 (nlc nll nl0))) Qbe))⟩
end
section
set_option maxRecDepth 100000
set_option maxHeartbeats 4000000
open Go.RowKit
def Qdz (N:Nat) (p0:GNet) (p1:List Int) (p2:List Qab) (k16:(List (List Qab))×(List Qbg)×(List Int)×Int→Option (Int⊕(Int×Int×(List (List Qab))×(List Qbg)×(List Int)))):Nat→Int→(List (List Qab))→(List Qbg)→(List Int)→Int→Option (Int⊕(Int×Int×(List (List Qab))×(List Qbg)×(List Int)))
  |0,_,_,_,_,_=>none
  |n27+1,y17,y18,y19,y20,y21=>
    bif (decide (y17<(p0.Elements.length:Int))) then
     (getI p0.Elements y17).bind fun x29=>
     (getI p1 y17).bind fun x33=>
     (Qgg N x29 x33).bind fun x38=>
     (Qdx N y17 x38 p0.Table p0.Elements ((p0.Elements.length:Int).toNat) ((p0.Elements.length:Int).toNat) p1.length p2 y21 y18 y19 y20).bind (
      Sum.elim (fun x41=>
        Qdz N p0 p1 p2 k16 n27 (w64 (y17+1)) x41.2.1 x41.2.2.1 x41.2.2.2 x41.1)
      (fun x42=>
        some (.inl x42)))
    else
     k16 (y18,y19,y20,y21)
def Qe2 (N:Nat) (p0:GNet) (p1:List Int) (p2:List Qab):Option (Int⊕(Int×Int×(List (List Qab))×(List Qbg)×(List Int))):=
  chk (decide (0≤(p0.Elements.length:Int))&&decide (24*(p0.Elements.length:Int)≤281474976710656)&&decide ((p0.Elements.length:Int)≤9223372036854775807))<|
  chk (decide (0≤(p0.Elements.length:Int))&&decide (32*(p0.Elements.length:Int)≤281474976710656)&&decide ((p0.Elements.length:Int)≤9223372036854775807))<|
  (Qfk N p1).bind fun _=>
  Qdr (fun ⟨y12,y13,y14,y15⟩=>
    some (.inr ((-1),y15,y12,y13,y14))) fun k16:(List (List Qab))×(List Qbg)×(List Int)×Int→Option (Int⊕(Int×Int×(List (List Qab))×(List Qbg)×(List Int)))=>
  Qdz N p0 p1 p2 k16 N 0 (List.replicate (p0.Elements.length:Int).toNat ([])) (List.replicate (p0.Elements.length:Int).toNat (⟨0,0,0,0⟩:Qbg)) p1 0
def Qyl (p0:GNet):AV:=.dat 5 (p0.Table.map Qau)
def Qq2 (p0:GNet):AV:=.dat 7 (p0.Elements.map Qad)
def Q3p (p0:GNet):AV:=.agg [(Qyl p0),(Qq2 p0)]
def Qtd (p2:List Qab):AV:=.dat 4 (p2.map Qag)
def Zag (p0:GNet):Slot:=.own 1 ((List.replicate (p0.Elements.length:Int).toNat ([]):List (List Qab)).map Qal)
def Zaf (p0:GNet):Slot:=.own 4 ((List.replicate (p0.Elements.length:Int).toNat (⟨0,0,0,0⟩:Qbg):List Qbg).map Qaw)
def Zch (p0:GNet) (p1:List Int):AV:=.agg [(.own 3 1 (0) ((p0.Elements.length:Int).toNat)),(.own 4 4 (0) ((p0.Elements.length:Int).toNat)),(.own 5 1 (0) p1.length)]
def Qyk (p0:GNet):Slot:=.own 2 [[(Qyl p0),(Qq2 p0)]]
def Qov:Slot:=.own 1 [[(.ref 6 7 (0) 0)]]
def Qz3 (p0:GNet) (p1:List Int) (p2:List Qab) (y15:Int):Slot:=.own 7 [[(Qyl p0),(Qq2 p0),(.own 3 1 (0) ((p0.Elements.length:Int).toNat)),(.own 4 4 (0) ((p0.Elements.length:Int).toNat)),(.own 5 1 (0) p1.length),(Qtd p2),(I y15)]]
def Q6w (p0:GNet) (p1:List Int) (p2:List Qab):Slot:=.own 7 [[(Qyl p0),(Qq2 p0),(.own 3 1 (0) ((p0.Elements.length:Int).toNat)),(.own 4 4 (0) ((p0.Elements.length:Int).toNat)),(.own 5 1 (0) p1.length),(Qtd p2),(I (0))]]
def Qpl (y18:List (List Qab)):Slot:=.own 1 (y18.map Qal)
def Qpk (y19:List Qbg):Slot:=.own 4 (y19.map Qaw)
def Qpm (p0:GNet) (p1:List Int) (p2:List Qab) (y21:Int):Slot:=.own 7 [[(Qyl p0),(Qq2 p0),(.own 3 1 (0) ((p0.Elements.length:Int).toNat)),(.own 4 4 (0) ((p0.Elements.length:Int).toNat)),(.own 5 1 (0) p1.length),(Qtd p2),(I y21)]]
def Qr1 (x29:Qaf):AV:=.agg [(K .u8 x29.Kind),(.dat 2 (x29.From.map Qbc)),(I x29.Level),(I x29.Amount),(I x29.Wide),(I x29.Narrow),(.dat 1 (x29.Weights.map Qac))]
def Qz4 (p0:GNet) (p1:List Int) (p2:List Qab) (x41:(Int×(List (List Qab))×(List Qbg)×(List Int))):Slot:=.own 7 [[(Qyl p0),(Qq2 p0),(.own 3 1 (0) (((p0.Elements.length:Int).toNat))),(.own 4 4 (0) (((p0.Elements.length:Int).toNat))),(.own 5 1 (0) p1.length),(Qtd p2),(I x41.1)]]
def Zah:Slot:=.own 1 [[(.lit (.pointer none))]]
theorem Qjz (N:Nat) (p0:GNet) (p1:List Int) (p2:List Qab) (r:(Int⊕(Int×Int×(List (List Qab))×(List Qbg)×(List Int)))) (h:Qe2 N p0 p1 p2=some r):Spec prog 58 [(Q3p p0),(.dat 1 (p1.map Qac)),(Qtd p2)] [] (((Sum.elim (fun r=>(.tup [(.lit (.pointer none)),(I r)])) (fun r=>(.tup [(.ref 2 7 (0) 0),(I r.1)]))):(Int⊕(Int×Int×(List (List Qab))×(List Qbg)×(List Int)))→AV) r) (((Sum.elim (fun r=>[(.own 1 [[(.lit (.pointer none))]]),(.own 1 [[(I r)]])]) (fun r=>[(.own 1 [[(.ref 2 7 (0) 0)]]),(.own 1 [[(I r.1)]]),(.own 7 [[(.dat 5 (p0.Table.map Qau)),(.dat 7 (p0.Elements.map Qad)),(.own 3 1 (0) ((p0.Elements.length:Int).toNat)),(.own 4 4 (0) ((p0.Elements.length:Int).toNat)),(.own 5 1 (0) p1.length),(.dat 4 (p2.map Qag)),(I r.2.1)]]),(.own 1 (r.2.2.1.map Qal)),(.own 4 (r.2.2.2.1.map Qaw)),(.own 1 (r.2.2.2.2.map Qac))])):(Int⊕(Int×Int×(List (List Qab))×(List Qbg)×(List Int)))→List Slot) r):=by
  refine Qts func58 rfl (fun X φ0 w0 hφ0 hd0=>?_)
  unfold Qe2 at h
  refine Qyf (k:=6) hd0 (fun n hn=>hφ0 n (Nat.le_trans (nle rfl) hn))<|wxz1<|thn ?_
  refine Qyf (k:=6) hd0 (fun n hn=>hφ0 n (Nat.le_trans (nle rfl) hn)) ?_
  obtain⟨hm8,h⟩:=cko h
  obtain⟨hm9,h⟩:=cko h
  obtain⟨x11,hf10,h⟩:=bno h
  refine wy1 tbk [(3,rp _ _),(4,⟨[(.tmp 13,(I ((p0.Elements.length:Int)))),(.tmp 13,(I ((p0.Elements.length:Int))))],[(3,.unused)],(.own 3 1 (0) ((p0.Elements.length:Int).toNat)),[(3,(Zag p0))],false⟩),(7,rp _ _),(8,⟨[(.tmp 17,(I ((p0.Elements.length:Int)))),(.tmp 17,(I ((p0.Elements.length:Int))))],[(4,.unused)],(.own 4 4 (0) ((p0.Elements.length:Int).toNat)),[(4,(Zaf p0))],false⟩),(10,⟨_,_,_,_,false⟩),(11,rp _ _),(13,rp _ _)] ⟨alq 7 Qad p0.Elements underlying40,Q3d (c:=Qal) (v:=([])) (z:=[nilS]) (k:=(p0.Elements.length:Int).toNat) ⟨Less.nil,tv⟩ (Qlw rfl underlying31 te45 tz45 rfl (Qwi hm8) rfl (Qwh hm8) (Qyj hm8) rfl),alq 7 Qad p0.Elements underlying40,Qlw rfl underlying32 te82 tz82 rfl (Qwi hm9) rfl (Qwh hm9) (Qyj hm9) (Qvs Qaw rfl),Qar (first:=[]) (cap:=[]) (vs:=[(.dat 1 (p1.map Qac))]) (σr:=[]) (σr':=[(.own 1 (p1.map Qac))]) (res':=(.own 5 1 (0) p1.length)) [5] rfl Qv0 (Qi9 N p1 _ hf10) rfl (Qbd (rnc (pld Qae) rn0)) Qaq (slc (Qa3 Qae) Qaq) (Qbt rfl) rfl rfl rfl,Qay (vs:=[(.own 3 1 (0) ((p0.Elements.length:Int).toNat)),(.own 4 4 (0) ((p0.Elements.length:Int).toNat)),(.own 5 1 (0) p1.length)]) rfl ts34 tz34 rfl (by rfl) rfl,Qay (vs:=[(Q3p p0),(Zch p0 p1),(Qtd p2)]) rfl Zc7 Zbu rfl (by rfl) rfl,tv⟩<|thn ?_
  refine Qza (k:=6) [(1,1),(2,1)] hd0 (fun n hn=>hφ0 n (Nat.le_trans (nle rfl) hn)) Q9p rfl rfl (by kernel_rfl) (by kernel_rfl) (by kernel_rfl) Qoj (fun φ1 w1 hφ1 hd1=>?_)
  obtain⟨k16,hk_k16,h⟩:=jko h
  refine wjn (τ:=(List (List Qab))×(List Qbg)×(List Int)×Int) (fun t=>k16 t=some r) (fun ⟨y12,y13,y14,y15⟩=>⟨mk 45 [(6,.ref 1 1 0 0),(7,.ref 2 1 0 0)],[(Qyk p0),Qov,(.own 1 [[I 0]]),(.own 1 (y12.map Qal)),(.own 4 (y13.map Qaw)),(.own 1 (y14.map Qac)),(Qz3 p0 p1 p2 y15)]⟩) (fun t h=>?_) ?_
  ·subst hk_k16
   obtain⟨y12,y13,y14,y15⟩:=t
   refine wxz<|Qaj ?_
   obtain rfl:=osi h
   exact⟨_,(mto (n:=45) (l':=[(6,.ref 0 1 0 0),(7,.ref 1 1 0 0)]) (own':=[(.own 1 [[.ref 2 7 0 0]]),(.own 1 [[(I ((-1)))]]),(Qz3 p0 p1 p2 y15),(.own 1 (y12.map Qal)),(.own 4 (y13.map Qaw)),(.own 1 (y14.map Qac))]) [(6,.ref 1 1 0 0),(7,.ref 2 1 0 0)] [1,2,6,3,4,5] [Qov,(.own 1 [[(I ((-1)))]]),(Qz3 p0 p1 p2 y15),(.own 1 (y12.map Qal)),(.own 4 (y13.map Qaw)),(.own 1 (y14.map Qac))] hφ0 (prr (prr pn)) (qb (lc (.rn (rqr rfl)) ln) (qb (lc rwl ln) (qb (lc (rnd Qak) (lc (rnd Qaa) (lc (.rn (Qaz rfl)) (lc (.rn (Qaz rfl)) (lc (.rn (Qaz rfl)) (lc (rnd Qah) (lc rwl ln))))))) (qc (spr Qan) (qc (spr Qa0) (qc (spr Qae) qn))))))),Qjg (vs:=[.ref 2 7 0 0,I (-1)]) ⟨Qbk (n:=0) (m:=1) (j:=0) (i:=0) (xs:=[[.ref 2 7 0 0]]) (by kernel_rfl) (by kernel_rfl) Qly (by decide) rfl (nle rfl) rfl,Qbk (n:=1) (m:=1) (j:=0) (i:=0) (xs:=[[I (-1)]]) (by kernel_rfl) (by kernel_rfl) ti3 (by decide) rfl (nle rfl) rfl,tv⟩ rfl (NLt.tup _ (nlc (NLt.ref _ _ _ _ (by decide)) (nlc (NLt.of0 nll) nl0))) (by kernel_rfl) (Qai (Qav (nlc (NLt.ref _ _ _ _ (by decide)) nl0)) (Qai (Qav (nlc (NLt.of0 nll) nl0)) (Qai (Qav (nlc (NLt.of0 (nld Qak _)) (nlc (NLt.of0 (nld Qaa _)) (nlc (NLt.own _ _ _ _ (by decide)) (nlc (NLt.own _ _ _ _ (by decide)) (nlc (NLt.own _ _ _ _ (by decide)) (nlc (NLt.of0 (nld Qah _)) (nlc (NLt.of0 nll) nl0)))))))) (Qai (Qbp Qan _) (Qai (Qbp Qa0 _) (Qai (Qbp Qae _) Qbe))))))⟩
  ·skip
   refine wx tbk [(2,rp _ _)] ⟨alq 7 Qad p0.Elements underlying40,tv⟩<|Qas ?_
   refine wmr (mto (n:=45) (l':=[(1,(.dat 1 (p1.map Qac))),(6,.ref 1 1 0 0),(7,.ref 2 1 0 0),(27,(Qq2 p0)),(28,(I ((p0.Elements.length:Int)))),(29,I 0)]) (own':=[(Qyk p0),Qov,(.own 1 [[I 0]]),(.own 1 (((List.replicate (p0.Elements.length:Int).toNat ([])):List (List Qab)).map Qal)),(.own 4 (((List.replicate (p0.Elements.length:Int).toNat (⟨0,0,0,0⟩:Qbg)):List Qbg).map Qaw)),(.own 1 (p1.map Qac)),(Q6w p0 p1 p2)]) [(1,(.dat 1 (p1.map Qac))),(6,.ref 1 1 0 0),(7,.ref 2 1 0 0),(27,(Qq2 p0)),(28,(I ((p0.Elements.length:Int)))),(29,I 0)] [0,1,2,3,4,5,6] [(Qyk p0),Qov,(.own 1 [[I 0]]),(Zag p0),(Zaf p0),(.own 1 (p1.map Qac)),(Q6w p0 p1 p2)] hφ1 (pc (rnd Qae) (prr (prr (pc (rnd Qaa) (pw (pw pn)))))) (qb (lc (rnd Qak) (lc (rnd Qaa) ln)) (qb (lc (.rn (rqr rfl)) ln) (qb (lc rwl ln) (qc (spr Qan) (qc (spr Qa0) (qc (spr Qae) (qb (lc (rnd Qak) (lc (rnd Qaa) (lc (.rn (Qaz rfl)) (lc (.rn (Qaz rfl)) (lc (.rn (Qaz rfl)) (lc (rnd Qah) (lc rwl ln))))))) qn)))))))) ?_
   refine Qb9 (τ:=Int×(List (List Qab))×(List Qbg)×(List Int)×Int) (fun n t=>Qdz N p0 p1 p2 k16 n t.1 t.2.1 t.2.2.1 t.2.2.2.1 t.2.2.2.2=some r) (fun ⟨y17,y18,y19,y20,y21⟩=>⟨mk 45 [(1,(.dat 1 (p1.map Qac))),(6,.ref 1 1 0 0),(7,.ref 2 1 0 0),(27,(Qq2 p0)),(28,(I ((p0.Elements.length:Int)))),(29,I y17)],[(Qyk p0),Qov,(.own 1 [[I 0]]),(Qpl y18),(Qpk y19),(.own 1 (y20.map Qac)),(Qpm p0 p1 p2 y21)]⟩) (fun t h=>by rw[Qdz] at h;cases h) (fun n27 ih t h=>?_) N (0,List.replicate (p0.Elements.length:Int).toNat ([]),List.replicate (p0.Elements.length:Int).toNat (⟨0,0,0,0⟩:Qbg),p1,0) h
   obtain⟨y17,y18,y19,y20,y21⟩:=t
   rw[Qdz] at h
   skip
   refine wxz<|wsq ?_
   refine bfe h (fun hc28 h=>?_) fun hc28 h=>?_
   ·refine wft hc28<|Qat<|thn<|wsq<|Qas ?_
    obtain⟨x29,hg30,h⟩:=bno h
    obtain⟨hi31,hj32⟩:=gsm hg30
    refine wx tbk [(1,rp _ _)] ⟨aiq underlying40 Qfz Qad hi31 hj32,tv⟩ ?_
    obtain⟨x33,hg34,h⟩:=bno h
    obtain⟨hi35,hj36⟩:=gsm hg34
    obtain⟨x38,hf37,h⟩:=bno h
    obtain⟨x40,hf39,h⟩:=bno h
    rcases x40 with x41 |x42
    ·replace h:=Q4l h
     refine wy1 tbk [(5,rp _ _),(7,rp _ _),(8,⟨_,_,_,_,false⟩)] ⟨aiq underlying27 ti3 Qac hi35 hj36,apv Q2r (Qg7 N x29 x33 _ hf37) (nlc (NLt.agg _ (nlc nll (nlc (nld Qbo _) (nlcc (nlcc (nlc (nld Qae _) nl0)))))) (nlc nll nl0)) nll,Qar (first:=[]) (cap:=[]) (vs:=[.ref 6 7 0 0,I y17,I x38]) (σr:=[(Qpm p0 p1 p2 y21),(Qpl y18),(Qpk y19),(.own 1 (y20.map Qac))]) (σr':=[(Qz4 p0 p1 p2 x41),(.own 1 (x41.2.1.map Qal)),(.own 4 (x41.2.2.1.map Qaw)),(.own 1 (x41.2.2.2.map Qac))]) (res':=(.tup [])) [6,3,4,5] rfl Q2l (Qjx N y17 x38 p0.Table p0.Elements ((p0.Elements.length:Int).toNat) ((p0.Elements.length:Int).toNat) p1.length p2 y21 y18 y19 y20 _ hf39) rfl (Qbd (rnc (Qax rfl) (rncc rn0))) (slc (Qao (rnc (pld Qak) (rnc (pld Qaa) (rnc (Qce rfl) (rnc (Qce rfl) (rnc (Qce rfl) (rnc (pld Qah) (rnc (.plain _ nll) rn0)))))))) (slc (Qa3 Qan) (slc (Qa3 Qa0) (slc (Qa3 Qae) Qaq)))) (slc (Qao (rnc (pld Qak) (rnc (pld Qaa) (rnc (Qbt rfl) (rnc (Qbt rfl) (rnc (Qbt rfl) (rnc (pld Qah) (rnc (.plain _ nll) rn0)))))))) (slc (Qa3 Qan) (slc (Qa3 Qa0) (slc (Qa3 Qae) Qaq)))) (.plain _ (NLt.tup _ nl0)) rfl rfl rfl,tv⟩<|bln<|thn<|wxz1<|thn ?_
     exact arm (mto (n:=45) [(1,(.dat 1 (p1.map Qac))),(6,.ref 1 1 0 0),(7,.ref 2 1 0 0),(27,(Qq2 p0)),(28,(I ((p0.Elements.length:Int)))),(29,(I (w64 (y17+1))))] [0,1,2,3,4,5,6] [(Qyk p0),Qov,(.own 1 [[I 0]]),(.own 1 (x41.2.1.map Qal)),(.own 4 (x41.2.2.1.map Qaw)),(.own 1 (x41.2.2.2.map Qac)),(Qz4 p0 p1 p2 x41)] hφ1 (pc (rnd Qae) (prr (prr (pc (rnd Qaa) (pw (pw pn)))))) (qb (lc (rnd Qak) (lc (rnd Qaa) ln)) (qb (lc (.rn (rqr rfl)) ln) (qb (lc rwl ln) (qc (spr Qan) (qc (spr Qa0) (qc (spr Qae) (qb (lc (rnd Qak) (lc (rnd Qaa) (lc (.rn (Qaz rfl)) (lc (.rn (Qaz rfl)) (lc (.rn (Qaz rfl)) (lc (rnd Qah) (lc rwl ln))))))) qn)))))))) (ih (w64 (y17+1),x41.2.1,x41.2.2.1,x41.2.2.2,x41.1) h)
    ·replace h:=Q4k h
     refine Q25 8 [rb [(.tmp 6,.ref 1 1 0 0)] [(1,Qov)] (.ref 6 7 0 0),mv 8 (I y17),rb [(.tmp 9,.ref 7 7 0 0)] [(7,(.own 7 [[(K .u8 x29.Kind),(.dat 2 (x29.From.map Qbc)),I x29.Level,I x29.Amount,I x29.Wide,I x29.Narrow,(.dat 1 (x29.Weights.map Qac))]]))] (Qr1 x29),mv 1 (.dat 1 (p1.map Qac)),mv 8 (I y17),rp [(.tmp 37,(.dat 1 (p1.map Qac))),(.tmp 38,I y17)] (.dptr (Qac x33) 0),rp [(.tmp 39,(.dptr (Qac x33) 0))] (I x33),rp [fu 74,(.tmp 36,(Qr1 x29)),(.tmp 40,I x33)] (I x38),⟨[fu 97,(.tmp 34,.ref 6 7 0 0),(.tmp 35,I y17),(.tmp 41,I x38),(.tmp 36,(Qr1 x29)),(.tmp 37,(.dat 1 (p1.map Qac))),(.tmp 38,I y17),(.tmp 39,(.dptr (Qac x33) 0)),(.tmp 40,I x33)],[(6,(Qpm p0 p1 p2 y21)),(3,(Qpl y18)),(4,(Qpk y19)),(5,(.own 1 (y20.map Qac)))],.any,[(6,.dead),(3,.dead),(4,.dead),(5,.dead)],false⟩] (by exact⟨by kernel_rfl,by kernel_rfl⟩) rfl (by kernel_rfl) rfl (PStep.to (by rfl) (PStep.more (rd':=[(.tmp 36,(Qr1 x29)),(.tmp 37,(.dat 1 (p1.map Qac))),(.tmp 38,I y17),(.tmp 39,(.dptr (Qac x33) 0)),(.tmp 40,I x33)]) (Qvu (first:=[]) (cap:=[]) (vs:=[.ref 6 7 0 0,I y17,I x38]) (σr:=[(Qpm p0 p1 p2 y21),(Qpl y18),(Qpk y19),(.own 1 (y20.map Qac))]) [6,3,4,5] rfl Q2l (Qjw N y17 x38 p0.Table p0.Elements ((p0.Elements.length:Int).toNat) ((p0.Elements.length:Int).toNat) p1.length p2 y21 y18 y19 y20 _ hf39) rfl (Qbd (rnc (Qax rfl) (rncc rn0))) (slc (Qao (rnc (pld Qak) (rnc (pld Qaa) (rnc (Qce rfl) (rnc (Qce rfl) (rnc (Qce rfl) (rnc (pld Qah) (rnc (.plain _ nll) rn0)))))))) (slc (Qa3 Qan) (slc (Qa3 Qa0) (slc (Qa3 Qae) Qaq)))) rfl rfl rfl))) (⟨fun _ _=>ald rfl Qly (by decide) rfl (nle rfl) rfl,fun _ _=>amv rfl,fun _ _=>ald rfl Qfz (by decide) rfl (nle rfl) rfl,fun _ _=>amv rfl,fun _ _=>amv rfl,fun _ _=>aiq underlying27 ti3 Qac hi35 hj36,fun _ _=>ald_ rfl ti3 (by decide) (nle rfl) rfl,fun _ _=>apv Q2r (Qg7 N x29 x33 _ hf37) (nlc (NLt.agg _ (nlc nll (nlc (nld Qbo _) (nlcc (nlcc (nlc (nld Qae _) nl0)))))) (nlc nll nl0)) nll,fun _ h=>absurd rfl h,tv⟩) ?_ (by kernel_rfl) (by kernel_rfl) (by kernel_rfl)
     obtain rfl:=osi h
     exact⟨_,[[(.lit (.pointer none))],[I x42]],rfl,(Qnn x42),(Qxk (nlc nll nl0) (Qxk (nlc nll nl0) Q9g)),by kernel_rfl,_,(mto (n:=45) (l':=[(6,.ref 0 1 0 0),(7,.ref 1 1 0 0)]) (own':=[Zah,(.own 1 [[I x42]])]) [(6,.ref 1 1 0 0),(7,.ref 2 1 0 0)] [1,2] [Zah,(.own 1 [[I x42]])] hφ0 (prr (prr pn)) (qb (lc rwl ln) (qb (lc rwl ln) qn))),Qjg (vs:=[(.lit (.pointer none)),I x42]) ⟨Qbk (n:=0) (m:=1) (j:=0) (i:=0) (xs:=[[(.lit (.pointer none))]]) (by kernel_rfl) (by kernel_rfl) Qly (by decide) rfl (nle rfl) rfl,Qbk (n:=1) (m:=1) (j:=0) (i:=0) (xs:=[[I x42]]) (by kernel_rfl) (by kernel_rfl) ti3 (by decide) rfl (nle rfl) rfl,tv⟩ rfl (NLt.tup _ (nlc (NLt.of0 nll) (nlc (NLt.of0 nll) nl0))) (by kernel_rfl) (Qai (Qav (nlc (NLt.of0 nll) nl0)) (Qai (Qav (nlc (NLt.of0 nll) nl0)) Qbe))⟩
   ·exact wfn hc28<|Qbm<|Qa4<|Qa4<|Qbl rfl<|thn<|⟨(y18,y19,y20,y21),h,(mto (n:=45) [(6,.ref 1 1 0 0),(7,.ref 2 1 0 0)] [0,1,2,3,4,5,6] [(Qyk p0),Qov,(.own 1 [[I 0]]),(Qpl y18),(Qpk y19),(.own 1 (y20.map Qac)),(Qpm p0 p1 p2 y21)] hφ1 (prr (prr pn)) (qb (lc (rnd Qak) (lc (rnd Qaa) ln)) (qb (lc (.rn (rqr rfl)) ln) (qb (lc rwl ln) (qc (spr Qan) (qc (spr Qa0) (qc (spr Qae) (qb (lc (rnd Qak) (lc (rnd Qaa) (lc (.rn (Qaz rfl)) (lc (.rn (Qaz rfl)) (lc (.rn (Qaz rfl)) (lc (rnd Qah) (lc rwl ln))))))) qn))))))))⟩
theorem Qg3 (N:Nat) (p0:GNet) (p1:List Int) (p2:List Qab) (r:Int) (h:Qe2 N p0 p1 p2=some (.inl r)):Spec prog 58 [(Q3p p0),(.dat 1 (p1.map Qac)),(Qtd p2)] [] (.tup [(.lit (.pointer none)),I r]) [(.own 1 [[(.lit (.pointer none))]]),(.own 1 [[I r]])]:=Qjz N p0 p1 p2 _ h
theorem Qg2 (N:Nat) (p0:GNet) (p1:List Int) (p2:List Qab) (r:(Int×Int×(List (List Qab))×(List Qbg)×(List Int))) (h:Qe2 N p0 p1 p2=some (.inr r)):Spec prog 58 [(Q3p p0),(.dat 1 (p1.map Qac)),(Qtd p2)] [] (.tup [.ref 2 7 0 0,I r.1]) [(.own 1 [[.ref 2 7 0 0]]),(.own 1 [[I r.1]]),(.own 7 [[(.dat 5 (p0.Table.map Qau)),(.dat 7 (p0.Elements.map Qad)),(.own 3 1 (0) ((p0.Elements.length:Int).toNat)),(.own 4 4 (0) ((p0.Elements.length:Int).toNat)),(.own 5 1 (0) p1.length),(.dat 4 (p2.map Qag)),I r.2.1]]),(.own 1 (r.2.2.1.map Qal)),(.own 4 (r.2.2.2.1.map Qaw)),(.own 1 (r.2.2.2.2.map Qac))]:=Qjz N p0 p1 p2 _ h
def Qnp (N:Nat) (p0:GNet) (p1:List Int) (p2:List Qab):Option (Qfg×Int×Int):=
  (Qkd N p0 p1 p2).bind fun x11=>
  bif (x11 != 0) then
   some ((⟨[],[],[]⟩:Qfg),0,x11)
  else
   (Qe2 N p0 p1 p2).bind (
    Sum.elim (fun x15=>
      bif (decide (x15≥0)) then
       some ((⟨[],[],[]⟩:Qfg),x15,11)
      else
       none)
    (fun x17=>
      bif (decide (x17.1≥0)) then
       some ((⟨[],[],[]⟩:Qfg),x17.1,11)
      else
       chk (decide ((p0.Elements.length:Int).toNat≤x17.2.2.1.length))<|
       chk (decide ((p0.Elements.length:Int).toNat≤x17.2.2.2.1.length))<|
       chk (decide (p1.length≤x17.2.2.2.2.length))<|
       some ((⟨x17.2.2.1.take ((p0.Elements.length:Int).toNat),x17.2.2.2.1.take ((p0.Elements.length:Int).toNat),x17.2.2.2.2.take p1.length⟩:Qfg),0,0)))
def Q8a (p0:GNet):AV:=.dat 5 (p0.Table.map Qau)
def Q79 (p0:GNet):AV:=.dat 7 (p0.Elements.map Qad)
def Zai (p0:GNet):AV:=.agg [(Q8a p0),(Q79 p0)]
def Q76 (p2:List Qab):AV:=.dat 4 (p2.map Qag)
def Qz6:Slot:=.own 3 [[(.dat 1 ((((⟨[],[],[]⟩:Qfg).Out):List (List Qab)).map Qal)),(.dat 4 ((((⟨[],[],[]⟩:Qfg).Lost):List Qbg).map Qaw)),(.dat 1 ((((⟨[],[],[]⟩:Qfg).State):List Int).map Qac))]]
def Q77:Slot:=.own 3 [[nilS,nilS,nilS]]
def Qwo:AV:=.dat 1 (((⟨[],[],[]⟩:Qfg).Out:List (List Qab)).map Qal)
def Qwn:AV:=.dat 4 (((⟨[],[],[]⟩:Qfg).Lost:List Qbg).map Qaw)
def Qwm:AV:=.dat 1 (((⟨[],[],[]⟩:Qfg).State:List Int).map Qac)
def Qz5:AV:=.agg [Qwo,Qwn,Qwm]
def Zci:Slot:=.own 1 [[(.lit (.pointer none))]]
def Q3q:Slot:=.own 1 [[(.ref 4 7 (0) 0)]]
def Qte (p0:GNet) (p1:List Int) (p2:List Qab) (x17:(Int×Int×(List (List Qab))×(List Qbg)×(List Int))):Slot:=.own 7 [[(Q8a p0),(Q79 p0),(.own 5 1 (0) ((p0.Elements.length:Int).toNat)),(.own 6 4 (0) ((p0.Elements.length:Int).toNat)),(.own 7 1 (0) p1.length),(Q76 p2),(I x17.2.1)]]
def Qm2 (x17:(Int×Int×(List (List Qab))×(List Qbg)×(List Int))) (p0:GNet):AV:=.dat 1 ((x17.2.2.1.take ((p0.Elements.length:Int).toNat):List (List Qab)).map Qal)
def Q78 (p0:GNet):Slot:=.own 2 [[(Q8a p0),(Q79 p0)]]
def Qq7 (x17:(Int×Int×(List (List Qab))×(List Qbg)×(List Int))) (p0:GNet):AV:=.dat 4 ((x17.2.2.2.1.take ((p0.Elements.length:Int).toNat):List Qbg).map Qaw)
def Q6z (x17:(Int×Int×(List (List Qab))×(List Qbg)×(List Int))) (p0:GNet) (p1:List Int):AV:=.dat 1 (((⟨x17.2.2.1.take ((p0.Elements.length:Int).toNat),x17.2.2.2.1.take ((p0.Elements.length:Int).toNat),x17.2.2.2.2.take p1.length⟩:Qfg).Out:List (List Qab)).map Qal)
def Q6y (x17:(Int×Int×(List (List Qab))×(List Qbg)×(List Int))) (p0:GNet) (p1:List Int):AV:=.dat 4 (((⟨x17.2.2.1.take ((p0.Elements.length:Int).toNat),x17.2.2.2.1.take ((p0.Elements.length:Int).toNat),x17.2.2.2.2.take p1.length⟩:Qfg).Lost:List Qbg).map Qaw)
def Q6x (x17:(Int×Int×(List (List Qab))×(List Qbg)×(List Int))) (p0:GNet) (p1:List Int):AV:=.dat 1 (((⟨x17.2.2.1.take ((p0.Elements.length:Int).toNat),x17.2.2.2.1.take ((p0.Elements.length:Int).toNat),x17.2.2.2.2.take p1.length⟩:Qfg).State:List Int).map Qac)
theorem Qms (N:Nat) (p0:GNet) (p1:List Int) (p2:List Qab) (r:(Qfg×Int×Int)) (h:Qnp N p0 p1 p2=some r):Spec prog 16 [(.agg (Qg6 p0)),(.dat 1 (p1.map Qac)),(.dat 4 (p2.map Qag))] [] (.tup [(.agg [(.dat 1 (r.1.Out.map Qal)),(.dat 4 (r.1.Lost.map Qaw)),(.dat 1 (r.1.State.map Qac))]),(I r.2.1),(I r.2.2)]) []:=by
  refine Qam func16 rfl 0 (nle rfl) (fun X φ0 w0 hφ0 hd0=>?_)
  unfold Qnp at h
  refine Qbj<|wxz<|wsq ?_
  obtain⟨x11,hf10,h⟩:=bno h
  refine wx tbk [(3,rp _ _)] ⟨apv Q2u (Ql9 N p0 p1 p2 _ hf10) (nlc (NLt.agg _ (nlc (nld Qak _) (nlc (nld Qaa _) nl0))) (nlc (nld Qae _) (nlc (nld Qah _) nl0))) nll,tv⟩<|wxz ?_
  refine bfe h (fun hc12 h=>?_) fun hc12 h=>?_
  ·refine wft hc12<|wx tbk [(0,rp _ _)] ⟨Qay (vs:=[]) rfl ts34 tz34 rfl (by rfl) rfl,tv⟩ ?_
   refine wmr (mto (n:=35) (l':=[(6,.ref 0 3 0 0),(7,I 0),(8,I x11)]) (own':=[Qz6]) [(6,.ref 1 3 0 0),(7,I 0),(8,I x11)] [1] [Q77] hφ0 (prr (pw (pw pn))) (qb (lc (.nil _) (lc (.nil _) (lc (.nil _) ln))) qn))<|Qaj<|Qap ?_
   obtain rfl:=osi h
   exact⟨_,Mor.rfl,⟨⟨[Qz5,I 0,I x11],⟨Qbk (n:=0) (m:=3) (j:=0) (i:=0) (xs:=[[Qwo,Qwn,Qwm]]) (by kernel_rfl) (by kernel_rfl) ti34 (by decide) rfl (nle rfl) rfl,rot,rot,tv⟩,rfl⟩,(NLt.tup _ (nlc (NLt.agg _ (nlc (nld Qan _) (nlc (nld Qa0 _) (nlc (nld Qae _) nl0)))) (nlcc nl0))),Nat.le_refl _,fun n hn=>absurd hn (Nat.not_lt_zero n)⟩⟩
  ·refine wfn hc12<|Qat<|thn ?_
   obtain⟨x14,hf13,h⟩:=bno h
   rcases x14 with x15 |x17
   ·replace h:=Q4l h
    refine wx tbk [(3,⟨_,_,_,_,false⟩)] ⟨Qar (first:=[]) (cap:=[]) (vs:=[(Zai p0),(.dat 1 (p1.map Qac)),(Q76 p2)]) (σr:=[]) (σr':=[Zci,(.own 1 [[I x15]])]) (res':=(.tup [(.lit (.pointer none)),I x15])) [2,3] rfl Qoq (Qg3 N p0 p1 p2 _ hf13) rfl (Qbd (rnc (.plain _ (NLt.agg _ (nlc (nld Qak _) (nlc (nld Qaa _) nl0)))) (rnc (pld Qae) (rnc (pld Qah) rn0)))) Qaq (slc (Qao (rnc (.plain _ nll) rn0)) (slc (Qao (rnc (.plain _ nll) rn0)) Qaq)) (.plain _ (NLt.tup _ (nlcc nl0))) rfl rfl rfl,tv⟩<|wsq<|wxz ?_
    refine bfe h (fun hc16 h=>?_) fun hc16 h=>?_
    ·refine wft hc16<|wx tbk [(0,rp _ _)] ⟨Qay (vs:=[]) rfl ts34 tz34 rfl (by rfl) rfl,tv⟩ ?_
     refine wmr (mto (n:=35) (l':=[(6,.ref 0 3 0 0),(7,I x15),(8,I 11)]) (own':=[Qz6]) [(6,.ref 1 3 0 0),(7,I x15),(8,I 11)] [1] [Q77] hφ0 (prr (pw (pw pn))) (qb (lc (.nil _) (lc (.nil _) (lc (.nil _) ln))) qn))<|Qaj<|Qap ?_
     obtain rfl:=osi h
     exact⟨_,Mor.rfl,⟨⟨[Qz5,I x15,I 11],⟨Qbk (n:=0) (m:=3) (j:=0) (i:=0) (xs:=[[Qwo,Qwn,Qwm]]) (by kernel_rfl) (by kernel_rfl) ti34 (by decide) rfl (nle rfl) rfl,rot,rot,tv⟩,rfl⟩,(NLt.tup _ (nlc (NLt.agg _ (nlc (nld Qan _) (nlc (nld Qa0 _) (nlc (nld Qae _) nl0)))) (nlcc nl0))),Nat.le_refl _,fun n hn=>absurd hn (Nat.not_lt_zero n)⟩⟩
    ·refine wfn hc16<|Qat<|thn ?_
     cases h
   ·replace h:=Q4k h
    refine wx tbk [(3,⟨_,_,_,_,false⟩)] ⟨Qar (first:=[]) (cap:=[]) (vs:=[(Zai p0),(.dat 1 (p1.map Qac)),(Q76 p2)]) (σr:=[]) (σr':=[Q3q,(.own 1 [[I x17.1]]),(Qte p0 p1 p2 x17),(.own 1 (x17.2.2.1.map Qal)),(.own 4 (x17.2.2.2.1.map Qaw)),(.own 1 (x17.2.2.2.2.map Qac))]) (res':=(.tup [.ref 4 7 0 0,I x17.1])) [2,3,4,5,6,7] rfl Qoq (Qg2 N p0 p1 p2 _ hf13) rfl (Qbd (rnc (.plain _ (NLt.agg _ (nlc (nld Qak _) (nlc (nld Qaa _) nl0)))) (rnc (pld Qae) (rnc (pld Qah) rn0)))) Qaq (slc (Qao (rnc (Qa5 rfl) rn0)) (slc (Qao (rnc (.plain _ nll) rn0)) (slc (Qao (rnc (pld Qak) (rnc (pld Qaa) (rnc (Qbt rfl) (rnc (Qbt rfl) (rnc (Qbt rfl) (rnc (pld Qah) (rnc (.plain _ nll) rn0)))))))) (slc (Qa3 Qan) (slc (Qa3 Qa0) (slc (Qa3 Qae) Qaq)))))) (Qtv (rnc (Qa5 rfl) (rnc (.plain _ nll) rn0))) rfl rfl rfl,tv⟩<|wsq<|wxz ?_
    refine bfe h (fun hc18 h=>?_) fun hc18 h=>?_
    ·refine wft hc18<|wx tbk [(0,rp _ _)] ⟨Qay (vs:=[]) rfl ts34 tz34 rfl (by rfl) rfl,tv⟩ ?_
     refine wmr (mto (n:=35) (l':=[(6,.ref 0 3 0 0),(7,I x17.1),(8,I 11)]) (own':=[Qz6]) [(6,.ref 1 3 0 0),(7,I x17.1),(8,I 11)] [1] [Q77] hφ0 (prr (pw (pw pn))) (qb (lc (.nil _) (lc (.nil _) (lc (.nil _) ln))) qn))<|Qaj<|Qap ?_
     obtain rfl:=osi h
     exact⟨_,Mor.rfl,⟨⟨[Qz5,I x17.1,I 11],⟨Qbk (n:=0) (m:=3) (j:=0) (i:=0) (xs:=[[Qwo,Qwn,Qwm]]) (by kernel_rfl) (by kernel_rfl) ti34 (by decide) rfl (nle rfl) rfl,rot,rot,tv⟩,rfl⟩,(NLt.tup _ (nlc (NLt.agg _ (nlc (nld Qan _) (nlc (nld Qa0 _) (nlc (nld Qae _) nl0)))) (nlcc nl0))),Nat.le_refl _,fun n hn=>absurd hn (Nat.not_lt_zero n)⟩⟩
    ·refine wfn hc18<|Qat<|thn ?_
     refine wx tbk [(1,rb [(.tmp 31,.ref 4 7 0 0)] [(4,(Qte p0 p1 p2 x17))] (.ref 4 7 0 0))] ⟨Qa6 rfl,tv⟩ ?_
     obtain⟨hz19,h⟩:=cko h
     refine wmr (Qp9 (n:=35) (mp:=3) (m:=1) (xs:=x17.2.2.1.map Qal) (c:=[(.own 5 1 (0) ((p0.Elements.length:Int).toNat)),(.own 6 4 (0) ((p0.Elements.length:Int).toNat)),(.own 7 1 (0) p1.length)]) (l':=[(6,.ref 1 3 0 0),(7,I 0),(8,I 0)]) (c':=[(Qm2 x17 p0),(.own 6 4 (0) ((p0.Elements.length:Int).toNat)),(.own 7 1 (0) p1.length)]) (own':=[(Q78 p0),(.own 3 [[(Qm2 x17 p0),(.own 6 4 (0) ((p0.Elements.length:Int).toNat)),(.own 7 1 (0) p1.length)]]),Q3q,(.own 1 [[I x17.1]]),(Qte p0 p1 p2 x17),.dead,(.own 4 (x17.2.2.2.1.map Qaw)),(.own 1 (x17.2.2.2.2.map Qac))]) 5 1 [(6,.ref 1 3 0 0),(7,I 0),(8,I 0)] (by kernel_rfl) (by kernel_rfl) (by kernel_rfl) (by kernel_rfl) ⟨(Qiy hz19),(.same _),(.same _),tv⟩ ⟨rfl,(.same _),rfl,(.same _),rfl,(.same _),tv⟩ (by kernel_rfl)) ?_
     obtain⟨hz20,h⟩:=cko h
     refine wmr (Qp9 (n:=35) (mp:=3) (m:=4) (xs:=x17.2.2.2.1.map Qaw) (c:=[(Qm2 x17 p0),(.own 6 4 (0) ((p0.Elements.length:Int).toNat)),(.own 7 1 (0) p1.length)]) (l':=[(6,.ref 1 3 0 0),(7,I 0),(8,I 0)]) (c':=[(Qm2 x17 p0),(Qq7 x17 p0),(.own 7 1 (0) p1.length)]) (own':=[(Q78 p0),(.own 3 [[(Qm2 x17 p0),(Qq7 x17 p0),(.own 7 1 (0) p1.length)]]),Q3q,(.own 1 [[I x17.1]]),(Qte p0 p1 p2 x17),.dead,.dead,(.own 1 (x17.2.2.2.2.map Qac))]) 6 1 [(6,.ref 1 3 0 0),(7,I 0),(8,I 0)] (by kernel_rfl) (by kernel_rfl) (by kernel_rfl) (by kernel_rfl) ⟨(.same _),(Qiy hz20),(.same _),tv⟩ ⟨rfl,(.same _),rfl,(.same _),rfl,(.same _),tv⟩ (by kernel_rfl)) ?_
     obtain⟨hz21,h⟩:=cko h
     refine wmr (Qp9 (n:=35) (mp:=3) (m:=1) (xs:=x17.2.2.2.2.map Qac) (c:=[(Qm2 x17 p0),(Qq7 x17 p0),(.own 7 1 (0) p1.length)]) (l':=[(6,.ref 1 3 0 0),(7,I 0),(8,I 0)]) (c':=[(Qm2 x17 p0),(Qq7 x17 p0),(.dat 1 ((x17.2.2.2.2.take p1.length:List Int).map Qac))]) (own':=[(Q78 p0),(.own 3 [[(Qm2 x17 p0),(Qq7 x17 p0),(.dat 1 ((x17.2.2.2.2.take p1.length:List Int).map Qac))]]),Q3q,(.own 1 [[I x17.1]]),(Qte p0 p1 p2 x17),.dead,.dead,.dead]) 7 1 [(6,.ref 1 3 0 0),(7,I 0),(8,I 0)] (by kernel_rfl) (by kernel_rfl) (by kernel_rfl) (by kernel_rfl) ⟨(.same _),(.same _),(Qiy hz21),tv⟩ ⟨rfl,(.same _),rfl,(.same _),rfl,(.same _),tv⟩ (by kernel_rfl)) ?_
     refine wmr (mto (n:=35) (l':=[(6,.ref 0 3 0 0),(7,I 0),(8,I 0)]) (own':=[(.own 3 [[(.dat 1 ((((⟨x17.2.2.1.take ((p0.Elements.length:Int).toNat),x17.2.2.2.1.take ((p0.Elements.length:Int).toNat),x17.2.2.2.2.take p1.length⟩:Qfg).Out):List (List Qab)).map Qal)),(.dat 4 ((((⟨x17.2.2.1.take ((p0.Elements.length:Int).toNat),x17.2.2.2.1.take ((p0.Elements.length:Int).toNat),x17.2.2.2.2.take p1.length⟩:Qfg).Lost):List Qbg).map Qaw)),(.dat 1 ((((⟨x17.2.2.1.take ((p0.Elements.length:Int).toNat),x17.2.2.2.1.take ((p0.Elements.length:Int).toNat),x17.2.2.2.2.take p1.length⟩:Qfg).State):List Int).map Qac))]])]) [(6,.ref 1 3 0 0),(7,I 0),(8,I 0)] [1] [(.own 3 [[(Qm2 x17 p0),(Qq7 x17 p0),(.dat 1 ((x17.2.2.2.2.take p1.length:List Int).map Qac))]])] hφ0 (prr (pw (pw pn))) (qb (lc (rnd Qan) (lc (rnd Qa0) (lc (rnd Qae) ln))) qn))<|Qaj ?_
     obtain rfl:=osi h
     exact⟨_,Mor.rfl,⟨⟨[(.agg [(Q6z x17 p0 p1),(Q6y x17 p0 p1),(Q6x x17 p0 p1)]),I 0,I 0],⟨Qbk (n:=0) (m:=3) (j:=0) (i:=0) (xs:=[[(Q6z x17 p0 p1),(Q6y x17 p0 p1),(Q6x x17 p0 p1)]]) (by kernel_rfl) (by kernel_rfl) ti34 (by decide) rfl (nle rfl) rfl,rot,rot,tv⟩,rfl⟩,(NLt.tup _ (nlc (NLt.agg _ (nlc (nld Qan _) (nlc (nld Qa0 _) (nlc (nld Qae _) nl0)))) (nlcc nl0))),Nat.le_refl _,fun n hn=>absurd hn (Nat.not_lt_zero n)⟩⟩
def Qki (_N:Nat):Option (GNet×(List Qab)):=
  some ((⟨[(⟨100,101,419,2676,150⟩:GRow),(⟨150,476,632,2746,300⟩:GRow),(⟨200,1555,852,2793,600⟩:GRow)],[(⟨1,[],2,0,1000,1000000,[]⟩:Qaf),(⟨3,[(⟨0,0⟩:Qby)],2,2000,1000,1000000,[]⟩:Qaf),(⟨4,[(⟨1,0⟩:Qby)],0,100,1000,1000000,[]⟩:Qaf)]⟩:GNet),[(⟨1000,852000,250000,50⟩:Qab)])
def Zae:AV:=.agg [(I (100)),(I (101)),(I (419)),(I (2676)),(I (150))]
def Zad:AV:=.agg [(I (150)),(I (476)),(I (632)),(I (2746)),(I (300))]
def Zab:AV:=.agg [(I (200)),(I (1555)),(I (852)),(I (2793)),(I (600))]
def Q3n:AV:=.dat 5 (([(⟨100,101,419,2676,150⟩:GRow),(⟨150,476,632,2746,300⟩:GRow),(⟨200,1555,852,2793,600⟩:GRow)]:List GRow).map Qau)
def Zcf:AV:=.agg [(K .u8 (1)),nilS,(I (2)),(I (0)),(I (1000)),(I (1000000)),nilS]
def Zaa:AV:=.agg [(I (0)),(I (0))]
def Q3m:AV:=.dat 2 (([(⟨0,0⟩:Qby)]:List Qby).map Qbc)
def Zce:AV:=.agg [(K .u8 (3)),Q3m,(I (2)),(I (2000)),(I (1000)),(I (1000000)),nilS]
def Q99:AV:=.agg [(I (1)),(I (0))]
def Q3l:AV:=.dat 2 (([(⟨1,0⟩:Qby)]:List Qby).map Qbc)
def Zac:AV:=.agg [(K .u8 (4)),Q3l,(I (0)),(I (100)),(I (1000)),(I (1000000)),nilS]
def Qwl:AV:=.dat 7 (([(⟨1,[],2,0,1000,1000000,[]⟩:Qaf),(⟨3,[(⟨0,0⟩:Qby)],2,2000,1000,1000000,[]⟩:Qaf),(⟨4,[(⟨1,0⟩:Qby)],0,100,1000,1000000,[]⟩:Qaf)]:List Qaf).map Qad)
def Qzt:AV:=.dat 1 (([]:List Int).map Qac)
def Q6t:AV:=.agg [(K .u8 (1)),(.dat 2 (([]:List Qby).map Qbc)),(I (2)),(I (0)),(I (1000)),(I (1000000)),Qzt]
def Q6s:AV:=.agg [(K .u8 (3)),Q3m,(I (2)),(I (2000)),(I (1000)),(I (1000000)),Qzt]
def Q6r:AV:=.agg [(K .u8 (4)),Q3l,(I (0)),(I (100)),(I (1000)),(I (1000000)),Qzt]
def Q6q:AV:=.agg [(I (1000)),(I (852000)),(I (250000)),(I (50))]
def Q6p:AV:=.dat 4 (([(⟨1000,852000,250000,50⟩:Qab)]:List Qab).map Qag)
theorem Qmc (N:Nat) (r:(GNet×(List Qab))) (h:Qki N=some r):Spec prog 55 [] [] (.tup [(.agg (Qg6 r.1)),(.dat 4 (r.2.map Qag))]) []:=by
  refine Qam func55 rfl 0 (nle rfl) (fun X φ0 w0 hφ0 hd0=>?_)
  unfold Qki at h
  refine wxz<|wx tbk [(0,rp _ _),(1,rp _ _),(2,rp _ _),(3,rp [(.tmp 4,Zae),(.tmp 5,Zad),(.tmp 6,Zab)] Q3n)] ⟨Qay (vs:=[I 100,I 101,I 419,I 2676,I 150]) rfl Qyy Qpx rfl (by rfl) rfl,Qay (vs:=[I 150,I 476,I 632,I 2746,I 300]) rfl Qyy Qpx rfl (by rfl) rfl,Qay (vs:=[I 200,I 1555,I 852,I 2793,I 600]) rfl Qyy Qpx rfl (by rfl) rfl,Qbi (vs:=[Zae,Zad,Zab]) rfl underlying39 Qpa Qpx rfl (by decide) rfl (by decide) (by rfl) (by rfl) (by rfl) rfl,tv⟩ ?_
  refine wx tbk [(0,rp _ _),(1,rp _ _),(2,rp [(.tmp 9,Zaa)] Q3m),(3,rp _ _),(4,rp _ _),(5,rp [(.tmp 12,Q99)] Q3l),(6,rp _ _),(7,rp [(.tmp 8,Zcf),(.tmp 11,Zce),(.tmp 14,Zac)] Qwl)] ⟨Qay (vs:=[(K .u8 (1)),I 2,I 1000,I 1000000]) rfl Qyz Qq3 rfl (by rfl) rfl,Qay (vs:=[]) rfl Qy0 Qnb rfl (by rfl) rfl,Qbi (vs:=[Zaa]) rfl underlying116 Qk3 Qnb rfl (by decide) rfl (by decide) (by rfl) (by rfl) (by rfl) rfl,Qay (vs:=[(K .u8 (3)),Q3m,I 2,I 2000,I 1000,I 1000000]) rfl Qyz Qq3 rfl (by rfl) rfl,Qay (vs:=[I 1]) rfl Qy0 Qnb rfl (by rfl) rfl,Qbi (vs:=[Q99]) rfl underlying116 Qk3 Qnb rfl (by decide) rfl (by decide) (by rfl) (by rfl) (by rfl) rfl,Qay (vs:=[(K .u8 (4)),Q3l,I 100,I 1000,I 1000000]) rfl Qyz Qq3 rfl (by rfl) rfl,awk (rd':=[(.tmp 8,Q6t),(.tmp 11,Q6s),(.tmp 14,Q6r)]) ⟨rfl,(Less.agg ⟨lrf,Less.nil,lrf,lrf,lrf,lrf,Less.nil,tv⟩),rfl,(Less.agg ⟨lrf,lrf,lrf,lrf,lrf,lrf,Less.nil,tv⟩),rfl,(Less.agg ⟨lrf,lrf,lrf,lrf,lrf,lrf,Less.nil,tv⟩),tv⟩ (Qbi (vs:=[Q6t,Q6s,Q6r]) rfl underlying40 Qfz Qq3 rfl (by decide) rfl (by decide) (by rfl) (by rfl) (by rfl) rfl),tv⟩ ?_
  refine wx tbk [(2,rp _ _),(3,rp _ _),(4,rp [(.tmp 19,Q6q)] Q6p)] ⟨Qay (vs:=[Q3n,Qwl]) rfl ts42 tz42 rfl (by rfl) rfl,Qay (vs:=[I 1000,I 852000,I 250000,I 50]) rfl ts63 tz63 rfl (by rfl) rfl,Qbi (vs:=[Q6q]) rfl underlying45 ti63 tz63 rfl (by decide) rfl (by decide) (by rfl) (by rfl) (by rfl) rfl,tv⟩<|Qaj ?_
  obtain rfl:=osi h
  exact fend ⟨[(.agg [Q3n,Qwl]),Q6p],⟨Qbk (n:=0) (m:=2) (j:=0) (i:=0) (xs:=[[Q3n,Qwl]]) (by kernel_rfl) (by kernel_rfl) ti42 (by decide) rfl (nle rfl) rfl,rot,tv⟩,rfl⟩ (NLt.tup _ (nlc (NLt.agg _ (nlc (nld Qak _) (nlc (nld Qaa _) nl0))) (nlc (nld Qah _) nl0)))
def Qlh (N:Nat):Option Bool:=
  (Qki 2000 ).bind fun x2=>
  (Qok N (⟨x2.1.Table,x2.1.Elements⟩:GNet)).bind fun x4=>
  (Qnp N (⟨x2.1.Table,x2.1.Elements⟩:GNet) ([0,0,0]) x2.2).bind fun x6=>
  bif (x4.2==0) then
   bif (x6.2.2==0) then
    bif ((x4.1.length:Int)==2) then
     (getI x4.1 1).bind fun x10=>
     bif (([x10.Element,x10.Outlet]:List Int)==[2,1]) then
      bif ((x6.1.Out.length:Int)==3) then
       (getI x6.1.Out 2).bind fun x16=>
       bif ((x16.length:Int)==2) then
        bif ((x6.1.Lost.length:Int)==3) then
         (getI x16 0).bind fun x22=>
         bif (([x22.Mass,x22.Heat,x22.Silica,x22.Gas]:List Int)==[271,542596,12150,50]) then
          (getI x16 1).bind fun x27=>
          bif (([x27.Mass,x27.Heat,x27.Silica,x27.Gas]:List Int)==[729,307404,109350,0]) then
           (getI x6.1.Lost 1).bind fun x32=>
           bif (x32.Heat==2000) then
            (getI x6.1.Lost 2).bind fun x37=>
            some (x37.Scale==128500)
           else
            some false
          else
           some false
         else
          some false
        else
         some false
       else
        some false
      else
       some false
     else
      some false
    else
     some false
   else
    some false
  else
   some false
def Zcg:AV:=.dat 1 (([0,0,0]:List Int).map Qac)
def Q3o (x6:(Qfg×Int×Int)):AV:=.dat 1 (x6.1.Out.map Qal)
def Q75 (x6:(Qfg×Int×Int)):AV:=.dat 4 (x6.1.Lost.map Qaw)
def Qz2 (x4:((List Qby)×Int)):List (Nat×Rec):=[(2,rp [((.tmp 26),(B ((x4.2==0))))] (B true))]
def Qz1 x4 (x6:(Qfg×Int×Int)):=hcat (Qz2 x4) [(6,rp [((.tmp 30),(B ((x6.2.2==0))))] (B true)),(8,rp [((.tmp 31),(B true)),((.tmp 32),(.dat 2 (x4.1.map Qbc)))] (I ((x4.1.length:Int))))]
def Qz0 x4 x6 (x10:Qby):=hcat (Qz1 x4 x6) [(11,rp [((.tmp 35),(B (((x4.1.length:Int)==2))))] (B true)),(13,rp [((.tmp 36),(B true)),((.tmp 37),(.dat 2 (x4.1.map Qbc))),ci 1] (.dptr (Qbc x10) 0)),(15,rp [((.tmp 36),(B true)),ci 2,ci 1] (.agg [(I (2)),(I (1))])),(16,rp [((.tmp 36),(B true)),((.tmp 39),(.agg [(I x10.Element),(I x10.Outlet)])),((.tmp 40),(.agg [(I (2)),(I (1))]))] (B ((([x10.Element,x10.Outlet]:List Int)==[2,1]))))]
def Qzz x4 x6 x10:=hcat (Qz0 x4 x6 x10) [(18,rp [((.tmp 42),(B ((([x10.Element,x10.Outlet]:List Int)==[2,1]))))] (B true)),(21,rp [((.tmp 43),(B true)),((.tmp 45),(Q3o x6))] (I ((x6.1.Out.length:Int))))]
def Qzy x4 x6 x10 (x16:List Qab):=hcat (Qzz x4 x6 x10) [(24,rp [((.tmp 48),(B (((x6.1.Out.length:Int)==3))))] (B true)),(27,rp [((.tmp 49),(B true)),((.tmp 51),(Q3o x6)),ci 2] (.dptr (Qal x16) 0)),(29,rp [((.tmp 49),(B true)),((.tmp 53),(.dat 4 (x16.map Qag)))] (I ((x16.length:Int))))]
def Qzx x4 x6 x10 x16:=hcat (Qzy x4 x6 x10 x16) [(32,rp [((.tmp 56),(B (((x16.length:Int)==2))))] (B true)),(35,rp [((.tmp 57),(B true)),((.tmp 59),(Q75 x6))] (I ((x6.1.Lost.length:Int))))]
def Q6v:AV:=.agg [(I (271)),(I (542596)),(I (12150)),(I (50))]
def Qzw x4 x6 x10 x16 (x22:Qab):=hcat (Qzx x4 x6 x10 x16) [(38,rp [((.tmp 62),(B (((x6.1.Lost.length:Int)==3))))] (B true)),(41,rp [((.tmp 63),(B true)),((.tmp 65),(Q3o x6)),ci 2] (.dptr (Qal x16) 0)),(43,rp [((.tmp 63),(B true)),((.tmp 67),(.dat 4 (x16.map Qag))),ci 0] (.dptr (Qag x22) 0)),(45,rp [((.tmp 63),(B true)),ci 271,ci 542596,ci 12150,ci 50] Q6v),(46,rp [((.tmp 63),(B true)),((.tmp 69),(.agg [(I x22.Mass),(I x22.Heat),(I x22.Silica),(I x22.Gas)])),((.tmp 70),Q6v)] (B ((([x22.Mass,x22.Heat,x22.Silica,x22.Gas]:List Int)==[271,542596,12150,50]))))]
def Q6u:AV:=.agg [(I (729)),(I (307404)),(I (109350)),(I (0))]
def Qzv x4 x6 x10 x16 x22 (x27:Qab):=hcat (Qzw x4 x6 x10 x16 x22) [(48,rp [((.tmp 72),(B ((([x22.Mass,x22.Heat,x22.Silica,x22.Gas]:List Int)==[271,542596,12150,50]))))] (B true)),(51,rp [((.tmp 73),(B true)),((.tmp 75),(Q3o x6)),ci 2] (.dptr (Qal x16) 0)),(53,rp [((.tmp 73),(B true)),((.tmp 77),(.dat 4 (x16.map Qag))),ci 1] (.dptr (Qag x27) 0)),(55,rp [((.tmp 73),(B true)),ci 729,ci 307404,ci 109350] Q6u),(56,rp [((.tmp 73),(B true)),((.tmp 79),(.agg [(I x27.Mass),(I x27.Heat),(I x27.Silica),(I x27.Gas)])),((.tmp 80),Q6u)] (B ((([x27.Mass,x27.Heat,x27.Silica,x27.Gas]:List Int)==[729,307404,109350,0]))))]
def Qzu x4 x6 x10 x16 x22 x27 (x32:Qbg):=hcat (Qzv x4 x6 x10 x16 x22 x27) [(58,rp [((.tmp 82),(B ((([x27.Mass,x27.Heat,x27.Silica,x27.Gas]:List Int)==[729,307404,109350,0]))))] (B true)),(61,rp [((.tmp 83),(B true)),((.tmp 85),(Q75 x6)),ci 1] (.dptr (Qaw x32) 0))]
theorem Qqc (N:Nat) (r:Bool) (h:Qlh N=some r):Spec prog 15 [] [] (B r) []:=by
  refine Qam func15 rfl 0 (nle rfl) (fun X φ0 w0 hφ0 hd0=>?_)
  unfold Qlh at h
  refine wxz ?_
  obtain⟨x2,hf1,h⟩:=bno h
  refine wx tbk [(0,rp _ _)] ⟨apv Qsx (Qmc 2000  _ hf1) nl0 (NLt.tup _ (nlc (NLt.agg _ (nlc (nld Qak _) (nlc (nld Qaa _) nl0))) (nlc (nld Qah _) nl0))),tv⟩ ?_
  obtain⟨x4,hf3,h⟩:=bno h
  refine wx tbk [(1,rp _ _)] ⟨apv Q9v (Qsn N (⟨x2.1.Table,x2.1.Elements⟩:GNet) _ hf3) (nlc (NLt.agg _ (nlc (nld Qak _) (nlc (nld Qaa _) nl0))) nl0) (NLt.tup _ (nlc (nld Qbo _) (nlc nll nl0))),tv⟩ ?_
  obtain⟨x6,hf5,h⟩:=bno h
  refine wx tbk [(1,rp [ci 0,ci 0,ci 0] Zcg),(3,rp _ _)] ⟨Qbi (vs:=[I 0,I 0,I 0]) rfl underlying27 ti3 tz3 rfl (by decide) rfl (by decide) (by rfl) (by rfl) (by rfl) rfl,apv Qv2 (Qms N (⟨x2.1.Table,x2.1.Elements⟩:GNet) ([0,0,0]) x2.2 _ hf5) (nlc (NLt.agg _ (nlc (nld Qak _) (nlc (nld Qaa _) nl0))) (nlc (nld Qae _) (nlc (nld Qah _) nl0))) (NLt.tup _ (nlc (NLt.agg _ (nlc (nld Qan _) (nlc (nld Qa0 _) (nlc (nld Qae _) nl0)))) (nlcc nl0))),tv⟩ ?_
  refine bfe h (fun hb7 h=>?_) fun hb7 h=>?_
  ·refine hpre (A:=(Qz2 x4)) ⟨asb hb7 (amv rfl),tv⟩ fun q1_=>?_
   refine bfe h (fun hb8 h=>?_) fun hb8 h=>?_
   ·refine hpre (A:=(Qz1 x4 x6)) (hap q1_ ⟨asb hb8 (amv rfl),ag_ (alq 2 Qbc x4.1 underlying116),tv⟩) fun q2_=>?_
    refine bfe h (fun hb9 h=>?_) fun hb9 h=>?_
    ·obtain⟨x10,hg11,h⟩:=bno h
     obtain⟨hi12,hj13⟩:=gsm hg11
     refine hpre (A:=(Qz0 x4 x6 x10)) (hap q2_ ⟨asb hb9 (amv rfl),ag_ (aiq underlying116 Qk3 Qbc hi12 hj13),ag_ (Qay (vs:=[I 2,I 1]) rfl Qy0 Qnb rfl (by rfl) rfl),ag_ (Qqw (ls:=[x10.Element,x10.Outlet]) (ks:=[2,1]) rfl rfl Qqg (by kernel_rfl) rfl rfl),tv⟩) fun q3_=>?_
     refine bfe h (fun hb14 h=>?_) fun hb14 h=>?_
     ·refine hpre (A:=(Qzz x4 x6 x10)) (hap q3_ ⟨asb hb14 (amv rfl),ag_ (alq 1 Qal x6.1.Out underlying31),tv⟩) fun q4_=>?_
      refine bfe h (fun hb15 h=>?_) fun hb15 h=>?_
      ·obtain⟨x16,hg17,h⟩:=bno h
       obtain⟨hi18,hj19⟩:=gsm hg17
       refine hpre (A:=(Qzy x4 x6 x10 x16)) (hap q4_ ⟨asb hb15 (amv rfl),ag_ (aiq underlying31 ti45 Qal hi18 hj19),ag_ (alq 4 Qag x16 underlying45),tv⟩) fun q5_=>?_
       refine bfe h (fun hb20 h=>?_) fun hb20 h=>?_
       ·refine hpre (A:=(Qzx x4 x6 x10 x16)) (hap q5_ ⟨asb hb20 (amv rfl),ag_ (alq 4 Qaw x6.1.Lost underlying32),tv⟩) fun q6_=>?_
        refine bfe h (fun hb21 h=>?_) fun hb21 h=>?_
        ·obtain⟨x22,hg23,h⟩:=bno h
         obtain⟨hi24,hj25⟩:=gsm hg23
         refine hpre (A:=(Qzw x4 x6 x10 x16 x22)) (hap q6_ ⟨asb hb21 (amv rfl),ag_ (aiq underlying31 ti45 Qal hi18 hj19),ag_ (aiq underlying45 ti63 Qag hi24 hj25),ag_ (Qay (vs:=[I 271,I 542596,I 12150,I 50]) rfl ts63 tz63 rfl (by rfl) rfl),ag_ (Qqw (ls:=[x22.Mass,x22.Heat,x22.Silica,x22.Gas]) (ks:=[271,542596,12150,50]) rfl rfl Q9n (by kernel_rfl) rfl rfl),tv⟩) fun q7_=>?_
         refine bfe h (fun hb26 h=>?_) fun hb26 h=>?_
         ·obtain⟨x27,hg28,h⟩:=bno h
          obtain⟨hi29,hj30⟩:=gsm hg28
          refine hpre (A:=(Qzv x4 x6 x10 x16 x22 x27)) (hap q7_ ⟨asb hb26 (amv rfl),ag_ (aiq underlying31 ti45 Qal hi18 hj19),ag_ (aiq underlying45 ti63 Qag hi29 hj30),ag_ (Qay (vs:=[I 729,I 307404,I 109350]) rfl ts63 tz63 rfl (by rfl) rfl),ag_ (Qqw (ls:=[x27.Mass,x27.Heat,x27.Silica,x27.Gas]) (ks:=[729,307404,109350,0]) rfl rfl Q9n (by kernel_rfl) rfl rfl),tv⟩) fun q8_=>?_
          refine bfe h (fun hb31 h=>?_) fun hb31 h=>?_
          ·obtain⟨x32,hg33,h⟩:=bno h
           obtain⟨hi34,hj35⟩:=gsm hg33
           refine hpre (A:=(Qzu x4 x6 x10 x16 x22 x27 x32)) (hap q8_ ⟨asb hb31 (amv rfl),ag_ (aiq underlying32 ti82 Qaw hi34 hj35),tv⟩) fun q9_=>?_
           refine bfe h (fun hb36 h=>?_) fun hb36 h=>?_
           ·obtain⟨x37,hg38,h⟩:=bno h
            obtain⟨hi39,hj40⟩:=gsm hg38
            refine wx tbk (hcat (Qzu x4 x6 x10 x16 x22 x27 x32) [(66,rp [(.tmp 90,(B ((x32.Heat==2000))))] (B true)),(69,rp [(.tmp 91,B true),(.tmp 93,(Q75 x6)),ci 2] (.dptr (Qaw x37) 0))]) (hap q9_ ⟨asb hb36 (amv rfl),ag_ (aiq underlying32 ti82 Qaw hi39 hj40),tv⟩)<|Qaj ?_
            obtain rfl:=osi h
            exact fend ⟨[(B ((x37.Scale==128500)))],⟨rot,tv⟩,rfl⟩ nll
           ·exact wx tbk (hcat (Qzu x4 x6 x10 x16 x22 x27 x32) [(66,rp [(.tmp 90,(B ((x32.Heat==2000))))] (B false))]) (hap q9_ ⟨asb hb36 (amv rfl),tv⟩)<|Qaj<|frb h
          ·exact wx tbk (hcat (Qzv x4 x6 x10 x16 x22 x27) [(58,rp [(.tmp 82,(B ((([x27.Mass,x27.Heat,x27.Silica,x27.Gas]:List Int)==[729,307404,109350,0]))))] (B false))]) (hap q8_ ⟨asb hb31 (amv rfl),tv⟩)<|Qaj<|frb h
         ·exact wx tbk (hcat (Qzw x4 x6 x10 x16 x22) [(48,rp [(.tmp 72,(B ((([x22.Mass,x22.Heat,x22.Silica,x22.Gas]:List Int)==[271,542596,12150,50]))))] (B false))]) (hap q7_ ⟨asb hb26 (amv rfl),tv⟩)<|Qaj<|frb h
        ·exact wx tbk (hcat (Qzx x4 x6 x10 x16) [(38,rp [(.tmp 62,(B (((x6.1.Lost.length:Int)==3))))] (B false))]) (hap q6_ ⟨asb hb21 (amv rfl),tv⟩)<|Qaj<|frb h
       ·exact wx tbk (hcat (Qzy x4 x6 x10 x16) [(32,rp [(.tmp 56,(B (((x16.length:Int)==2))))] (B false))]) (hap q5_ ⟨asb hb20 (amv rfl),tv⟩)<|Qaj<|frb h
      ·exact wx tbk (hcat (Qzz x4 x6 x10) [(24,rp [(.tmp 48,(B (((x6.1.Out.length:Int)==3))))] (B false))]) (hap q4_ ⟨asb hb15 (amv rfl),tv⟩)<|Qaj<|frb h
     ·exact wx tbk (hcat (Qz0 x4 x6 x10) [(18,rp [(.tmp 42,(B ((([x10.Element,x10.Outlet]:List Int)==[2,1]))))] (B false))]) (hap q3_ ⟨asb hb14 (amv rfl),tv⟩)<|Qaj<|frb h
    ·exact wx tbk (hcat (Qz1 x4 x6) [(11,rp [(.tmp 35,(B (((x4.1.length:Int)==2))))] (B false))]) (hap q2_ ⟨asb hb9 (amv rfl),tv⟩)<|Qaj<|frb h
   ·exact wx tbk (hcat (Qz2 x4) [(6,rp [(.tmp 30,(B ((x6.2.2==0))))] (B false))]) (hap q1_ ⟨asb hb8 (amv rfl),tv⟩)<|Qaj<|frb h
  ·exact wx tbk [(2,rp [(.tmp 26,(B ((x4.2==0))))] (B false))] ⟨asb hb7 (amv rfl),tv⟩<|Qaj<|frb h
end
section
set_option maxRecDepth 100000
set_option maxHeartbeats 4000000
open Go.RowKit
end
section
set_option maxRecDepth 100000
set_option maxHeartbeats 4000000
open Go.RowKit
def Qfe (N:Nat) (p0 p1:List Int) (k2:Unit→Option Bool):Nat→Int→Option Bool
  |0,_=>none
  |n5+1,y3=>
    bif (decide (y3<(p0.length:Int))) then
     (getI p0 y3).bind fun x7=>
     (getI p1 y3).bind fun x11=>
     bif (x7 != x11) then
      some false
     else
      Qfe N p0 p1 k2 n5 (w64 (y3+1))
    else
     k2 ()
def Qmt (N:Nat) (p0 p1:List Int):Option Bool:=
  bif ((p0.length:Int) != (p1.length:Int)) then
   some false
  else
   Qdr (fun _=>
     some true) fun k2:Unit→Option Bool=>
   Qfe N p0 p1 k2 N 0
theorem Qq6 (N:Nat) (p0 p1:List Int) (r:Bool) (h:Qmt N p0 p1=some r):Spec prog 49 [(.dat 1 (p0.map Qac)),(.dat 1 (p1.map Qac))] [] (B r) []:=by
  refine Qam func49 rfl 0 (nle rfl) (fun X φ0 w0 hφ0 hd0=>?_)
  unfold Qmt at h
  refine wxz<|wsq ?_
  refine wx tbk [(1,rp _ _),(3,rp _ _)] ⟨alq 1 Qac p0 underlying27,alq 1 Qac p1 underlying27,tv⟩ ?_
  refine bfe h (fun hc1 h=>?_) fun hc1 h=>?_
  ·exact wft hc1<|wxz<|Qaj<|Qap<|frb h
  ·refine wfn hc1<|Qat<|thn ?_
   obtain⟨k2,hk_k2,h⟩:=jko h
   refine wjn (τ:=Unit) (fun t=>k2 t=some r) (fun _=>⟨mk 26 [],[]⟩) (fun t h=>?_) ?_
   ·subst hk_k2
    exact wxz<|Qaj<|frb h
   ·skip
    refine wxz<|Qas ?_
    refine wmr (mto (n:=26) (l':=[(0,(.dat 1 (p0.map Qac))),(1,(.dat 1 (p1.map Qac))),(5,I 0)]) (own':=[]) [(0,(.dat 1 (p0.map Qac))),(1,(.dat 1 (p1.map Qac))),(5,I 0)] [] [] hφ0 (pc (rnd Qae) (pc (rnd Qae) (pw pn))) qn) ?_
    refine Qb9 (τ:=Int) (fun n t=>Qfe N p0 p1 k2 n t=some r) (fun y3=>⟨mk 26 [(0,(.dat 1 (p0.map Qac))),(1,(.dat 1 (p1.map Qac))),(5,I y3)],[]⟩) (fun t h=>by rw[Qfe] at h;cases h) (fun n5 ih y3 h=>?_) N (0) h
    rw[Qfe] at h
    skip
    refine wsq<|wx tbk [(2,rp _ _)] ⟨alq 1 Qac p0 underlying27,tv⟩ ?_
    refine bfe h (fun hc6 h=>?_) fun hc6 h=>?_
    ·refine wft hc6<|Qat<|thn<|wsq<|Qas ?_
     obtain⟨x7,hg8,h⟩:=bno h
     obtain⟨hi9,hj10⟩:=gsm hg8
     obtain⟨x11,hg12,h⟩:=bno h
     obtain⟨hi13,hj14⟩:=gsm hg12
     refine wxd tbk [(2,rp _ _),(6,rp _ _)] ⟨aiq underlying27 ti3 Qac hi9 hj10,aiq underlying27 ti3 Qac hi13 hj14,tv⟩ ?_
     refine bfe h (fun hc15 h=>?_) fun hc15 h=>?_
     ·exact wft hc15<|wxz<|Qaj<|Qa1<|Qap<|Qap<|Qa1<|Qap<|frb h
     ·exact wfn hc15<|Qat<|bln<|thn<|wxz1<|thn<|arm (mto (n:=26) [(0,(.dat 1 (p0.map Qac))),(1,(.dat 1 (p1.map Qac))),(5,(I (w64 (y3+1))))] [] [] hφ0 (pc (rnd Qae) (pc (rnd Qae) (pw pn))) qn) (ih (w64 (y3+1)) h)
    ·exact wfn hc6<|Qbm<|Qa4<|Qa4<|Qbl rfl<|thn<|⟨(),h,(mto (n:=26) [] [] [] hφ0 pn qn)⟩
def Qfs (N:Nat) (p0:GNet) (p2:List Qab) (p3:Int) (k8:Int→Option (Int×Int×Int)):Nat→(List Int)→Int→Option (Int×Int×Int)
  |0,_,_=>none
  |n13+1,y9,y10=>
    bif (decide (y10<p3)) then
     (Qe2 N p0 y9 p2).bind (
      Sum.elim (fun x17=>
        bif (decide (x17≥0)) then
         some (y10,x17,0)
        else
         none)
      (fun x19=>
        bif (decide (x19.1≥0)) then
         some (y10,x19.1,0)
        else
         chk (decide (y9.length≤x19.2.2.2.2.length))<|
         Qfs N p0 p2 p3 k8 n13 (x19.2.2.2.2.take y9.length) (w64 (y10+1))))
    else
     k8 (y10)
def Qlr (N:Nat) (p0:GNet) (p1:List Int) (p2:List Qab) (p3:Int):Option (Int×Int×Int):=
  (Qkd N p0 p1 p2).bind fun x2=>
  bif (x2 != 0) then
   some (0,0,x2)
  else
   (Qcz N p3 1 1000).bind fun x5=>
   bif (!x5) then
    some (0,0,2)
   else
    Qdr (fun y7=>
      some (y7,(-1),0)) fun k8:Int→Option (Int×Int×Int)=>
    Qfs N p0 p2 p3 k8 N p1 0
def Q1k (p0:GNet):AV:=.dat 5 (p0.Table.map Qau)
def Q1j (p0:GNet):AV:=.dat 7 (p0.Elements.map Qad)
def Q7s (p0:GNet):AV:=.agg [(Q1k p0),(Q1j p0)]
def Qm9 (p2:List Qab):AV:=.dat 4 (p2.map Qag)
def Qtn (p0:GNet):Slot:=.own 2 [[(Q1k p0),(Q1j p0)]]
def Zbn:Slot:=.own 1 [[(.lit (.pointer none))]]
def Q7r:Slot:=.own 1 [[(.ref 3 7 (0) 0)]]
def Qvm (p0:GNet) (y9:List Int) (p2:List Qab) (x19:(Int×Int×(List (List Qab))×(List Qbg)×(List Int))):Slot:=.own 7 [[(Q1k p0),(Q1j p0),(.own 4 1 (0) ((p0.Elements.length:Int).toNat)),(.own 5 4 (0) ((p0.Elements.length:Int).toNat)),(.own 6 1 (0) y9.length),(Qm9 p2),(I x19.2.1)]]
theorem Qno (N:Nat) (p0:GNet) (p1:List Int) (p2:List Qab) (p3:Int) (r:(Int×Int×Int)) (h:Qlr N p0 p1 p2 p3=some r):Spec prog 24 [(.agg (Qg6 p0)),(.dat 1 (p1.map Qac)),(.dat 4 (p2.map Qag)),(I p3)] [] (.tup [(I r.1),(I r.2.1),(I r.2.2)]) []:=by
  refine Qam func24 rfl 0 (nle rfl) (fun X φ0 w0 hφ0 hd0=>?_)
  unfold Qlr at h
  refine wxz<|wsq ?_
  obtain⟨x2,hf1,h⟩:=bno h
  refine wx tbk [(3,rp _ _)] ⟨apv Q2u (Ql9 N p0 p1 p2 _ hf1) (nlc (NLt.agg _ (nlc (nld Qak _) (nlc (nld Qaa _) nl0))) (nlc (nld Qae _) (nlc (nld Qah _) nl0))) nll,tv⟩<|wxz ?_
  refine bfe h (fun hc3 h=>?_) fun hc3 h=>?_
  ·refine wft hc3<|wxz<|Qaj<|Qap ?_
   obtain rfl:=osi h
   exact fend ⟨[I 0,I 0,I x2],⟨rot,rot,rot,tv⟩,rfl⟩ (NLt.tup _ (nlcc (nlc nll nl0)))
  ·refine wfn hc3<|Qat<|thn<|wsq ?_
   obtain⟨x5,hf4,h⟩:=bno h
   refine wx tbk [(1,rp _ _)] ⟨apv Qh8 (Qck N p3 1 1000 _ hf4) (nlcc (nlc nll nl0)) nll,tv⟩ ?_
   refine bfe h (fun hc6 h=>?_) fun hc6 h=>?_
   ·refine wft hc6<|wxz<|Qaj<|Qap ?_
    obtain rfl:=osi h
    exact fend ⟨[I 0,I 0,I 2],⟨rot,rot,rot,tv⟩,rfl⟩ (NLt.tup _ (nlcc (nlc nll nl0)))
   ·refine wfn hc6<|Qat<|thn ?_
    obtain⟨k8,hk_k8,h⟩:=jko h
    refine wjn (τ:=Int) (fun t=>k8 t=some r) (fun y7=>⟨mk 46 [(8,I y7)],[]⟩) (fun y7 h=>?_) ?_
    ·subst hk_k8
     refine wxz<|Qaj ?_
     obtain rfl:=osi h
     exact fend ⟨[I y7,(I ((-1))),I 0],⟨rot,rot,rot,tv⟩,rfl⟩ (NLt.tup _ (nlcc (nlc nll nl0)))
    ·skip
     refine wxz<|Qas ?_
     refine wmr (mto (n:=46) (l':=[(1,(.dat 1 (p1.map Qac))),(2,(Qm9 p2)),(3,I p3),(4,.ref 0 2 0 0),(8,I 0)]) (own':=[(Qtn p0)]) [(1,(.dat 1 (p1.map Qac))),(2,(Qm9 p2)),(3,I p3),(4,.ref 0 2 0 0),(8,I 0)] [0] [(Qtn p0)] hφ0 (pc (rnd Qae) (pc (rnd Qah) (pw (prr (pw pn))))) (qb (lc (rnd Qak) (lc (rnd Qaa) ln)) qn)) ?_
     refine Qb9 (τ:=(List Int)×Int) (fun n t=>Qfs N p0 p2 p3 k8 n t.1 t.2=some r) (fun ⟨y9,y10⟩=>⟨mk 46 [(1,(.dat 1 (y9.map Qac))),(2,(Qm9 p2)),(3,I p3),(4,.ref 0 2 0 0),(8,I y10)],[(Qtn p0)]⟩) (fun t h=>by rw[Qfs] at h;cases h) (fun n13 ih t h=>?_) N (p1,0) h
     obtain⟨y9,y10⟩:=t
     rw[Qfs] at h
     skip
     refine wsq<|wxz ?_
     refine bfe h (fun hc14 h=>?_) fun hc14 h=>?_
     ·refine wft hc14<|Qat<|thn<|wsq<|Qas ?_
      obtain⟨x16,hf15,h⟩:=bno h
      rcases x16 with x17 |x19
      ·replace h:=Q4l h
       refine wx tbk [(3,⟨_,_,_,_,false⟩)] ⟨Qar (first:=[]) (cap:=[]) (vs:=[(Q7s p0),(.dat 1 (y9.map Qac)),(Qm9 p2)]) (σr:=[]) (σr':=[Zbn,(.own 1 [[I x17]])]) (res':=(.tup [(.lit (.pointer none)),I x17])) [1,2] rfl Qoq (Qg3 N p0 y9 p2 _ hf15) rfl (Qbd (rnc (.plain _ (NLt.agg _ (nlc (nld Qak _) (nlc (nld Qaa _) nl0)))) (rnc (pld Qae) (rnc (pld Qah) rn0)))) Qaq (slc (Qao (rnc (.plain _ nll) rn0)) (slc (Qao (rnc (.plain _ nll) rn0)) Qaq)) (.plain _ (NLt.tup _ (nlcc nl0))) rfl rfl rfl,tv⟩<|wsq<|wxz ?_
       refine bfe h (fun hc18 h=>?_) fun hc18 h=>?_
       ·refine wft hc18<|wxz<|Qaj<|Qap<|Qa1<|Qap<|Qap<|Qa1<|Qap ?_
        obtain rfl:=osi h
        exact fend ⟨[I y10,I x17,I 0],⟨rot,rot,rot,tv⟩,rfl⟩ (NLt.tup _ (nlcc (nlc nll nl0)))
       ·refine wfn hc18<|Qat<|thn ?_
        cases h
      ·replace h:=Q4k h
       refine wx tbk [(3,⟨_,_,_,_,false⟩)] ⟨Qar (first:=[]) (cap:=[]) (vs:=[(Q7s p0),(.dat 1 (y9.map Qac)),(Qm9 p2)]) (σr:=[]) (σr':=[Q7r,(.own 1 [[I x19.1]]),(Qvm p0 y9 p2 x19),(.own 1 (x19.2.2.1.map Qal)),(.own 4 (x19.2.2.2.1.map Qaw)),(.own 1 (x19.2.2.2.2.map Qac))]) (res':=(.tup [.ref 3 7 0 0,I x19.1])) [1,2,3,4,5,6] rfl Qoq (Qg2 N p0 y9 p2 _ hf15) rfl (Qbd (rnc (.plain _ (NLt.agg _ (nlc (nld Qak _) (nlc (nld Qaa _) nl0)))) (rnc (pld Qae) (rnc (pld Qah) rn0)))) Qaq (slc (Qao (rnc (Qa5 rfl) rn0)) (slc (Qao (rnc (.plain _ nll) rn0)) (slc (Qao (rnc (pld Qak) (rnc (pld Qaa) (rnc (Qbt rfl) (rnc (Qbt rfl) (rnc (Qbt rfl) (rnc (pld Qah) (rnc (.plain _ nll) rn0)))))))) (slc (Qa3 Qan) (slc (Qa3 Qa0) (slc (Qa3 Qae) Qaq)))))) (Qtv (rnc (Qa5 rfl) (rnc (.plain _ nll) rn0))) rfl rfl rfl,tv⟩<|wsq<|wxz ?_
       refine bfe h (fun hc20 h=>?_) fun hc20 h=>?_
       ·refine wft hc20<|wxz<|Qaj<|Qap<|Qa1<|Qap<|Qap<|Qa1<|Qap ?_
        obtain rfl:=osi h
        exact fend ⟨[I y10,I x19.1,I 0],⟨rot,rot,rot,tv⟩,rfl⟩ (NLt.tup _ (nlcc (nlc nll nl0)))
       ·refine wfn hc20<|Qat<|thn ?_
        refine wx1 tbk [(1,rb [(.tmp 40,.ref 3 7 0 0)] [(3,(Qvm p0 y9 p2 x19))] (.ref 3 7 0 0))] ⟨Qa6 rfl,tv⟩<|bln<|thn<|wxz1<|thn ?_
        obtain⟨hz21,h⟩:=cko h
        exact arm (Mor.trans (Q14 (n:=46) (m:=1) (xs:=x19.2.2.2.2.map Qac) (l':=[(1,(.dat 1 ((x19.2.2.2.2.take y9.length:List Int).map Qac))),(2,(Qm9 p2)),(3,I p3),(4,.ref 0 2 0 0),(8,(I (w64 (y10+1))))]) (own':=[(Qtn p0),Q7r,(.own 1 [[I x19.1]]),(Qvm p0 y9 p2 x19),(.own 1 (x19.2.2.1.map Qal)),(.own 4 (x19.2.2.2.1.map Qaw)),.dead]) 6 [(1,(.own 6 1 (0) y9.length)),(2,(Qm9 p2)),(3,I p3),(4,.ref 0 2 0 0),(8,(I (w64 (y10+1))))] (by kernel_rfl) (by kernel_rfl) (by kernel_rfl) ⟨rfl,(Qiy hz21),rfl,.same _,rfl,.same _,rfl,.same _,rfl,.same _,tv⟩ (by kernel_rfl)) (mto (n:=46) [(1,(.dat 1 ((x19.2.2.2.2.take y9.length:List Int).map Qac))),(2,(Qm9 p2)),(3,I p3),(4,.ref 0 2 0 0),(8,(I (w64 (y10+1))))] [0] [(Qtn p0)] hφ0 (pc (rnd Qae) (pc (rnd Qah) (pw (prr (pw pn))))) (qb (lc (rnd Qak) (lc (rnd Qaa) ln)) qn))) (ih (x19.2.2.2.2.take y9.length,w64 (y10+1)) h)
     ·exact wfn hc14<|Qbm<|Qa4<|Qa4<|Qbl rfl<|thn<|⟨(y10),h,(mto (n:=46) [(8,I y10)] [] [] hφ0 (pw pn) qn)⟩
end
section
set_option maxRecDepth 100000
set_option maxHeartbeats 4000000
open Go.RowKit
def Qfb (N:Nat) (p0:GNet) (p2:List (List Qab)) (k7:Unit→Option Int):Nat→Int→Option Int
  |0,_=>none
  |n10+1,y8=>
    bif (decide (y8<(p2.length:Int))) then
     (getI p2 y8).bind fun x12=>
     (Qic N p0 x12).bind fun x17=>
     bif (x17 != 0) then
      some x17
     else
      Qfb N p0 p2 k7 n10 (w64 (y8+1))
    else
     k7 ()
def Qke (N:Nat) (p0:GNet) (p1:List Int) (p2:List (List Qab)):Option Int:=
  (Qjf N p0 p1).bind fun x2=>
  bif (x2 != 0) then
   some x2
  else
   (Qcz N (p2.length:Int) 1 6).bind fun x5=>
   bif (!x5) then
    some 3
   else
    Qdr (fun _=>
      some 0) fun k7:Unit→Option Int=>
    Qfb N p0 p2 k7 N 0
def Qw8 (p2:List (List Qab)):AV:=.dat 1 (p2.map Qal)
def Qw9 (p0:GNet):Slot:=.own 2 [[(.dat 5 (p0.Table.map Qau)),(.dat 7 (p0.Elements.map Qad))]]
theorem Qma (N:Nat) (p0:GNet) (p1:List Int) (p2:List (List Qab)) (r:Int) (h:Qke N p0 p1 p2=some r):Spec prog 77 [(.agg (Qg6 p0)),(.dat 1 (p1.map Qac)),(.dat 1 (p2.map Qal))] [] (I r) []:=by
  refine Qam func77 rfl 0 (nle rfl) (fun X φ0 w0 hφ0 hd0=>?_)
  unfold Qke at h
  refine wxz<|wsq ?_
  obtain⟨x2,hf1,h⟩:=bno h
  refine wx tbk [(2,rp _ _)] ⟨apv Q2s (Qld N p0 p1 _ hf1) (nlc (NLt.agg _ (nlc (nld Qak _) (nlc (nld Qaa _) nl0))) (nlc (nld Qae _) nl0)) nll,tv⟩<|wxz ?_
  refine bfe h (fun hc3 h=>?_) fun hc3 h=>?_
  ·refine wft hc3<|wxz<|Qaj<|Qap ?_
   obtain rfl:=osi h
   exact fend ⟨[I x2],⟨rot,tv⟩,rfl⟩ nll
  ·refine wfn hc3<|Qat<|thn<|wsq ?_
   obtain⟨x5,hf4,h⟩:=bno h
   refine wx tbk [(1,rp _ _),(2,rp _ _)] ⟨alq 1 Qal p2 underlying31,apv Qh8 (Qck N (p2.length:Int) 1 6 _ hf4) (nlcc (nlc nll nl0)) nll,tv⟩ ?_
   refine bfe h (fun hc6 h=>?_) fun hc6 h=>?_
   ·refine wft hc6<|wxz<|Qaj<|Qap ?_
    obtain rfl:=osi h
    exact fend ⟨[I 3],⟨rot,tv⟩,rfl⟩ nll
   ·refine wfn hc6<|Qat<|thn ?_
    obtain⟨k7,hk_k7,h⟩:=jko h
    refine wjn (τ:=Unit) (fun t=>k7 t=some r) (fun _=>⟨mk 34 [],[]⟩) (fun t h=>?_) ?_
    ·subst hk_k7
     refine wxz<|Qaj ?_
     obtain rfl:=osi h
     exact fend ⟨[I 0],⟨rot,tv⟩,rfl⟩ nll
    ·skip
     refine wx tbk [(1,rp _ _)] ⟨alq 1 Qal p2 underlying31,tv⟩<|Qas ?_
     refine wmr (mto (n:=34) (l':=[(3,.ref 0 2 0 0),(21,(Qw8 p2)),(22,(I ((p2.length:Int)))),(23,I 0)]) (own':=[(Qw9 p0)]) [(3,.ref 0 2 0 0),(21,(Qw8 p2)),(22,(I ((p2.length:Int)))),(23,I 0)] [0] [(Qw9 p0)] hφ0 (prr (pc (rnd Qan) (pw (pw pn)))) (qb (lc (rnd Qak) (lc (rnd Qaa) ln)) qn)) ?_
     refine Qb9 (τ:=Int) (fun n t=>Qfb N p0 p2 k7 n t=some r) (fun y8=>⟨mk 34 [(3,.ref 0 2 0 0),(21,(Qw8 p2)),(22,(I ((p2.length:Int)))),(23,I y8)],[(Qw9 p0)]⟩) (fun t h=>by rw[Qfb] at h;cases h) (fun n10 ih y8 h=>?_) N (0) h
     rw[Qfb] at h
     skip
     refine wxz<|wsq ?_
     refine bfe h (fun hc11 h=>?_) fun hc11 h=>?_
     ·refine wft hc11<|Qat<|thn<|wsq<|Qas ?_
      obtain⟨x12,hg13,h⟩:=bno h
      obtain⟨hi14,hj15⟩:=gsm hg13
      refine wx tbk [(0,rp _ _)] ⟨aiq underlying31 ti45 Qal hi14 hj15,tv⟩ ?_
      obtain⟨x17,hf16,h⟩:=bno h
      refine wx tbk [(2,rp _ _)] ⟨apv Q2m (Qkv N p0 x12 _ hf16) (nlc (NLt.agg _ (nlc (nld Qak _) (nlc (nld Qaa _) nl0))) (nlc (nld Qah _) nl0)) nll,tv⟩<|wxz ?_
      refine bfe h (fun hc18 h=>?_) fun hc18 h=>?_
      ·refine wft hc18<|wxz<|Qaj<|Qa1<|Qap<|Qap<|Qa1<|Qap ?_
       obtain rfl:=osi h
       exact fend ⟨[I x17],⟨rot,tv⟩,rfl⟩ nll
      ·exact wfn hc18<|Qat<|bln<|thn<|wxz1<|thn<|arm (mto (n:=34) [(3,.ref 0 2 0 0),(21,(Qw8 p2)),(22,(I ((p2.length:Int)))),(23,(I (w64 (y8+1))))] [0] [(Qw9 p0)] hφ0 (prr (pc (rnd Qan) (pw (pw pn)))) (qb (lc (rnd Qak) (lc (rnd Qaa) ln)) qn)) (ih (w64 (y8+1)) h)
     ·exact wfn hc11<|Qbm<|Qa4<|Qa4<|Qbl rfl<|thn<|⟨(),h,(mto (n:=34) [] [] [] hφ0 pn qn)⟩
def Qdy (N:Nat) (p0:GNet) (p1:List Int) (k2:(List Qe4)→Option ((List Qe4)×Bool)) (p2:List (List Qab)):Nat→(List Qe4)→Int→Option ((List Qe4)×Bool)
  |0,_,_=>none
  |n7+1,y3,y4=>
    bif (decide (y4<(p2.length:Int))) then
     (getI p2 y4).bind fun x9=>
     (Qe2 N p0 p1 x9).bind (
      Sum.elim (fun x15=>
        bif (decide (x15≥0)) then
         some ([],false)
        else
         none)
      (fun x17=>
        bif (decide (x17.1≥0)) then
         some ([],false)
        else
         chk (decide ((p0.Elements.length:Int).toNat≤x17.2.2.1.length))<|
         chk (decide ((p0.Elements.length:Int).toNat≤x17.2.2.2.1.length))<|
         chk (decide (p1.length≤x17.2.2.2.2.length))<|
         chk (decide ((y3.length+([(⟨p0,(⟨x17.2.2.1.take ((p0.Elements.length:Int).toNat),x17.2.2.2.1.take ((p0.Elements.length:Int).toNat),x17.2.2.2.2.take p1.length⟩:Qfg),x9,x17.2.1⟩:Qe4)]).length)*8≤140737488355328))<|
         Qdy N p0 p1 k2 p2 n7 (y3++([(⟨p0,(⟨x17.2.2.1.take ((p0.Elements.length:Int).toNat),x17.2.2.2.1.take ((p0.Elements.length:Int).toNat),x17.2.2.2.2.take p1.length⟩:Qfg),x9,x17.2.1⟩:Qe4)])) (w64 (y4+1))))
    else
     k2 (y3)
def Qhi (N:Nat) (p0:GNet) (p1:List Int) (p2:List (List Qab)):Option ((List Qe4)×Bool):=
  Qdr (fun y1=>
    some (y1,true)) fun k2:(List Qe4)→Option ((List Qe4)×Bool)=>
  Qdy N p0 p1 k2 p2 N ([]) 0
def Qkt (p2:List (List Qab)):AV:=.dat 1 (p2.map Qal)
def Ql8 (p0:GNet):AV:=.dat 5 (p0.Table.map Qau)
def Ql7 (p0:GNet):AV:=.dat 7 (p0.Elements.map Qad)
def Qku (p0:GNet):Slot:=.own 2 [[(Ql8 p0),(Ql7 p0)]]
def Qij (y3:List Qe4):AV:=.acc 1 136 1 (y3.map Qcr)
def Ql6 (p0:GNet):AV:=.agg [(Ql8 p0),(Ql7 p0)]
def Qcv (x9:List Qab):AV:=.dat 4 (x9.map Qag)
def Zbi:Slot:=.own 1 [[(.lit (.pointer none))]]
def Q09:AV:=.dat 1 (([]:List Qe4).map Qcr)
def Qk2:Slot:=.own 1 [[(.ref 4 7 (0) 0)]]
def Q1c (p0:GNet) (p1:List Int) (x9:List Qab) (x17:(Int×Int×(List (List Qab))×(List Qbg)×(List Int))):Slot:=.own 7 [[(Ql8 p0),(Ql7 p0),(.own 5 1 (0) ((p0.Elements.length:Int).toNat)),(.own 6 4 (0) ((p0.Elements.length:Int).toNat)),(.own 7 1 (0) p1.length),(Qcv x9),(I x17.2.1)]]
def Qoa (x17:(Int×Int×(List (List Qab))×(List Qbg)×(List Int))):Slot:=.own 1 (x17.2.2.2.2.map Qac)
def Qmi (x17:(Int×Int×(List (List Qab))×(List Qbg)×(List Int))) (p0:GNet):AV:=.dat 1 ((x17.2.2.1.take ((p0.Elements.length:Int).toNat):List (List Qab)).map Qal)
def Qpu (x17:(Int×Int×(List (List Qab))×(List Qbg)×(List Int))) (p0:GNet):AV:=.dat 4 ((x17.2.2.2.1.take ((p0.Elements.length:Int).toNat):List Qbg).map Qaw)
def Q1b (p0:GNet) (x17:(Int×Int×(List (List Qab))×(List Qbg)×(List Int))) (p1:List Int) (x9:List Qab):AV:=.dat 1 (([(⟨p0,(⟨x17.2.2.1.take ((p0.Elements.length:Int).toNat),x17.2.2.2.1.take ((p0.Elements.length:Int).toNat),x17.2.2.2.2.take p1.length⟩:Qfg),x9,x17.2.1⟩:Qe4)]:List Qe4).map Qcr)
def Q1a (y3:List Qe4) (p0:GNet) (x17:(Int×Int×(List (List Qab))×(List Qbg)×(List Int))) (p1:List Int) (x9:List Qab):AV:=.acc 8 136 1 ((y3++([(⟨p0,(⟨x17.2.2.1.take ((p0.Elements.length:Int).toNat),x17.2.2.2.1.take ((p0.Elements.length:Int).toNat),x17.2.2.2.2.take p1.length⟩:Qfg),x9,x17.2.1⟩:Qe4)]):List Qe4).map Qcr)
theorem Qjy (N:Nat) (p0:GNet) (p1:List Int) (p2:List (List Qab)) (r:((List Qe4)×Bool)) (h:Qhi N p0 p1 p2=some r):Spec prog 78 [(.agg (Qg6 p0)),(.dat 1 (p1.map Qac)),(.dat 1 (p2.map Qal))] [] (.tup [(.dat 1 (r.1.map Qcr)),(B r.2)]) []:=by
  refine Qam func78 rfl 0 (nle rfl) (fun X φ0 w0 hφ0 hd0=>?_)
  unfold Qhi at h
  refine wxz<|wxz ?_
  obtain⟨k2,hk_k2,h⟩:=jko h
  refine wjn (τ:=(List Qe4)) (fun t=>k2 t=some r) (fun y1=>⟨mk 34 [(8,(.acc 0 136 1 (y1.map Qcr)))],[.tok]⟩) (fun y1 h=>?_) ?_
  ·subst hk_k2
   refine wxz<|Qaj ?_
   obtain rfl:=osi h
   exact fend ⟨[(.dat 1 (y1.map Qcr)),B true],⟨Qbz (v:=(.acc 0 136 1 (y1.map Qcr))) rot Less.acc,rot,tv⟩,rfl⟩ (NLt.tup _ (nlc (nld Qde _) (nlc nll nl0)))
  ·skip
   refine wx tbk [(1,rp _ _)] ⟨alq 1 Qal p2 underlying31,tv⟩<|Qas ?_
   refine wmr (Mor.trans (Qvv 1 136 1 8 (by kernel_rfl) (by kernel_rfl)) (mto (n:=34) (l':=[(1,(.dat 1 (p1.map Qac))),(3,.ref 0 2 0 0),(8,(.acc 1 136 1 ((([]):List Qe4).map Qcr))),(13,(Qkt p2)),(14,(I ((p2.length:Int)))),(15,I 0)]) (own':=[(Qku p0),.tok]) [(1,(.dat 1 (p1.map Qac))),(3,.ref 0 2 0 0),(8,(.acc 1 136 1 (([]:List Qe4).map Qcr))),(13,(Qkt p2)),(14,(I ((p2.length:Int)))),(15,I 0)] [0,1] [(Qku p0),.tok] hφ0 (pc (rnd Qae) (prr (pc (.rn (Qf8 rfl (Qd3 Qde _))) (pc (rnd Qan) (pw (pw pn)))))) (qb (lc (rnd Qak) (lc (rnd Qaa) ln)) (qc .tok qn)))) ?_
   refine Qb9 (τ:=(List Qe4)×Int) (fun n t=>Qdy N p0 p1 k2 p2 n t.1 t.2=some r) (fun ⟨y3,y4⟩=>⟨mk 34 [(1,(.dat 1 (p1.map Qac))),(3,.ref 0 2 0 0),(8,(Qij y3)),(13,(Qkt p2)),(14,(I ((p2.length:Int)))),(15,I y4)],[(Qku p0),.tok]⟩) (fun t h=>by rw[Qdy] at h;cases h) (fun n7 ih t h=>?_) N ([],0) h
   obtain⟨y3,y4⟩:=t
   rw[Qdy] at h
   skip
   refine wxz<|wsq ?_
   refine bfe h (fun hc8 h=>?_) fun hc8 h=>?_
   ·refine wft hc8<|Qat<|thn<|wsq<|Qas ?_
    obtain⟨x9,hg10,h⟩:=bno h
    obtain⟨hi11,hj12⟩:=gsm hg10
    refine wx tbk [(0,rp _ _)] ⟨aiq underlying31 ti45 Qal hi11 hj12,tv⟩ ?_
    obtain⟨x14,hf13,h⟩:=bno h
    rcases x14 with x15 |x17
    ·replace h:=Q4l h
     refine wx tbk [(3,⟨_,_,_,_,false⟩)] ⟨Qar (first:=[]) (cap:=[]) (vs:=[(Ql6 p0),(.dat 1 (p1.map Qac)),(Qcv x9)]) (σr:=[]) (σr':=[Zbi,(.own 1 [[I x15]])]) (res':=(.tup [(.lit (.pointer none)),I x15])) [2,3] rfl Qoq (Qg3 N p0 p1 x9 _ hf13) rfl (Qbd (rnc (.plain _ (NLt.agg _ (nlc (nld Qak _) (nlc (nld Qaa _) nl0)))) (rnc (pld Qae) (rnc (pld Qah) rn0)))) Qaq (slc (Qao (rnc (.plain _ nll) rn0)) (slc (Qao (rnc (.plain _ nll) rn0)) Qaq)) (.plain _ (NLt.tup _ (nlcc nl0))) rfl rfl rfl,tv⟩<|wsq<|wxz ?_
     refine bfe h (fun hc16 h=>?_) fun hc16 h=>?_
     ·refine wft hc16<|wxz<|Qaj<|Qap<|Qa1<|Qap<|Qap<|Qa1<|Qap ?_
      obtain rfl:=osi h
      exact fend ⟨[Q09,B false],⟨Qbz (v:=nilS) rot Less.nil,rot,tv⟩,rfl⟩ (NLt.tup _ (nlc (nld Qde _) (nlc nll nl0)))
     ·refine wfn hc16<|Qat<|thn ?_
      cases h
    ·replace h:=Q4k h
     refine wx tbk [(3,⟨_,_,_,_,false⟩)] ⟨Qar (first:=[]) (cap:=[]) (vs:=[(Ql6 p0),(.dat 1 (p1.map Qac)),(Qcv x9)]) (σr:=[]) (σr':=[Qk2,(.own 1 [[I x17.1]]),(Q1c p0 p1 x9 x17),(.own 1 (x17.2.2.1.map Qal)),(.own 4 (x17.2.2.2.1.map Qaw)),(Qoa x17)]) (res':=(.tup [.ref 4 7 0 0,I x17.1])) [2,3,4,5,6,7] rfl Qoq (Qg2 N p0 p1 x9 _ hf13) rfl (Qbd (rnc (.plain _ (NLt.agg _ (nlc (nld Qak _) (nlc (nld Qaa _) nl0)))) (rnc (pld Qae) (rnc (pld Qah) rn0)))) Qaq (slc (Qao (rnc (Qa5 rfl) rn0)) (slc (Qao (rnc (.plain _ nll) rn0)) (slc (Qao (rnc (pld Qak) (rnc (pld Qaa) (rnc (Qbt rfl) (rnc (Qbt rfl) (rnc (Qbt rfl) (rnc (pld Qah) (rnc (.plain _ nll) rn0)))))))) (slc (Qa3 Qan) (slc (Qa3 Qa0) (slc (Qa3 Qae) Qaq)))))) (Qtv (rnc (Qa5 rfl) (rnc (.plain _ nll) rn0))) rfl rfl rfl,tv⟩<|wsq<|wxz ?_
     refine bfe h (fun hc18 h=>?_) fun hc18 h=>?_
     ·refine wft hc18<|wxz<|Qaj<|Qap<|Qa1<|Qap<|Qap<|Qa1<|Qap ?_
      obtain rfl:=osi h
      exact fend ⟨[Q09,B false],⟨Qbz (v:=nilS) rot Less.nil,rot,tv⟩,rfl⟩ (NLt.tup _ (nlc (nld Qde _) (nlc nll nl0)))
     ·refine wfn hc18<|Qat<|thn ?_
      obtain⟨hz19,h⟩:=cko h
      refine wmr (Qsp [(Qku p0),.tok,Qk2,(.own 1 [[I x17.1]]),(Q1c p0 p1 x9 x17),(.own 1 (x17.2.2.1.map Qal)),(.own 4 (x17.2.2.2.1.map Qaw)),(Qoa x17)] (Qsq (n:=34) (m:=1) (xs:=x17.2.2.1.map Qal) (l':=[(1,(.dat 1 (p1.map Qac))),(3,.ref 0 2 0 0),(8,(Qij y3)),(10,(Qcv x9)),(11,.ref 4 7 0 0),(12,I x17.1),(13,(Qkt p2)),(14,(I ((p2.length:Int)))),(15,I y4),(16,(B ((decide (y4<(p2.length:Int)))))),(17,(.dptr (Qal x9) 0)),(18,(Qcv x9)),(19,(.tup [.ref 4 7 0 0,I x17.1])),(20,(Ql6 p0)),(21,(.dat 1 (p1.map Qac))),(22,(Qcv x9)),(23,(.tup [.ref 4 7 0 0,I x17.1])),(24,.ref 4 7 0 0),(25,I x17.1),(26,I x17.1),(27,(B ((decide (x17.1≥0)))))]) (own':=[(Qku p0),.tok,Qk2,(.own 1 [[I x17.1]]),(.own 7 [[(Ql8 p0),(Ql7 p0),(Qmi x17 p0),(.own 6 4 (0) ((p0.Elements.length:Int).toNat)),(.own 7 1 (0) p1.length),(Qcv x9),I x17.2.1]]),.dead,(.own 4 (x17.2.2.2.1.map Qaw)),(Qoa x17)]) 5 [(1,(.dat 1 (p1.map Qac))),(3,.ref 0 2 0 0),(8,(Qij y3)),(10,(Qcv x9)),(11,.ref 4 7 0 0),(12,I x17.1),(13,(Qkt p2)),(14,(I ((p2.length:Int)))),(15,I y4),(16,(B ((decide (y4<(p2.length:Int)))))),(17,(.dptr (Qal x9) 0)),(18,(Qcv x9)),(19,(.tup [.ref 4 7 0 0,I x17.1])),(20,(Ql6 p0)),(21,(.dat 1 (p1.map Qac))),(22,(Qcv x9)),(23,(.tup [.ref 4 7 0 0,I x17.1])),(24,.ref 4 7 0 0),(25,I x17.1),(26,I x17.1),(27,(B ((decide (x17.1≥0)))))] (by kernel_rfl) (by kernel_rfl) (by kernel_rfl) ⟨rfl,(.same _),rfl,(.same _),rfl,(.same _),rfl,(.same _),rfl,(.same _),rfl,(.same _),rfl,(.same _),rfl,(.same _),rfl,(.same _),rfl,(.same _),rfl,(.same _),rfl,(.same _),rfl,(.same _),rfl,(.same _),rfl,(.same _),rfl,(.same _),rfl,(.same _),rfl,(.same _),rfl,(.same _),rfl,(.same _),rfl,(.same _),tv⟩ (qc Qcm (qc Qcm (qc Qcm (qc Qcm (qc (Qpf (lc (.same _) (lc (.same _) (lc (Qiy hz19) (lc (.same _) (lc (.same _) (lc (.same _) (lc (.same _) ln)))))))) (qc .dead (qc Qcm (qc Qcm qn)))))))))) ?_
      obtain⟨hz20,h⟩:=cko h
      refine wmr (Qsp [(Qku p0),.tok,Qk2,(.own 1 [[I x17.1]]),(.own 7 [[(Ql8 p0),(Ql7 p0),(Qmi x17 p0),(.own 6 4 (0) ((p0.Elements.length:Int).toNat)),(.own 7 1 (0) p1.length),(Qcv x9),I x17.2.1]]),.dead,(.own 4 (x17.2.2.2.1.map Qaw)),(Qoa x17)] (Qsq (n:=34) (m:=4) (xs:=x17.2.2.2.1.map Qaw) (l':=[(1,(.dat 1 (p1.map Qac))),(3,.ref 0 2 0 0),(8,(Qij y3)),(10,(Qcv x9)),(11,.ref 4 7 0 0),(12,I x17.1),(13,(Qkt p2)),(14,(I ((p2.length:Int)))),(15,I y4),(16,(B ((decide (y4<(p2.length:Int)))))),(17,(.dptr (Qal x9) 0)),(18,(Qcv x9)),(19,(.tup [.ref 4 7 0 0,I x17.1])),(20,(Ql6 p0)),(21,(.dat 1 (p1.map Qac))),(22,(Qcv x9)),(23,(.tup [.ref 4 7 0 0,I x17.1])),(24,.ref 4 7 0 0),(25,I x17.1),(26,I x17.1),(27,(B ((decide (x17.1≥0)))))]) (own':=[(Qku p0),.tok,Qk2,(.own 1 [[I x17.1]]),(.own 7 [[(Ql8 p0),(Ql7 p0),(Qmi x17 p0),(Qpu x17 p0),(.own 7 1 (0) p1.length),(Qcv x9),I x17.2.1]]),.dead,.dead,(Qoa x17)]) 6 [(1,(.dat 1 (p1.map Qac))),(3,.ref 0 2 0 0),(8,(Qij y3)),(10,(Qcv x9)),(11,.ref 4 7 0 0),(12,I x17.1),(13,(Qkt p2)),(14,(I ((p2.length:Int)))),(15,I y4),(16,(B ((decide (y4<(p2.length:Int)))))),(17,(.dptr (Qal x9) 0)),(18,(Qcv x9)),(19,(.tup [.ref 4 7 0 0,I x17.1])),(20,(Ql6 p0)),(21,(.dat 1 (p1.map Qac))),(22,(Qcv x9)),(23,(.tup [.ref 4 7 0 0,I x17.1])),(24,.ref 4 7 0 0),(25,I x17.1),(26,I x17.1),(27,(B ((decide (x17.1≥0)))))] (by kernel_rfl) (by kernel_rfl) (by kernel_rfl) ⟨rfl,(.same _),rfl,(.same _),rfl,(.same _),rfl,(.same _),rfl,(.same _),rfl,(.same _),rfl,(.same _),rfl,(.same _),rfl,(.same _),rfl,(.same _),rfl,(.same _),rfl,(.same _),rfl,(.same _),rfl,(.same _),rfl,(.same _),rfl,(.same _),rfl,(.same _),rfl,(.same _),rfl,(.same _),rfl,(.same _),rfl,(.same _),tv⟩ (qc Qcm (qc Qcm (qc Qcm (qc Qcm (qc (Qpf (lc (.same _) (lc (.same _) (lc (.same _) (lc (Qiy hz20) (lc (.same _) (lc (.same _) (lc (.same _) ln)))))))) (qc Qcm (qc .dead (qc Qcm qn)))))))))) ?_
      obtain⟨hz21,h⟩:=cko h
      refine wmr (Qsp [(Qku p0),.tok,Qk2,(.own 1 [[I x17.1]]),(.own 7 [[(Ql8 p0),(Ql7 p0),(Qmi x17 p0),(Qpu x17 p0),(.own 7 1 (0) p1.length),(Qcv x9),I x17.2.1]]),.dead,.dead,(Qoa x17)] (Qsq (n:=34) (m:=1) (xs:=x17.2.2.2.2.map Qac) (l':=[(1,(.dat 1 (p1.map Qac))),(3,.ref 0 2 0 0),(8,(Qij y3)),(10,(Qcv x9)),(11,.ref 4 7 0 0),(12,I x17.1),(13,(Qkt p2)),(14,(I ((p2.length:Int)))),(15,I y4),(16,(B ((decide (y4<(p2.length:Int)))))),(17,(.dptr (Qal x9) 0)),(18,(Qcv x9)),(19,(.tup [.ref 4 7 0 0,I x17.1])),(20,(Ql6 p0)),(21,(.dat 1 (p1.map Qac))),(22,(Qcv x9)),(23,(.tup [.ref 4 7 0 0,I x17.1])),(24,.ref 4 7 0 0),(25,I x17.1),(26,I x17.1),(27,(B ((decide (x17.1≥0)))))]) (own':=[(Qku p0),.tok,Qk2,(.own 1 [[I x17.1]]),(.own 7 [[(Ql8 p0),(Ql7 p0),(Qmi x17 p0),(Qpu x17 p0),(.dat 1 ((x17.2.2.2.2.take p1.length:List Int).map Qac)),(Qcv x9),I x17.2.1]]),.dead,.dead,.dead]) 7 [(1,(.dat 1 (p1.map Qac))),(3,.ref 0 2 0 0),(8,(Qij y3)),(10,(Qcv x9)),(11,.ref 4 7 0 0),(12,I x17.1),(13,(Qkt p2)),(14,(I ((p2.length:Int)))),(15,I y4),(16,(B ((decide (y4<(p2.length:Int)))))),(17,(.dptr (Qal x9) 0)),(18,(Qcv x9)),(19,(.tup [.ref 4 7 0 0,I x17.1])),(20,(Ql6 p0)),(21,(.dat 1 (p1.map Qac))),(22,(Qcv x9)),(23,(.tup [.ref 4 7 0 0,I x17.1])),(24,.ref 4 7 0 0),(25,I x17.1),(26,I x17.1),(27,(B ((decide (x17.1≥0)))))] (by kernel_rfl) (by kernel_rfl) (by kernel_rfl) ⟨rfl,(.same _),rfl,(.same _),rfl,(.same _),rfl,(.same _),rfl,(.same _),rfl,(.same _),rfl,(.same _),rfl,(.same _),rfl,(.same _),rfl,(.same _),rfl,(.same _),rfl,(.same _),rfl,(.same _),rfl,(.same _),rfl,(.same _),rfl,(.same _),rfl,(.same _),rfl,(.same _),rfl,(.same _),rfl,(.same _),rfl,(.same _),tv⟩ (qc Qcm (qc Qcm (qc Qcm (qc Qcm (qc (Qpf (lc (.same _) (lc (.same _) (lc (.same _) (lc (.same _) (lc (Qiy hz21) (lc (.same _) (lc (.same _) ln)))))))) (qc Qcm (qc Qcm (qc .dead qn)))))))))) ?_
      refine wmr (Qsp [(Qku p0),.tok,Qk2,(.own 1 [[I x17.1]]),(.own 7 [[(Ql8 p0),(Ql7 p0),(Qmi x17 p0),(Qpu x17 p0),(.dat 1 ((x17.2.2.2.2.take p1.length:List Int).map Qac)),(Qcv x9),I x17.2.1]]),.dead,.dead,.dead] (Qsq (n:=34) (m:=7) (xs:=[[(Ql8 p0),(Ql7 p0),(Qmi x17 p0),(Qpu x17 p0),(.dat 1 ((x17.2.2.2.2.take p1.length:List Int).map Qac)),(Qcv x9),I x17.2.1]]) (l':=[(1,(.dat 1 (p1.map Qac))),(3,.ref 0 2 0 0),(8,(Qij y3)),(10,(Qcv x9)),(11,(.dptr (Qh9 (⟨p0,(⟨x17.2.2.1.take ((p0.Elements.length:Int).toNat),x17.2.2.2.1.take ((p0.Elements.length:Int).toNat),x17.2.2.2.2.take p1.length⟩:Qfg),x9,x17.2.1⟩:Qe4)) 0)),(12,I x17.1),(13,(Qkt p2)),(14,(I ((p2.length:Int)))),(15,I y4),(16,(B ((decide (y4<(p2.length:Int)))))),(17,(.dptr (Qal x9) 0)),(18,(Qcv x9)),(19,.any),(20,(Ql6 p0)),(21,(.dat 1 (p1.map Qac))),(22,(Qcv x9)),(23,.any),(24,(.dptr (Qh9 (⟨p0,(⟨x17.2.2.1.take ((p0.Elements.length:Int).toNat),x17.2.2.2.1.take ((p0.Elements.length:Int).toNat),x17.2.2.2.2.take p1.length⟩:Qfg),x9,x17.2.1⟩:Qe4)) 0)),(25,I x17.1),(26,I x17.1),(27,(B ((decide (x17.1≥0)))))]) (own':=[(Qku p0),.tok,(.own 1 [[(.dptr (Qh9 (⟨p0,(⟨x17.2.2.1.take ((p0.Elements.length:Int).toNat),x17.2.2.2.1.take ((p0.Elements.length:Int).toNat),x17.2.2.2.2.take p1.length⟩:Qfg),x9,x17.2.1⟩:Qe4)) 0)]]),(.own 1 [[I x17.1]]),.dead,.dead,.dead,.dead]) 4 [(1,(.dat 1 (p1.map Qac))),(3,.ref 0 2 0 0),(8,(Qij y3)),(10,(Qcv x9)),(11,.ref 4 7 0 0),(12,I x17.1),(13,(Qkt p2)),(14,(I ((p2.length:Int)))),(15,I y4),(16,(B ((decide (y4<(p2.length:Int)))))),(17,(.dptr (Qal x9) 0)),(18,(Qcv x9)),(19,(.tup [.ref 4 7 0 0,I x17.1])),(20,(Ql6 p0)),(21,(.dat 1 (p1.map Qac))),(22,(Qcv x9)),(23,(.tup [.ref 4 7 0 0,I x17.1])),(24,.ref 4 7 0 0),(25,I x17.1),(26,I x17.1),(27,(B ((decide (x17.1≥0)))))] (by kernel_rfl) (by kernel_rfl) (by kernel_rfl) ⟨rfl,(.same _),rfl,(.same _),rfl,(.same _),rfl,(.same _),rfl,(.ptr _ _ rfl),rfl,(.same _),rfl,(.same _),rfl,(.same _),rfl,(.same _),rfl,(.same _),rfl,(.same _),rfl,(.same _),rfl,(.any _),rfl,(.same _),rfl,(.same _),rfl,(.same _),rfl,(.any _),rfl,(.ptr _ _ rfl),rfl,(.same _),rfl,(.same _),rfl,(.same _),tv⟩ (qc Qcm (qc Qcm (qc (Qpf (lc (.ptr _ _ rfl) ln)) (qc Qcm (qc .dead (qc Qcm (qc Qcm (qc Qcm qn)))))))))) ?_
      obtain⟨ha22,h⟩:=cko h
      refine wx1 tbk [(2,rp [(.tmp 29,(.dptr (Qh9 (⟨p0,(⟨x17.2.2.1.take ((p0.Elements.length:Int).toNat),x17.2.2.2.1.take ((p0.Elements.length:Int).toNat),x17.2.2.2.2.take p1.length⟩:Qfg),x9,x17.2.1⟩:Qe4)) 0))] (Q1b p0 x17 p1 x9)),(3,⟨[(.tmp 28,(Qij y3)),(.tmp 30,(Q1b p0 x17 p1 x9))],[(1,.tok),(8,.unused)],(Q1a y3 p0 x17 p1 x9),[(1,.dead),(8,.tok)],false⟩)] ⟨Qbi (vs:=[(.dptr (Qh9 (⟨p0,(⟨x17.2.2.1.take ((p0.Elements.length:Int).toNat),x17.2.2.2.1.take ((p0.Elements.length:Int).toNat),x17.2.2.2.2.take p1.length⟩:Qfg),x9,x17.2.1⟩:Qe4)) 0)]) rfl underlying168 Qly Zbv rfl (by decide) rfl (by decide) (by rfl) (by rfl) (by rfl) rfl,Qft rfl underlying168 Zdp (Base.acc _ _) rfl rfl (by rfl) (Qi4 Qcr ha22) (Qi3 Qcr ha22 (by decide)) (Qi2 Qcr) rfl rfl,tv⟩<|bln<|thn<|wxz1<|thn ?_
      exact arm (mto (n:=34) [(1,(.dat 1 (p1.map Qac))),(3,.ref 0 2 0 0),(8,(Q1a y3 p0 x17 p1 x9)),(13,(Qkt p2)),(14,(I ((p2.length:Int)))),(15,(I (w64 (y4+1))))] [0,8] [(Qku p0),.tok] hφ0 (pc (rnd Qae) (prr (pc (.rn (Qf8 rfl (Qd3 Qde _))) (pc (rnd Qan) (pw (pw pn)))))) (qb (lc (rnd Qak) (lc (rnd Qaa) ln)) (qc .tok qn))) (ih (y3++([(⟨p0,(⟨x17.2.2.1.take ((p0.Elements.length:Int).toNat),x17.2.2.2.1.take ((p0.Elements.length:Int).toNat),x17.2.2.2.2.take p1.length⟩:Qfg),x9,x17.2.1⟩:Qe4)]),w64 (y4+1)) h)
   ·exact wfn hc8<|Qbm<|Qa4<|Qa4<|Qbl rfl<|thn<|⟨(y3),h,(mto (n:=34) [(8,(Qij y3))] [1] [.tok] hφ0 (pc (.rn (Qf8 rfl (Qd3 Qde _))) pn) (qc .tok qn))⟩
def Qey (N:Nat) (y2:Int) (k6:Unit→Option (Int×Int)) (x7:Qe4):Nat→Int→Option (Int×Int)
  |0,_=>none
  |n13+1,y11=>
    bif (decide (y11<(x7.Tick.Lost.length:Int))) then
     (getI x7.Tick.Lost y11).bind fun x15=>
     bif (decide (x15.Scale>0)) then
      some (y2,y11)
     else
      Qey N y2 k6 x7 n13 (w64 (y11+1))
    else
     k6 ()
def Qez (N:Nat) (p0:List Qe4) (k1:Unit→Option (Int×Int)):Nat→Int→Option (Int×Int)
  |0,_=>none
  |n4+1,y2=>
    bif (decide (y2<(p0.length:Int))) then
     Qdr (fun _=>
       Qez N p0 k1 n4 (w64 (y2+1))) fun k6:Unit→Option (Int×Int)=>
     (getI p0 y2).bind fun x7=>
     Qey N y2 k6 x7 N 0
    else
     k1 ()
def Qje (N:Nat) (p0:List Qe4):Option (Int×Int):=
  Qdr (fun _=>
    some ((-1),(-1))) fun k1:Unit→Option (Int×Int)=>
  Qez N p0 k1 N 0
def Ql5 (p0:List Qe4):AV:=.dat 1 (p0.map Qcr)
def Qr8 (x7:Qe4):AV:=.dat 4 (x7.Tick.Lost.map Qaw)
theorem Qlc (N:Nat) (p0:List Qe4) (r:(Int×Int)) (h:Qje N p0=some r):Spec prog 86 [(.dat 1 (p0.map Qcr))] [] (.tup [(I r.1),(I r.2)]) []:=by
  refine Qam func86 rfl 0 (nle rfl) (fun X φ0 w0 hφ0 hd0=>?_)
  unfold Qje at h
  refine wxz ?_
  obtain⟨k1,hk_k1,h⟩:=jko h
  refine wjn (τ:=Unit) (fun t=>k1 t=some r) (fun _=>⟨mk 33 [],[]⟩) (fun t h=>?_) ?_
  ·subst hk_k1
   refine wxz<|Qaj ?_
   obtain rfl:=osi h
   exact fend ⟨[(I ((-1))),(I ((-1)))],⟨rot,rot,tv⟩,rfl⟩ (NLt.tup _ (nlcc nl0))
  ·skip
   refine wx tbk [(1,rp _ _)] ⟨alq 1 Qcr p0 underlying168,tv⟩<|Qas ?_
   refine wmr (mto (n:=33) (l':=[(8,(Ql5 p0)),(9,(I ((p0.length:Int)))),(10,I 0)]) (own':=[]) [(8,(Ql5 p0)),(9,(I ((p0.length:Int)))),(10,I 0)] [] [] hφ0 (pc (rnd Qde) (pw (pw pn))) qn) ?_
   refine Qb9 (τ:=Int) (fun n t=>Qez N p0 k1 n t=some r) (fun y2=>⟨mk 33 [(8,(Ql5 p0)),(9,(I ((p0.length:Int)))),(10,I y2)],[]⟩) (fun t h=>by rw[Qez] at h;cases h) (fun n4 ih y2 h=>?_) N (0) h
   rw[Qez] at h
   skip
   refine wxz<|wsq ?_
   refine bfe h (fun hc5 h=>?_) fun hc5 h=>?_
   ·refine wft hc5<|Qat<|thn ?_
    obtain⟨k6,hk_k6,h⟩:=jko h
    refine wjn (τ:=Unit) (fun t=>k6 t=some r) (fun _=>⟨mk 33 [(8,(Ql5 p0)),(9,(I ((p0.length:Int)))),(10,I y2)],[]⟩) (fun t h=>?_) ?_
    ·subst hk_k6
     exact wxz1<|thn<|arm (mto (n:=33) [(8,(Ql5 p0)),(9,(I ((p0.length:Int)))),(10,(I (w64 (y2+1))))] [] [] hφ0 (pc (rnd Qde) (pw (pw pn))) qn) (ih (w64 (y2+1)) h)
    ·skip
     refine Qas ?_
     obtain⟨x7,hg8,h⟩:=bno h
     obtain⟨hi9,hj10⟩:=gsm hg8
     refine wx tbk [(1,rp _ _)] ⟨aiq underlying168 Qly Qcr hi9 hj10,tv⟩ ?_
     refine wx tbk [(5,rp _ _)] ⟨alq 4 Qaw x7.Tick.Lost underlying32,tv⟩<|Qas ?_
     refine wmr (mto (n:=33) (l':=[(4,I y2),(8,(Ql5 p0)),(9,(I ((p0.length:Int)))),(10,I y2),(19,(Qr8 x7)),(20,(I ((x7.Tick.Lost.length:Int)))),(21,I 0)]) (own':=[]) [(4,I y2),(8,(Ql5 p0)),(9,(I ((p0.length:Int)))),(10,I y2),(19,(Qr8 x7)),(20,(I ((x7.Tick.Lost.length:Int)))),(21,I 0)] [] [] hφ0 (pw (pc (rnd Qde) (pw (pw (pc (rnd Qa0) (pw (pw pn))))))) qn) ?_
     refine Qb9 (τ:=Int) (fun n t=>Qey N y2 k6 x7 n t=some r) (fun y11=>⟨mk 33 [(4,I y2),(8,(Ql5 p0)),(9,(I ((p0.length:Int)))),(10,I y2),(19,(Qr8 x7)),(20,(I ((x7.Tick.Lost.length:Int)))),(21,I y11)],[]⟩) (fun t h=>by rw[Qey] at h;cases h) (fun n13 ih y11 h=>?_) N (0) h
     rw[Qey] at h
     skip
     refine wxz<|wsq ?_
     refine bfe h (fun hc14 h=>?_) fun hc14 h=>?_
     ·refine wft hc14<|Qat<|thn<|wsq<|Qas ?_
      obtain⟨x15,hg16,h⟩:=bno h
      obtain⟨hi17,hj18⟩:=gsm hg16
      refine wx tbk [(1,rp _ _)] ⟨aiq underlying32 ti82 Qaw hi17 hj18,tv⟩<|wxz ?_
      refine bfe h (fun hc19 h=>?_) fun hc19 h=>?_
      ·refine wft hc19<|wxz<|Qaj<|Qa1<|Qap<|Qap<|Qa1<|Qa1<|Qap<|Qap ?_
       refine Qa1<|Qap ?_
       obtain rfl:=osi h
       exact fend ⟨[I y2,I y11],⟨rot,rot,tv⟩,rfl⟩ (NLt.tup _ (nlcc nl0))
      ·exact wfn hc19<|Qat<|bln<|thn<|wxz1<|thn<|arm (mto (n:=33) [(4,I y2),(8,(Ql5 p0)),(9,(I ((p0.length:Int)))),(10,I y2),(19,(Qr8 x7)),(20,(I ((x7.Tick.Lost.length:Int)))),(21,(I (w64 (y11+1))))] [] [] hφ0 (pw (pc (rnd Qde) (pw (pw (pc (rnd Qa0) (pw (pw pn))))))) qn) (ih (w64 (y11+1)) h)
     ·exact wfn hc14<|Qbm<|Qa4<|Qa4<|Qbl rfl<|bln<|thn<|⟨(),h,(mto (n:=33) [(8,(Ql5 p0)),(9,(I ((p0.length:Int)))),(10,I y2)] [] [] hφ0 (pc (rnd Qde) (pw (pw pn))) qn)⟩
   ·exact wfn hc5<|Qbm<|Qa4<|Qa4<|Qbl rfl<|thn<|⟨(),h,(mto (n:=33) [] [] [] hφ0 pn qn)⟩
def Qle (N:Nat) (p0:GNet) (p1:List Int) (p2:List (List Qab)):Option (Int×Int×Int):=
  (Qke N p0 p1 p2).bind fun x2=>
  bif (x2 != 0) then
   some (0,0,x2)
  else
   (Qhi N p0 p1 p2).bind fun x5=>
   bif (!x5.2) then
    some (0,0,11)
   else
    (Qje N x5.1).bind fun x8=>
    some (x8.1,x8.2,0)
theorem Qp5 (N:Nat) (p0:GNet) (p1:List Int) (p2:List (List Qab)) (r:(Int×Int×Int)) (h:Qle N p0 p1 p2=some r):Spec prog 42 [(.agg (Qg6 p0)),(.dat 1 (p1.map Qac)),(.dat 1 (p2.map Qal))] [] (.tup [(I r.1),(I r.2.1),(I r.2.2)]) []:=by
  refine Qam func42 rfl 0 (nle rfl) (fun X φ0 w0 hφ0 hd0=>?_)
  unfold Qle at h
  refine wxz<|wsq ?_
  obtain⟨x2,hf1,h⟩:=bno h
  refine wx tbk [(3,rp _ _)] ⟨apv Q2q (Qma N p0 p1 p2 _ hf1) (nlc (NLt.agg _ (nlc (nld Qak _) (nlc (nld Qaa _) nl0))) (nlc (nld Qae _) (nlc (nld Qan _) nl0))) nll,tv⟩<|wxz ?_
  refine bfe h (fun hc3 h=>?_) fun hc3 h=>?_
  ·refine wft hc3<|wxz<|Qaj<|Qap ?_
   obtain rfl:=osi h
   exact fend ⟨[I 0,I 0,I x2],⟨rot,rot,rot,tv⟩,rfl⟩ (NLt.tup _ (nlcc (nlc nll nl0)))
  ·refine wfn hc3<|Qat<|thn ?_
   obtain⟨x5,hf4,h⟩:=bno h
   refine wx tbk [(3,rp _ _)] ⟨apv Q2p (Qjy N p0 p1 p2 _ hf4) (nlc (NLt.agg _ (nlc (nld Qak _) (nlc (nld Qaa _) nl0))) (nlc (nld Qae _) (nlc (nld Qan _) nl0))) (NLt.tup _ (nlc (nld Qde _) (nlc nll nl0))),tv⟩<|wsq<|wxz ?_
   refine bfe h (fun hc6 h=>?_) fun hc6 h=>?_
   ·refine wft hc6<|wxz<|Qaj<|Qap ?_
    obtain rfl:=osi h
    exact fend ⟨[I 0,I 0,I 11],⟨rot,rot,rot,tv⟩,rfl⟩ (NLt.tup _ (nlcc (nlc nll nl0)))
   ·refine wfn hc6<|Qat<|thn ?_
    obtain⟨x8,hf7,h⟩:=bno h
    refine wx tbk [(1,rp _ _)] ⟨apv Q2o (Qlc N x5.1 _ hf7) (nlc (nld Qde _) nl0) (NLt.tup _ (nlcc nl0)),tv⟩<|wxz<|Qaj ?_
    obtain rfl:=osi h
    exact fend ⟨[I x8.1,I x8.2,I 0],⟨rot,rot,rot,tv⟩,rfl⟩ (NLt.tup _ (nlcc (nlc nll nl0)))
end
section
set_option maxRecDepth 100000
set_option maxHeartbeats 4000000
open Go.RowKit
def Qcg (_N:Nat) (p0:List GRow):Option (List GRow):=
  bif p0.isEmpty then
   some ([])
  else
   chk (decide ((([]:List GRow).length+p0.length)*40≤140737488355328))<|
   some (([]:List GRow)++p0)
def Qxf:AV:=.acc 0 160 5 ((([]:List GRow):List GRow).map Qau)
def Qxe (p0:List GRow):AV:=.acc 1 160 5 ((([]:List GRow)++p0:List GRow).map Qau)
theorem Qds (N:Nat) (p0 r:List GRow) (h:Qcg N p0=some r):Spec prog 104 [(.dat 5 (p0.map Qau))] [] (.dat 5 (r.map Qau)) []:=by
  refine Qam func104 rfl 0 (nle rfl) (fun X φ0 w0 hφ0 hd0=>?_)
  unfold Qcg at h
  refine wxz<|wsq ?_
  refine bfe h (fun hz2 h=>?_) fun hz2 h=>?_
  ·refine Qpj 1 [mv 0 (.dat 5 (p0.map Qau)),rp [(.tmp 3,(.dat 5 (p0.map Qau))),((.const (.slice none 0 0)),nilS)] (B true)] [mv 0 (.dat 5 (p0.map Qau)),rp [(.tmp 3,(.dat 5 (p0.map Qau))),((.const (.slice none 0 0)),nilS)] (B false)] (by exact⟨by kernel_rfl,by kernel_rfl⟩) (by exact⟨by kernel_rfl,by kernel_rfl⟩) rfl rfl rfl rfl (Qln rfl underlying39 rfl) (⟨fun _ _=>amv rfl,fun _ h=>absurd rfl h,tv⟩) (⟨fun _ _=>amv rfl,fun _ h=>absurd rfl h,tv⟩) ?_ ?_
   ·refine wtr<|wxz<|Qaj<|Qap ?_
    obtain rfl:=osi h
    exact fend ⟨[(.dat 5 (([]:List GRow).map Qau))],⟨Qbz (v:=nilS) rot Less.nil,tv⟩,rfl⟩ (nld Qak _)
   ·replace h:(chk (decide ((([]:List GRow).length+p0.length)*40≤140737488355328))<|some (([]:List GRow)++p0))=some r:=by rw[List.isEmpty_iff.1 hz2];exact h
    refine wfa<|Qat<|thn ?_
    obtain⟨ha1,h⟩:=cko h
    refine wx tbk [(0,⟨[],[(0,.unused)],Qxf,[(0,.tok)],false⟩),(2,⟨[(.tmp 5,Qxf),(.tmp 6,(.dat 5 (p0.map Qau)))],[(0,.tok),(1,.unused)],(Qxe p0),[(0,.dead),(1,.tok)],false⟩)] ⟨Qe1 rfl underlying39 Qpa Qpx,Qft rfl underlying39 Zbz (Base.acc _ _) rfl rfl (Qid Qau Qxo _) (Qi4 Qau ha1) (Qi3 Qau ha1 (by decide)) (Qi2 Qau) rfl rfl,tv⟩<|Qaj ?_
    obtain rfl:=osi h
    exact fend ⟨[(.dat 5 ((([]:List GRow)++p0:List GRow).map Qau))],⟨Qbz (v:=(Qxe p0)) rot Less.acc,tv⟩,rfl⟩ (nld Qak _)
  ·refine wx tbk [(1,rp [(.tmp 3,(.dat 5 (p0.map Qau))),((.const (.slice none 0 0)),nilS)] (B false))] ⟨Qi1 rfl underlying39 rfl (Qfm (emf hz2)),tv⟩<|wfa<|Qat<|thn ?_
   obtain⟨ha3,h⟩:=cko h
   refine wx tbk [(0,⟨[],[(0,.unused)],Qxf,[(0,.tok)],false⟩),(2,⟨[(.tmp 5,Qxf),(.tmp 6,(.dat 5 (p0.map Qau)))],[(0,.tok),(1,.unused)],(Qxe p0),[(0,.dead),(1,.tok)],false⟩)] ⟨Qe1 rfl underlying39 Qpa Qpx,Qft rfl underlying39 Zbz (Base.acc _ _) rfl rfl (Qid Qau Qxo _) (Qi4 Qau ha3) (Qi3 Qau ha3 (by decide)) (Qi2 Qau) rfl rfl,tv⟩<|Qaj ?_
   obtain rfl:=osi h
   exact fend ⟨[(.dat 5 ((([]:List GRow)++p0:List GRow).map Qau))],⟨Qbz (v:=(Qxe p0)) rot Less.acc,tv⟩,rfl⟩ (nld Qak _)
def Qbx (_N:Nat) (p0:List Qaf):Option Unit:=
  chk (!p0.isEmpty)<|
  chk (!p0.isEmpty)<|
  chk (decide ((0+p0.length)*88≤140737488355328))<|
  some ()
def Q7o:AV:=.acc 0 133 7 ((([]:List Qaf):List Qaf).map Qad)
theorem Qc7 (N:Nat) (p0:List Qaf) (r:Unit) (h:Qbx N p0=some r):Spec prog 105 [(.dat 7 (p0.map Qad))] [] (.own 0 7 (0) p0.length) [(.own 7 (p0.map Qad))]:=by
  refine Qam func105 rfl 1 (nle rfl) (fun X φ0 w0 hφ0 hd0=>?_)
  unfold Qbx at h
  refine Qbj<|wxz<|wsq ?_
  obtain⟨hz1,h⟩:=cko h
  refine wx tbk [(1,rp [(.tmp 3,(.dat 7 (p0.map Qad))),((.const (.slice none 0 0)),nilS)] (B false))] ⟨Qi1 rfl underlying40 rfl (Qfm hz1),tv⟩<|wfa<|Qat<|thn ?_
  obtain⟨ha3,h⟩:=cko h
  obtain⟨ha2,h⟩:=cko h
  refine wx tbk [(0,⟨[],[(0,.unused)],Q7o,[(0,.tok)],false⟩),(2,⟨[(.tmp 5,Q7o),(.tmp 6,(.dat 7 (p0.map Qad)))],[(0,.tok),(1,.unused)],(.own 1 7 (0) p0.length),[(0,.dead),(1,(.own 7 (p0.map Qad)))],false⟩)] ⟨Qe1 rfl underlying40 Qfz Qq3,Qrx rfl underlying40 Zdq (Base.acc _ _) rfl rfl (Qfm ha3) (Qid Qad Qt5 _) (Qtb Qad ha2) (Qta Qad ha2 (by decide)) (List.length_map _),tv⟩ ?_
  refine wmr (mto (n:=8) (l':=[(2,(.own 0 7 (0) p0.length))]) (own':=[(.own 7 (p0.map Qad))]) [(2,(.own 1 7 (0) p0.length))] [1] [(.own 7 (p0.map Qad))] hφ0 (pc (.rn (Qaz rfl)) pn) (qc (spr Qaa) qn))<|Qaj ?_
  obtain rfl:=osi h
  exact⟨_,Mor.rfl,Qca (vs:=[(.own 0 7 (0) p0.length)]) ⟨rot,tv⟩ rfl (NLt.own _ _ _ _ (by decide)) (by kernel_rfl) (Qai (Qbp Qaa _) Qbe)⟩
def Qcp (_N:Nat) (p0:List Qby):Option (List Qby):=
  bif p0.isEmpty then
   some ([])
  else
   chk (decide ((([]:List Qby).length+p0.length)*16≤140737488355328))<|
   some (([]:List Qby)++p0)
def Qpv (p0:List Qby):AV:=.dat 2 (p0.map Qbc)
def Qxd:AV:=.acc 0 120 2 ((([]:List Qby):List Qby).map Qbc)
def Qxc (p0:List Qby):AV:=.acc 1 120 2 ((([]:List Qby)++p0:List Qby).map Qbc)
def Q7n (p0:List Qby):AV:=.dat 2 ((([]:List Qby)++p0:List Qby).map Qbc)
theorem Qd4 (N:Nat) (p0 r:List Qby) (h:Qcp N p0=some r):Spec prog 106 [(.dat 2 (p0.map Qbc))] [] (.dat 2 (r.map Qbc)) []:=by
  refine Qam func106 rfl 0 (nle rfl) (fun X φ0 w0 hφ0 hd0=>?_)
  unfold Qcp at h
  refine wxz<|wsq ?_
  refine bfe h (fun hz2 h=>?_) fun hz2 h=>?_
  ·refine Qpj 1 [mv 0 (Qpv p0),rp [(.tmp 3,(Qpv p0)),((.const (.slice none 0 0)),nilS)] (B true)] [mv 0 (Qpv p0),rp [(.tmp 3,(Qpv p0)),((.const (.slice none 0 0)),nilS)] (B false)] (by exact⟨by kernel_rfl,by kernel_rfl⟩) (by exact⟨by kernel_rfl,by kernel_rfl⟩) rfl rfl rfl rfl (Qln rfl underlying116 rfl) (⟨fun _ _=>amv rfl,fun _ h=>absurd rfl h,tv⟩) (⟨fun _ _=>amv rfl,fun _ h=>absurd rfl h,tv⟩) ?_ ?_
   ·refine wtr<|wxz<|Qaj<|Qap ?_
    obtain rfl:=osi h
    exact fend ⟨[(.dat 2 (([]:List Qby).map Qbc))],⟨Qbz (v:=nilS) rot Less.nil,tv⟩,rfl⟩ (nld Qbo _)
   ·replace h:(chk (decide ((([]:List Qby).length+p0.length)*16≤140737488355328))<|some (([]:List Qby)++p0))=some r:=by rw[List.isEmpty_iff.1 hz2];exact h
    refine wfa<|Qat<|thn ?_
    obtain⟨ha1,h⟩:=cko h
    refine wx tbk [(0,⟨[],[(0,.unused)],Qxd,[(0,.tok)],false⟩),(2,⟨[(.tmp 5,Qxd),(.tmp 6,(Qpv p0))],[(0,.tok),(1,.unused)],(Qxc p0),[(0,.dead),(1,.tok)],false⟩)] ⟨Qe1 rfl underlying116 Qk3 Qnb,Qft rfl underlying116 Q9a (Base.acc _ _) rfl rfl (Qid Qbc Qt4 _) (Qi4 Qbc ha1) (Qi3 Qbc ha1 (by decide)) (Qi2 Qbc) rfl rfl,tv⟩<|Qaj ?_
    obtain rfl:=osi h
    exact fend ⟨[(Q7n p0)],⟨Qbz (v:=(Qxc p0)) rot Less.acc,tv⟩,rfl⟩ (nld Qbo _)
  ·refine wx tbk [(1,rp [(.tmp 3,(Qpv p0)),((.const (.slice none 0 0)),nilS)] (B false))] ⟨Qi1 rfl underlying116 rfl (Qfm (emf hz2)),tv⟩<|wfa<|Qat<|thn ?_
   obtain⟨ha3,h⟩:=cko h
   refine wx tbk [(0,⟨[],[(0,.unused)],Qxd,[(0,.tok)],false⟩),(2,⟨[(.tmp 5,Qxd),(.tmp 6,(Qpv p0))],[(0,.tok),(1,.unused)],(Qxc p0),[(0,.dead),(1,.tok)],false⟩)] ⟨Qe1 rfl underlying116 Qk3 Qnb,Qft rfl underlying116 Q9a (Base.acc _ _) rfl rfl (Qid Qbc Qt4 _) (Qi4 Qbc ha3) (Qi3 Qbc ha3 (by decide)) (Qi2 Qbc) rfl rfl,tv⟩<|Qaj ?_
   obtain rfl:=osi h
   exact fend ⟨[(Q7n p0)],⟨Qbz (v:=(Qxc p0)) rot Less.acc,tv⟩,rfl⟩ (nld Qbo _)
def Qew (_N:Nat) (p0:List Int):Option (List Int):=
  bif p0.isEmpty then
   some ([])
  else
   chk (decide ((([]:List Int).length+p0.length)*8≤140737488355328))<|
   some (([]:List Int)++p0)
def Qxb:AV:=.acc 0 3 1 ((([]:List Int):List Int).map Qac)
def Qxa (p0:List Int):AV:=.acc 1 3 1 ((([]:List Int)++p0:List Int).map Qac)
theorem Qgm (N:Nat) (p0 r:List Int) (h:Qew N p0=some r):Spec prog 95 [(.dat 1 (p0.map Qac))] [] (.dat 1 (r.map Qac)) []:=by
  refine Qam func95 rfl 0 (nle rfl) (fun X φ0 w0 hφ0 hd0=>?_)
  unfold Qew at h
  refine wxz<|wsq ?_
  refine bfe h (fun hz2 h=>?_) fun hz2 h=>?_
  ·refine Qpj 1 [mv 0 (.dat 1 (p0.map Qac)),rp [(.tmp 3,(.dat 1 (p0.map Qac))),((.const (.slice none 0 0)),nilS)] (B true)] [mv 0 (.dat 1 (p0.map Qac)),rp [(.tmp 3,(.dat 1 (p0.map Qac))),((.const (.slice none 0 0)),nilS)] (B false)] (by exact⟨by kernel_rfl,by kernel_rfl⟩) (by exact⟨by kernel_rfl,by kernel_rfl⟩) rfl rfl rfl rfl (Qln rfl underlying27 rfl) (⟨fun _ _=>amv rfl,fun _ h=>absurd rfl h,tv⟩) (⟨fun _ _=>amv rfl,fun _ h=>absurd rfl h,tv⟩) ?_ ?_
   ·refine wtr<|wxz<|Qaj<|Qap ?_
    obtain rfl:=osi h
    exact fend ⟨[(.dat 1 (([]:List Int).map Qac))],⟨Qbz (v:=nilS) rot Less.nil,tv⟩,rfl⟩ (nld Qae _)
   ·replace h:(chk (decide ((([]:List Int).length+p0.length)*8≤140737488355328))<|some (([]:List Int)++p0))=some r:=by rw[List.isEmpty_iff.1 hz2];exact h
    refine wfa<|Qat<|thn ?_
    obtain⟨ha1,h⟩:=cko h
    refine wx tbk [(0,⟨[],[(0,.unused)],Qxb,[(0,.tok)],false⟩),(2,⟨[(.tmp 5,Qxb),(.tmp 6,(.dat 1 (p0.map Qac)))],[(0,.tok),(1,.unused)],(Qxa p0),[(0,.dead),(1,.tok)],false⟩)] ⟨Qe1 rfl underlying27 ti3 tz3,Qft rfl underlying27 te3 (Base.acc _ _) rfl rfl (Qid Qac Qgj _) (Qi4 Qac ha1) (Qi3 Qac ha1 (by decide)) (Qi2 Qac) rfl rfl,tv⟩<|Qaj ?_
    obtain rfl:=osi h
    exact fend ⟨[(.dat 1 ((([]:List Int)++p0:List Int).map Qac))],⟨Qbz (v:=(Qxa p0)) rot Less.acc,tv⟩,rfl⟩ (nld Qae _)
  ·refine wx tbk [(1,rp [(.tmp 3,(.dat 1 (p0.map Qac))),((.const (.slice none 0 0)),nilS)] (B false))] ⟨Qi1 rfl underlying27 rfl (Qfm (emf hz2)),tv⟩<|wfa<|Qat<|thn ?_
   obtain⟨ha3,h⟩:=cko h
   refine wx tbk [(0,⟨[],[(0,.unused)],Qxb,[(0,.tok)],false⟩),(2,⟨[(.tmp 5,Qxb),(.tmp 6,(.dat 1 (p0.map Qac)))],[(0,.tok),(1,.unused)],(Qxa p0),[(0,.dead),(1,.tok)],false⟩)] ⟨Qe1 rfl underlying27 ti3 tz3,Qft rfl underlying27 te3 (Base.acc _ _) rfl rfl (Qid Qac Qgj _) (Qi4 Qac ha3) (Qi3 Qac ha3 (by decide)) (Qi2 Qac) rfl rfl,tv⟩<|Qaj ?_
   obtain rfl:=osi h
   exact fend ⟨[(.dat 1 ((([]:List Int)++p0:List Int).map Qac))],⟨Qbz (v:=(Qxa p0)) rot Less.acc,tv⟩,rfl⟩ (nld Qae _)
def Qek (N:Nat) (p0:GNet) (p1:List Int) (k12:(List Qaf)→Option GNet) (x15:List Int):Nat→Int→(List Qaf)→Option GNet
  |0,_,_=>none
  |n20+1,y16,y17=>
    bif (decide (y16<(x15.length:Int))) then
     (getI x15 y16).bind fun x22=>
     (getI p1 y16).bind fun x26=>
     chk (decide (0≤x22)&&decide (x22.toNat<p0.Elements.length))<|
     (y17[x22.toNat]?).bind fun x31=>
     Qek N p0 p1 k12 x15 n20 (w64 (y16+1)) (y17.set x22.toNat (⟨x31.Kind,x31.From,x26,x31.Amount,x31.Wide,x31.Narrow,x31.Weights⟩:Qaf))
    else
     k12 (y17)
def Qej (N:Nat) (p0:GNet) (k10:(List Qaf)→Option GNet):Nat→Int→(List Qaf)→Option GNet
  |0,_,_=>none
  |n37+1,y33,y34=>
    bif (decide (y33<(p0.Elements.length:Int))) then
     (getI p0.Elements y33).bind fun x39=>
     (Qcp N x39.From).bind fun x44=>
     (Qew N x39.Weights).bind fun x46=>
     chk (decide (0≤y33)&&decide (y33.toNat<p0.Elements.length))<|
     (y34[y33.toNat]?).bind fun x48=>
     chk (decide (0≤y33)&&decide (y33.toNat<p0.Elements.length))<|
     ((y34.set y33.toNat (⟨x48.Kind,x44,x48.Level,x48.Amount,x48.Wide,x48.Narrow,x48.Weights⟩:Qaf))[y33.toNat]?).bind fun x51=>
     Qej N p0 k10 n37 (w64 (y33+1)) ((y34.set y33.toNat (⟨x48.Kind,x44,x48.Level,x48.Amount,x48.Wide,x48.Narrow,x48.Weights⟩:Qaf)).set y33.toNat (⟨x51.Kind,x51.From,x51.Level,x51.Amount,x51.Wide,x51.Narrow,x46⟩:Qaf))
    else
     k10 (y34)
def Qkf (N:Nat) (p0:GNet) (p1:List Int):Option GNet:=
  (Qcg N p0.Table).bind fun x6=>
  (Qbx N p0.Elements).bind fun _=>
  Qdr (fun y9=>
    Qdr (fun y11=>
      chk (decide (p0.Elements.length≤y11.length))<|
      some (⟨x6,y11.take p0.Elements.length⟩:GNet)) fun k12:(List Qaf)→Option GNet=>
    (Qfj N p0 4).bind fun x15=>
    Qek N p0 p1 k12 x15 N 0 y9) fun k10:(List Qaf)→Option GNet=>
  Qej N p0 k10 N 0 p0.Elements
def Zbk (p0:GNet):AV:=.dat 5 (p0.Table.map Qau)
def Qre (p0:GNet):AV:=.dat 7 (p0.Elements.map Qad)
def Q1f (p0:GNet):Slot:=.own 7 (p0.Elements.map Qad)
def Qrd (p0:GNet):Slot:=.own 2 [[(Zbk p0),(Qre p0)]]
def Qob (x6:List GRow) (p0:GNet):Slot:=.own 2 [[(.dat 5 (x6.map Qau)),(.own 3 7 (0) p0.Elements.length)]]
def Qmj (x6:List GRow) (p0:GNet):Slot:=.own 2 [[(.dat 5 (x6.map Qau)),(.own 2 7 (0) p0.Elements.length)]]
def Qsb (y11:List Qaf) (p0:GNet):AV:=.dat 7 ((y11.take p0.Elements.length:List Qaf).map Qad)
def Qxh (y17:List Qaf) (x22:Int) (x31:Qaf) (x26:Int):Slot:=.own 7 ((y17.set x22.toNat (⟨x31.Kind,x31.From,x26,x31.Amount,x31.Wide,x31.Narrow,x31.Weights⟩:Qaf):List Qaf).map Qad)
def Qsa (y34:List Qaf) (y33:Int) (x48:Qaf) (x44:List Qby):Slot:=.own 7 ((y34.set y33.toNat (⟨x48.Kind,x44,x48.Level,x48.Amount,x48.Wide,x48.Narrow,x48.Weights⟩:Qaf):List Qaf).map Qad)
def Qxg (y34:List Qaf) (y33:Int) (x48:Qaf) (x44:List Qby) (x51:Qaf) (x46:List Int):Slot:=.own 7 (((y34.set y33.toNat (⟨x48.Kind,x44,x48.Level,x48.Amount,x48.Wide,x48.Narrow,x48.Weights⟩:Qaf)).set y33.toNat (⟨x51.Kind,x51.From,x51.Level,x51.Amount,x51.Wide,x51.Narrow,x46⟩:Qaf):List Qaf).map Qad)
theorem Qpc (N:Nat) (p0:GNet) (p1:List Int) (r:GNet) (h:Qkf N p0 p1=some r):Spec prog 68 [(.agg (Qg6 p0)),(.dat 1 (p1.map Qac))] [] (.agg [(.dat 5 (r.Table.map Qau)),(.dat 7 (r.Elements.map Qad))]) []:=by
  refine Qam func68 rfl 0 (nle rfl) (fun X φ0 w0 hφ0 hd0=>?_)
  unfold Qkf at h
  refine Qbj<|wxz ?_
  obtain⟨x6,hf5,h⟩:=bno h
  obtain⟨x8,hf7,h⟩:=bno h
  refine wxd tbk [(2,rp _ _),(5,⟨_,_,_,_,false⟩),(6,rp _ _)] ⟨apv Qx6 (Qds N p0.Table _ hf5) (nlc (nld Qak _) nl0) (nld Qak _),Qar (first:=[]) (cap:=[]) (vs:=[(Qre p0)]) (σr:=[]) (σr':=[(Q1f p0)]) (res':=(.own 2 7 (0) p0.Elements.length)) [2] rfl Qx5 (Qc7 N p0.Elements _ hf7) rfl (Qbd (rnc (pld Qaa) rn0)) Qaq (slc (Qa3 Qaa) Qaq) (Qbt rfl) rfl rfl rfl,Qay (vs:=[(.dat 5 (x6.map Qau)),(.own 2 7 (0) p0.Elements.length)]) rfl ts42 tz42 rfl (by rfl) rfl,tv⟩ ?_
  obtain⟨k10,hk_k10,h⟩:=jko h
  refine wjn (τ:=(List Qaf)) (fun t=>k10 t=some r) (fun y9=>⟨mk 61 [(1,(.dat 1 (p1.map Qac))),(2,.ref 0 2 0 0),(4,.ref 1 2 0 0),(5,.ref 2 2 0 0)],[(Qrd p0),(.own 2 [[nilS,nilS]]),(Qob x6 p0),(.own 7 (y9.map Qad))]⟩) (fun y9 h=>?_) ?_
  ·subst hk_k10
   obtain⟨k12,hk_k12,h⟩:=jko h
   refine wjn (τ:=(List Qaf)) (fun t=>k12 t=some r) (fun y11=>⟨mk 61 [(4,.ref 0 2 0 0),(5,.ref 1 2 0 0)],[(.own 2 [[nilS,nilS]]),(Qmj x6 p0),(.own 7 (y11.map Qad))]⟩) (fun y11 h=>?_) ?_
   ·subst hk_k12
    refine wxz ?_
    obtain⟨hz13,h⟩:=cko h
    refine wmr (Qp9 (n:=61) (mp:=2) (m:=7) (xs:=y11.map Qad) (c:=[(.dat 5 (x6.map Qau)),(.own 2 7 (0) p0.Elements.length)]) (l':=[(4,.ref 0 2 0 0)]) (c':=[(.dat 5 (x6.map Qau)),(Qsb y11 p0)]) (own':=[(.own 2 [[(.dat 5 (x6.map Qau)),(Qsb y11 p0)]]),(Qmj x6 p0),.dead]) 2 0 [(4,.ref 0 2 0 0)] (by kernel_rfl) (by kernel_rfl) (by kernel_rfl) (by kernel_rfl) ⟨(.same _),(Qiy hz13),tv⟩ ⟨rfl,(.same _),tv⟩ (by kernel_rfl)) ?_
    refine wmr (mto (n:=61) (l':=[(4,.ref 0 2 0 0)]) (own':=[(.own 2 [[(.dat 5 ((((⟨x6,y11.take p0.Elements.length⟩:GNet).Table):List GRow).map Qau)),(.dat 7 ((((⟨x6,y11.take p0.Elements.length⟩:GNet).Elements):List Qaf).map Qad))]])]) [(4,.ref 0 2 0 0)] [0] [(.own 2 [[(.dat 5 (x6.map Qau)),(Qsb y11 p0)]])] hφ0 (prr pn) (qb (lc (rnd Qak) (lc (rnd Qaa) ln)) qn))<|Qaj ?_
    obtain rfl:=osi h
    exact⟨_,Mor.rfl,⟨⟨[(.agg [(.dat 5 (((⟨x6,y11.take p0.Elements.length⟩:GNet).Table:List GRow).map Qau)),(.dat 7 (((⟨x6,y11.take p0.Elements.length⟩:GNet).Elements:List Qaf).map Qad))])],⟨Qbk (n:=0) (m:=2) (j:=0) (i:=0) (xs:=[[(.dat 5 (((⟨x6,y11.take p0.Elements.length⟩:GNet).Table:List GRow).map Qau)),(.dat 7 (((⟨x6,y11.take p0.Elements.length⟩:GNet).Elements:List Qaf).map Qad))]]) (by kernel_rfl) (by kernel_rfl) ti42 (by decide) rfl (nle rfl) rfl,tv⟩,rfl⟩,(NLt.agg _ (nlc (nld Qak _) (nlc (nld Qaa _) nl0))),Nat.le_refl _,fun n hn=>absurd hn (Nat.not_lt_zero n)⟩⟩
   ·skip
    obtain⟨x15,hf14,h⟩:=bno h
    refine wx tbk [(1,rp _ _),(2,rp _ _)] ⟨apv Qmx (Qel N p0 4 _ hf14) (nlc (NLt.agg _ (nlc (nld Qak _) (nlc (nld Qaa _) nl0))) (nlc nll nl0)) (nld Qae _),alq 1 Qac x15 underlying27,tv⟩<|Qas ?_
    refine wmr (mto (n:=61) (l':=[(1,(.dat 1 (p1.map Qac))),(4,.ref 0 2 0 0),(5,.ref 1 2 0 0),(43,(.dat 1 (x15.map Qac))),(44,(I ((x15.length:Int)))),(45,I 0)]) (own':=[(.own 2 [[nilS,nilS]]),(Qmj x6 p0),(.own 7 (y9.map Qad))]) [(1,(.dat 1 (p1.map Qac))),(4,.ref 1 2 0 0),(5,.ref 2 2 0 0),(43,(.dat 1 (x15.map Qac))),(44,(I ((x15.length:Int)))),(45,I 0)] [1,2,3] [(.own 2 [[nilS,nilS]]),(Qob x6 p0),(.own 7 (y9.map Qad))] hφ0 (pc (rnd Qae) (prr (prr (pc (rnd Qae) (pw (pw pn)))))) (qb (lcc ln) (qb (lc (rnd Qak) (lc (.rn (Qaz rfl)) ln)) (qc (spr Qaa) qn)))) ?_
    refine Qb9 (τ:=Int×(List Qaf)) (fun n t=>Qek N p0 p1 k12 x15 n t.1 t.2=some r) (fun ⟨y16,y17⟩=>⟨mk 61 [(1,(.dat 1 (p1.map Qac))),(4,.ref 0 2 0 0),(5,.ref 1 2 0 0),(43,(.dat 1 (x15.map Qac))),(44,(I ((x15.length:Int)))),(45,I y16)],[(.own 2 [[nilS,nilS]]),(Qmj x6 p0),(.own 7 (y17.map Qad))]⟩) (fun t h=>by rw[Qek] at h;cases h) (fun n20 ih t h=>?_) N (0,y9) h
    obtain⟨y16,y17⟩:=t
    rw[Qek] at h
    skip
    refine wxz<|wsq ?_
    refine bfe h (fun hc21 h=>?_) fun hc21 h=>?_
    ·refine wft hc21<|Qat<|thn<|wsq<|Qas ?_
     obtain⟨x22,hg23,h⟩:=bno h
     obtain⟨hi24,hj25⟩:=gsm hg23
     refine wx tbk [(1,rp _ _)] ⟨aiq underlying27 ti3 Qac hi24 hj25,tv⟩ ?_
     obtain⟨x26,hg27,h⟩:=bno h
     obtain⟨hi28,hj29⟩:=gsm hg27
     obtain⟨hi30,h⟩:=cko h
     obtain⟨hi30a,hi30b⟩:=Qcx hi30
     obtain⟨x31,hg32,h⟩:=bno h
     refine wy1 tbk [(5,rp _ _),(7,rb [(.tmp 51,(.own 2 7 (0) p0.Elements.length)),(.tmp 52,I x22)] [(2,(.own 7 (y17.map Qad)))] (.ref 2 7 x22.toNat 0)),(9,⟨[(.tmp 58,(.ref 2 7 x22.toNat 2)),(.tmp 56,I x26)],[(2,(.own 7 (y17.map Qad)))],.any,[(2,(Qxh y17 x22 x31 x26))],false⟩)] ⟨aiq underlying27 ti3 Qac hi28 hj29,aio rfl underlying40 Qfz (odt hi30a) (odt hi30b) (Nat.zero_add _),ast rfl ti3 (by rfl) (mgt Qad hg32) (nle rfl) (Qd2 Qad rfl),tv⟩<|bln<|thn<|wxz1<|thn ?_
     exact arm (mto (n:=61) [(1,(.dat 1 (p1.map Qac))),(4,.ref 0 2 0 0),(5,.ref 1 2 0 0),(43,(.dat 1 (x15.map Qac))),(44,(I ((x15.length:Int)))),(45,(I (w64 (y16+1))))] [0,1,2] [(.own 2 [[nilS,nilS]]),(Qmj x6 p0),(Qxh y17 x22 x31 x26)] hφ0 (pc (rnd Qae) (prr (prr (pc (rnd Qae) (pw (pw pn)))))) (qb (lcc ln) (qb (lc (rnd Qak) (lc (.rn (Qaz rfl)) ln)) (qc (spr Qaa) qn)))) (ih (w64 (y16+1),y17.set x22.toNat (⟨x31.Kind,x31.From,x26,x31.Amount,x31.Wide,x31.Narrow,x31.Weights⟩:Qaf)) h)
    ·exact wfn hc21<|Qbm<|Qa4<|Qa4<|Qbl rfl<|thn<|⟨(y17),h,(mto (n:=61) [(4,.ref 0 2 0 0),(5,.ref 1 2 0 0)] [0,1,2] [(.own 2 [[nilS,nilS]]),(Qmj x6 p0),(.own 7 (y17.map Qad))] hφ0 (prr (prr pn)) (qb (lcc ln) (qb (lc (rnd Qak) (lc (.rn (Qaz rfl)) ln)) (qc (spr Qaa) qn))))⟩
  ·skip
   refine wx tbk [(2,rp _ _)] ⟨alq 7 Qad p0.Elements underlying40,tv⟩<|Qas ?_
   refine wmr (mto (n:=61) (l':=[(1,(.dat 1 (p1.map Qac))),(2,.ref 0 2 0 0),(4,.ref 1 2 0 0),(5,.ref 2 2 0 0),(18,(Qre p0)),(19,(I ((p0.Elements.length:Int)))),(20,I 0)]) (own':=[(Qrd p0),(.own 2 [[nilS,nilS]]),(Qob x6 p0),(Q1f p0)]) [(1,(.dat 1 (p1.map Qac))),(2,.ref 0 2 0 0),(4,.ref 1 2 0 0),(5,.ref 3 2 0 0),(18,(Qre p0)),(19,(I ((p0.Elements.length:Int)))),(20,I 0)] [0,1,3,2] [(Qrd p0),(.own 2 [[nilS,nilS]]),(Qmj x6 p0),(Q1f p0)] hφ0 (pc (rnd Qae) (prr (prr (prr (pc (rnd Qaa) (pw (pw pn))))))) (qb (lc (rnd Qak) (lc (rnd Qaa) ln)) (qb (lcc ln) (qb (lc (rnd Qak) (lc (.rn (Qaz rfl)) ln)) (qc (spr Qaa) qn))))) ?_
   refine Qb9 (τ:=Int×(List Qaf)) (fun n t=>Qej N p0 k10 n t.1 t.2=some r) (fun ⟨y33,y34⟩=>⟨mk 61 [(1,(.dat 1 (p1.map Qac))),(2,.ref 0 2 0 0),(4,.ref 1 2 0 0),(5,.ref 2 2 0 0),(18,(Qre p0)),(19,(I ((p0.Elements.length:Int)))),(20,I y33)],[(Qrd p0),(.own 2 [[nilS,nilS]]),(Qob x6 p0),(.own 7 (y34.map Qad))]⟩) (fun t h=>by rw[Qej] at h;cases h) (fun n37 ih t h=>?_) N (0,p0.Elements) h
   obtain⟨y33,y34⟩:=t
   rw[Qej] at h
   skip
   refine wxz<|wsq ?_
   refine bfe h (fun hc38 h=>?_) fun hc38 h=>?_
   ·refine wft hc38<|Qat<|thn<|wsq<|Qas ?_
    obtain⟨x39,hg40,h⟩:=bno h
    obtain⟨hi41,hj42⟩:=gsm hg40
    refine wx tbk [(1,rp _ _)] ⟨aiq underlying40 Qfz Qad hi41 hj42,tv⟩ ?_
    obtain⟨x44,hf43,h⟩:=bno h
    obtain⟨x46,hf45,h⟩:=bno h
    obtain⟨hi47,h⟩:=cko h
    obtain⟨hi47a,hi47b⟩:=Qcx hi47
    obtain⟨x48,hg49,h⟩:=bno h
    obtain⟨hi50,h⟩:=cko h
    obtain⟨hi50a,hi50b⟩:=Qcx hi50
    obtain⟨x51,hg52,h⟩:=bno h
    refine wy1 tbk [(8,rp _ _),(11,rp _ _),(12,rb [(.tmp 26,(.own 3 7 (0) p0.Elements.length)),(.tmp 27,I y33)] [(3,(.own 7 (y34.map Qad)))] (.ref 3 7 y33.toNat 0)),(14,⟨[(.tmp 38,(.ref 3 7 y33.toNat 1)),(.tmp 33,(.dat 2 (x44.map Qbc)))],[(3,(.own 7 (y34.map Qad)))],.any,[(3,(Qsa y34 y33 x48 x44))],false⟩),(15,rb [(.tmp 29,(.own 3 7 (0) p0.Elements.length)),(.tmp 30,I y33)] [(3,(Qsa y34 y33 x48 x44))] (.ref 3 7 y33.toNat 0)),(17,⟨[(.tmp 40,(.ref 3 7 y33.toNat 6)),(.tmp 36,(.dat 1 (x46.map Qac)))],[(3,(Qsa y34 y33 x48 x44))],.any,[(3,(Qxg y34 y33 x48 x44 x51 x46))],false⟩)] ⟨apv Qx4 (Qd4 N x39.From _ hf43) (nlc (nld Qbo _) nl0) (nld Qbo _),apv Qv0 (Qgm N x39.Weights _ hf45) (nlc (nld Qae _) nl0) (nld Qae _),aio rfl underlying40 Qfz (odt hi47a) (odt hi47b) (Nat.zero_add _),ast rfl Q1m (by rfl) (mgt Qad hg49) (nle rfl) (Qd2 Qad rfl),aio rfl underlying40 Qfz (odt hi50a) (odt hi50b) (Nat.zero_add _),ast rfl ti27 (by rfl) (mgt Qad hg52) (nle rfl) (Qd2 Qad rfl),tv⟩<|bln<|thn<|wxz1<|thn ?_
    exact arm (mto (n:=61) [(1,(.dat 1 (p1.map Qac))),(2,.ref 0 2 0 0),(4,.ref 1 2 0 0),(5,.ref 2 2 0 0),(18,(Qre p0)),(19,(I ((p0.Elements.length:Int)))),(20,(I (w64 (y33+1))))] [0,1,2,3] [(Qrd p0),(.own 2 [[nilS,nilS]]),(Qob x6 p0),(Qxg y34 y33 x48 x44 x51 x46)] hφ0 (pc (rnd Qae) (prr (prr (prr (pc (rnd Qaa) (pw (pw pn))))))) (qb (lc (rnd Qak) (lc (rnd Qaa) ln)) (qb (lcc ln) (qb (lc (rnd Qak) (lc (.rn (Qaz rfl)) ln)) (qc (spr Qaa) qn))))) (ih (w64 (y33+1),(y34.set y33.toNat (⟨x48.Kind,x44,x48.Level,x48.Amount,x48.Wide,x48.Narrow,x48.Weights⟩:Qaf)).set y33.toNat (⟨x51.Kind,x51.From,x51.Level,x51.Amount,x51.Wide,x51.Narrow,x46⟩:Qaf)) h)
   ·exact wfn hc38<|Qbm<|Qa4<|Qa4<|Qbl rfl<|thn<|⟨(y34),h,(mto (n:=61) [(1,(.dat 1 (p1.map Qac))),(2,.ref 0 2 0 0),(4,.ref 1 2 0 0),(5,.ref 2 2 0 0)] [0,1,2,3] [(Qrd p0),(.own 2 [[nilS,nilS]]),(Qob x6 p0),(.own 7 (y34.map Qad))] hφ0 (pc (rnd Qae) (prr (prr (prr pn)))) (qb (lc (rnd Qak) (lc (rnd Qaa) ln)) (qb (lcc ln) (qb (lc (rnd Qak) (lc (.rn (Qaz rfl)) ln)) (qc (spr Qaa) qn)))))⟩
def Qnk (N:Nat) (p0:GNet) (p1:List Int):Option (GNet×Int):=
  Qdr (fun _=>
    (Qkf N p0 p1).bind fun x3=>
    (Qdo N x3).bind fun x5=>
    bif (!x5) then
     some ((⟨[],[]⟩:GNet),1)
    else
     some (x3,0)) fun k1:Unit→Option (GNet×Int)=>
  (Qdo N p0).bind fun x8=>
  bif (!x8) then
   some ((⟨[],[]⟩:GNet),1)
  else
   (Qfj N p0 4).bind fun x11=>
   bif ((p1.length:Int) != (x11.length:Int)) then
    some ((⟨[],[]⟩:GNet),1)
   else
    k1 ()
def Q1i (p0:GNet):AV:=.dat 7 (p0.Elements.map Qad)
def Q7q (p0:GNet):AV:=.agg [(.dat 5 (p0.Table.map Qau)),(Q1i p0)]
def Q7p (x3:GNet):AV:=.dat 7 (x3.Elements.map Qad)
def Zbl (x3:GNet):AV:=.agg [(.dat 5 (x3.Table.map Qau)),(Q7p x3)]
def Q1h:AV:=.dat 5 (([]:List GRow).map Qau)
def Q1g:AV:=.dat 7 (([]:List Qaf).map Qad)
def Qvl (p0:GNet) (x8:Bool):List (Nat×Rec):=[(1,rp [fu 66,((.tmp 7),(Q7q p0))] (B x8))]
theorem Qo0 (N:Nat) (p0:GNet) (p1:List Int) (r:(GNet×Int)) (h:Qnk N p0 p1=some r):Spec prog 27 [(.agg (Qg6 p0)),(.dat 1 (p1.map Qac))] [] (.tup [(.agg (Qg6 r.1)),(I r.2)]) []:=by
  refine Qam func27 rfl 0 (nle rfl) (fun X φ0 w0 hφ0 hd0=>?_)
  unfold Qnk at h
  refine wxz ?_
  obtain⟨k1,hk_k1,h⟩:=jko h
  refine wjn (τ:=Unit) (fun t=>k1 t=some r) (fun _=>⟨mk 27 [(1,(.dat 1 (p1.map Qac))),(2,.ref 0 2 0 0),(4,.ref 1 2 0 0)],[(.own 2 [[(.dat 5 (p0.Table.map Qau)),(Q1i p0)]]),(.own 2 [[nilS,nilS]])]⟩) (fun t h=>?_) ?_
  ·subst hk_k1
   obtain⟨x3,hf2,h⟩:=bno h
   refine wx tbk [(2,rp _ _)] ⟨apv Q2t (Qpc N p0 p1 _ hf2) (nlc (NLt.agg _ (nlc (nld Qak _) (nlc (nld Qaa _) nl0))) (nlc (nld Qae _) nl0)) (NLt.agg _ (nlc (nld Qak _) (nlc (nld Qaa _) nl0))),tv⟩<|wsq ?_
   obtain⟨x5,hf4,h⟩:=bno h
   refine wx tbk [(1,rp _ _)] ⟨apv Qop (Qdt N x3 _ hf4) (nlc (NLt.agg _ (nlc (nld Qak _) (nlc (nld Qaa _) nl0))) nl0) nll,tv⟩ ?_
   refine bfe h (fun hc6 h=>?_) fun hc6 h=>?_
   ·refine wft hc6<|wx tbk [(0,rp _ _)] ⟨Qay (vs:=[]) rfl ts42 tz42 rfl (by rfl) rfl,tv⟩<|Qaj<|Qap ?_
    obtain rfl:=osi h
    exact fend ⟨[(.agg [Q1h,Q1g]),I 1],⟨Qbz (v:=(.agg [nilS,nilS])) (Qbk (n:=1) (m:=2) (j:=0) (i:=0) (xs:=[[nilS,nilS]]) (by kernel_rfl) (by kernel_rfl) ti42 (by decide) rfl (nle rfl) rfl) (Less.agg ⟨Less.nil,Less.nil,tv⟩),rot,tv⟩,rfl⟩ (NLt.tup _ (nlc (NLt.agg _ (nlc (nld Qak _) (nlc (nld Qaa _) nl0))) (nlc nll nl0)))
   ·refine wfn hc6<|Qat<|thn<|wxz<|Qaj ?_
    obtain rfl:=osi h
    exact fend ⟨[(Zbl x3),I 0],⟨Qbk (n:=1) (m:=2) (j:=0) (i:=0) (xs:=[[(.dat 5 (x3.Table.map Qau)),(Q7p x3)]]) (by kernel_rfl) (by kernel_rfl) ti42 (by decide) rfl (nle rfl) rfl,rot,tv⟩,rfl⟩ (NLt.tup _ (nlc (NLt.agg _ (nlc (nld Qak _) (nlc (nld Qaa _) nl0))) (nlc nll nl0)))
  ·skip
   obtain⟨x8,hf7,h⟩:=bno h
   refine hpre (A:=(Qvl p0 x8)) ⟨apv Qop (Qdt N p0 _ hf7) (nlc (NLt.agg _ (nlc (nld Qak _) (nlc (nld Qaa _) nl0))) nl0) nll,tv⟩ fun q1_=>?_
   refine bfe h (fun hb9 h=>?_) fun hb9 h=>?_
   ·refine wx tbk (hcat (Qvl p0 x8) [(3,rp [(.tmp 9,(B ((!x8))))] (B true))]) (hap q1_ ⟨asb hb9 (amv rfl),tv⟩)<|wtr ?_
    refine wx tbk [(0,rp _ _)] ⟨Qay (vs:=[]) rfl ts42 tz42 rfl (by rfl) rfl,tv⟩<|Qaj<|Qap ?_
    obtain rfl:=osi h
    exact fend ⟨[(.agg [Q1h,Q1g]),I 1],⟨Qbz (v:=(.agg [nilS,nilS])) (Qbk (n:=1) (m:=2) (j:=0) (i:=0) (xs:=[[nilS,nilS]]) (by kernel_rfl) (by kernel_rfl) ti42 (by decide) rfl (nle rfl) rfl) (Less.agg ⟨Less.nil,Less.nil,tv⟩),rot,tv⟩,rfl⟩ (NLt.tup _ (nlc (NLt.agg _ (nlc (nld Qak _) (nlc (nld Qaa _) nl0))) (nlc nll nl0)))
   ·obtain⟨x11,hf10,h⟩:=bno h
    refine wx tbk (hcat (Qvl p0 x8) [(3,rp [(.tmp 9,(B ((!x8))))] (B false)),(5,rp [(.tmp 10,B false),(.tmp 11,(.dat 1 (p1.map Qac)))] (I ((p1.length:Int)))),(7,rp [(.tmp 10,B false),fu 67,(.tmp 13,(Q7q p0)),(.const (.int .u8 4),(K .u8 (4)))] (.dat 1 (x11.map Qac))),(8,rp [(.tmp 10,B false),(.tmp 14,(.dat 1 (x11.map Qac)))] (I ((x11.length:Int))))]) (hap q1_ ⟨asb hb9 (amv rfl),ag_ (alq 1 Qac p1 underlying27),ag_ (apv Qmx (Qel N p0 4 _ hf10) (nlc (NLt.agg _ (nlc (nld Qak _) (nlc (nld Qaa _) nl0))) (nlc nll nl0)) (nld Qae _)),ag_ (alq 1 Qac x11 underlying27),tv⟩) ?_
    refine bfe h (fun hc12 h=>?_) fun hc12 h=>?_
    ·refine wft hc12<|wx tbk [(0,rp _ _)] ⟨Qay (vs:=[]) rfl ts42 tz42 rfl (by rfl) rfl,tv⟩<|Qaj<|Qap ?_
     obtain rfl:=osi h
     exact fend ⟨[(.agg [Q1h,Q1g]),I 1],⟨Qbz (v:=(.agg [nilS,nilS])) (Qbk (n:=1) (m:=2) (j:=0) (i:=0) (xs:=[[nilS,nilS]]) (by kernel_rfl) (by kernel_rfl) ti42 (by decide) rfl (nle rfl) rfl) (Less.agg ⟨Less.nil,Less.nil,tv⟩),rot,tv⟩,rfl⟩ (NLt.tup _ (nlc (NLt.agg _ (nlc (nld Qak _) (nlc (nld Qaa _) nl0))) (nlc nll nl0)))
    ·exact wfn hc12<|Qat<|thn<|⟨(),h,(mto (n:=27) [(1,(.dat 1 (p1.map Qac))),(2,.ref 0 2 0 0),(4,.ref 1 2 0 0)] [0,1] [(.own 2 [[(.dat 5 (p0.Table.map Qau)),(Q1i p0)]]),(.own 2 [[nilS,nilS]])] hφ0 (pc (rnd Qae) (prr (prr pn))) (qb (lc (rnd Qak) (lc (rnd Qaa) ln)) (qb (lcc ln) qn)))⟩
end
section
set_option maxRecDepth 100000
set_option maxHeartbeats 4000000
open Go.RowKit
def Qdq (N:Nat) (p0:GNet) (p1:Nat) (p2:List Int) (k12:(List Qaf)→Option GNet) (x15:List Int):Nat→Int→(List Qaf)→Option GNet
  |0,_,_=>none
  |n20+1,y16,y17=>
    bif (decide (y16<(x15.length:Int))) then
     (getI x15 y16).bind fun x22=>
     chk (decide (0≤y16)&&decide (y16.toNat<p1))<|
     (p2[y16.toNat]?).bind fun x27=>
     chk (decide (0≤x22)&&decide (x22.toNat<p0.Elements.length))<|
     (y17[x22.toNat]?).bind fun x30=>
     Qdq N p0 p1 p2 k12 x15 n20 (w64 (y16+1)) (y17.set x22.toNat (⟨x30.Kind,x30.From,x27,x30.Amount,x30.Wide,x30.Narrow,x30.Weights⟩:Qaf))
    else
     k12 (y17)
def Qdp (N:Nat) (p0:GNet) (k10:(List Qaf)→Option GNet):Nat→Int→(List Qaf)→Option GNet
  |0,_,_=>none
  |n36+1,y32,y33=>
    bif (decide (y32<(p0.Elements.length:Int))) then
     (getI p0.Elements y32).bind fun x38=>
     (Qcp N x38.From).bind fun x43=>
     (Qew N x38.Weights).bind fun x45=>
     chk (decide (0≤y32)&&decide (y32.toNat<p0.Elements.length))<|
     (y33[y32.toNat]?).bind fun x47=>
     chk (decide (0≤y32)&&decide (y32.toNat<p0.Elements.length))<|
     ((y33.set y32.toNat (⟨x47.Kind,x43,x47.Level,x47.Amount,x47.Wide,x47.Narrow,x47.Weights⟩:Qaf))[y32.toNat]?).bind fun x50=>
     Qdp N p0 k10 n36 (w64 (y32+1)) ((y33.set y32.toNat (⟨x47.Kind,x43,x47.Level,x47.Amount,x47.Wide,x47.Narrow,x47.Weights⟩:Qaf)).set y32.toNat (⟨x50.Kind,x50.From,x50.Level,x50.Amount,x50.Wide,x50.Narrow,x45⟩:Qaf))
    else
     k10 (y33)
def Qiu (N:Nat) (p0:GNet) (p1:Nat) (p2:List Int):Option GNet:=
  (Qcg N p0.Table).bind fun x6=>
  (Qbx N p0.Elements).bind fun _=>
  Qdr (fun y9=>
    Qdr (fun y11=>
      chk (decide (p0.Elements.length≤y11.length))<|
      some (⟨x6,y11.take p0.Elements.length⟩:GNet)) fun k12:(List Qaf)→Option GNet=>
    (Qfj N p0 4).bind fun x15=>
    Qdq N p0 p1 p2 k12 x15 N 0 y9) fun k10:(List Qaf)→Option GNet=>
  Qdp N p0 k10 N 0 p0.Elements
def Q7h (p0:GNet):AV:=.dat 5 (p0.Table.map Qau)
def Qps (p0:GNet):AV:=.dat 7 (p0.Elements.map Qad)
def Zbe (p0:GNet):AV:=.agg [(Q7h p0),(Qps p0)]
def Q07 (p0:GNet):Slot:=.own 7 (p0.Elements.map Qad)
def Qrb (p0:GNet):Slot:=.own 2 [[(Q7h p0),(Qps p0)]]
def Qn9 (x6:List GRow) (p0:GNet):Slot:=.own 2 [[(.dat 5 (x6.map Qau)),(.own 4 7 (0) p0.Elements.length)]]
def Qmh (x6:List GRow) (p0:GNet):Slot:=.own 2 [[(.dat 5 (x6.map Qau)),(.own 3 7 (0) p0.Elements.length)]]
def Qr5 (y11:List Qaf) (p0:GNet):AV:=.dat 7 ((y11.take p0.Elements.length:List Qaf).map Qad)
def Qw6 (y17:List Qaf) (x22:Int) (x30:Qaf) (x27:Int):Slot:=.own 7 ((y17.set x22.toNat (⟨x30.Kind,x30.From,x27,x30.Amount,x30.Wide,x30.Narrow,x30.Weights⟩:Qaf):List Qaf).map Qad)
def Qr4 (y33:List Qaf) (y32:Int) (x47:Qaf) (x43:List Qby):Slot:=.own 7 ((y33.set y32.toNat (⟨x47.Kind,x43,x47.Level,x47.Amount,x47.Wide,x47.Narrow,x47.Weights⟩:Qaf):List Qaf).map Qad)
def Qw5 (y33:List Qaf) (y32:Int) (x47:Qaf) (x43:List Qby) (x50:Qaf) (x45:List Int):Slot:=.own 7 (((y33.set y32.toNat (⟨x47.Kind,x43,x47.Level,x47.Amount,x47.Wide,x47.Narrow,x47.Weights⟩:Qaf)).set y32.toNat (⟨x50.Kind,x50.From,x50.Level,x50.Amount,x50.Wide,x50.Narrow,x45⟩:Qaf):List Qaf).map Qad)
theorem Qnl (N:Nat) (p0:GNet) (p1:Nat) (p2:List Int) (r:GNet) (h:Qiu N p0 p1 p2=some r):Spec prog 68 [(Zbe p0),(.own 0 1 (0) p1)] [(.own 1 (p2.map Qac))] (.agg [(.dat 5 (r.Table.map Qau)),(.dat 7 (r.Elements.map Qad))]) [(.own 1 (p2.map Qac)),(.own 2 [[(.dat 5 (r.Table.map Qau)),(.dat 7 (r.Elements.map Qad))]])]:=by
  refine Qam func68 rfl 2 (nle rfl) (fun X φ0 w0 hφ0 hd0=>?_)
  unfold Qiu at h
  refine Qbj<|wxz ?_
  obtain⟨x6,hf5,h⟩:=bno h
  obtain⟨x8,hf7,h⟩:=bno h
  refine wxd tbk [(2,rp _ _),(5,⟨_,_,_,_,false⟩),(6,rp _ _)] ⟨apv Qx6 (Qds N p0.Table _ hf5) (nlc (nld Qak _) nl0) (nld Qak _),Qar (first:=[]) (cap:=[]) (vs:=[(Qps p0)]) (σr:=[]) (σr':=[(Q07 p0)]) (res':=(.own 3 7 (0) p0.Elements.length)) [3] rfl Qx5 (Qc7 N p0.Elements _ hf7) rfl (Qbd (rnc (pld Qaa) rn0)) Qaq (slc (Qa3 Qaa) Qaq) (Qbt rfl) rfl rfl rfl,Qay (vs:=[(.dat 5 (x6.map Qau)),(.own 3 7 (0) p0.Elements.length)]) rfl ts42 tz42 rfl (by rfl) rfl,tv⟩ ?_
  obtain⟨k10,hk_k10,h⟩:=jko h
  refine wjn (τ:=(List Qaf)) (fun t=>k10 t=some r) (fun y9=>⟨mk 61 [(1,(.own 0 1 (0) p1)),(2,.ref 1 2 0 0),(4,.ref 2 2 0 0),(5,.ref 3 2 0 0)],[(.own 1 (p2.map Qac)),(Qrb p0),(.own 2 [[nilS,nilS]]),(Qn9 x6 p0),(.own 7 (y9.map Qad))]⟩) (fun y9 h=>?_) ?_
  ·subst hk_k10
   obtain⟨k12,hk_k12,h⟩:=jko h
   refine wjn (τ:=(List Qaf)) (fun t=>k12 t=some r) (fun y11=>⟨mk 61 [(4,.ref 1 2 0 0),(5,.ref 2 2 0 0)],[(.own 1 (p2.map Qac)),(.own 2 [[nilS,nilS]]),(Qmh x6 p0),(.own 7 (y11.map Qad))]⟩) (fun y11 h=>?_) ?_
   ·subst hk_k12
    refine wxz ?_
    obtain⟨hz13,h⟩:=cko h
    refine wmr (Qp9 (n:=61) (mp:=2) (m:=7) (xs:=y11.map Qad) (c:=[(.dat 5 (x6.map Qau)),(.own 3 7 (0) p0.Elements.length)]) (l':=[(4,.ref 1 2 0 0)]) (c':=[(.dat 5 (x6.map Qau)),(Qr5 y11 p0)]) (own':=[(.own 1 (p2.map Qac)),(.own 2 [[(.dat 5 (x6.map Qau)),(Qr5 y11 p0)]]),(Qmh x6 p0),.dead]) 3 1 [(4,.ref 1 2 0 0)] (by kernel_rfl) (by kernel_rfl) (by kernel_rfl) (by kernel_rfl) ⟨(.same _),(Qiy hz13),tv⟩ ⟨rfl,(.same _),tv⟩ (by kernel_rfl)) ?_
    refine wmr (mto (n:=61) (l':=[(4,.ref 1 2 0 0)]) (own':=[(.own 1 (p2.map Qac)),(.own 2 [[(.dat 5 ((((⟨x6,y11.take p0.Elements.length⟩:GNet).Table):List GRow).map Qau)),(.dat 7 ((((⟨x6,y11.take p0.Elements.length⟩:GNet).Elements):List Qaf).map Qad))]])]) [(4,.ref 1 2 0 0)] [0,1] [(.own 1 (p2.map Qac)),(.own 2 [[(.dat 5 (x6.map Qau)),(Qr5 y11 p0)]])] hφ0 (prr pn) (qc (spr Qae) (qb (lc (rnd Qak) (lc (rnd Qaa) ln)) qn)))<|Qaj ?_
    obtain rfl:=osi h
    exact⟨_,Mor.rfl,Qca (vs:=[(.agg [(.dat 5 (((⟨x6,y11.take p0.Elements.length⟩:GNet).Table:List GRow).map Qau)),(.dat 7 (((⟨x6,y11.take p0.Elements.length⟩:GNet).Elements:List Qaf).map Qad))])]) ⟨Qbk (n:=1) (m:=2) (j:=0) (i:=0) (xs:=[[(.dat 5 (((⟨x6,y11.take p0.Elements.length⟩:GNet).Table:List GRow).map Qau)),(.dat 7 (((⟨x6,y11.take p0.Elements.length⟩:GNet).Elements:List Qaf).map Qad))]]) (by kernel_rfl) (by kernel_rfl) ti42 (by decide) rfl (nle rfl) rfl,tv⟩ rfl (NLt.of0 (NLt.agg _ (nlc (nld Qak _) (nlc (nld Qaa _) nl0)))) (by kernel_rfl) (Qai (Qbp Qae _) (Qai (Qav (nlc (NLt.of0 (nld Qak _)) (nlc (NLt.of0 (nld Qaa _)) nl0))) Qbe))⟩
   ·skip
    obtain⟨x15,hf14,h⟩:=bno h
    refine wx tbk [(1,rp _ _),(2,rp _ _)] ⟨apv Qmx (Qel N p0 4 _ hf14) (nlc (NLt.agg _ (nlc (nld Qak _) (nlc (nld Qaa _) nl0))) (nlc nll nl0)) (nld Qae _),alq 1 Qac x15 underlying27,tv⟩<|Qas ?_
    refine wmr (mto (n:=61) (l':=[(1,(.own 0 1 (0) p1)),(4,.ref 1 2 0 0),(5,.ref 2 2 0 0),(43,(.dat 1 (x15.map Qac))),(44,(I ((x15.length:Int)))),(45,I 0)]) (own':=[(.own 1 (p2.map Qac)),(.own 2 [[nilS,nilS]]),(Qmh x6 p0),(.own 7 (y9.map Qad))]) [(1,(.own 0 1 (0) p1)),(4,.ref 2 2 0 0),(5,.ref 3 2 0 0),(43,(.dat 1 (x15.map Qac))),(44,(I ((x15.length:Int)))),(45,I 0)] [0,2,3,4] [(.own 1 (p2.map Qac)),(.own 2 [[nilS,nilS]]),(Qn9 x6 p0),(.own 7 (y9.map Qad))] hφ0 (pc (.rn (Qaz rfl)) (prr (prr (pc (rnd Qae) (pw (pw pn)))))) (qc (spr Qae) (qb (lcc ln) (qb (lc (rnd Qak) (lc (.rn (Qaz rfl)) ln)) (qc (spr Qaa) qn))))) ?_
    refine Qb9 (τ:=Int×(List Qaf)) (fun n t=>Qdq N p0 p1 p2 k12 x15 n t.1 t.2=some r) (fun ⟨y16,y17⟩=>⟨mk 61 [(1,(.own 0 1 (0) p1)),(4,.ref 1 2 0 0),(5,.ref 2 2 0 0),(43,(.dat 1 (x15.map Qac))),(44,(I ((x15.length:Int)))),(45,I y16)],[(.own 1 (p2.map Qac)),(.own 2 [[nilS,nilS]]),(Qmh x6 p0),(.own 7 (y17.map Qad))]⟩) (fun t h=>by rw[Qdq] at h;cases h) (fun n20 ih t h=>?_) N (0,y9) h
    obtain⟨y16,y17⟩:=t
    rw[Qdq] at h
    skip
    refine wxz<|wsq ?_
    refine bfe h (fun hc21 h=>?_) fun hc21 h=>?_
    ·refine wft hc21<|Qat<|thn<|wsq<|Qas ?_
     obtain⟨x22,hg23,h⟩:=bno h
     obtain⟨hi24,hj25⟩:=gsm hg23
     refine wx tbk [(1,rp _ _)] ⟨aiq underlying27 ti3 Qac hi24 hj25,tv⟩ ?_
     obtain⟨hi26,h⟩:=cko h
     obtain⟨hi26a,hi26b⟩:=Qcx hi26
     obtain⟨x27,hg28,h⟩:=bno h
     obtain⟨hi29,h⟩:=cko h
     obtain⟨hi29a,hi29b⟩:=Qcx hi29
     obtain⟨x30,hg31,h⟩:=bno h
     refine wy1 tbk [(5,rb [(.tmp 53,(.own 0 1 (0) p1)),(.tmp 54,I y16)] [(0,(.own 1 (p2.map Qac)))] (.ref 0 1 y16.toNat 0)),(6,rb [(.tmp 55,(.ref 0 1 y16.toNat 0))] [(0,(.own 1 (p2.map Qac)))] (I x27)),(7,rb [(.tmp 51,(.own 3 7 (0) p0.Elements.length)),(.tmp 52,I x22)] [(3,(.own 7 (y17.map Qad)))] (.ref 3 7 x22.toNat 0)),(9,⟨[(.tmp 58,(.ref 3 7 x22.toNat 2)),(.tmp 56,I x27)],[(3,(.own 7 (y17.map Qad)))],.any,[(3,(Qw6 y17 x22 x30 x27))],false⟩)] ⟨aio rfl underlying27 ti3 (odt hi26a) (odt hi26b) (Nat.zero_add _),ald rfl ti3 (by decide) (mgt Qac hg28) (nle rfl) rfl,aio rfl underlying40 Qfz (odt hi29a) (odt hi29b) (Nat.zero_add _),ast rfl ti3 (by rfl) (mgt Qad hg31) (nle rfl) (Qd2 Qad rfl),tv⟩<|bln<|thn<|wxz1<|thn ?_
     exact arm (mto (n:=61) [(1,(.own 0 1 (0) p1)),(4,.ref 1 2 0 0),(5,.ref 2 2 0 0),(43,(.dat 1 (x15.map Qac))),(44,(I ((x15.length:Int)))),(45,(I (w64 (y16+1))))] [0,1,2,3] [(.own 1 (p2.map Qac)),(.own 2 [[nilS,nilS]]),(Qmh x6 p0),(Qw6 y17 x22 x30 x27)] hφ0 (pc (.rn (Qaz rfl)) (prr (prr (pc (rnd Qae) (pw (pw pn)))))) (qc (spr Qae) (qb (lcc ln) (qb (lc (rnd Qak) (lc (.rn (Qaz rfl)) ln)) (qc (spr Qaa) qn))))) (ih (w64 (y16+1),y17.set x22.toNat (⟨x30.Kind,x30.From,x27,x30.Amount,x30.Wide,x30.Narrow,x30.Weights⟩:Qaf)) h)
    ·exact wfn hc21<|Qbm<|Qa4<|Qa4<|Qbl rfl<|thn<|⟨(y17),h,(mto (n:=61) [(4,.ref 1 2 0 0),(5,.ref 2 2 0 0)] [0,1,2,3] [(.own 1 (p2.map Qac)),(.own 2 [[nilS,nilS]]),(Qmh x6 p0),(.own 7 (y17.map Qad))] hφ0 (prr (prr pn)) (qc (spr Qae) (qb (lcc ln) (qb (lc (rnd Qak) (lc (.rn (Qaz rfl)) ln)) (qc (spr Qaa) qn)))))⟩
  ·skip
   refine wx tbk [(2,rp _ _)] ⟨alq 7 Qad p0.Elements underlying40,tv⟩<|Qas ?_
   refine wmr (mto (n:=61) (l':=[(1,(.own 0 1 (0) p1)),(2,.ref 1 2 0 0),(4,.ref 2 2 0 0),(5,.ref 3 2 0 0),(18,(Qps p0)),(19,(I ((p0.Elements.length:Int)))),(20,I 0)]) (own':=[(.own 1 (p2.map Qac)),(Qrb p0),(.own 2 [[nilS,nilS]]),(Qn9 x6 p0),(Q07 p0)]) [(1,(.own 0 1 (0) p1)),(2,.ref 1 2 0 0),(4,.ref 2 2 0 0),(5,.ref 4 2 0 0),(18,(Qps p0)),(19,(I ((p0.Elements.length:Int)))),(20,I 0)] [0,1,2,4,3] [(.own 1 (p2.map Qac)),(Qrb p0),(.own 2 [[nilS,nilS]]),(Qmh x6 p0),(Q07 p0)] hφ0 (pc (.rn (Qaz rfl)) (prr (prr (prr (pc (rnd Qaa) (pw (pw pn))))))) (qc (spr Qae) (qb (lc (rnd Qak) (lc (rnd Qaa) ln)) (qb (lcc ln) (qb (lc (rnd Qak) (lc (.rn (Qaz rfl)) ln)) (qc (spr Qaa) qn)))))) ?_
   refine Qb9 (τ:=Int×(List Qaf)) (fun n t=>Qdp N p0 k10 n t.1 t.2=some r) (fun ⟨y32,y33⟩=>⟨mk 61 [(1,(.own 0 1 (0) p1)),(2,.ref 1 2 0 0),(4,.ref 2 2 0 0),(5,.ref 3 2 0 0),(18,(Qps p0)),(19,(I ((p0.Elements.length:Int)))),(20,I y32)],[(.own 1 (p2.map Qac)),(Qrb p0),(.own 2 [[nilS,nilS]]),(Qn9 x6 p0),(.own 7 (y33.map Qad))]⟩) (fun t h=>by rw[Qdp] at h;cases h) (fun n36 ih t h=>?_) N (0,p0.Elements) h
   obtain⟨y32,y33⟩:=t
   rw[Qdp] at h
   skip
   refine wxz<|wsq ?_
   refine bfe h (fun hc37 h=>?_) fun hc37 h=>?_
   ·refine wft hc37<|Qat<|thn<|wsq<|Qas ?_
    obtain⟨x38,hg39,h⟩:=bno h
    obtain⟨hi40,hj41⟩:=gsm hg39
    refine wx tbk [(1,rp _ _)] ⟨aiq underlying40 Qfz Qad hi40 hj41,tv⟩ ?_
    obtain⟨x43,hf42,h⟩:=bno h
    obtain⟨x45,hf44,h⟩:=bno h
    obtain⟨hi46,h⟩:=cko h
    obtain⟨hi46a,hi46b⟩:=Qcx hi46
    obtain⟨x47,hg48,h⟩:=bno h
    obtain⟨hi49,h⟩:=cko h
    obtain⟨hi49a,hi49b⟩:=Qcx hi49
    obtain⟨x50,hg51,h⟩:=bno h
    refine wy1 tbk [(8,rp _ _),(11,rp _ _),(12,rb [(.tmp 26,(.own 4 7 (0) p0.Elements.length)),(.tmp 27,I y32)] [(4,(.own 7 (y33.map Qad)))] (.ref 4 7 y32.toNat 0)),(14,⟨[(.tmp 38,(.ref 4 7 y32.toNat 1)),(.tmp 33,(.dat 2 (x43.map Qbc)))],[(4,(.own 7 (y33.map Qad)))],.any,[(4,(Qr4 y33 y32 x47 x43))],false⟩),(15,rb [(.tmp 29,(.own 4 7 (0) p0.Elements.length)),(.tmp 30,I y32)] [(4,(Qr4 y33 y32 x47 x43))] (.ref 4 7 y32.toNat 0)),(17,⟨[(.tmp 40,(.ref 4 7 y32.toNat 6)),(.tmp 36,(.dat 1 (x45.map Qac)))],[(4,(Qr4 y33 y32 x47 x43))],.any,[(4,(Qw5 y33 y32 x47 x43 x50 x45))],false⟩)] ⟨apv Qx4 (Qd4 N x38.From _ hf42) (nlc (nld Qbo _) nl0) (nld Qbo _),apv Qv0 (Qgm N x38.Weights _ hf44) (nlc (nld Qae _) nl0) (nld Qae _),aio rfl underlying40 Qfz (odt hi46a) (odt hi46b) (Nat.zero_add _),ast rfl Q1m (by rfl) (mgt Qad hg48) (nle rfl) (Qd2 Qad rfl),aio rfl underlying40 Qfz (odt hi49a) (odt hi49b) (Nat.zero_add _),ast rfl ti27 (by rfl) (mgt Qad hg51) (nle rfl) (Qd2 Qad rfl),tv⟩<|bln<|thn<|wxz1<|thn ?_
    exact arm (mto (n:=61) [(1,(.own 0 1 (0) p1)),(2,.ref 1 2 0 0),(4,.ref 2 2 0 0),(5,.ref 3 2 0 0),(18,(Qps p0)),(19,(I ((p0.Elements.length:Int)))),(20,(I (w64 (y32+1))))] [0,1,2,3,4] [(.own 1 (p2.map Qac)),(Qrb p0),(.own 2 [[nilS,nilS]]),(Qn9 x6 p0),(Qw5 y33 y32 x47 x43 x50 x45)] hφ0 (pc (.rn (Qaz rfl)) (prr (prr (prr (pc (rnd Qaa) (pw (pw pn))))))) (qc (spr Qae) (qb (lc (rnd Qak) (lc (rnd Qaa) ln)) (qb (lcc ln) (qb (lc (rnd Qak) (lc (.rn (Qaz rfl)) ln)) (qc (spr Qaa) qn)))))) (ih (w64 (y32+1),(y33.set y32.toNat (⟨x47.Kind,x43,x47.Level,x47.Amount,x47.Wide,x47.Narrow,x47.Weights⟩:Qaf)).set y32.toNat (⟨x50.Kind,x50.From,x50.Level,x50.Amount,x50.Wide,x50.Narrow,x45⟩:Qaf)) h)
   ·exact wfn hc37<|Qbm<|Qa4<|Qa4<|Qbl rfl<|thn<|⟨(y33),h,(mto (n:=61) [(1,(.own 0 1 (0) p1)),(2,.ref 1 2 0 0),(4,.ref 2 2 0 0),(5,.ref 3 2 0 0)] [0,1,2,3,4] [(.own 1 (p2.map Qac)),(Qrb p0),(.own 2 [[nilS,nilS]]),(Qn9 x6 p0),(.own 7 (y33.map Qad))] hφ0 (pc (.rn (Qaz rfl)) (prr (prr (prr pn)))) (qc (spr Qae) (qb (lc (rnd Qak) (lc (rnd Qaa) ln)) (qb (lcc ln) (qb (lc (rnd Qak) (lc (.rn (Qaz rfl)) ln)) (qc (spr Qaa) qn))))))⟩
def Qer (_N:Nat) (p0:Qe4):Option Int:=
  some p0.steam
theorem Qfl (N:Nat) (p0:Qe4) (r:Int) (h:Qer N p0=some r):Spec prog 91 [(.dptr (Qh9 p0) 0)] [] (I r) []:=by
  refine Qam func91 rfl 0 (nle rfl) (fun X φ0 w0 hφ0 hd0=>?_)
  unfold Qer at h
  refine wxz<|wxz<|Qaj ?_
  obtain rfl:=osi h
  exact fend ⟨[I p0.steam],⟨rot,tv⟩,rfl⟩ nll
def Qcq (N:Nat) (p0:List Qe4) (k11:Int×Int→Option Qme):Nat→Int→Int→Int→Option Qme
  |0,_,_,_=>none
  |n19+1,y13,y14,y15=>
    bif (decide (y13<((p0.drop (1:Int).toNat).length:Int))) then
     (getI (p0.drop (1:Int).toNat) y13).bind fun x21=>
     (Qer N x21).bind fun x26=>
     (Qer N x21).bind fun x28=>
     Qcq N p0 k11 n19 (w64 (y13+1)) (if x26<y14 then x26 else y14) (if x28>y15 then x28 else y15)
    else
     k11 (y14,y15)
def Qfw (N:Nat) (p0:List Qe4):Option Qme:=
  (getI p0 0).bind fun x1=>
  (Qer N x1).bind fun x6=>
  (Qer N x1).bind fun x8=>
  Qdr (fun ⟨y9,y10⟩=>
    some (⟨y9,y10⟩:Qme)) fun k11:Int×Int→Option Qme=>
  chk (decide (0≤1)&&decide (1≤(p0.length:Int))&&decide ((p0.length:Int)≤(p0.length:Int)))<|
  Qcq N p0 k11 N 0 x6 x8
def Qra:Slot:=.own 2 [[(I (0)),(I (0))]]
def Qtm (p0:List Qe4):AV:=.dat 1 ((p0.drop (1:Int).toNat:List Qe4).map Qcr)
theorem Qjr (N:Nat) (p0:List Qe4) (r:Qme) (h:Qfw N p0=some r):Spec prog 80 [(.dat 1 (p0.map Qcr)),(.fn (.func 91) [] [])] [] (.agg [(I r.Lo),(I r.Hi)]) []:=by
  refine Qam func80 rfl 0 (nle rfl) (fun X φ0 w0 hφ0 hd0=>?_)
  unfold Qfw at h
  refine wxz ?_
  obtain⟨x1,hg2,h⟩:=bno h
  obtain⟨hi3,hj4⟩:=gsm hg2
  obtain⟨x6,hf5,h⟩:=bno h
  obtain⟨x8,hf7,h⟩:=bno h
  refine wxd tbk [(2,rp _ _),(4,rp _ _),(7,rp _ _),(9,rp _ _),(10,rp _ _)] ⟨aiq underlying168 Qly Qcr hi3 hj4,Qar (first:=[]) (cap:=[]) (vs:=[(.dptr (Qh9 x1) 0)]) (σr:=[]) (σr':=[]) (res':=(I x6)) [] rfl Qsw (Qfl N x1 _ hf5) rfl (Qbd (rnc (.plain _ (NLt.dptr _ _ (Qns _))) rn0)) Qaq Qaq (.plain _ nll) rfl rfl rfl,aiq underlying168 Qly Qcr hi3 hj4,Qar (first:=[]) (cap:=[]) (vs:=[(.dptr (Qh9 x1) 0)]) (σr:=[]) (σr':=[]) (res':=(I x8)) [] rfl Qsw (Qfl N x1 _ hf7) rfl (Qbd (rnc (.plain _ (NLt.dptr _ _ (Qns _))) rn0)) Qaq Qaq (.plain _ nll) rfl rfl rfl,Qay (vs:=[I x6,I x8]) rfl Zbw Q86 rfl (by rfl) rfl,tv⟩ ?_
  obtain⟨k11,hk_k11,h⟩:=jko h
  refine wjn (τ:=Int×Int) (fun t=>k11 t=some r) (fun ⟨y9,y10⟩=>⟨mk 41 [(4,.ref 0 2 0 0),(5,.ref 1 2 0 0)],[Qra,(.own 2 [[I y9,I y10]])]⟩) (fun t h=>?_) ?_
  ·subst hk_k11
   obtain⟨y9,y10⟩:=t
   refine wxz<|Qaj ?_
   obtain rfl:=osi h
   exact fend ⟨[(.agg [I y9,I y10])],⟨Qbk (n:=0) (m:=2) (j:=0) (i:=0) (xs:=[[I y9,I y10]]) (by kernel_rfl) (by kernel_rfl) Qy2 (by decide) rfl (nle rfl) rfl,tv⟩,rfl⟩ (NLt.agg _ (nlcc nl0))
  ·skip
   obtain⟨hs12,h⟩:=cko h
   refine wx tbk [(1,rp [(.tmp 19,(.dat 1 (p0.map Qcr))),ci 1] (Qtm p0)),(2,rp _ _)] ⟨Qll (k:=.i64) (k':=.i64) (lo:=some (.const (.int .i64 1))) (hi:=none) (l:=1) (hh:=((p0.length:Nat):Int)) rfl underlying168 Qly rfl (fun e=>nomatch e) (fun _=>by simp) (Qwi hs12) (Qwh hs12) (Q97 Qcr hs12) (Zb0 Qcr),alq 1 Qcr (p0.drop (1:Int).toNat) underlying168,tv⟩<|Qas ?_
   refine wmr (mto (n:=41) (l':=[(1,(.fn (.func 91) [] [])),(4,.ref 0 2 0 0),(5,.ref 1 2 0 0),(20,(Qtm p0)),(21,(I (((p0.drop (1:Int).toNat).length:Int)))),(22,I 0)]) (own':=[Qra,(.own 2 [[I x6,I x8]])]) [(1,(.fn (.func 91) [] [])),(4,.ref 0 2 0 0),(5,.ref 1 2 0 0),(20,(Qtm p0)),(21,(I (((p0.drop (1:Int).toNat).length:Int)))),(22,I 0)] [0,1] [Qra,(.own 2 [[I x6,I x8]])] hφ0 (pc (.rn (Qa9 rn0 rn0)) (prr (prr (pc (rnd Qde) (pw (pw pn)))))) (qb (lcc ln) (qb (lcc ln) qn))) ?_
   refine Qb9 (τ:=Int×Int×Int) (fun n t=>Qcq N p0 k11 n t.1 t.2.1 t.2.2=some r) (fun ⟨y13,y14,y15⟩=>⟨mk 41 [(1,(.fn (.func 91) [] [])),(4,.ref 0 2 0 0),(5,.ref 1 2 0 0),(20,(Qtm p0)),(21,(I (((p0.drop (1:Int).toNat).length:Int)))),(22,I y13)],[Qra,(.own 2 [[I y14,I y15]])]⟩) (fun t h=>by rw[Qcq] at h;cases h) (fun n19 ih t h=>?_) N (0,x6,x8) h
   obtain⟨y13,y14,y15⟩:=t
   rw[Qcq] at h
   skip
   refine wxz<|wsq ?_
   refine bfe h (fun hc20 h=>?_) fun hc20 h=>?_
   ·refine wft hc20<|Qat<|thn<|wsq<|Qas ?_
    obtain⟨x21,hg22,h⟩:=bno h
    obtain⟨hi23,hj24⟩:=gsm hg22
    refine wx tbk [(0,rp _ _)] ⟨aiq underlying168 Qly Qcr hi23 hj24,tv⟩ ?_
    obtain⟨x26,hf25,h⟩:=bno h
    obtain⟨x28,hf27,h⟩:=bno h
    refine wy1 tbk [(4,rp _ _),(5,rp [(.tmp 27,I y14),(.tmp 30,I x26)] (I ((if x26<y14 then x26 else y14)))),(10,rp _ _),(11,rp [(.tmp 33,I y15),(.tmp 36,I x28)] (I ((if x28>y15 then x28 else y15)))),(12,rp _ _)] ⟨Qar (first:=[]) (cap:=[]) (vs:=[(.dptr (Qh9 x21) 0)]) (σr:=[]) (σr':=[]) (res':=(I x26)) [] rfl Qsw (Qfl N x21 _ hf25) rfl (Qbd (rnc (.plain _ (NLt.dptr _ _ (Qns _))) rn0)) Qaq Qaq (.plain _ nll) rfl rfl rfl,Qn5 rfl,Qar (first:=[]) (cap:=[]) (vs:=[(.dptr (Qh9 x21) 0)]) (σr:=[]) (σr':=[]) (res':=(I x28)) [] rfl Qsw (Qfl N x21 _ hf27) rfl (Qbd (rnc (.plain _ (NLt.dptr _ _ (Qns _))) rn0)) Qaq Qaq (.plain _ nll) rfl rfl rfl,Qlm rfl,Qay (vs:=[(I ((if x26<y14 then x26 else y14))),(I ((if x28>y15 then x28 else y15)))]) rfl Zbw Q86 rfl (by rfl) rfl,tv⟩<|bln<|thn<|wxz1<|thn ?_
    exact arm (mto (n:=41) [(1,(.fn (.func 91) [] [])),(4,.ref 0 2 0 0),(5,.ref 1 2 0 0),(20,(Qtm p0)),(21,(I (((p0.drop (1:Int).toNat).length:Int)))),(22,(I (w64 (y13+1))))] [0,1] [Qra,(.own 2 [[(I ((if x26<y14 then x26 else y14))),(I ((if x28>y15 then x28 else y15)))]])] hφ0 (pc (.rn (Qa9 rn0 rn0)) (prr (prr (pc (rnd Qde) (pw (pw pn)))))) (qb (lcc ln) (qb (lcc ln) qn))) (ih (w64 (y13+1),(if x26<y14 then x26 else y14),(if x28>y15 then x28 else y15)) h)
   ·exact wfn hc20<|Qbm<|Qa4<|Qa4<|Qbl rfl<|thn<|⟨(y14,y15),h,(mto (n:=41) [(4,.ref 0 2 0 0),(5,.ref 1 2 0 0)] [0,1] [Qra,(.own 2 [[I y14,I y15]])] hφ0 (prr (prr pn)) (qb (lcc ln) (qb (lcc ln) qn)))⟩
def Qjs (N:Nat) (p0:List GRow) (p1:List Qaf) (p2:Nat) (p3:List Int) (p4:List (List Qab)) (p5:Int) (p6:List Int) (p7:Bool) (p8:List Int):Option (Int×(List Int)×Bool):=
  (Qiu N (⟨p0,p1⟩:GNet) p2 p8).bind fun x5=>
  (Qdo N x5).bind fun x7=>
  bif (!x7) then
   some (p5,p6,p7)
  else
   (Qhi N x5 p3 p4).bind fun x10=>
   bif (!x10.2) then
    some (p5,p6,p7)
   else
    (Qje N x10.1).bind fun x13=>
    bif (decide (x13.1≥0)) then
     some (p5,p6,p7)
    else
     (Qfw N x10.1).bind fun x16=>
     bif (decide (x16.Lo>p5)) then
      chk (decide (p2≤p8.length))<|
      chk (decide ((0+(p8.take p2).length)*8≤140737488355328))<|
      some (x16.Lo,p8.take p2,true)
     else
      some (p5,p6,p7)
def Qkr (p0:List GRow) (p1:List Qaf):Slot:=.own 2 [[(.dat 5 (p0.map Qau)),(.dat 7 (p1.map Qad))]]
def Qkq (p2:Nat):Slot:=.own 1 [[(.own 7 1 (0) p2)]]
def Qhx (p3:List Int):Slot:=.own 1 [[(.dat 1 (p3.map Qac))]]
def Qhw (p4:List (List Qab)):Slot:=.own 1 [[(.dat 1 (p4.map Qal))]]
def Qjk (p6:List Int):Slot:=.own 1 [[(.dat 1 (p6.map Qac))]]
def Q08 (x5:GNet):AV:=.dat 7 (x5.Elements.map Qad)
def Q80 (x5:GNet):AV:=.agg [(.dat 5 (x5.Table.map Qau)),(Q08 x5)]
def Q8z (x10:((List Qe4)×Bool)):AV:=.dat 1 (x10.1.map Qcr)
def Qr6 (p8:List Int) (p2:Nat):AV:=.dat 1 ((p8.take p2:List Int).map Qac)
theorem Qom (N:Nat) (p0:List GRow) (p1:List Qaf) (p2:Nat) (p3:List Int) (p4:List (List Qab)) (p5:Int) (p6:List Int) (p7:Bool) (p8:List Int) (r:(Int×(List Int)×Bool)) (h:Qjs N p0 p1 p2 p3 p4 p5 p6 p7 p8=some r):Spec prog 90 [(.ref 0 2 (0) 0),(.ref 1 1 (0) 0),(.ref 2 1 (0) 0),(.ref 3 1 (0) 0),(.ref 4 1 (0) 0),(.ref 5 1 (0) 0),(.ref 6 1 (0) 0)] [(Qkr p0 p1),(Qkq p2),(Qhx p3),(Qhw p4),(.own 1 [[(I p5)]]),(Qjk p6),(.own 1 [[(B p7)]]),(.own 1 (p8.map Qac))] (.tup []) [(Qkr p0 p1),(Qkq p2),(Qhx p3),(Qhw p4),(.own 1 [[(I r.1)]]),(.own 1 [[(.dat 1 (r.2.1.map Qac))]]),(.own 1 [[(B r.2.2)]]),(.own 1 (p8.map Qac))]:=by
  refine Qam func90 rfl 8 (nle rfl) (fun X φ0 w0 hφ0 hd0=>?_)
  unfold Qjs at h
  refine Qbj ?_
  obtain⟨x5,hf4,h⟩:=bno h
  refine wx tbk [(2,⟨_,_,_,_,false⟩),(3,⟨[],[(9,.unused)],.ref 9 2 0 0,[(9,(.own 2 [[(.dat 5 (([]:List GRow).map Qau)),(.dat 7 (([]:List Qaf).map Qad))]]))],false⟩)] ⟨Qar (first:=[]) (cap:=[]) (vs:=[(.agg [(.dat 5 (((⟨p0,p1⟩:GNet).Table:List GRow).map Qau)),(.dat 7 (((⟨p0,p1⟩:GNet).Elements:List Qaf).map Qad))]),(.own 7 1 (0) p2)]) (σr:=[(.own 1 (p8.map Qac))]) (σr':=[(.own 1 (p8.map Qac)),(.own 2 [[(.dat 5 (x5.Table.map Qau)),(Q08 x5)]])]) (res':=(Q80 x5)) [7,8] rfl Q2t (Qnl N (⟨p0,p1⟩:GNet) p2 p8 _ hf4) rfl (Qbd (rnc (.plain _ (NLt.agg _ (nlc (nld Qak _) (nlc (nld Qaa _) nl0)))) (rnc (Qce rfl) rn0))) (slc (Qa3 Qae) Qaq) (slc (Qa3 Qae) (slc (Qao (rnc (pld Qak) (rnc (pld Qaa) rn0))) Qaq)) (.plain _ (NLt.agg _ (nlc (nld Qak _) (nlc (nld Qaa _) nl0)))) rfl rfl rfl,Qhh (SImp.box (l:=[nilS,nilS]) ⟨Less.nil,Less.nil,tv⟩) (Qkn rfl tz42 rfl),tv⟩<|wsq ?_
  obtain⟨x7,hf6,h⟩:=bno h
  refine wx tbk [(1,rp _ _)] ⟨apv Qop (Qdt N x5 _ hf6) (nlc (NLt.agg _ (nlc (nld Qak _) (nlc (nld Qaa _) nl0))) nl0) nll,tv⟩ ?_
  refine bfe h (fun hc8 h=>?_) fun hc8 h=>?_
  ·refine wft hc8<|wmr (mto (n:=44) (l':=[]) (own':=[(Qkr p0 p1),(Qkq p2),(Qhx p3),(Qhw p4),(.own 1 [[I p5]]),(Qjk p6),(.own 1 [[B p7]]),(.own 1 (p8.map Qac))]) [] [0,1,2,3,4,5,6,7] [(Qkr p0 p1),(Qkq p2),(Qhx p3),(Qhw p4),(.own 1 [[I p5]]),(Qjk p6),(.own 1 [[B p7]]),(.own 1 (p8.map Qac))] hφ0 pn (qb (lc (rnd Qak) (lc (rnd Qaa) ln)) (qb (lc (.rn (Qaz rfl)) ln) (qb (lc (rnd Qae) ln) (qb (lc (rnd Qan) ln) (qb (lc rwl ln) (qb (lc (rnd Qae) ln) (qb (lc rwl ln) (qc (spr Qae) qn)))))))))<|Qaj<|Qap ?_
   obtain rfl:=osi h
   exact⟨_,Mor.rfl,Qca (vs:=[]) tv rfl (NLt.tup _ nl0) (by kernel_rfl) (Qai (Qav (nlc (NLt.of0 (nld Qak _)) (nlc (NLt.of0 (nld Qaa _)) nl0))) (Qai (Qav (nlc (NLt.own _ _ _ _ (by decide)) nl0)) (Qai (Qav (nlc (NLt.of0 (nld Qae _)) nl0)) (Qai (Qav (nlc (NLt.of0 (nld Qan _)) nl0)) (Qai (Qav (nlc (NLt.of0 nll) nl0)) (Qai (Qav (nlc (NLt.of0 (nld Qae _)) nl0)) (Qai (Qav (nlc (NLt.of0 nll) nl0)) (Qai (Qbp Qae _) Qbe))))))))⟩
  ·refine wfn hc8<|Qat<|thn ?_
   obtain⟨x10,hf9,h⟩:=bno h
   refine wx tbk [(3,rp _ _)] ⟨apv Q2p (Qjy N x5 p3 p4 _ hf9) (nlc (NLt.agg _ (nlc (nld Qak _) (nlc (nld Qaa _) nl0))) (nlc (nld Qae _) (nlc (nld Qan _) nl0))) (NLt.tup _ (nlc (nld Qde _) (nlc nll nl0))),tv⟩<|wsq<|wxz ?_
   refine bfe h (fun hc11 h=>?_) fun hc11 h=>?_
   ·refine wft hc11<|wmr (mto (n:=44) (l':=[]) (own':=[(Qkr p0 p1),(Qkq p2),(Qhx p3),(Qhw p4),(.own 1 [[I p5]]),(Qjk p6),(.own 1 [[B p7]]),(.own 1 (p8.map Qac))]) [] [0,1,2,3,4,5,6,7] [(Qkr p0 p1),(Qkq p2),(Qhx p3),(Qhw p4),(.own 1 [[I p5]]),(Qjk p6),(.own 1 [[B p7]]),(.own 1 (p8.map Qac))] hφ0 pn (qb (lc (rnd Qak) (lc (rnd Qaa) ln)) (qb (lc (.rn (Qaz rfl)) ln) (qb (lc (rnd Qae) ln) (qb (lc (rnd Qan) ln) (qb (lc rwl ln) (qb (lc (rnd Qae) ln) (qb (lc rwl ln) (qc (spr Qae) qn)))))))))<|Qaj<|Qap ?_
    obtain rfl:=osi h
    exact⟨_,Mor.rfl,Qca (vs:=[]) tv rfl (NLt.tup _ nl0) (by kernel_rfl) (Qai (Qav (nlc (NLt.of0 (nld Qak _)) (nlc (NLt.of0 (nld Qaa _)) nl0))) (Qai (Qav (nlc (NLt.own _ _ _ _ (by decide)) nl0)) (Qai (Qav (nlc (NLt.of0 (nld Qae _)) nl0)) (Qai (Qav (nlc (NLt.of0 (nld Qan _)) nl0)) (Qai (Qav (nlc (NLt.of0 nll) nl0)) (Qai (Qav (nlc (NLt.of0 (nld Qae _)) nl0)) (Qai (Qav (nlc (NLt.of0 nll) nl0)) (Qai (Qbp Qae _) Qbe))))))))⟩
   ·refine wfn hc11<|Qat<|thn<|wsq ?_
    obtain⟨x13,hf12,h⟩:=bno h
    refine wx tbk [(1,rp _ _)] ⟨apv Q2o (Qlc N x10.1 _ hf12) (nlc (nld Qde _) nl0) (NLt.tup _ (nlcc nl0)),tv⟩<|wxz ?_
    refine bfe h (fun hc14 h=>?_) fun hc14 h=>?_
    ·refine wft hc14<|wmr (mto (n:=44) (l':=[]) (own':=[(Qkr p0 p1),(Qkq p2),(Qhx p3),(Qhw p4),(.own 1 [[I p5]]),(Qjk p6),(.own 1 [[B p7]]),(.own 1 (p8.map Qac))]) [] [0,1,2,3,4,5,6,7] [(Qkr p0 p1),(Qkq p2),(Qhx p3),(Qhw p4),(.own 1 [[I p5]]),(Qjk p6),(.own 1 [[B p7]]),(.own 1 (p8.map Qac))] hφ0 pn (qb (lc (rnd Qak) (lc (rnd Qaa) ln)) (qb (lc (.rn (Qaz rfl)) ln) (qb (lc (rnd Qae) ln) (qb (lc (rnd Qan) ln) (qb (lc rwl ln) (qb (lc (rnd Qae) ln) (qb (lc rwl ln) (qc (spr Qae) qn)))))))))<|Qaj<|Qap ?_
     obtain rfl:=osi h
     exact⟨_,Mor.rfl,Qca (vs:=[]) tv rfl (NLt.tup _ nl0) (by kernel_rfl) (Qai (Qav (nlc (NLt.of0 (nld Qak _)) (nlc (NLt.of0 (nld Qaa _)) nl0))) (Qai (Qav (nlc (NLt.own _ _ _ _ (by decide)) nl0)) (Qai (Qav (nlc (NLt.of0 (nld Qae _)) nl0)) (Qai (Qav (nlc (NLt.of0 (nld Qan _)) nl0)) (Qai (Qav (nlc (NLt.of0 nll) nl0)) (Qai (Qav (nlc (NLt.of0 (nld Qae _)) nl0)) (Qai (Qav (nlc (NLt.of0 nll) nl0)) (Qai (Qbp Qae _) Qbe))))))))⟩
    ·refine wfn hc14<|Qat<|thn ?_
     obtain⟨x16,hf15,h⟩:=bno h
     refine wx tbk [(1,rp _ _)] ⟨Qar (first:=[]) (cap:=[]) (vs:=[(Q8z x10),(.fn (.func 91) [] [])]) (σr:=[]) (σr':=[]) (res':=(.agg [I x16.Lo,I x16.Hi])) [] rfl Q9s (Qjr N x10.1 _ hf15) rfl (Qbd (rnc (pld Qde) (rnc (.plain _ (NLt.fn _ _ _ nl0 nl0)) rn0))) Qaq Qaq (.plain _ (NLt.agg _ (nlcc nl0))) rfl rfl rfl,tv⟩<|wxz ?_
     refine bfe h (fun hc17 h=>?_) fun hc17 h=>?_
     ·refine wft hc17 ?_
      obtain⟨hz18,h⟩:=cko h
      obtain⟨ha19,h⟩:=cko h
      refine wx1 tbk [(1,⟨[((.const (.slice none 0 0)),nilS),(.tmp 41,(.own 7 1 (0) p2))],[(7,(.own 1 (p8.map Qac))),(10,.unused)],(.acc 10 3 1 ((p8.take p2:List Int).map Qac)),[(10,.tok)],false⟩),(3,⟨[(.tmp 5,.ref 5 1 0 0),(.tmp 42,(.acc 10 3 1 ((p8.take p2:List Int).map Qac)))],[(5,(Qjk p6))],.any,[(5,(.own 1 [[(Qr6 p8 p2)]]))],false⟩)] ⟨Qfn (rd':=[((.const (.slice none 0 0)),nilS),(.tmp 41,(Qr6 p8 p2))]) [(7,1,p8.map Qac)] ⟨rfl,.same _,rfl,(Qs1 0 rfl hz18),tv⟩ (by rfl) (.acc _ _ _ _ (nin rfl) (by simp) (Qxt Qqb _)) (Qxi .tok Qmn) (Qft rfl underlying27 te3 (Base.nil) rfl rfl (Qid Qac Qgj _) (Qtb Qac ha19) (Qta Qac ha19 (by decide)) (Q6k Qac) rfl rfl),awk (rd':=[(.tmp 5,.ref 5 1 0 0),(.tmp 42,(Qr6 p8 p2))]) ⟨rfl,lrf,rfl,Less.acc,tv⟩ (ast rfl ti27 (by rfl) rfl (nle rfl) rfl),tv⟩ ?_
      obtain rfl:=osi h
      exact⟨_,(mto (n:=44) (l':=[]) (own':=[(Qkr p0 p1),(Qkq p2),(Qhx p3),(Qhw p4),(.own 1 [[I x16.Lo]]),(.own 1 [[(.dat 1 (((p8.take p2):List Int).map Qac))]]),(.own 1 [[B true]]),(.own 1 (p8.map Qac))]) [] [0,1,2,3,4,5,6,7] [(Qkr p0 p1),(Qkq p2),(Qhx p3),(Qhw p4),(.own 1 [[I x16.Lo]]),(.own 1 [[(Qr6 p8 p2)]]),(.own 1 [[B true]]),(.own 1 (p8.map Qac))] hφ0 pn (qb (lc (rnd Qak) (lc (rnd Qaa) ln)) (qb (lc (.rn (Qaz rfl)) ln) (qb (lc (rnd Qae) ln) (qb (lc (rnd Qan) ln) (qb (lc rwl ln) (qb (lc (rnd Qae) ln) (qb (lc rwl ln) (qc (spr Qae) qn))))))))),Qca (vs:=[]) tv rfl (NLt.tup _ nl0) (by kernel_rfl) (Qai (Qav (nlc (NLt.of0 (nld Qak _)) (nlc (NLt.of0 (nld Qaa _)) nl0))) (Qai (Qav (nlc (NLt.own _ _ _ _ (by decide)) nl0)) (Qai (Qav (nlc (NLt.of0 (nld Qae _)) nl0)) (Qai (Qav (nlc (NLt.of0 (nld Qan _)) nl0)) (Qai (Qav (nlc (NLt.of0 nll) nl0)) (Qai (Qav (nlc (NLt.of0 (nld Qae _)) nl0)) (Qai (Qav (nlc (NLt.of0 nll) nl0)) (Qai (Qbp Qae _) Qbe))))))))⟩
     ·refine wfn hc17<|Qat ?_
      obtain rfl:=osi h
      exact⟨_,(mto (n:=44) (l':=[]) (own':=[(Qkr p0 p1),(Qkq p2),(Qhx p3),(Qhw p4),(.own 1 [[I p5]]),(Qjk p6),(.own 1 [[B p7]]),(.own 1 (p8.map Qac))]) [] [0,1,2,3,4,5,6,7] [(Qkr p0 p1),(Qkq p2),(Qhx p3),(Qhw p4),(.own 1 [[I p5]]),(Qjk p6),(.own 1 [[B p7]]),(.own 1 (p8.map Qac))] hφ0 pn (qb (lc (rnd Qak) (lc (rnd Qaa) ln)) (qb (lc (.rn (Qaz rfl)) ln) (qb (lc (rnd Qae) ln) (qb (lc (rnd Qan) ln) (qb (lc rwl ln) (qb (lc (rnd Qae) ln) (qb (lc rwl ln) (qc (spr Qae) qn))))))))),Qca (vs:=[]) tv rfl (NLt.tup _ nl0) (by kernel_rfl) (Qai (Qav (nlc (NLt.of0 (nld Qak _)) (nlc (NLt.of0 (nld Qaa _)) nl0))) (Qai (Qav (nlc (NLt.own _ _ _ _ (by decide)) nl0)) (Qai (Qav (nlc (NLt.of0 (nld Qae _)) nl0)) (Qai (Qav (nlc (NLt.of0 (nld Qan _)) nl0)) (Qai (Qav (nlc (NLt.of0 nll) nl0)) (Qai (Qav (nlc (NLt.of0 (nld Qae _)) nl0)) (Qai (Qav (nlc (NLt.of0 nll) nl0)) (Qai (Qbp Qae _) Qbe))))))))⟩
def Qd0 (N:Nat) (p0:Int) (rec_:(Int→Int→Nat→(List GRow)→(List Qaf)→(List Int)→(List (List Qab))→Int→(List Int)→Bool→(List Int)→Option (Int×(List Int)×Bool×(List Int)))) (p1:Int) (p2:Nat) (p3:List GRow) (p4:List Qaf) (p5:List Int) (p6:List (List Qab)):Nat→Int→(List Int)→Bool→(List Int)→Option (Int×(List Int)×Bool×(List Int))
  |0,_,_,_,_=>none
  |n23+1,y15,y16,y17,y18=>
    chk (decide (0≤p0)&&decide (p0.toNat<p2))<|
    (y18[p0.toNat]?).bind fun x25=>
    bif (decide (x25<(p3.length:Int))) then
     (rec_ (w64 (p0+1)) p1 p2 p3 p4 p5 p6 y15 y16 y17 y18).bind fun x29=>
     chk (decide (0≤p0)&&decide (p0.toNat<p2))<|
     (x29.2.2.2[p0.toNat]?).bind fun x31=>
     chk (decide (0≤p0)&&decide (p0.toNat<p2))<|
     (x29.2.2.2[p0.toNat]?).bind fun _=>
     Qd0 N p0 rec_ p1 p2 p3 p4 p5 p6 n23 x29.1 x29.2.1 x29.2.2.1 (x29.2.2.2.set p0.toNat (w64 (x31+1)))
    else
     some (y15,y16,y17,y18)
def Qgi (N:Nat) (rec_:Int→Int→Nat→(List GRow)→(List Qaf)→(List Int)→(List (List Qab))→Int→(List Int)→Bool→(List Int)→Option (Int×(List Int)×Bool×(List Int))) (p0 p1:Int) (p2:Nat) (p3:List GRow) (p4:List Qaf) (p5:List Int) (p6:List (List Qab)) (p7:Int) (p8:List Int) (p9:Bool) (p10:List Int):Option (Int×(List Int)×Bool×(List Int)):=
  bif (p0==p1) then
   (Qjs N p3 p4 p2 p5 p6 p7 p8 p9 p10).bind fun x11=>
   some (x11.1,x11.2.1,x11.2.2,p10)
  else
   chk (decide (0≤p0)&&decide (p0.toNat<p2))<|
   (p10[p0.toNat]?).bind fun _=>
   Qd0 N p0 rec_ p1 p2 p3 p4 p5 p6 N p7 p8 p9 (p10.set p0.toNat 0)
def Qgb:Nat→Int→Int→Nat→(List GRow)→(List Qaf)→(List Int)→(List (List Qab))→Int→(List Int)→Bool→(List Int)→Option (Int×(List Int)×Bool×(List Int))
  |0,_,_,_,_,_,_,_,_,_,_,_=>none
  |N+1,p0,p1,p2,p3,p4,p5,p6,p7,p8,p9,p10=>Qgi N (Qgb N) p0 p1 p2 p3 p4 p5 p6 p7 p8 p9 p10
def Qks:AV:=.fn (.func 90) [] [(.ref 3 2 (0) 0),(.ref 2 1 (0) 0),(.ref 5 1 (0) 0),(.ref 6 1 (0) 0),(.ref 7 1 (0) 0),(.ref 8 1 (0) 0),(.ref 9 1 (0) 0)]
def Qjc (p2:Nat):Slot:=.own 1 [[(.own 10 1 (0) p2)]]
def Qjd (p3:List GRow) (p4:List Qaf):Slot:=.own 2 [[(.dat 5 (p3.map Qau)),(.dat 7 (p4.map Qad))]]
def Qhy:AV:=.fn (.func 92) [] [(.ref 0 1 (0) 0),(.ref 1 1 (0) 0),(.ref 2 1 (0) 0),(.ref 3 2 (0) 0),(.ref 4 1 (0) 0)]
def Qjb (p5:List Int):Slot:=.own 1 [[(.dat 1 (p5.map Qac))]]
def Qja (p6:List (List Qab)):AV:=.dat 1 (p6.map Qal)
def Qw7 (p8:List Int):Slot:=.own 1 [[(.dat 1 (p8.map Qac))]]
def Qr7 (y16:List Int):Slot:=.own 1 [[(.dat 1 (y16.map Qac))]]
def Qpt (x29:(Int×(List Int)×Bool×(List Int))):Slot:=.own 1 (x29.2.2.2.map Qac)
theorem Qol:∀(N:Nat) (p0 p1:Int) (p2:Nat) (p3:List GRow) (p4:List Qaf) (p5:List Int) (p6:List (List Qab)) (p7:Int) (p8:List Int) (p9:Bool) (p10:List Int) (r:(Int×(List Int)×Bool×(List Int))) (_:Qgb N p0 p1 p2 p3 p4 p5 p6 p7 p8 p9 p10=some r),Spec prog 92 [(I p0),(.ref 0 1 (0) 0),(.ref 1 1 (0) 0),(.ref 2 1 (0) 0),(.ref 3 2 (0) 0),(.ref 4 1 (0) 0)] [(.own 1 [[(I p1)]]),(.own 1 [[Qks]]),(Qjc p2),(Qjd p3 p4),(.own 1 [[Qhy]]),(Qjb p5),(.own 1 [[(Qja p6)]]),(.own 1 [[(I p7)]]),(Qw7 p8),(.own 1 [[(B p9)]]),(.own 1 (p10.map Qac))] (.tup []) [(.own 1 [[(I p1)]]),(.own 1 [[Qks]]),(Qjc p2),(Qjd p3 p4),(.own 1 [[Qhy]]),(Qjb p5),(.own 1 [[(Qja p6)]]),(.own 1 [[(I r.1)]]),(.own 1 [[(.dat 1 (r.2.1.map Qac))]]),(.own 1 [[(B r.2.2.1)]]),(.own 1 (r.2.2.2.map Qac))]:=by
  intro N
  induction N with
  |zero=>intro p0 p1 p2 p3 p4 p5 p6 p7 p8 p9 p10 r h;exact nomatch (show(none:Option (Int×(List Int)×Bool×(List Int)))=some r from h)
  |succ N ihX=>
  intro p0 p1 p2 p3 p4 p5 p6 p7 p8 p9 p10 r h
  replace h:Qgi N (Qgb N) p0 p1 p2 p3 p4 p5 p6 p7 p8 p9 p10=some r:=h
  refine Qam func92 rfl 11 (nle rfl) (fun X φ0 w0 hφ0 hd0=>?_)
  unfold Qgi at h
  refine Qbj<|wsq<|wxz ?_
  refine bfe h (fun hc9 h=>?_) fun hc9 h=>?_
  ·refine wft hc9 ?_
   obtain⟨x11,hf10,h⟩:=bno h
   refine wx tbk [(1,⟨_,_,_,_,false⟩)] ⟨Qar (first:=[]) (cap:=[.ref 3 2 0 0,.ref 2 1 0 0,.ref 5 1 0 0,.ref 6 1 0 0,.ref 7 1 0 0,.ref 8 1 0 0,.ref 9 1 0 0]) (vs:=[]) (σr:=[(Qjd p3 p4),(Qjc p2),(Qjb p5),(.own 1 [[(Qja p6)]]),(.own 1 [[I p7]]),(Qw7 p8),(.own 1 [[B p9]]),(.own 1 (p10.map Qac))]) (σr':=[(Qjd p3 p4),(Qjc p2),(Qjb p5),(.own 1 [[(Qja p6)]]),(.own 1 [[I x11.1]]),(.own 1 [[(.dat 1 (x11.2.1.map Qac))]]),(.own 1 [[B x11.2.2]]),(.own 1 (p10.map Qac))]) (res':=(.tup [])) [3,2,5,6,7,8,9,10] rfl Q9q (Qom N p3 p4 p2 p5 p6 p7 p8 p9 p10 _ hf10) rfl (Qbd (rnc (Qax rfl) (rnc (Qax rfl) (rnc (Qax rfl) (rnc (Qax rfl) (rnc (Qax rfl) (rnc (Qax rfl) (rnc (Qax rfl) rn0)))))))) (slc (Qao (rnc (pld Qak) (rnc (pld Qaa) rn0))) (slc (Qao (rnc (Qce rfl) rn0)) (slc (Qao (rnc (pld Qae) rn0)) (slc (Qao (rnc (pld Qan) rn0)) (slc (Qao (rnc (.plain _ nll) rn0)) (slc (Qao (rnc (pld Qae) rn0)) (slc (Qao (rnc (.plain _ nll) rn0)) (slc (Qa3 Qae) Qaq)))))))) (slc (Qao (rnc (pld Qak) (rnc (pld Qaa) rn0))) (slc (Qao (rnc (Qbt rfl) rn0)) (slc (Qao (rnc (pld Qae) rn0)) (slc (Qao (rnc (pld Qan) rn0)) (slc (Qao (rnc (.plain _ nll) rn0)) (slc (Qao (rnc (pld Qae) rn0)) (slc (Qao (rnc (.plain _ nll) rn0)) (slc (Qa3 Qae) Qaq)))))))) (.plain _ (NLt.tup _ nl0)) rfl rfl rfl,tv⟩ ?_
   refine wmr (mto (n:=33) (l':=[]) (own':=[(.own 1 [[I p1]]),(.own 1 [[Qks]]),(Qjc p2),(Qjd p3 p4),(.own 1 [[Qhy]]),(Qjb p5),(.own 1 [[(Qja p6)]]),(.own 1 [[I x11.1]]),(.own 1 [[(.dat 1 (x11.2.1.map Qac))]]),(.own 1 [[B x11.2.2]]),(.own 1 (p10.map Qac))]) [] [0,1,2,3,4,5,6,7,8,9,10] [(.own 1 [[I p1]]),(.own 1 [[Qks]]),(Qjc p2),(Qjd p3 p4),(.own 1 [[Qhy]]),(Qjb p5),(.own 1 [[(Qja p6)]]),(.own 1 [[I x11.1]]),(.own 1 [[(.dat 1 (x11.2.1.map Qac))]]),(.own 1 [[B x11.2.2]]),(.own 1 (p10.map Qac))] hφ0 pn (qb (lc rwl ln) (qb (lc (.rn (Qa9 rn0 (rnc (rqr rfl) (rnc (rqr rfl) (rnc (rqr rfl) (rnc (rqr rfl) (rnc (rqr rfl) (rnc (rqr rfl) (rnc (rqr rfl) rn0))))))))) ln) (qb (lc (.rn (Qaz rfl)) ln) (qb (lc (rnd Qak) (lc (rnd Qaa) ln)) (qb (lc (.rn (Qa9 rn0 (rnc (rqr rfl) (rnc (rqr rfl) (rnc (rqr rfl) (rnc (rqr rfl) (rnc (rqr rfl) rn0))))))) ln) (qb (lc (rnd Qae) ln) (qb (lc (rnd Qan) ln) (qb (lc rwl ln) (qb (lc (rnd Qae) ln) (qb (lc rwl ln) (qc (spr Qae) qn))))))))))))<|Qaj<|Qap ?_
   obtain rfl:=osi h
   exact⟨_,Mor.rfl,Qca (vs:=[]) tv rfl (NLt.tup _ nl0) (by kernel_rfl) (Qai (Qav (nlc (NLt.of0 nll) nl0)) (Qai (Qav (nlc (NLt.fn _ _ _ nl0 (nlc (NLt.ref _ _ _ _ (by decide)) (nlc (NLt.ref _ _ _ _ (by decide)) (nlc (NLt.ref _ _ _ _ (by decide)) (nlc (NLt.ref _ _ _ _ (by decide)) (nlc (NLt.ref _ _ _ _ (by decide)) (nlc (NLt.ref _ _ _ _ (by decide)) (nlc (NLt.ref _ _ _ _ (by decide)) nl0)))))))) nl0)) (Qai (Qav (nlc (NLt.own _ _ _ _ (by decide)) nl0)) (Qai (Qav (nlc (NLt.of0 (nld Qak _)) (nlc (NLt.of0 (nld Qaa _)) nl0))) (Qai (Qav (nlc (NLt.fn _ _ _ nl0 (nlc (NLt.ref _ _ _ _ (by decide)) (nlc (NLt.ref _ _ _ _ (by decide)) (nlc (NLt.ref _ _ _ _ (by decide)) (nlc (NLt.ref _ _ _ _ (by decide)) (nlc (NLt.ref _ _ _ _ (by decide)) nl0)))))) nl0)) (Qai (Qav (nlc (NLt.of0 (nld Qae _)) nl0)) (Qai (Qav (nlc (NLt.of0 (nld Qan _)) nl0)) (Qai (Qav (nlc (NLt.of0 nll) nl0)) (Qai (Qav (nlc (NLt.of0 (nld Qae _)) nl0)) (Qai (Qav (nlc (NLt.of0 nll) nl0)) (Qai (Qbp Qae _) Qbe)))))))))))⟩
  ·refine wfn hc9<|Qat<|thn ?_
   obtain⟨hi12,h⟩:=cko h
   obtain⟨hi12a,hi12b⟩:=Qcx hi12
   obtain⟨x13,hg14,h⟩:=bno h
   refine wx tbk [(2,rb [(.tmp 12,(.own 10 1 (0) p2)),(.tmp 13,I p0)] [(10,(.own 1 (p10.map Qac)))] (.ref 10 1 p0.toNat 0)),(3,⟨[(.tmp 14,(.ref 10 1 p0.toNat 0)),ci 0],[(10,(.own 1 (p10.map Qac)))],.any,[(10,(.own 1 ((p10.set p0.toNat 0:List Int).map Qac)))],false⟩)] ⟨aio rfl underlying27 ti3 (odt hi12a) (odt hi12b) (Nat.zero_add _),ast rfl ti3 (by rfl) (mgt Qac hg14) (nle rfl) (Qd2 Qac rfl),tv⟩<|Qas ?_
   refine wmr (mto (n:=33) (l':=[(0,I p0),(3,.ref 2 1 0 0),(4,.ref 3 2 0 0),(5,.ref 4 1 0 0)]) (own':=[(.own 1 [[I p1]]),(.own 1 [[Qks]]),(Qjc p2),(Qjd p3 p4),(.own 1 [[Qhy]]),(Qjb p5),(.own 1 [[(Qja p6)]]),(.own 1 [[I p7]]),(Qw7 p8),(.own 1 [[B p9]]),(.own 1 (((p10.set p0.toNat 0):List Int).map Qac))]) [(0,I p0),(3,.ref 2 1 0 0),(4,.ref 3 2 0 0),(5,.ref 4 1 0 0)] [0,1,2,3,4,5,6,7,8,9,10] [(.own 1 [[I p1]]),(.own 1 [[Qks]]),(Qjc p2),(Qjd p3 p4),(.own 1 [[Qhy]]),(Qjb p5),(.own 1 [[(Qja p6)]]),(.own 1 [[I p7]]),(Qw7 p8),(.own 1 [[B p9]]),(.own 1 ((p10.set p0.toNat 0:List Int).map Qac))] hφ0 (pw (prr (prr (prr pn)))) (qb (lc rwl ln) (qb (lc (.rn (Qa9 rn0 (rnc (rqr rfl) (rnc (rqr rfl) (rnc (rqr rfl) (rnc (rqr rfl) (rnc (rqr rfl) (rnc (rqr rfl) (rnc (rqr rfl) rn0))))))))) ln) (qb (lc (.rn (Qaz rfl)) ln) (qb (lc (rnd Qak) (lc (rnd Qaa) ln)) (qb (lc (.rn (Qa9 rn0 (rnc (rqr rfl) (rnc (rqr rfl) (rnc (rqr rfl) (rnc (rqr rfl) (rnc (rqr rfl) rn0))))))) ln) (qb (lc (rnd Qae) ln) (qb (lc (rnd Qan) ln) (qb (lc rwl ln) (qb (lc (rnd Qae) ln) (qb (lc rwl ln) (qc (spr Qae) qn)))))))))))) ?_
   refine Qb9 (τ:=Int×(List Int)×Bool×(List Int)) (fun n t=>Qd0 N p0 (Qgb N) p1 p2 p3 p4 p5 p6 n t.1 t.2.1 t.2.2.1 t.2.2.2=some r) (fun ⟨y15,y16,y17,y18⟩=>⟨mk 33 [(0,I p0),(3,.ref 2 1 0 0),(4,.ref 3 2 0 0),(5,.ref 4 1 0 0)],[(.own 1 [[I p1]]),(.own 1 [[Qks]]),(Qjc p2),(Qjd p3 p4),(.own 1 [[Qhy]]),(Qjb p5),(.own 1 [[(Qja p6)]]),(.own 1 [[I y15]]),(Qr7 y16),(.own 1 [[B y17]]),(.own 1 (y18.map Qac))]⟩) (fun t h=>by rw[Qd0] at h;cases h) (fun n23 ih t h=>?_) N (p7,p8,p9,p10.set p0.toNat 0) h
   obtain⟨y15,y16,y17,y18⟩:=t
   rw[Qd0] at h
   skip
   refine wsq ?_
   obtain⟨hi24,h⟩:=cko h
   obtain⟨hi24a,hi24b⟩:=Qcx hi24
   obtain⟨x25,hg26,h⟩:=bno h
   refine wxd tbk [(2,rb [(.tmp 15,(.own 10 1 (0) p2)),(.tmp 16,I p0)] [(10,(.own 1 (y18.map Qac)))] (.ref 10 1 p0.toNat 0)),(3,rb [(.tmp 17,(.ref 10 1 p0.toNat 0))] [(10,(.own 1 (y18.map Qac)))] (I x25)),(6,rp _ _)] ⟨aio rfl underlying27 ti3 (odt hi24a) (odt hi24b) (Nat.zero_add _),ald rfl ti3 (by decide) (mgt Qac hg26) (nle rfl) rfl,alq 5 Qau p3 underlying39,tv⟩ ?_
   refine bfe h (fun hc27 h=>?_) fun hc27 h=>?_
   ·refine wft hc27<|Qat<|thn<|wsq<|Qas ?_
    obtain⟨x29,hf28,h⟩:=bno h
    refine wx1 tbk [(3,⟨_,_,_,_,false⟩)] ⟨Qar (first:=[]) (cap:=[.ref 0 1 0 0,.ref 1 1 0 0,.ref 2 1 0 0,.ref 3 2 0 0,.ref 4 1 0 0]) (vs:=[(I (w64 (p0+1)))]) (σr:=[(.own 1 [[I p1]]),(.own 1 [[Qks]]),(Qjc p2),(Qjd p3 p4),(.own 1 [[Qhy]]),(Qjb p5),(.own 1 [[(Qja p6)]]),(.own 1 [[I y15]]),(Qr7 y16),(.own 1 [[B y17]]),(.own 1 (y18.map Qac))]) (σr':=[(.own 1 [[I p1]]),(.own 1 [[Qks]]),(Qjc p2),(Qjd p3 p4),(.own 1 [[Qhy]]),(Qjb p5),(.own 1 [[(Qja p6)]]),(.own 1 [[I x29.1]]),(.own 1 [[(.dat 1 (x29.2.1.map Qac))]]),(.own 1 [[B x29.2.2.1]]),(Qpt x29)]) (res':=(.tup [])) [0,1,2,3,4,5,6,7,8,9,10] rfl Q2n (ihX (w64 (p0+1)) p1 p2 p3 p4 p5 p6 y15 y16 y17 y18 _ hf28) rfl (Qbd (rnc (.plain _ nll) (rnc (Qax rfl) (rnc (Qax rfl) (rnc (Qax rfl) (rnc (Qax rfl) (rnc (Qax rfl) rn0))))))) (slc (Qao (rnc (.plain _ nll) rn0)) (slc (Qao (rnc (Qa9 rn0 (rnc (Qax rfl) (rnc (Qax rfl) (rnc (Qax rfl) (rnc (Qax rfl) (rnc (Qax rfl) (rnc (Qax rfl) (rnc (Qax rfl) rn0)))))))) rn0)) (slc (Qao (rnc (Qce rfl) rn0)) (slc (Qao (rnc (pld Qak) (rnc (pld Qaa) rn0))) (slc (Qao (rnc (Qa9 rn0 (rnc (Qax rfl) (rnc (Qax rfl) (rnc (Qax rfl) (rnc (Qax rfl) (rnc (Qax rfl) rn0)))))) rn0)) (slc (Qao (rnc (pld Qae) rn0)) (slc (Qao (rnc (pld Qan) rn0)) (slc (Qao (rnc (.plain _ nll) rn0)) (slc (Qao (rnc (pld Qae) rn0)) (slc (Qao (rnc (.plain _ nll) rn0)) (slc (Qa3 Qae) Qaq))))))))))) (slc (Qao (rnc (.plain _ nll) rn0)) (slc (Qao (rnc (Qa9 rn0 (rnc (Qa5 rfl) (rnc (Qa5 rfl) (rnc (Qa5 rfl) (rnc (Qa5 rfl) (rnc (Qa5 rfl) (rnc (Qa5 rfl) (rnc (Qa5 rfl) rn0)))))))) rn0)) (slc (Qao (rnc (Qbt rfl) rn0)) (slc (Qao (rnc (pld Qak) (rnc (pld Qaa) rn0))) (slc (Qao (rnc (Qa9 rn0 (rnc (Qa5 rfl) (rnc (Qa5 rfl) (rnc (Qa5 rfl) (rnc (Qa5 rfl) (rnc (Qa5 rfl) rn0)))))) rn0)) (slc (Qao (rnc (pld Qae) rn0)) (slc (Qao (rnc (pld Qan) rn0)) (slc (Qao (rnc (.plain _ nll) rn0)) (slc (Qao (rnc (pld Qae) rn0)) (slc (Qao (rnc (.plain _ nll) rn0)) (slc (Qa3 Qae) Qaq))))))))))) (.plain _ (NLt.tup _ nl0)) rfl rfl rfl,tv⟩<|bln<|thn ?_
    obtain⟨hi30,h⟩:=cko h
    obtain⟨hi30a,hi30b⟩:=Qcx hi30
    obtain⟨x31,hg32,h⟩:=bno h
    obtain⟨hi33,h⟩:=cko h
    obtain⟨hi33a,hi33b⟩:=Qcx hi33
    obtain⟨x34,hg35,h⟩:=bno h
    refine wx1 tbk [(2,rb [(.tmp 23,(.own 10 1 (0) p2)),(.tmp 24,I p0)] [(10,(Qpt x29))] (.ref 10 1 p0.toNat 0)),(3,rb [(.tmp 25,(.ref 10 1 p0.toNat 0))] [(10,(Qpt x29))] (I x31)),(5,rb [(.tmp 23,(.own 10 1 (0) p2)),(.tmp 24,I p0)] [(10,(Qpt x29))] (.ref 10 1 p0.toNat 0)),(6,⟨[(.tmp 28,(.ref 10 1 p0.toNat 0)),(.tmp 27,(I (w64 (x31+1))))],[(10,(Qpt x29))],.any,[(10,(.own 1 ((x29.2.2.2.set p0.toNat (w64 (x31+1)):List Int).map Qac)))],false⟩)] ⟨aio rfl underlying27 ti3 (odt hi30a) (odt hi30b) (Nat.zero_add _),ald rfl ti3 (by decide) (mgt Qac hg32) (nle rfl) rfl,aio rfl underlying27 ti3 (odt hi33a) (odt hi33b) (Nat.zero_add _),ast rfl ti3 (by rfl) (mgt Qac hg35) (nle rfl) (Qd2 Qac rfl),tv⟩<|thn ?_
    exact arm (mto (n:=33) [(0,I p0),(3,.ref 2 1 0 0),(4,.ref 3 2 0 0),(5,.ref 4 1 0 0)] [0,1,2,3,4,5,6,7,8,9,10] [(.own 1 [[I p1]]),(.own 1 [[Qks]]),(Qjc p2),(Qjd p3 p4),(.own 1 [[Qhy]]),(Qjb p5),(.own 1 [[(Qja p6)]]),(.own 1 [[I x29.1]]),(.own 1 [[(.dat 1 (x29.2.1.map Qac))]]),(.own 1 [[B x29.2.2.1]]),(.own 1 ((x29.2.2.2.set p0.toNat (w64 (x31+1)):List Int).map Qac))] hφ0 (pw (prr (prr (prr pn)))) (qb (lc rwl ln) (qb (lc (.rn (Qa9 rn0 (rnc (rqr rfl) (rnc (rqr rfl) (rnc (rqr rfl) (rnc (rqr rfl) (rnc (rqr rfl) (rnc (rqr rfl) (rnc (rqr rfl) rn0))))))))) ln) (qb (lc (.rn (Qaz rfl)) ln) (qb (lc (rnd Qak) (lc (rnd Qaa) ln)) (qb (lc (.rn (Qa9 rn0 (rnc (rqr rfl) (rnc (rqr rfl) (rnc (rqr rfl) (rnc (rqr rfl) (rnc (rqr rfl) rn0))))))) ln) (qb (lc (rnd Qae) ln) (qb (lc (rnd Qan) ln) (qb (lc rwl ln) (qb (lc (rnd Qae) ln) (qb (lc rwl ln) (qc (spr Qae) qn)))))))))))) (ih (x29.1,x29.2.1,x29.2.2.1,x29.2.2.2.set p0.toNat (w64 (x31+1))) h)
   ·refine wfn hc27<|Qbm<|Qa4<|Qa4<|Qbl rfl ?_
    obtain rfl:=osi h
    exact⟨_,(mto (n:=33) (l':=[]) (own':=[(.own 1 [[I p1]]),(.own 1 [[Qks]]),(Qjc p2),(Qjd p3 p4),(.own 1 [[Qhy]]),(Qjb p5),(.own 1 [[(Qja p6)]]),(.own 1 [[I y15]]),(Qr7 y16),(.own 1 [[B y17]]),(.own 1 (y18.map Qac))]) [] [0,1,2,3,4,5,6,7,8,9,10] [(.own 1 [[I p1]]),(.own 1 [[Qks]]),(Qjc p2),(Qjd p3 p4),(.own 1 [[Qhy]]),(Qjb p5),(.own 1 [[(Qja p6)]]),(.own 1 [[I y15]]),(Qr7 y16),(.own 1 [[B y17]]),(.own 1 (y18.map Qac))] hφ0 pn (qb (lc rwl ln) (qb (lc (.rn (Qa9 rn0 (rnc (rqr rfl) (rnc (rqr rfl) (rnc (rqr rfl) (rnc (rqr rfl) (rnc (rqr rfl) (rnc (rqr rfl) (rnc (rqr rfl) rn0))))))))) ln) (qb (lc (.rn (Qaz rfl)) ln) (qb (lc (rnd Qak) (lc (rnd Qaa) ln)) (qb (lc (.rn (Qa9 rn0 (rnc (rqr rfl) (rnc (rqr rfl) (rnc (rqr rfl) (rnc (rqr rfl) (rnc (rqr rfl) rn0))))))) ln) (qb (lc (rnd Qae) ln) (qb (lc (rnd Qan) ln) (qb (lc rwl ln) (qb (lc (rnd Qae) ln) (qb (lc rwl ln) (qc (spr Qae) qn)))))))))))),Qca (vs:=[]) tv rfl (NLt.tup _ nl0) (by kernel_rfl) (Qai (Qav (nlc (NLt.of0 nll) nl0)) (Qai (Qav (nlc (NLt.fn _ _ _ nl0 (nlc (NLt.ref _ _ _ _ (by decide)) (nlc (NLt.ref _ _ _ _ (by decide)) (nlc (NLt.ref _ _ _ _ (by decide)) (nlc (NLt.ref _ _ _ _ (by decide)) (nlc (NLt.ref _ _ _ _ (by decide)) (nlc (NLt.ref _ _ _ _ (by decide)) (nlc (NLt.ref _ _ _ _ (by decide)) nl0)))))))) nl0)) (Qai (Qav (nlc (NLt.own _ _ _ _ (by decide)) nl0)) (Qai (Qav (nlc (NLt.of0 (nld Qak _)) (nlc (NLt.of0 (nld Qaa _)) nl0))) (Qai (Qav (nlc (NLt.fn _ _ _ nl0 (nlc (NLt.ref _ _ _ _ (by decide)) (nlc (NLt.ref _ _ _ _ (by decide)) (nlc (NLt.ref _ _ _ _ (by decide)) (nlc (NLt.ref _ _ _ _ (by decide)) (nlc (NLt.ref _ _ _ _ (by decide)) nl0)))))) nl0)) (Qai (Qav (nlc (NLt.of0 (nld Qae _)) nl0)) (Qai (Qav (nlc (NLt.of0 (nld Qan _)) nl0)) (Qai (Qav (nlc (NLt.of0 nll) nl0)) (Qai (Qav (nlc (NLt.of0 (nld Qae _)) nl0)) (Qai (Qav (nlc (NLt.of0 nll) nl0)) (Qai (Qbp Qae _) Qbe)))))))))))⟩
def Qls (N:Nat) (p0:GNet) (p1:List Int) (p2:List (List Qab)):Option ((List Int)×Int×Int):=
  (Qke N p0 p1 p2).bind fun x2=>
  bif (x2 != 0) then
   some ([],0,x2)
  else
   (Qfj N p0 4).bind fun x5=>
   bif (decide ((x5.length:Int)>3)) then
    some ([],0,3)
   else
    chk (decide (0≤(x5.length:Int))&&decide (8*(x5.length:Int)≤281474976710656)&&decide ((x5.length:Int)≤9223372036854775807))<|
    (Qgb N 0 (x5.length:Int) ((x5.length:Int).toNat) p0.Table p0.Elements p1 p2 (-1) ([]) false (List.replicate (x5.length:Int).toNat 0)).bind fun x9=>
    bif (!x9.2.2.1) then
     some ([],0,7)
    else
     some (x9.2.1,x9.1,0)
def Q7k (p2:List (List Qab)):AV:=.dat 1 (p2.map Qal)
def Qrc:AV:=.dat 1 (([]:List Int).map Qac)
def Q7i (x5:List Int):Slot:=.own 1 ((List.replicate (x5.length:Int).toNat 0:List Int).map Qac)
def Qvk:AV:=.fn (.func 90) [] [(.ref 0 2 (0) 0),(.ref 8 1 (0) 0),(.ref 1 1 (0) 0),(.ref 2 1 (0) 0),(.ref 5 1 (0) 0),(.ref 4 1 (0) 0),(.ref 6 1 (0) 0)]
def Qvj:AV:=.fn (.func 92) [] [(.ref 3 1 (0) 0),(.ref 9 1 (0) 0),(.ref 8 1 (0) 0),(.ref 0 2 (0) 0),(.ref 10 1 (0) 0)]
def Q7j (x5:List Int):Slot:=.own 1 [[(I ((x5.length:Int)))]]
def Q7m (p0:GNet):Slot:=.own 2 [[(.dat 5 (p0.Table.map Qau)),(.dat 7 (p0.Elements.map Qad))]]
def Q7l (p1:List Int):Slot:=.own 1 [[(.dat 1 (p1.map Qac))]]
theorem Qnq (N:Nat) (p0:GNet) (p1:List Int) (p2:List (List Qab)) (r:((List Int)×Int×Int)) (h:Qls N p0 p1 p2=some r):Spec prog 51 [(.agg (Qg6 p0)),(.dat 1 (p1.map Qac)),(.dat 1 (p2.map Qal))] [] (.tup [(.dat 1 (r.1.map Qac)),(I r.2.1),(I r.2.2)]) []:=by
  refine Qam func51 rfl 0 (nle rfl) (fun X φ0 w0 hφ0 hd0=>?_)
  unfold Qls at h
  refine wxz<|wsq ?_
  obtain⟨x2,hf1,h⟩:=bno h
  refine wx tbk [(3,rp _ _)] ⟨apv Q2q (Qma N p0 p1 p2 _ hf1) (nlc (NLt.agg _ (nlc (nld Qak _) (nlc (nld Qaa _) nl0))) (nlc (nld Qae _) (nlc (nld Qan _) nl0))) nll,tv⟩<|wxz ?_
  refine bfe h (fun hc3 h=>?_) fun hc3 h=>?_
  ·refine wft hc3<|wxz<|Qaj<|Qap ?_
   obtain rfl:=osi h
   exact fend ⟨[Qrc,I 0,I x2],⟨Qbz (v:=nilS) rot Less.nil,rot,rot,tv⟩,rfl⟩ (NLt.tup _ (nlc (nld Qae _) (nlcc nl0)))
  ·refine wfn hc3<|Qat<|thn ?_
   obtain⟨x5,hf4,h⟩:=bno h
   refine wx tbk [(1,rp _ _),(2,rp _ _)] ⟨apv Qmx (Qel N p0 4 _ hf4) (nlc (NLt.agg _ (nlc (nld Qak _) (nlc (nld Qaa _) nl0))) (nlc nll nl0)) (nld Qae _),alq 1 Qac x5 underlying27,tv⟩<|wsq<|wxz ?_
   refine bfe h (fun hc6 h=>?_) fun hc6 h=>?_
   ·refine wft hc6<|wxz<|Qaj<|Qap ?_
    obtain rfl:=osi h
    exact fend ⟨[Qrc,I 0,I 3],⟨Qbz (v:=nilS) rot Less.nil,rot,rot,tv⟩,rfl⟩ (NLt.tup _ (nlc (nld Qae _) (nlcc nl0)))
   ·refine wfn hc6<|Qat<|thn ?_
    refine wx tbk [(0,⟨[],[(4,.unused)],.ref 4 1 0 0,[(4,.own 1 [[Qrc]])],false⟩)] ⟨Qhh (SImp.box (l:=[nilS]) ⟨Less.nil,tv⟩) (Qkn rfl tz27 rfl),tv⟩<|wxz ?_
    obtain⟨hm7,h⟩:=cko h
    refine wx tbk [(1,⟨[(.tmp 29,(I ((x5.length:Int)))),(.tmp 29,(I ((x5.length:Int))))],[(7,.unused)],(.own 7 1 (0) ((x5.length:Int).toNat)),[(7,(Q7i x5))],false⟩),(2,⟨[],[(8,.unused)],.ref 8 1 0 0,[(8,.own 1 [[Qrc]])],false⟩)] ⟨Qlw rfl underlying27 te3 tz3 rfl (Qwi hm7) rfl (Qwh hm7) (Qyj hm7) (Qvs Qac rfl),Qhh (SImp.box (l:=[nilS]) ⟨Less.nil,tv⟩) (Qkn rfl tz27 rfl),tv⟩ ?_
    refine wx tbk [(0,rp [(.tmp 3,.ref 0 2 0 0),(.tmp 14,.ref 8 1 0 0),(.tmp 4,.ref 1 1 0 0),(.tmp 5,.ref 2 1 0 0),(.tmp 12,.ref 5 1 0 0),(.tmp 11,.ref 4 1 0 0),(.tmp 13,.ref 6 1 0 0)] Qvk)] ⟨Qdv (fs:=[]) (cs:=[.ref 0 2 0 0,.ref 8 1 0 0,.ref 1 1 0 0,.ref 2 1 0 0,.ref 5 1 0 0,.ref 4 1 0 0,.ref 6 1 0 0]) rfl rfl rfl rfl,tv⟩<|wxz ?_
    refine wx tbk [(0,rp [(.tmp 10,.ref 3 1 0 0),(.tmp 15,.ref 9 1 0 0),(.tmp 14,.ref 8 1 0 0),(.tmp 3,.ref 0 2 0 0),(.tmp 16,.ref 10 1 0 0)] Qvj)] ⟨Qdv (fs:=[]) (cs:=[.ref 3 1 0 0,.ref 9 1 0 0,.ref 8 1 0 0,.ref 0 2 0 0,.ref 10 1 0 0]) rfl rfl rfl rfl,tv⟩ ?_
    obtain⟨x9,hf8,h⟩:=bno h
    refine wx tbk [(1,⟨_,_,_,_,false⟩)] ⟨Qar (first:=[]) (cap:=[.ref 3 1 0 0,.ref 9 1 0 0,.ref 8 1 0 0,.ref 0 2 0 0,.ref 10 1 0 0]) (vs:=[I 0]) (σr:=[(Q7j x5),(.own 1 [[Qvk]]),(.own 1 [[(.own 7 1 (0) ((x5.length:Int).toNat))]]),(Q7m p0),(.own 1 [[Qvj]]),(Q7l p1),(.own 1 [[(Q7k p2)]]),(.own 1 [[(I ((-1)))]]),(.own 1 [[Qrc]]),(.own 1 [[B false]]),(Q7i x5)]) (σr':=[(Q7j x5),(.own 1 [[Qvk]]),(.own 1 [[(.own 7 1 (0) (((x5.length:Int).toNat)))]]),(Q7m p0),(.own 1 [[Qvj]]),(Q7l p1),(.own 1 [[(Q7k p2)]]),(.own 1 [[I x9.1]]),(.own 1 [[(.dat 1 (x9.2.1.map Qac))]]),(.own 1 [[B x9.2.2.1]]),(.own 1 (x9.2.2.2.map Qac))]) (res':=(.tup [])) [3,9,8,0,10,1,2,5,4,6,7] rfl Q2n (Qol N 0 (x5.length:Int) ((x5.length:Int).toNat) p0.Table p0.Elements p1 p2 (-1) ([]) false (List.replicate (x5.length:Int).toNat 0) _ hf8) rfl (Qbd (rnc (.plain _ nll) (rnc (Qax rfl) (rnc (Qax rfl) (rnc (Qax rfl) (rnc (Qax rfl) (rnc (Qax rfl) rn0))))))) (slc (Qao (rnc (.plain _ nll) rn0)) (slc (Qao (rnc (Qa9 rn0 (rnc (Qax rfl) (rnc (Qax rfl) (rnc (Qax rfl) (rnc (Qax rfl) (rnc (Qax rfl) (rnc (Qax rfl) (rnc (Qax rfl) rn0)))))))) rn0)) (slc (Qao (rnc (Qce rfl) rn0)) (slc (Qao (rnc (pld Qak) (rnc (pld Qaa) rn0))) (slc (Qao (rnc (Qa9 rn0 (rnc (Qax rfl) (rnc (Qax rfl) (rnc (Qax rfl) (rnc (Qax rfl) (rnc (Qax rfl) rn0)))))) rn0)) (slc (Qao (rnc (pld Qae) rn0)) (slc (Qao (rnc (pld Qan) rn0)) (slc (Qao (rnc (.plain _ nll) rn0)) (slc (Qao (rnc (pld Qae) rn0)) (slc (Qao (rnc (.plain _ nll) rn0)) (slc (Qa3 Qae) Qaq))))))))))) (slc (Qao (rnc (.plain _ nll) rn0)) (slc (Qao (rnc (Qa9 rn0 (rnc (Qa5 rfl) (rnc (Qa5 rfl) (rnc (Qa5 rfl) (rnc (Qa5 rfl) (rnc (Qa5 rfl) (rnc (Qa5 rfl) (rnc (Qa5 rfl) rn0)))))))) rn0)) (slc (Qao (rnc (Qbt rfl) rn0)) (slc (Qao (rnc (pld Qak) (rnc (pld Qaa) rn0))) (slc (Qao (rnc (Qa9 rn0 (rnc (Qa5 rfl) (rnc (Qa5 rfl) (rnc (Qa5 rfl) (rnc (Qa5 rfl) (rnc (Qa5 rfl) rn0)))))) rn0)) (slc (Qao (rnc (pld Qae) rn0)) (slc (Qao (rnc (pld Qan) rn0)) (slc (Qao (rnc (.plain _ nll) rn0)) (slc (Qao (rnc (pld Qae) rn0)) (slc (Qao (rnc (.plain _ nll) rn0)) (slc (Qa3 Qae) Qaq))))))))))) (.plain _ (NLt.tup _ nl0)) rfl rfl rfl,tv⟩<|wsq<|wxz ?_
    refine bfe h (fun hc10 h=>?_) fun hc10 h=>?_
    ·refine wft hc10<|wxz<|Qaj<|Qap ?_
     obtain rfl:=osi h
     exact fend ⟨[Qrc,I 0,I 7],⟨Qbz (v:=nilS) rot Less.nil,rot,rot,tv⟩,rfl⟩ (NLt.tup _ (nlc (nld Qae _) (nlcc nl0)))
    ·refine wfn hc10<|Qat<|thn<|wxe<|Qaj ?_
     obtain rfl:=osi h
     exact fend ⟨[(.dat 1 (x9.2.1.map Qac)),I x9.1,I 0],⟨rot,rot,rot,tv⟩,rfl⟩ (NLt.tup _ (nlc (nld Qae _) (nlcc nl0)))
end
section
set_option maxRecDepth 100000
set_option maxHeartbeats 4000000
open Go.RowKit
def Qli (_N:Nat) (p0:Qfg):Option Bool:=
  (some (w64 ((w64 ((p0.Out.length:Int)+(p0.Lost.length:Int)))+(p0.State.length:Int)))).bind fun x1=>
  some (x1==0)
theorem Qqd (N:Nat) (p0:Qfg) (r:Bool) (h:Qli N p0=some r):Spec prog 21 [(.agg (Qv6 p0))] [] (B r) []:=by
  refine Qam func21 rfl 0 (nle rfl) (fun X φ0 w0 hφ0 hd0=>?_)
  unfold Qli at h
  refine wxz ?_
  obtain⟨x1,hl2,h⟩:=bno h
  refine wx tbk [(2,rp _ _),(5,rp _ _),(9,rp _ _),(10,rp [(.tmp 9,(I (w64 ((p0.Out.length:Int)+(p0.Lost.length:Int))))),(.tmp 12,(I ((p0.State.length:Int))))] (I x1))] ⟨alq 1 Qal p0.Out underlying31,alq 4 Qaw p0.Lost underlying32,alq 1 Qac p0.State underlying27,Qi0 hl2 (abn rfl rfl),tv⟩<|Qaj ?_
  obtain rfl:=osi h
  exact fend ⟨[(B ((x1==0)))],⟨rot,tv⟩,rfl⟩ nll
end
end Go.Proofs.YtmbhnllcfmiajaaGreat
