/-
  The texts X3, X4, X5, X6, X7 of the proof, one behind the other. No conditions.
-/
import Derived.Test.YtflmombnmnblnaaGreatG3
namespace Go.Proofs.YtflmombnmnblnaaGreat
open _root_.Go.Proofs.Tryz
open Go.RowKit
set_option maxRecDepth 100000
set_option maxHeartbeats 4000000
set_option synthInstance.maxSize 4000
set_option synthInstance.maxHeartbeats 400000
section
def Qe3 (_N:Nat) (p0:List Int):Option Unit:=
  chk (!p0.isEmpty)<|
  chk (!p0.isEmpty)<|
  chk (decide ((0+p0.length)*8≤140737488355328))<|
  some ()
def Zhy:AV:=.acc 0 3 1 ((([]:List Int):List Int).map Qab)
theorem Qkn (N:Nat) (p0:List Int) (r:Unit) (h:Qe3 N p0=some r):Spec prog 81 [(.dat 1 (p0.map Qab))] [] (.own 0 1 (0) p0.length) [(.own 1 (p0.map Qab))]:=by
  refine sF func81 1 fun _ _ _ hq hd0=>?_
  unfold Qe3 at h
  refine wxz<|wsq ?_
  obtain⟨hz1,h⟩:=cko h
  refine wx tbk [(1,rp [(.tmp 3,(.dat 1 (p0.map Qab))),((.const (.slice none 0 0)),nilS)] (B false))] ⟨Qki rfl underlying29 rfl (Qgo hz1),tv⟩<|wfa<|Qaq<|thn ?_
  obtain⟨ha3,h⟩:=cko h
  obtain⟨ha2,h⟩:=cko h
  refine wx tbk [(0,⟨[],[(0,.unused)],Zhy,[(0,.tok)],false⟩),(2,⟨[(.tmp 5,Zhy),(.tmp 6,(.dat 1 (p0.map Qab)))],[(0,.tok),(1,.unused)],(.own 1 1 (0) p0.length),[(0,.dead),(1,(.own 1 (p0.map Qab)))],false⟩)] ⟨Qf3 rfl underlying29 ti3 tz3,Qt0 rfl underlying29 te3 (Base.acc _ _) rfl rfl (Qgo ha3) (Qjv Qab Qht _) (Qvx Qab ha2) (Qvw Qab ha2 (by decide)) (List.length_map _),tv⟩ ?_
  refine wmr (mto (n:=8) (l':=[(2,(.own 0 1 (0) p0.length))]) (own':=[(.own 1 (p0.map Qab))]) [(2,(.own 1 1 (0) p0.length))] [1] [(.own 1 (p0.map Qab))] hq (pc (.rn (Qay rfl)) pn) (qc (spr Qaj) qn))<|Qaf ?_
  obtain rfl:=osi h
  exact⟨_,Mor.rfl,fio [(.own 0 1 (0) p0.length)] ⟨rot,tv⟩⟩
theorem Qp5:DRet prog 82 [1,1]:=by
  refine Qqr (t:=5) (args:=[.any,.any]) func82 rfl (fun _ _=>rfl) (by kernel_rfl) Zft 0 (nle rfl) (fun X φ0 w0 hq=>?_)
  exact Qar<|wx tbk [(0,rp [(.tmp 5,(.lit .nilIface)),(.const .nilIface,(.lit .nilIface))] (B true))] ⟨Qx5 rfl underlying20,tv⟩<|wtr<|wxz1<|bln<|fend ⟨[],tv,rfl⟩ (.tup _ nl0)
def Qfg (_N:Nat) (p0:Qad) (p1:Int):Option Int:=
  chk (p0.Narrow != 0)<|
  (some (if (w64 (p0.Wide-(w64 (p1.tdiv p0.Narrow))))>0 then w64 (p0.Wide-(w64 (p1.tdiv p0.Narrow))) else 0)).bind fun x2=>
  some x2
theorem Qik (N:Nat) (p0:Qad) (p1 r:Int) (h:Qfg N p0 p1=some r):Spec prog 84 [(.agg (Qah p0)),(I p1)] [] (I r) []:=by
  refine sA func84 0 fun _ _ _ hq hd0=>?_
  unfold Qfg at h
  refine wxz ?_
  obtain⟨hz1,h⟩:=cko h
  obtain⟨x2,hl3,h⟩:=bno h
  refine wxd tbk [(5,rp [(.tmp 7,I p1),(.tmp 9,I p0.Narrow)] (I (w64 (p1.tdiv p0.Narrow)))),(7,rp [ci 0,(.tmp 11,(I (w64 (p0.Wide-(w64 (p1.tdiv p0.Narrow))))))] (I x2))] ⟨Qpm rfl (Qqf hz1),Qkh hl3 (Qm8 rfl),tv⟩<|Qaf ?_
  obtain rfl:=osi h
  exact fend ⟨[I x2],⟨rot,tv⟩,rfl⟩ nll
def Qgc (_N:Nat) (_p0:Int) (_p1:List GRow) (_p2:List Qad) (_p3 _p4 _p5:Nat) (_p6:List Qaa) (_p7:Int) (_p8:List (List Qaa)) (_p9:List Qa9) (_p10:List Int):Option Unit:=
  some ()
abbrev Q9s (p1:List GRow) (p2:List Qad) (p3 p4 p5:Nat) (p6:List Qaa) (p7:Int):Slot:=.own 7 [[(.dat 5 (p1.map Qam)),(.dat 7 (p2.map Qah)),(.own 1 1 (0) p3),(.own 2 4 (0) p4),(.own 3 1 (0) p5),(.dat 4 (p6.map Qac)),(I p7)]]
abbrev Q45:AV:=.fn (.func 156) [] [(.ref 4 1 (0) 0),(.ref 5 1 (0) 0)]
abbrev Zeq:Slot:=.own 1 [[(.ref 0 7 (0) 0)]]
theorem Qnm (N:Nat) (p0:Int) (p1:List GRow) (p2:List Qad) (p3 p4 p5:Nat) (p6:List Qaa) (p7:Int) (p8:List (List Qaa)) (p9:List Qa9) (p10:List Int) (r:Unit) (h:Qgc N p0 p1 p2 p3 p4 p5 p6 p7 p8 p9 p10=some r):Spec prog 128 [(.ref 0 7 (0) 0),(I p0)] [(Q9s p1 p2 p3 p4 p5 p6 p7),(.own 1 (p8.map Qag)),(.own 4 (p9.map Qav)),(.own 1 (p10.map Qab))] Q45 [(Q9s p1 p2 p3 p4 p5 p6 p7),(.own 1 (p8.map Qag)),(.own 4 (p9.map Qav)),(.own 1 (p10.map Qab)),Zeq,(.own 1 [[(I p0)]])]:=by
  refine sF func128 6 fun _ _ _ hq hd0=>?_
  unfold Qgc at h
  refine wxz<|wx tbk [(0,rp [(.tmp 2,.ref 4 1 0 0),(.tmp 3,.ref 5 1 0 0)] Q45)] ⟨Qed (fs:=[]) (cs:=[.ref 4 1 0 0,.ref 5 1 0 0]) rfl rfl rfl rfl,tv⟩ ?_
  refine wmr (mto (n:=6) (l':=[(4,Q45)]) (own':=[(Q9s p1 p2 p3 p4 p5 p6 p7),(.own 1 (p8.map Qag)),(.own 4 (p9.map Qav)),(.own 1 (p10.map Qab)),Zeq,(.own 1 [[I p0]])]) [(4,Q45)] [0,1,2,3,4,5] [(Q9s p1 p2 p3 p4 p5 p6 p7),(.own 1 (p8.map Qag)),(.own 4 (p9.map Qav)),(.own 1 (p10.map Qab)),Zeq,(.own 1 [[I p0]])] hq (pc (.rn (Qa4 rn0 (rnc (rqr rfl) (rnc (rqr rfl) rn0)))) pn) (qb (lc (rnd Qap) (lc (rnd Qae) (lc (.rn (Qay rfl)) (lc (.rn (Qay rfl)) (lc (.rn (Qay rfl)) (lc (rnd Qak) (lc rwl ln))))))) (qc (spr Qan) (qc (spr Qbb) (qc (spr Qaj) (qb (lc (.rn (rqr rfl)) ln) (qb (lc rwl ln) qn)))))))<|Qaf ?_
  obtain rfl:=osi h
  exact⟨_,Mor.rfl,fio [Q45] ⟨rot,tv⟩⟩
def Qcb (N:Nat) (p0:List Int) (k1:Unit→Option Int) (p1:Int):Nat→Int→Option Int
  |0,_=>none
  |n4+1,y2=>
    bif (decide (y2<(p0.length:Int))) then
     (getI p0 y2).bind fun x6=>
     bif (p1==x6) then
      some y2
     else
      Qcb N p0 k1 p1 n4 (w64 (y2+1))
    else
     k1 ()
def Qet (N:Nat) (p0:List Int) (p1:Int):Option Int:=
  Qcf (fun _=>
    some (-1)) fun k1:Unit→Option Int=>
  Qcb N p0 k1 p1 N 0
theorem Qhw (N:Nat) (p0:List Int) (p1 r:Int) (h:Qet N p0 p1=some r):Spec prog 157 [(.dat 1 (p0.map Qab)),(I p1)] [] (I r) []:=by
  refine sA func157 0 fun _ _ _ hq hd0=>?_
  unfold Qet at h
  refine wxz ?_
  obtain⟨k1,hk_k1,h⟩:=jko h
  refine wjn (τ:=Unit) (fun t=>k1 t=some r) (fun _=>⟨mk 19 [],[]⟩) (fun t h=>?_) ?_
  ·subst hk_k1
   refine wxz<|Qaf ?_
   obtain rfl:=osi h
   exact fend ⟨[(I ((-1)))],⟨rot,tv⟩,rfl⟩ nll
  ·skip
   refine wx tbk [(1,rp _ _)] ⟨alq 1 Qab p0 underlying29,tv⟩<|Qar ?_
   refine wmr (mto (n:=19) (l':=[(0,(.dat 1 (p0.map Qab))),(1,I p1),(7,(I ((p0.length:Int)))),(8,I 0)]) (own':=[]) [(0,(.dat 1 (p0.map Qab))),(1,I p1),(7,(I ((p0.length:Int)))),(8,I 0)] [] [] hq (pc (rnd Qaj) (pw (pw (pw pn)))) qn) ?_
   refine Qcn (τ:=Int) (fun n t=>Qcb N p0 k1 p1 n t=some r) (fun y2=>⟨mk 19 [(0,(.dat 1 (p0.map Qab))),(1,I p1),(7,(I ((p0.length:Int)))),(8,I y2)],[]⟩) (fun t h=>by rw[Qcb] at h;cases h) (fun n4 ih y2 h=>?_) N (0) h
   rw[Qcb] at h
   skip
   refine wxz<|wsq ?_
   refine bfe h (fun hc5 h=>?_) fun hc5 h=>?_
   ·refine wft hc5<|Qaq<|thn<|wsq<|Qar<|wxz ?_
    obtain⟨x6,hg7,h⟩:=bno h
    obtain⟨hi8,hj9⟩:=gsm hg7
    refine wx tbk [(3,rp _ _)] ⟨aiq underlying29 ti3 Qab hi8 hj9,tv⟩ ?_
    refine bfe h (fun hc10 h=>?_) fun hc10 h=>?_
    ·refine wft hc10<|wxz<|Qaf<|Qat<|Qal<|Qal<|Qat<|Qal ?_
     obtain rfl:=osi h
     exact fend ⟨[I y2],⟨rot,tv⟩,rfl⟩ nll
    ·exact wfn hc10<|Qaq<|bln<|thn<|wxz1<|thn<|arm (mto (n:=19) [(0,(.dat 1 (p0.map Qab))),(1,I p1),(7,(I ((p0.length:Int)))),(8,(I (w64 (y2+1))))] [] [] hq (pc (rnd Qaj) (pw (pw (pw pn)))) qn) (ih (w64 (y2+1)) h)
   ·exact wfn hc5<|Qbl<|Qaz<|Qaz<|Qbk rfl<|thn<|⟨(),h,(mto (n:=19) [] [] [] hq pn qn)⟩
def Qc0 (N:Nat) (x1:Qad) (p2:List (List Qaa)):Nat→Int→Option (List Qaa)
  |0,_=>none
  |n19+1,y15=>
    bif (decide (y15<(x1.From.length:Int))) then
     (getI x1.From y15).bind fun x21=>
     (getI p2 x21.Element).bind fun x25=>
     (getI x25 x21.Outlet).bind fun x29=>
     yld x29<|
     Qc0 N x1 p2 n19 (w64 (y15+1))
    else
     some ([])
def Qgb (N:Nat) (p0:List GRow) (p1:List Qad) (p2:List (List Qaa)) (_p3:List Qa9) (_p4:List Int) (p5:List Qaa) (_p6 p7:Int):Option (List Qaa):=
  (getI p1 p7).bind fun x1=>
  bif (x1.Kind==1) then
   (Qfz N (⟨p0,p1⟩:GNet) 1).bind fun x7=>
   (Qet N x7 p7).bind fun x9=>
   (getI p5 x9).bind fun x10=>
   yld x10<|
   some ([])
  else
   Qc0 N x1 p2 N 0
abbrev Qf7 (p1:List Qad):AV:=.dat 7 (p1.map Qah)
abbrev Qfn (p2:List (List Qaa)):AV:=.dat 1 (p2.map Qag)
abbrev Qf8 (p3:List Qa9):AV:=.dat 4 (p3.map Qav)
abbrev Qfm (p5:List Qaa):AV:=.dat 4 (p5.map Qac)
def Q9q (p0:List GRow) (p1:List Qad):AV:=.agg [(.dat 5 (p0.map Qam)),(Qf7 p1)]
def Q9p (x10:Qaa):AV:=.agg [(I x10.Mass),(I x10.Heat),(I x10.Silica),(I x10.Gas)]
def Q9o (x1:Qad):AV:=.dat 2 (x1.From.map Qc2)
def Qqj (x21:Qeg):Slot:=.own 2 [[(I x21.Element),(I x21.Outlet)]]
def Q0l (x29:Qaa):AV:=.agg [(I x29.Mass),(I x29.Heat),(I x29.Silica),(I x29.Gas)]
theorem Qnl (N:Nat) (p0:List GRow) (p1:List Qad) (p2:List (List Qaa)) (p3:List Qa9) (p4:List Int) (p5:List Qaa) (p6 p7:Int) (r:List Qaa) (h:Qgb N p0 p1 p2 p3 p4 p5 p6 p7=some r):Qv0 prog 156 [(.dptr [(.dptr [(.dat 5 (p0.map Qam)),(Qf7 p1),(Qfn p2),(Qf8 p3),(.dat 1 (p4.map Qab)),(Qfm p5),(I p6)] 0)] 0),(.dptr [(I p7)] 0)] [] (fun x=>[(.agg #[(.int .i64 x.Mass),(.int .i64 x.Heat),(.int .i64 x.Silica),(.int .i64 x.Gas)])]) r:=by
  refine Q3l func156 rfl rfl (fun X φ0 w0 l J hq hy=>?_)
  unfold Qgb at h
  refine wsq ?_
  obtain⟨x1,hg2,h⟩:=bno h
  obtain⟨hi3,hj4⟩:=gsm hg2
  refine wxd tbk [(6,rp _ _)] ⟨aiq underlying37 Qi0 Qah hi3 hj4,tv⟩ ?_
  refine bfe h (fun hc5 h=>?_) fun hc5 h=>?_
  ·refine wft hc5 ?_
   obtain⟨x7,hf6,h⟩:=bno h
   obtain⟨x9,hf8,h⟩:=bno h
   obtain⟨x10,hg11,h⟩:=bno h
   obtain⟨hi12,hj13⟩:=gsm hg11
   obtain⟨q14,hy_,hq_⟩:=Q52 h
   clear h
   subst hq_
   have h:=hy_
   clear hy_
   refine Qx1 14 [mv 0 (.lit (.func (.yield l) #[] #[])),rp [(.tmp 1,(.dptr [(.dptr [(.dat 5 (p0.map Qam)),(Qf7 p1),(Qfn p2),(Qf8 p3),(.dat 1 (p4.map Qab)),(Qfm p5),I p6] 0)] 0))] (.dptr [(.dat 5 (p0.map Qam)),(Qf7 p1),(Qfn p2),(Qf8 p3),(.dat 1 (p4.map Qab)),(Qfm p5),I p6] 0),mv 17 (.dptr [(.dat 5 (p0.map Qam)),(Qf7 p1),(Qfn p2),(Qf8 p3),(.dat 1 (p4.map Qab)),(Qfm p5),I p6] 0),rp [(.tmp 18,(.dptr [(.dat 5 (p0.map Qam)),(Qf7 p1),(Qfn p2),(Qf8 p3),(.dat 1 (p4.map Qab)),(Qfm p5),I p6] 0))] (.dptr [(.dat 5 (p0.map Qam)),(Qf7 p1),(Qfn p2),(Qf8 p3),(.dat 1 (p4.map Qab)),(Qfm p5),I p6] 5),rp [(.tmp 19,(.dptr [(.dat 5 (p0.map Qam)),(Qf7 p1),(Qfn p2),(Qf8 p3),(.dat 1 (p4.map Qab)),(Qfm p5),I p6] 5))] (Qfm p5),rp [(.tmp 1,(.dptr [(.dptr [(.dat 5 (p0.map Qam)),(Qf7 p1),(Qfn p2),(Qf8 p3),(.dat 1 (p4.map Qab)),(Qfm p5),I p6] 0)] 0))] (.dptr [(.dat 5 (p0.map Qam)),(Qf7 p1),(Qfn p2),(Qf8 p3),(.dat 1 (p4.map Qab)),(Qfm p5),I p6] 0),mv 21 (.dptr [(.dat 5 (p0.map Qam)),(Qf7 p1),(Qfn p2),(Qf8 p3),(.dat 1 (p4.map Qab)),(Qfm p5),I p6] 0),mv 22 (.dptr [(.dat 5 (p0.map Qam)),(Qf7 p1),(Qfn p2),(Qf8 p3),(.dat 1 (p4.map Qab)),(Qfm p5),I p6] 0),rp [(.tmp 23,(.dptr [(.dat 5 (p0.map Qam)),(Qf7 p1),(Qfn p2),(Qf8 p3),(.dat 1 (p4.map Qab)),(Qfm p5),I p6] 0))] (Q9q p0 p1),rp [fu 57,(.tmp 24,(Q9q p0 p1)),(.const (.int .u8 1),(K .u8 (1)))] (.dat 1 (x7.map Qab)),rp [(.tmp 2,(.dptr [I p7] 0))] (I p7),rp [fu 157,(.tmp 25,(.dat 1 (x7.map Qab))),(.tmp 26,I p7)] (I x9),rp [(.tmp 20,(Qfm p5)),(.tmp 27,I x9)] (.dptr (Qac x10) 0),rp [(.tmp 28,(.dptr (Qac x10) 0))] (Q9p x10),⟨[(.tmp 16,(.lit (.func (.yield l) #[] #[]))),(.tmp 29,(Q9p x10))],[(0,(.far (J (some (x10::q14)))))],B true,[(0,(.far (J (some q14))))],false⟩] [mv 0 (.lit (.func (.yield l) #[] #[])),rp [(.tmp 1,(.dptr [(.dptr [(.dat 5 (p0.map Qam)),(Qf7 p1),(Qfn p2),(Qf8 p3),(.dat 1 (p4.map Qab)),(Qfm p5),I p6] 0)] 0))] (.dptr [(.dat 5 (p0.map Qam)),(Qf7 p1),(Qfn p2),(Qf8 p3),(.dat 1 (p4.map Qab)),(Qfm p5),I p6] 0),mv 17 (.dptr [(.dat 5 (p0.map Qam)),(Qf7 p1),(Qfn p2),(Qf8 p3),(.dat 1 (p4.map Qab)),(Qfm p5),I p6] 0),rp [(.tmp 18,(.dptr [(.dat 5 (p0.map Qam)),(Qf7 p1),(Qfn p2),(Qf8 p3),(.dat 1 (p4.map Qab)),(Qfm p5),I p6] 0))] (.dptr [(.dat 5 (p0.map Qam)),(Qf7 p1),(Qfn p2),(Qf8 p3),(.dat 1 (p4.map Qab)),(Qfm p5),I p6] 5),rp [(.tmp 19,(.dptr [(.dat 5 (p0.map Qam)),(Qf7 p1),(Qfn p2),(Qf8 p3),(.dat 1 (p4.map Qab)),(Qfm p5),I p6] 5))] (Qfm p5),rp [(.tmp 1,(.dptr [(.dptr [(.dat 5 (p0.map Qam)),(Qf7 p1),(Qfn p2),(Qf8 p3),(.dat 1 (p4.map Qab)),(Qfm p5),I p6] 0)] 0))] (.dptr [(.dat 5 (p0.map Qam)),(Qf7 p1),(Qfn p2),(Qf8 p3),(.dat 1 (p4.map Qab)),(Qfm p5),I p6] 0),mv 21 (.dptr [(.dat 5 (p0.map Qam)),(Qf7 p1),(Qfn p2),(Qf8 p3),(.dat 1 (p4.map Qab)),(Qfm p5),I p6] 0),mv 22 (.dptr [(.dat 5 (p0.map Qam)),(Qf7 p1),(Qfn p2),(Qf8 p3),(.dat 1 (p4.map Qab)),(Qfm p5),I p6] 0),rp [(.tmp 23,(.dptr [(.dat 5 (p0.map Qam)),(Qf7 p1),(Qfn p2),(Qf8 p3),(.dat 1 (p4.map Qab)),(Qfm p5),I p6] 0))] (Q9q p0 p1),rp [fu 57,(.tmp 24,(Q9q p0 p1)),(.const (.int .u8 1),(K .u8 (1)))] (.dat 1 (x7.map Qab)),rp [(.tmp 2,(.dptr [I p7] 0))] (I p7),rp [fu 157,(.tmp 25,(.dat 1 (x7.map Qab))),(.tmp 26,I p7)] (I x9),rp [(.tmp 20,(Qfm p5)),(.tmp 27,I x9)] (.dptr (Qac x10) 0),rp [(.tmp 28,(.dptr (Qac x10) 0))] (Q9p x10),⟨[(.tmp 16,(.lit (.func (.yield l) #[] #[]))),(.tmp 29,(Q9p x10))],[(0,(.far (J (some (x10::q14)))))],B false,[(0,(.far (J none)))],false⟩] (by exact⟨by kernel_rfl,by kernel_rfl⟩) (by exact⟨by kernel_rfl,by kernel_rfl⟩) rfl rfl rfl rfl (Qsy (rd':=(.tmp 16,.lit (.func (.yield l) #[] #[]))::[(.tmp 29,.lit (.agg #[(.int .i64 x10.Mass),(.int .i64 x10.Heat),(.int .i64 x10.Silica),(.int .i64 x10.Gas)]))]) ⟨rfl,lrf,rfl,(Less.lits [(.int .i64 x10.Mass),(.int .i64 x10.Heat),(.int .i64 x10.Silica),(.int .i64 x10.Gas)]),tv⟩ (Qqs (x:=x10) (rest:=q14) rfl rfl hy rfl)) (⟨fun _ _=>amv rfl,fun _ _=>ald_ rfl Qnj (by decide) (nle rfl) rfl,fun _ _=>anc rfl rfl,fun _ _=>afd rfl underlying119 rfl rfl ti51 (by decide) rfl,fun _ _=>ald_ rfl ti51 (by decide) (nle rfl) rfl,fun _ _=>ald_ rfl Qnj (by decide) (nle rfl) rfl,fun _ _=>anc rfl rfl,fun _ _=>afd rfl underlying119 rfl rfl ti39 (by decide) rfl,fun _ _=>ald_ rfl ti39 (by decide) (nle rfl) rfl,fun _ _=>apw Qsj (Qg4 N (⟨p0,p1⟩:GNet) 1 _ hf6),fun _ _=>ald_ rfl ti3 (by decide) (nle rfl) rfl,fun _ _=>apw Q19 (Qhw N x7 p7 _ hf8),fun _ _=>aiq underlying51 ti49 Qac hi12 hj13,fun _ _=>ald_ rfl ti49 (by decide) (nle rfl) rfl,fun _ h=>absurd rfl h,tv⟩) (⟨fun _ _=>amv rfl,fun _ _=>ald_ rfl Qnj (by decide) (nle rfl) rfl,fun _ _=>anc rfl rfl,fun _ _=>afd rfl underlying119 rfl rfl ti51 (by decide) rfl,fun _ _=>ald_ rfl ti51 (by decide) (nle rfl) rfl,fun _ _=>ald_ rfl Qnj (by decide) (nle rfl) rfl,fun _ _=>anc rfl rfl,fun _ _=>afd rfl underlying119 rfl rfl ti39 (by decide) rfl,fun _ _=>ald_ rfl ti39 (by decide) (nle rfl) rfl,fun _ _=>apw Qsj (Qg4 N (⟨p0,p1⟩:GNet) 1 _ hf6),fun _ _=>ald_ rfl ti3 (by decide) (nle rfl) rfl,fun _ _=>apw Q19 (Qhw N x7 p7 _ hf8),fun _ _=>aiq underlying51 ti49 Qac hi12 hj13,fun _ _=>ald_ rfl ti49 (by decide) (nle rfl) rfl,fun _ h=>absurd rfl h,tv⟩) ?_ ?_
   ·skip
    refine Qaf<|Qal ?_
    obtain rfl:=osi h
    exact Or.inl rfl
   ·clear h
    exact Qaf<|Qal<|Or.inr (by kernel_rfl)
  ·refine wfn hc5<|Qaq<|thn ?_
   refine wxd tbk [(6,rp _ _),(9,rp _ _)] ⟨aiq underlying37 Qi0 Qah hi3 hj4,alq 2 Qc2 x1.From underlying108,tv⟩<|Qar ?_
   refine wmr (mto (n:=62) (l':=[(0,(.lit (.func (.yield l) #[] #[]))),(1,(.dptr [(.dptr [(.dat 5 (p0.map Qam)),(Qf7 p1),(Qfn p2),(Qf8 p3),(.dat 1 (p4.map Qab)),(Qfm p5),I p6] 0)] 0)),(39,(Q9o x1)),(40,(I ((x1.From.length:Int)))),(41,I 0)]) (own':=[(.far (J (some r)))]) [(0,(.lit (.func (.yield l) #[] #[]))),(1,(.dptr [(.dptr [(.dat 5 (p0.map Qam)),(Qf7 p1),(Qfn p2),(Qf8 p3),(.dat 1 (p4.map Qab)),(Qfm p5),I p6] 0)] 0)),(39,(Q9o x1)),(40,(I ((x1.From.length:Int)))),(41,I 0)] [0] [(.far (J (some r)))] hq (pw (pc (.rn (.plain _ (NLt.dptr _ _ (nlc (NLt.dptr _ _ (nlc (nld Qap _) (nlc (nld Qae _) (nlc (nld Qan _) (nlc (nld Qbb _) (nlc (nld Qaj _) (nlc (nld Qak _) (nlc nll nl0)))))))) nl0)))) (pc (rnd Qf2) (pw (pw pn))))) (qc (.far _) qn)) ?_
   refine Qcn (τ:=(Int)×List Qaa) (fun n t=>Qc0 N x1 p2 n t.1=some t.2) (fun ⟨y15,q16⟩=>⟨mk 62 [(0,(.lit (.func (.yield l) #[] #[]))),(1,(.dptr [(.dptr [(.dat 5 (p0.map Qam)),(Qf7 p1),(Qfn p2),(Qf8 p3),(.dat 1 (p4.map Qab)),(Qfm p5),I p6] 0)] 0)),(39,(Q9o x1)),(40,(I ((x1.From.length:Int)))),(41,I y15)],[(.far (J (some q16)))]⟩) (fun t h=>by rw[Qc0] at h;cases h) (fun n19 ih t h=>?_) N ((0),r) h
   obtain⟨y15,q16⟩:=t
   rw[Qc0] at h
   try dsimp only at h
   refine wxz<|wsq ?_
   refine bfe h (fun hc20 h=>?_) fun hc20 h=>?_
   ·refine wft hc20<|Qaq<|thn<|wsq<|Qar ?_
    obtain⟨x21,hg22,h⟩:=bno h
    obtain⟨hi23,hj24⟩:=gsm hg22
    refine wx tbk [(0,rp _ _)] ⟨aiq underlying108 Qwg Qc2 hi23 hj24,tv⟩ ?_
    obtain⟨x25,hg26,h⟩:=bno h
    obtain⟨hi27,hj28⟩:=gsm hg26
    obtain⟨x29,hg30,h⟩:=bno h
    obtain⟨hi31,hj32⟩:=gsm hg30
    obtain⟨q33,hy_,hq_⟩:=Q52 h
    clear h
    subst hq_
    have h:=hy_
    clear hy_
    refine Qx1 14 [mv 0 (.lit (.func (.yield l) #[] #[])),rp [(.tmp 1,(.dptr [(.dptr [(.dat 5 (p0.map Qam)),(Qf7 p1),(Qfn p2),(Qf8 p3),(.dat 1 (p4.map Qab)),(Qfm p5),I p6] 0)] 0))] (.dptr [(.dat 5 (p0.map Qam)),(Qf7 p1),(Qfn p2),(Qf8 p3),(.dat 1 (p4.map Qab)),(Qfm p5),I p6] 0),mv 46 (.dptr [(.dat 5 (p0.map Qam)),(Qf7 p1),(Qfn p2),(Qf8 p3),(.dat 1 (p4.map Qab)),(Qfm p5),I p6] 0),rp [(.tmp 47,(.dptr [(.dat 5 (p0.map Qam)),(Qf7 p1),(Qfn p2),(Qf8 p3),(.dat 1 (p4.map Qab)),(Qfm p5),I p6] 0))] (.dptr [(.dat 5 (p0.map Qam)),(Qf7 p1),(Qfn p2),(Qf8 p3),(.dat 1 (p4.map Qab)),(Qfm p5),I p6] 2),mv 48 (.dptr [(.dat 5 (p0.map Qam)),(Qf7 p1),(Qfn p2),(Qf8 p3),(.dat 1 (p4.map Qab)),(Qfm p5),I p6] 2),rp [(.tmp 49,(.dptr [(.dat 5 (p0.map Qam)),(Qf7 p1),(Qfn p2),(Qf8 p3),(.dat 1 (p4.map Qab)),(Qfm p5),I p6] 2))] (Qfn p2),rb [(.tmp 5,.ref 1 2 0 0)] [(1,(Qqj x21))] (.ref 1 2 0 0),rb [(.tmp 51,.ref 1 2 0 0)] [(1,(Qqj x21))] (I x21.Element),rp [(.tmp 50,(Qfn p2)),(.tmp 52,I x21.Element)] (.dptr (Qag x25) 0),rp [(.tmp 53,(.dptr (Qag x25) 0))] (.dat 4 (x25.map Qac)),rb [(.tmp 5,.ref 1 2 0 0)] [(1,(Qqj x21))] (.ref 1 2 0 1),rb [(.tmp 55,.ref 1 2 0 1)] [(1,(Qqj x21))] (I x21.Outlet),rp [(.tmp 54,(.dat 4 (x25.map Qac))),(.tmp 56,I x21.Outlet)] (.dptr (Qac x29) 0),rp [(.tmp 57,(.dptr (Qac x29) 0))] (Q0l x29),⟨[(.tmp 45,(.lit (.func (.yield l) #[] #[]))),(.tmp 58,(Q0l x29))],[(0,(.far (J (some (x29::q33)))))],B true,[(0,(.far (J (some q33))))],false⟩,rp [(.tmp 59,B true)] (B false)] [mv 0 (.lit (.func (.yield l) #[] #[])),rp [(.tmp 1,(.dptr [(.dptr [(.dat 5 (p0.map Qam)),(Qf7 p1),(Qfn p2),(Qf8 p3),(.dat 1 (p4.map Qab)),(Qfm p5),I p6] 0)] 0))] (.dptr [(.dat 5 (p0.map Qam)),(Qf7 p1),(Qfn p2),(Qf8 p3),(.dat 1 (p4.map Qab)),(Qfm p5),I p6] 0),mv 46 (.dptr [(.dat 5 (p0.map Qam)),(Qf7 p1),(Qfn p2),(Qf8 p3),(.dat 1 (p4.map Qab)),(Qfm p5),I p6] 0),rp [(.tmp 47,(.dptr [(.dat 5 (p0.map Qam)),(Qf7 p1),(Qfn p2),(Qf8 p3),(.dat 1 (p4.map Qab)),(Qfm p5),I p6] 0))] (.dptr [(.dat 5 (p0.map Qam)),(Qf7 p1),(Qfn p2),(Qf8 p3),(.dat 1 (p4.map Qab)),(Qfm p5),I p6] 2),mv 48 (.dptr [(.dat 5 (p0.map Qam)),(Qf7 p1),(Qfn p2),(Qf8 p3),(.dat 1 (p4.map Qab)),(Qfm p5),I p6] 2),rp [(.tmp 49,(.dptr [(.dat 5 (p0.map Qam)),(Qf7 p1),(Qfn p2),(Qf8 p3),(.dat 1 (p4.map Qab)),(Qfm p5),I p6] 2))] (Qfn p2),rb [(.tmp 5,.ref 1 2 0 0)] [(1,(Qqj x21))] (.ref 1 2 0 0),rb [(.tmp 51,.ref 1 2 0 0)] [(1,(Qqj x21))] (I x21.Element),rp [(.tmp 50,(Qfn p2)),(.tmp 52,I x21.Element)] (.dptr (Qag x25) 0),rp [(.tmp 53,(.dptr (Qag x25) 0))] (.dat 4 (x25.map Qac)),rb [(.tmp 5,.ref 1 2 0 0)] [(1,(Qqj x21))] (.ref 1 2 0 1),rb [(.tmp 55,.ref 1 2 0 1)] [(1,(Qqj x21))] (I x21.Outlet),rp [(.tmp 54,(.dat 4 (x25.map Qac))),(.tmp 56,I x21.Outlet)] (.dptr (Qac x29) 0),rp [(.tmp 57,(.dptr (Qac x29) 0))] (Q0l x29),⟨[(.tmp 45,(.lit (.func (.yield l) #[] #[]))),(.tmp 58,(Q0l x29))],[(0,(.far (J (some (x29::q33)))))],B false,[(0,(.far (J none)))],false⟩,rp [(.tmp 59,B false)] (B true)] (by exact⟨by kernel_rfl,by kernel_rfl⟩) (by exact⟨by kernel_rfl,by kernel_rfl⟩) rfl rfl rfl rfl (Qsy (rd':=(.tmp 45,.lit (.func (.yield l) #[] #[]))::[(.tmp 58,.lit (.agg #[(.int .i64 x29.Mass),(.int .i64 x29.Heat),(.int .i64 x29.Silica),(.int .i64 x29.Gas)]))]) ⟨rfl,lrf,rfl,(Less.lits [(.int .i64 x29.Mass),(.int .i64 x29.Heat),(.int .i64 x29.Silica),(.int .i64 x29.Gas)]),tv⟩ (Qqs (x:=x29) (rest:=q33) rfl rfl hy rfl)) (⟨fun _ _=>amv rfl,fun _ _=>ald_ rfl Qnj (by decide) (nle rfl) rfl,fun _ _=>anc rfl rfl,fun _ _=>afd rfl underlying119 rfl rfl ti45 (by decide) rfl,fun _ _=>afd rfl underlying45 rfl rfl ti42 (by decide) rfl,fun _ _=>ald_ rfl ti42 (by decide) (nle rfl) rfl,fun _ _=>afa rfl underlying112 rfl rfl ti3 (by decide) rfl,fun _ _=>ald rfl ti3 (by decide) rfl (nle rfl) rfl,fun _ _=>aiq underlying42 ti51 Qag hi27 hj28,fun _ _=>ald_ rfl ti51 (by decide) (nle rfl) rfl,fun _ _=>afa rfl underlying112 rfl rfl ti3 (by decide) rfl,fun _ _=>ald rfl ti3 (by decide) rfl (nle rfl) rfl,fun _ _=>aiq underlying51 ti49 Qac hi31 hj32,fun _ _=>ald_ rfl ti49 (by decide) (nle rfl) rfl,fun _ h=>absurd rfl h,fun _ _=>Qst rfl,tv⟩) (⟨fun _ _=>amv rfl,fun _ _=>ald_ rfl Qnj (by decide) (nle rfl) rfl,fun _ _=>anc rfl rfl,fun _ _=>afd rfl underlying119 rfl rfl ti45 (by decide) rfl,fun _ _=>afd rfl underlying45 rfl rfl ti42 (by decide) rfl,fun _ _=>ald_ rfl ti42 (by decide) (nle rfl) rfl,fun _ _=>afa rfl underlying112 rfl rfl ti3 (by decide) rfl,fun _ _=>ald rfl ti3 (by decide) rfl (nle rfl) rfl,fun _ _=>aiq underlying42 ti51 Qag hi27 hj28,fun _ _=>ald_ rfl ti51 (by decide) (nle rfl) rfl,fun _ _=>afa rfl underlying112 rfl rfl ti3 (by decide) rfl,fun _ _=>ald rfl ti3 (by decide) rfl (nle rfl) rfl,fun _ _=>aiq underlying51 ti49 Qac hi31 hj32,fun _ _=>ald_ rfl ti49 (by decide) (nle rfl) rfl,fun _ h=>absurd rfl h,fun _ _=>Qst rfl,tv⟩) ?_ ?_
    ·skip
     exact wfa<|Qaq<|bln<|thn<|wxz1<|thn<|arm (mto (n:=62) [(0,(.lit (.func (.yield l) #[] #[]))),(1,(.dptr [(.dptr [(.dat 5 (p0.map Qam)),(Qf7 p1),(Qfn p2),(Qf8 p3),(.dat 1 (p4.map Qab)),(Qfm p5),I p6] 0)] 0)),(39,(Q9o x1)),(40,(I ((x1.From.length:Int)))),(41,(I (w64 (y15+1))))] [0] [(.far (J (some q33)))] hq (pw (pc (.rn (.plain _ (NLt.dptr _ _ (nlc (NLt.dptr _ _ (nlc (nld Qap _) (nlc (nld Qae _) (nlc (nld Qan _) (nlc (nld Qbb _) (nlc (nld Qaj _) (nlc (nld Qak _) (nlc nll nl0)))))))) nl0)))) (pc (rnd Qf2) (pw (pw pn))))) (qc (.far _) qn)) (ih ((w64 (y15+1)),q33) h)
    ·clear h
     exact wtr<|Qaf<|Qat<|Qal<|Qal<|Qat<|Or.inr (by kernel_rfl)
   ·refine wfn hc20<|Qbl<|Qaz<|Qaz<|Qbk rfl ?_
    obtain rfl:=osi h
    exact Or.inl rfl
def Qau (N:Nat) (k3:(List Qaa)→Option (List Qaa)):(List Qaa)→(List Qaa)→Option (List Qaa)
  |[],y6=>
    k3 (y6)
  |x9::q10,y6=>
    chk (decide ((y6.length+([x9]).length)*32≤140737488355328))<|
    Qau N k3 q10 (y6++([x9]))
def Qb3 (N:Nat) (p0:List GRow) (p1:List Qad) (p2:List (List Qaa)) (p3:List Qa9) (p4:List Int) (p5:List Qaa) (p6 p7:Int):Option (List Qaa):=
  Qcf (fun y2=>
    some y2) fun k3:(List Qaa)→Option (List Qaa)=>
  (Qgb N p0 p1 p2 p3 p4 p5 p6 p7).bind fun q4=>
  Qau N k3 q4 ([])
abbrev Zep (p0:List GRow) (p1:List Qad) (p2:List (List Qaa)) (p3:List Qa9) (p4:List Int) (p5:List Qaa) (p6 p7:Int):AV:=.fn (.func 156) [] [(.dptr [(.dptr [(.dat 5 (p0.map Qam)),(.dat 7 (p1.map Qah)),(.dat 1 (p2.map Qag)),(.dat 4 (p3.map Qav)),(.dat 1 (p4.map Qab)),(.dat 4 (p5.map Qac)),(I p6)] 0)] 0),(.dptr [(I p7)] 0)]
def Zc7 (x9:Qaa):AV:=.agg [(I x9.Mass),(I x9.Heat),(I x9.Silica),(I x9.Gas)]
theorem Qfx (N:Nat) (p0:List GRow) (p1:List Qad) (p2:List (List Qaa)) (p3:List Qa9) (p4:List Int) (p5:List Qaa) (p6 p7:Int) (r:List Qaa) (h:Qb3 N p0 p1 p2 p3 p4 p5 p6 p7=some r):Spec prog 155 [nilS,(Zep p0 p1 p2 p3 p4 p5 p6 p7)] [] (.acc 0 49 4 (r.map Qac)) [.tok]:=by
  refine sF func155 1 fun _ _ _ hq hd0=>?_
  unfold Qb3 at h
  refine wxz ?_
  obtain⟨k3,hk_k3,h⟩:=jko h
  refine wjn (τ:=(List Qaa)) (fun t=>k3 t=some r) (fun y2=>⟨mk 13 [(2,.ref 0 1 0 0)],[(.own 1 [[(.acc 1 49 4 (y2.map Qac))]]),.tok]⟩) (fun y2 h=>?_) ?_
  ·subst hk_k3
   refine wxz<|wmr (mto (n:=13) (l':=[(4,(.acc 0 49 4 (y2.map Qac)))]) (own':=[.tok]) [(4,(.acc 1 49 4 (y2.map Qac)))] [1] [.tok] hq (pc (.rn (Qe4 rfl (Qdy Qak _))) pn) (qc .tok qn))<|Qaf ?_
   obtain rfl:=osi h
   exact⟨_,Mor.rfl,fio [(.acc 0 49 4 (y2.map Qac))] ⟨rot,tv⟩⟩
  ·skip
   refine wxz<|Qar ?_
   obtain⟨q4,hL5,h⟩:=bno h
   refine wmr (mto (n:=13) (l':=[(2,.ref 0 1 0 0),(6,(Zep p0 p1 p2 p3 p4 p5 p6 p7))]) (own':=[(.own 1 [[nilS]])]) [(2,.ref 0 1 0 0),(6,(Zep p0 p1 p2 p3 p4 p5 p6 p7))] [0] [(.own 1 [[nilS]])] hq (prr (pc (.rn (Qa4 rn0 (rnc (.plain _ (NLt.dptr _ _ (nlc (NLt.dptr _ _ (nlc (nld Qap _) (nlc (nld Qae _) (nlc (nld Qan _) (nlc (nld Qbb _) (nlc (nld Qaj _) (nlc (nld Qak _) (nlc nll nl0)))))))) nl0))) (rnc (.plain _ (NLt.dptr _ _ (nlc nll nl0))) rn0)))) pn)) (qb (lc rwl ln) qn)) ?_
   refine wmr (Zay (n:=1) (ty:=49) (m:=4) (q:=0) (mq:=1) (c:=[nilS]) 0 (by kernel_rfl) (by kernel_rfl) (by kernel_rfl) (by decide)) ?_
   refine Q32 (τ:=((List Qaa))) (kb:=1) (caps:=[(.dptr [(.dptr [(.dat 5 (p0.map Qam)),(.dat 7 (p1.map Qah)),(.dat 1 (p2.map Qag)),(.dat 4 (p3.map Qav)),(.dat 1 (p4.map Qab)),(.dat 4 (p5.map Qac)),I p6] 0)] 0),(.dptr [I p7] 0)]) (σr:=[]) (encs:=fun x=>[(.agg #[(.int .i64 x.Mass),(.int .i64 x.Heat),(.int .i64 x.Silica),(.int .i64 x.Gas)])]) (fun x=>[(.agg [I x.Mass,I x.Heat,I x.Silica,I x.Gas])]) [] (fun n hn=>hq n (Nat.le_trans (nle rfl) hn)) hd0 (Qnl N p0 p1 p2 p3 p4 p5 p6 p7 _ hL5) Zbo (by kernel_rfl) (by kernel_rfl) (Qbi (rnc (.plain _ (NLt.dptr _ _ (nlc (NLt.dptr _ _ (nlc (nld Qap _) (nlc (nld Qae _) (nlc (nld Qan _) (nlc (nld Qbb _) (nlc (nld Qaj _) (nlc (nld Qak _) (nlc nll nl0)))))))) nl0))) (rnc (.plain _ (NLt.dptr _ _ (nlc nll nl0))) rn0))) Qao (by kernel_rfl) (fun _=>rfl) (fun x=>⟨(Less.unlits [(.int .i64 x.Mass),(.int .i64 x.Heat),(.int .i64 x.Silica),(.int .i64 x.Gas)]),tv⟩) (Zjo (Q1o (NLt.ref _ _ _ _ (by decide)) (Q1o (NLt.of0 (NLt.fn _ _ _ nl0 (nlc (NLt.dptr _ _ (nlc (NLt.dptr _ _ (nlc (nld Qap _) (nlc (nld Qae _) (nlc (nld Qan _) (nlc (nld Qbb _) (nlc (nld Qaj _) (nlc (nld Qak _) (nlc nll nl0)))))))) nl0)) (nlc (NLt.dptr _ _ (nlc nll nl0)) nl0)))) Zf3))) (fun y6=>[(.own 1 [[(.acc 1 49 4 (y6.map Qac))]]),.tok]) (fun _=>rfl) (fun _=>rfl) (fun l t=>Qau N k3 l t=some r) ([]) h (by kernel_rfl) ?_ ?_
   ·intro l11 o12 X15 φ16 w17 hφ14 x9 q10 y6 h
    rw[Qau] at h
    refine wxz1 ?_
    refine⟨by kernel_rfl,fun o13=>?_⟩
    refine Qar ?_
    obtain⟨ha18,h⟩:=cko h
    refine wx1 tbk [(2,rp [(.tmp 9,(Zc7 x9))] (.dat 4 (([x9]:List Qaa).map Qac))),(3,⟨[(.tmp 8,(.acc 1 49 4 (y6.map Qac))),(.tmp 10,(.dat 4 (([x9]:List Qaa).map Qac)))],[(1,.tok),(4,.unused)],(.acc 4 49 4 ((y6++([x9]):List Qaa).map Qac)),[(1,.dead),(4,.tok)],false⟩)] ⟨Qbp (vs:=[(Zc7 x9)]) rfl underlying51 ti49 tz49 rfl (by decide) rfl (by decide) (by rfl) (by rfl) (by rfl) rfl,Qf4 rfl underlying51 te49 (Base.acc _ _) rfl rfl (by rfl) (Qis Qac ha18) (Qir Qac ha18 (by decide)) (Qiq Qac) rfl rfl,tv⟩<|bln ?_
    exact⟨(y6++([x9])),h,Zjh (own':=[(.own 1 [[(.acc 1 49 4 (((y6++([x9])):List Qaa).map Qac))]]),.tok,(.far (farL l11 o13))]) [0,4,2] [(.own 1 [[(.acc 4 49 4 ((y6++([x9]):List Qaa).map Qac))]]),.tok,(.far (farL l11 o13))] (by kernel_rfl) (by kernel_rfl) ⟨(spb (lc (.rn (Qe4 rfl (Qdy Qak _))) ln)),.tok,.far _,tv⟩⟩
   ·intro y6 h
    rw[Qau] at h
    exact bln<|thn<|⟨(y6),h,(mto (n:=13) [(2,.ref 0 1 0 0)] [0,1] [(.own 1 [[(.acc 1 49 4 (y6.map Qac))]]),.tok] hq (prr pn) (qb (lc (.rn (Qe4 rfl (Qdy Qak _))) ln) (qc .tok qn)))⟩
def Qbq (N:Nat) (p0:List GRow) (p1:List Qad) (p2:List (List Qaa)) (p3:List Qa9) (p4:List Int) (p5:List Qaa) (p6 p7:Int):Option (List Qaa):=
  (Qb3 N p0 p1 p2 p3 p4 p5 p6 p7).bind fun x3=>
  some x3
abbrev Zhv (p0:List GRow) (p1:List Qad) (p2:List (List Qaa)) (p3:List Qa9) (p4:List Int) (p5:List Qaa) (p6 p7:Int):AV:=.fn (.func 156) [] [(.dptr [(.dptr [(.dat 5 (p0.map Qam)),(.dat 7 (p1.map Qah)),(.dat 1 (p2.map Qag)),(.dat 4 (p3.map Qav)),(.dat 1 (p4.map Qab)),(.dat 4 (p5.map Qac)),(I p6)] 0)] 0),(.dptr [(I p7)] 0)]
def Q9r (x3:List Qaa):AV:=.acc 0 49 4 (x3.map Qac)
theorem Qh9 (N:Nat) (p0:List GRow) (p1:List Qad) (p2:List (List Qaa)) (p3:List Qa9) (p4:List Int) (p5:List Qaa) (p6 p7:Int) (r:List Qaa) (h:Qbq N p0 p1 p2 p3 p4 p5 p6 p7=some r):Spec prog 127 [(Zhv p0 p1 p2 p3 p4 p5 p6 p7)] [] (.acc 0 49 4 (r.map Qac)) [.tok]:=by
  refine sF func127 1 fun _ _ _ hq hd0=>?_
  unfold Qbq at h
  refine wxz ?_
  obtain⟨x3,hf2,h⟩:=bno h
  refine wx tbk [(1,⟨_,_,_,_,false⟩)] ⟨acq [nilS,(Zhv p0 p1 p2 p3 p4 p5 p6 p7)] [] [.tok] (Q9r x3) [0] Zbp (Qfx N p0 p1 p2 p3 p4 p5 p6 p7 _ hf2) (Qbi (rnc (.plain _ nll) (rnc (.plain _ (NLt.fn _ _ _ nl0 (nlc (NLt.dptr _ _ (nlc (NLt.dptr _ _ (nlc (nld Qap _) (nlc (nld Qae _) (nlc (nld Qan _) (nlc (nld Qbb _) (nlc (nld Qaj _) (nlc (nld Qak _) (nlc nll nl0)))))))) nl0)) (nlc (NLt.dptr _ _ (nlc nll nl0)) nl0)))) rn0))) Qao (slc .tok Qao) (Q6s rfl (Qdy Qak _)),tv⟩ ?_
  refine wmr (mto (n:=5) (l':=[(2,(Q9r x3))]) (own':=[.tok]) [(2,(Q9r x3))] [0] [.tok] hq (pc (.rn (Qe4 rfl (Qdy Qak _))) pn) (qc .tok qn))<|Qaf ?_
  obtain rfl:=osi h
  exact⟨_,Mor.rfl,fio [(Q9r x3)] ⟨rot,tv⟩⟩
def Qe8 (_N:Nat) (_p0:Int) (p1:Qaa) (_p2:List GRow) (_p3:List Qad) (_p4 _p5 _p6:Nat) (_p7:List Qaa) (_p8:Int) (_p9:List (List Qaa)) (_p10:List Qa9) (_p11:List Int):Option (List Qaa):=
  some ([p1])
abbrev Zeo (p1:Qaa):AV:=.agg [(I p1.Mass),(I p1.Heat),(I p1.Silica),(I p1.Gas)]
abbrev Q9m (p2:List GRow) (p3:List Qad) (p4 p5 p6:Nat) (p7:List Qaa) (p8:Int):Slot:=.own 7 [[(.dat 5 (p2.map Qam)),(.dat 7 (p3.map Qah)),(.own 1 1 (0) p4),(.own 2 4 (0) p5),(.own 3 1 (0) p6),(.dat 4 (p7.map Qac)),(I p8)]]
def Q9n (p1:Qaa):AV:=.dat 4 (([p1]:List Qaa).map Qac)
theorem Qhg (N:Nat) (p0:Int) (p1:Qaa) (p2:List GRow) (p3:List Qad) (p4 p5 p6:Nat) (p7:List Qaa) (p8:Int) (p9:List (List Qaa)) (p10:List Qa9) (p11:List Int) (r:List Qaa) (h:Qe8 N p0 p1 p2 p3 p4 p5 p6 p7 p8 p9 p10 p11=some r):Spec prog 129 [(.ref 0 7 (0) 0),(I p0),(Zeo p1)] [(Q9m p2 p3 p4 p5 p6 p7 p8),(.own 1 (p9.map Qag)),(.own 4 (p10.map Qav)),(.own 1 (p11.map Qab))] (.dat 4 (r.map Qac)) [(Q9m p2 p3 p4 p5 p6 p7 p8),(.own 1 (p9.map Qag)),(.own 4 (p10.map Qav)),(.own 1 (p11.map Qab))]:=by
  refine sF func129 4 fun _ _ _ hq hd0=>?_
  unfold Qe8 at h
  refine wxz<|wx tbk [(1,rp [(.tmp 7,(Zeo p1))] (Q9n p1))] ⟨Qbp (vs:=[(Zeo p1)]) rfl underlying51 ti49 tz49 rfl (by decide) rfl (by decide) (by rfl) (by rfl) (by rfl) rfl,tv⟩ ?_
  refine wmr (mto (n:=9) (l':=[(6,(Q9n p1))]) (own':=[(Q9m p2 p3 p4 p5 p6 p7 p8),(.own 1 (p9.map Qag)),(.own 4 (p10.map Qav)),(.own 1 (p11.map Qab))]) [(6,(Q9n p1))] [0,1,2,3] [(Q9m p2 p3 p4 p5 p6 p7 p8),(.own 1 (p9.map Qag)),(.own 4 (p10.map Qav)),(.own 1 (p11.map Qab))] hq (pc (rnd Qak) pn) (qb (lc (rnd Qap) (lc (rnd Qae) (lc (.rn (Qay rfl)) (lc (.rn (Qay rfl)) (lc (.rn (Qay rfl)) (lc (rnd Qak) (lc rwl ln))))))) (qc (spr Qan) (qc (spr Qbb) (qc (spr Qaj) qn)))))<|Qaf ?_
  obtain rfl:=osi h
  exact⟨_,Mor.rfl,fio [(Q9n p1)] ⟨rot,tv⟩⟩
def Qhd (_N:Nat) (p0:Int) (p1:Qaa) (_p2:List GRow) (p3:List Qad) (_p4 p5 _p6:Nat) (_p7:List Qaa) (_p8:Int) (_p9:List (List Qaa)) (p10:List Qa9) (_p11:List Int):Option ((List Qaa)×(List Qa9)):=
  (getI p3 p0).bind fun x3=>
  (some (if p1.Heat<x3.Amount then p1.Heat else x3.Amount)).bind fun x7=>
  chk (decide (0≤p0)&&decide (p0.toNat<p5))<|
  (p10[p0.toNat]?).bind fun x10=>
  some ([(⟨p1.Mass,w64 (p1.Heat-x7),p1.Silica,p1.Gas⟩:Qaa)],p10.set p0.toNat (⟨x7,x10.Silica,x10.Gas,x10.Scale⟩:Qa9))
abbrev Q2z (p2:List GRow) (p3:List Qad) (p4 p5 p6:Nat) (p7:List Qaa) (p8:Int):Slot:=.own 7 [[(.dat 5 (p2.map Qam)),(.dat 7 (p3.map Qah)),(.own 1 1 (0) p4),(.own 2 4 (0) p5),(.own 3 1 (0) p6),(.dat 4 (p7.map Qac)),(I p8)]]
def Zc6 (p1:Qaa) (x7:Int):AV:=.agg [(I p1.Mass),(I (w64 (p1.Heat-x7))),(I p1.Silica),(I p1.Gas)]
def Q0k (p1:Qaa) (x7:Int):AV:=.dat 4 (([(⟨p1.Mass,w64 (p1.Heat-x7),p1.Silica,p1.Gas⟩:Qaa)]:List Qaa).map Qac)
theorem Qnn (N:Nat) (p0:Int) (p1:Qaa) (p2:List GRow) (p3:List Qad) (p4 p5 p6:Nat) (p7:List Qaa) (p8:Int) (p9:List (List Qaa)) (p10:List Qa9) (p11:List Int) (r:((List Qaa)×(List Qa9))) (h:Qhd N p0 p1 p2 p3 p4 p5 p6 p7 p8 p9 p10 p11=some r):Spec prog 130 [(.ref 0 7 (0) 0),(I p0),(.agg [(I p1.Mass),(I p1.Heat),(I p1.Silica),(I p1.Gas)])] [(Q2z p2 p3 p4 p5 p6 p7 p8),(.own 1 (p9.map Qag)),(.own 4 (p10.map Qav)),(.own 1 (p11.map Qab))] (.dat 4 (r.1.map Qac)) [(Q2z p2 p3 p4 p5 p6 p7 p8),(.own 1 (p9.map Qag)),(.own 4 (r.2.map Qav)),(.own 1 (p11.map Qab))]:=by
  refine sF func130 4 fun _ _ _ hq hd0=>?_
  unfold Qhd at h
  refine wxz ?_
  obtain⟨x3,hg4,h⟩:=bno h
  obtain⟨hi5,hj6⟩:=gsm hg4
  obtain⟨x7,hl8,h⟩:=bno h
  refine wxd tbk [(1,rb [(.tmp 8,.ref 0 7 0 0)] [(0,(Q2z p2 p3 p4 p5 p6 p7 p8))] (.ref 0 7 0 0)),(6,rp _ _),(11,rp [(.tmp 16,I x3.Amount),(.tmp 18,I p1.Heat)] (I ((if p1.Heat<x3.Amount then p1.Heat else x3.Amount)))),(12,rp [(.tmp 19,(I ((if p1.Heat<x3.Amount then p1.Heat else x3.Amount))))] (I x7))] ⟨Qbd rfl,aiq underlying37 Qi0 Qah hi5 hj6,Qpn rfl,Qkh hl8 (aas rfl),tv⟩ ?_
  obtain⟨hi9,h⟩:=cko h
  obtain⟨hi9a,hi9b⟩:=Qd0 hi9
  obtain⟨x10,hg11,h⟩:=bno h
  refine wx tbk [(1,rb [(.tmp 20,.ref 0 7 0 0)] [(0,(Q2z p2 p3 p4 p5 p6 p7 p8))] (.ref 0 7 0 0)),(7,rb [(.tmp 24,(.own 2 4 (0) p5)),(.tmp 25,I p0)] [(2,(.own 4 (p10.map Qav)))] (.ref 2 4 p0.toNat 0)),(9,⟨[(.tmp 28,(.ref 2 4 p0.toNat 0)),(.tmp 26,I x7)],[(2,(.own 4 (p10.map Qav)))],.any,[(2,(.own 4 ((p10.set p0.toNat (⟨x7,x10.Silica,x10.Gas,x10.Scale⟩:Qa9):List Qa9).map Qav)))],false⟩)] ⟨Qbd rfl,aio rfl underlying43 ti64 (odt hi9a) (odt hi9b) (Nat.zero_add _),ast rfl ti3 (by rfl) (mgt Qav hg11) (nle rfl) (Qf5 Qav rfl),tv⟩<|wxz ?_
  refine wx tbk [(1,rp [(.tmp 34,(Zc6 p1 x7))] (Q0k p1 x7))] ⟨Qbp (vs:=[(Zc6 p1 x7)]) rfl underlying51 ti49 tz49 rfl (by decide) rfl (by decide) (by rfl) (by rfl) (by rfl) rfl,tv⟩ ?_
  refine wmr (mto (n:=36) (l':=[(6,(Q0k p1 x7))]) (own':=[(Q2z p2 p3 p4 p5 p6 p7 p8),(.own 1 (p9.map Qag)),(.own 4 (((p10.set p0.toNat (⟨x7,x10.Silica,x10.Gas,x10.Scale⟩:Qa9)):List Qa9).map Qav)),(.own 1 (p11.map Qab))]) [(6,(Q0k p1 x7))] [0,1,2,3] [(Q2z p2 p3 p4 p5 p6 p7 p8),(.own 1 (p9.map Qag)),(.own 4 ((p10.set p0.toNat (⟨x7,x10.Silica,x10.Gas,x10.Scale⟩:Qa9):List Qa9).map Qav)),(.own 1 (p11.map Qab))] hq (pc (rnd Qak) pn) (qb (lc (rnd Qap) (lc (rnd Qae) (lc (.rn (Qay rfl)) (lc (.rn (Qay rfl)) (lc (.rn (Qay rfl)) (lc (rnd Qak) (lc rwl ln))))))) (qc (spr Qan) (qc (spr Qbb) (qc (spr Qaj) qn)))))<|Qaf ?_
  obtain rfl:=osi h
  exact⟨_,Mor.rfl,fio [(Q0k p1 x7)] ⟨rot,tv⟩⟩
def Qho (N:Nat) (p0:List GRow) (p1:Int):Option Bool:=
  (Qcz N p1 0 (w64 ((p0.length:Int)-1))).bind fun x2=>
  some x2
theorem Qn4 (N:Nat) (p0:List GRow) (p1:Int) (r:Bool) (h:Qho N p0 p1=some r):Spec prog 165 [(.dat 5 (p0.map Qam)),(I p1)] [] (B r) []:=by
  refine sA func165 0 fun _ _ _ hq hd0=>?_
  unfold Qho at h
  refine wxz ?_
  obtain⟨x2,hf1,h⟩:=bno h
  exact wx tbk [(2,rp _ _),(4,rp _ _)] ⟨alq 5 Qam p0 underlying36,apw Qkf (Qc3 N p1 0 (w64 ((p0.length:Int)-1)) _ hf1),tv⟩<|Qaf<|frb h
def Qf9 (_N:Nat) (p0:List GRow) (p1:Int):Option Qjp:=
  (getI p0 p1).bind fun x1=>
  some (⟨x1⟩:Qjp)
def Zem (x1:GRow):AV:=.agg [(I x1.T),(I x1.P),(I x1.Liquid),(I x1.Vapour),(I x1.Silica)]
theorem Qky (N:Nat) (p0:List GRow) (p1:Int) (r:Qjp) (h:Qf9 N p0 p1=some r):Spec prog 52 [(.dat 5 (p0.map Qam)),(I p1)] [] (.agg (Qpj r)) []:=by
  refine sA func52 0 fun _ _ _ hq hd0=>?_
  unfold Qf9 at h
  refine wxz ?_
  obtain⟨x1,hg2,h⟩:=bno h
  obtain⟨hi3,hj4⟩:=gsm hg2
  refine wx tbk [(2,rp _ _),(4,mv 8 (Zem x1))] ⟨aiq underlying36 Qqx Qam hi3 hj4,Qa8 (vs:=[(Zem x1)]) rfl Zkx Zi1 rfl (by rfl) rfl,tv⟩<|Qaf ?_
  obtain rfl:=osi h
  exact fie [(Zem x1)] ⟨Qb7 (n:=0) (m:=5) (j:=0) (i:=0) (xs:=[[I x1.T,I x1.P,I x1.Liquid,I x1.Vapour,I x1.Silica]]) (by kernel_rfl) (by kernel_rfl) Zi8 (by decide) rfl (nle rfl) rfl,tv⟩
def Qfq (_N:Nat) (p0:Qjp) (p1:Qaa):Option Int:=
  (some (w64 (p1.Heat-(w64 (p1.Mass*p0.Row.Liquid))))).bind fun x1=>
  bif (decide (x1≤0)) then
   some 0
  else
   bif (decide (p1.Heat≥(w64 (p1.Mass*p0.Row.Vapour)))) then
    some p1.Mass
   else
    chk ((w64 (p0.Row.Vapour-p0.Row.Liquid)) != 0)<|
    (some (w64 (x1.tdiv (w64 (p0.Row.Vapour-p0.Row.Liquid))))).bind fun x6=>
    some x6
theorem Qmq (N:Nat) (p0:Qjp) (p1:Qaa) (r:Int) (h:Qfq N p0 p1=some r):Spec prog 96 [(.agg (Qpj p0)),(.agg (Qac p1))] [] (I r) []:=by
  refine sA func96 0 fun _ _ _ hq hd0=>?_
  unfold Qfq at h
  refine wxz ?_
  obtain⟨x1,hl2,h⟩:=bno h
  refine wx tbk [(9,rp [(.tmp 14,(I (w64 (p1.Heat-(w64 (p1.Mass*p0.Row.Liquid))))))] (I x1))] ⟨Qkh hl2 (aas rfl),tv⟩<|wsq<|Qar<|wxz ?_
  refine bfe h (fun hc3 h=>?_) fun hc3 h=>?_
  ·refine wft hc3<|wxz<|Qaf<|Qat<|Qal ?_
   obtain rfl:=osi h
   exact fend ⟨[I 0],⟨rot,tv⟩,rfl⟩ nll
  ·refine wfn hc3<|wxz ?_
   refine bfe h (fun hc4 h=>?_) fun hc4 h=>?_
   ·refine wft hc4<|wxz<|Qaf<|Qat<|Qal ?_
    obtain rfl:=osi h
    exact fend ⟨[I p1.Mass],⟨rot,tv⟩,rfl⟩ nll
   ·refine wfn hc4<|Qaq<|bln<|thn ?_
    obtain⟨hz5,h⟩:=cko h
    obtain⟨x6,hl7,h⟩:=bno h
    refine wx tbk [(8,rp [(.tmp 30,I x1),(.tmp 37,(I (w64 (p0.Row.Vapour-p0.Row.Liquid))))] (I (w64 (x1.tdiv (w64 (p0.Row.Vapour-p0.Row.Liquid)))))),(9,rp [(.tmp 38,(I (w64 (x1.tdiv (w64 (p0.Row.Vapour-p0.Row.Liquid))))))] (I x6))] ⟨Qpm rfl (Qqf hz5),Qkh hl7 (aas rfl),tv⟩<|Qaf ?_
    obtain rfl:=osi h
    exact fend ⟨[I x6],⟨rot,tv⟩,rfl⟩ nll
def Qfa (N:Nat) (p0:Qjp) (p1:Qaa):Option Qgv:=
  (Qfq N (⟨(⟨p0.Row.T,p0.Row.P,p0.Row.Liquid,p0.Row.Vapour,p0.Row.Silica⟩:GRow)⟩:Qjp) p1).bind fun x2=>
  Qcf (fun ⟨y3,y4,y5,y6,y7,_,y9⟩=>
    (some (if (w64 (y6*p0.Row.Silica))<p1.Silica then w64 (y6*p0.Row.Silica) else p1.Silica)).bind fun x11=>
    bif (decide (y6>0)) then
     (some (if (w64 (y7-(w64 (y6*p0.Row.Liquid))))>0 then w64 (y7-(w64 (y6*p0.Row.Liquid))) else 0)).bind fun x14=>
     some (⟨(⟨y3,y4,0,y5⟩:Qaa),(⟨y6,y7,x11,y9⟩:Qaa),x14,w64 (p1.Silica-x11)⟩:Qgv)
    else
     some (⟨(⟨y3,y4,0,y5⟩:Qaa),(⟨y6,y7,x11,y9⟩:Qaa),0,w64 (p1.Silica-x11)⟩:Qgv)) fun k10:Int×Int×Int×Int×Int×Int×Int→Option Qgv=>
  bif (x2==0) then
   k10 (0,0,0,p1.Mass,p1.Heat,p1.Silica,p1.Gas)
  else
   bif (x2==p1.Mass) then
    k10 (x2,p1.Heat,p1.Gas,0,0,0,0)
   else
    k10 (x2,w64 (x2*p0.Row.Vapour),p1.Gas,w64 (p1.Mass-x2),w64 (p1.Heat-(w64 (x2*p0.Row.Vapour))),0,0)
def Q9l (p0:Qjp):Slot:=.own 5 [[(I p0.Row.T),(I p0.Row.P),(I p0.Row.Liquid),(I p0.Row.Vapour),(I p0.Row.Silica)]]
def Q9k (p1:Qaa):Slot:=.own 4 [[(I p1.Mass),(I p1.Heat),(I p1.Silica),(I p1.Gas)]]
theorem Qkx (N:Nat) (p0:Qjp) (p1:Qaa) (r:Qgv) (h:Qfa N p0 p1=some r):Spec prog 53 [(.agg (Qpj p0)),(.agg (Qac p1))] [] (.agg (Qq8 r)) []:=by
  refine sA func53 0 fun _ _ _ hq hd0=>?_
  unfold Qfa at h
  refine wxz ?_
  obtain⟨x2,hf1,h⟩:=bno h
  refine wx tbk [(2,rp _ _)] ⟨apw Zgg (Qmq N (⟨(⟨p0.Row.T,p0.Row.P,p0.Row.Liquid,p0.Row.Vapour,p0.Row.Silica⟩:GRow)⟩:Qjp) p1 _ hf1),tv⟩ ?_
  obtain⟨k10,hk_k10,h⟩:=jko h
  refine wjn (τ:=Int×Int×Int×Int×Int×Int×Int) (fun t=>k10 t=some r) (fun ⟨y3,y4,y5,y6,y7,y8,y9⟩=>⟨mk 87 [(2,.ref 0 5 0 0),(3,.ref 1 4 0 0),(4,.ref 2 10 0 0)],[(Q9l p0),(Q9k p1),(.own 10 [[I y3,I y4,I 0,I y5,I y6,I y7,I y8,I y9,I 0,I 0]])]⟩) (fun t h=>?_) ?_
  ·subst hk_k10
   obtain⟨y3,y4,y5,y6,y7,y8,y9⟩:=t
   obtain⟨x11,hl12,h⟩:=bno h
   refine wx tbk [(9,rp [(.tmp 52,I p1.Silica),(.tmp 59,(I (w64 (y6*p0.Row.Silica))))] (I x11))] ⟨Qkh hl12 (Qpn rfl),tv⟩<|wxe<|wsq<|wxz ?_
   refine bfe h (fun hc13 h=>?_) fun hc13 h=>?_
   ·refine wft hc13 ?_
    obtain⟨x14,hl15,h⟩:=bno h
    refine wx1 tbk [(11,rp [ci 0,(.tmp 83,(I (w64 (y7-(w64 (y6*p0.Row.Liquid))))))] (I x14))] ⟨Qkh hl15 (Qm8 rfl),tv⟩<|thn<|wxz<|Qaf ?_
    obtain rfl:=osi h
    exact fie [(.agg [I y3,I y4,I 0,I y5,I y6,I y7,I x11,I y9,I x14,(I (w64 (p1.Silica-x11)))])] ⟨Qb7 (n:=2) (m:=10) (j:=0) (i:=0) (xs:=[[I y3,I y4,I 0,I y5,I y6,I y7,I x11,I y9,I x14,(I (w64 (p1.Silica-x11)))]]) (by kernel_rfl) (by kernel_rfl) Qyu (by decide) rfl (nle rfl) rfl,tv⟩
   ·refine wfn hc13<|Qaq<|thn<|wxz<|Qaf ?_
    obtain rfl:=osi h
    exact fie [(.agg [I y3,I y4,I 0,I y5,I y6,I y7,I x11,I y9,I 0,(I (w64 (p1.Silica-x11)))])] ⟨Qb7 (n:=2) (m:=10) (j:=0) (i:=0) (xs:=[[I y3,I y4,I 0,I y5,I y6,I y7,I x11,I y9,I 0,(I (w64 (p1.Silica-x11)))]]) (by kernel_rfl) (by kernel_rfl) Qyu (by decide) rfl (nle rfl) rfl,tv⟩
  ·skip
   refine Qar<|wxz ?_
   refine bfe h (fun hc16 h=>?_) fun hc16 h=>?_
   ·exact wft hc16<|wxz1<|bln<|thn<|⟨(0,0,0,p1.Mass,p1.Heat,p1.Silica,p1.Gas),h,(mto (n:=87) [(2,.ref 0 5 0 0),(3,.ref 1 4 0 0),(4,.ref 2 10 0 0)] [0,1,2] [(Q9l p0),(Q9k p1),(.own 10 [[I 0,I 0,I 0,I 0,I p1.Mass,I p1.Heat,I p1.Silica,I p1.Gas,I 0,I 0]])] hq (prr (prr (prr pn))) (qb (lcc (lcc (lc rwl ln))) (qb (lcc (lcc ln)) (qb (lcc (lcc (lcc (lcc (lcc ln))))) qn))))⟩
   ·refine wfn hc16<|wxz ?_
    refine bfe h (fun hc17 h=>?_) fun hc17 h=>?_
    ·exact wft hc17<|wx1 tbk [(5,rp _ _)] ⟨Qa8 (vs:=[I x2,I p1.Heat,I p1.Gas]) rfl ts49 tz49 rfl (by rfl) rfl,tv⟩<|bln<|thn<|⟨(x2,p1.Heat,p1.Gas,0,0,0,0),h,(mto (n:=87) [(2,.ref 0 5 0 0),(3,.ref 1 4 0 0),(4,.ref 2 10 0 0)] [0,1,2] [(Q9l p0),(Q9k p1),(.own 10 [[I x2,I p1.Heat,I 0,I p1.Gas,I 0,I 0,I 0,I 0,I 0,I 0]])] hq (prr (prr (prr pn))) (qb (lcc (lcc (lc rwl ln))) (qb (lcc (lcc ln)) (qb (lcc (lcc (lcc (lcc (lcc ln))))) qn))))⟩
    ·refine wfn hc17<|wx tbk [(8,rp _ _)] ⟨Qa8 (vs:=[I x2,(I (w64 (x2*p0.Row.Vapour))),I p1.Gas]) rfl ts49 tz49 rfl (by rfl) rfl,tv⟩ ?_
     exact wx1 tbk [(12,rp _ _)] ⟨Qa8 (vs:=[(I (w64 (p1.Mass-x2))),(I (w64 (p1.Heat-(w64 (x2*p0.Row.Vapour)))))]) rfl ts49 tz49 rfl (by rfl) rfl,tv⟩<|bln<|thn<|⟨(x2,w64 (x2*p0.Row.Vapour),p1.Gas,w64 (p1.Mass-x2),w64 (p1.Heat-(w64 (x2*p0.Row.Vapour))),0,0),h,(mto (n:=87) [(2,.ref 0 5 0 0),(3,.ref 1 4 0 0),(4,.ref 2 10 0 0)] [0,1,2] [(Q9l p0),(Q9k p1),(.own 10 [[I x2,(I (w64 (x2*p0.Row.Vapour))),I 0,I p1.Gas,(I (w64 (p1.Mass-x2))),(I (w64 (p1.Heat-(w64 (x2*p0.Row.Vapour))))),I 0,I 0,I 0,I 0]])] hq (prr (prr (prr pn))) (qb (lcc (lcc (lc rwl ln))) (qb (lcc (lcc ln)) (qb (lcc (lcc (lcc (lcc (lcc ln))))) qn))))⟩
def Qi4 (N:Nat) (p0:List GRow) (p1:Int) (p2:Qaa):Option (Qgv×Int):=
  (Qd2 N p0).bind fun x2=>
  bif (!x2) then
   some ((⟨(⟨0,0,0,0⟩:Qaa),(⟨0,0,0,0⟩:Qaa),0,0⟩:Qgv),1)
  else
   (Qho N p0 p1).bind fun x5=>
   bif (!x5) then
    some ((⟨(⟨0,0,0,0⟩:Qaa),(⟨0,0,0,0⟩:Qaa),0,0⟩:Qgv),2)
   else
    (Qde N p2).bind fun x8=>
    bif (!x8) then
     some ((⟨(⟨0,0,0,0⟩:Qaa),(⟨0,0,0,0⟩:Qaa),0,0⟩:Qgv),1)
    else
     (Qf9 N p0 p1).bind fun x11=>
     (Qfa N (⟨(⟨x11.Row.T,x11.Row.P,x11.Row.Liquid,x11.Row.Vapour,x11.Row.Silica⟩:GRow)⟩:Qjp) p2).bind fun x13=>
     some ((⟨(⟨x13.Steam.Mass,x13.Steam.Heat,x13.Steam.Silica,x13.Steam.Gas⟩:Qaa),(⟨x13.Water.Mass,x13.Water.Heat,x13.Water.Silica,x13.Water.Gas⟩:Qaa),x13.Rest,x13.Scale⟩:Qgv),0)
def Zen:AV:=.agg [(I (0)),(I (0)),(I (0)),(I (0)),(I (0)),(I (0)),(I (0)),(I (0)),(I (0)),(I (0))]
def Zkj (x13:Qgv):AV:=.agg [(I x13.Steam.Mass),(I x13.Steam.Heat),(I x13.Steam.Silica),(I x13.Steam.Gas),(I x13.Water.Mass),(I x13.Water.Heat),(I x13.Water.Silica),(I x13.Water.Gas),(I x13.Rest),(I x13.Scale)]
theorem Qrs (N:Nat) (p0:List GRow) (p1:Int) (p2:Qaa) (r:(Qgv×Int)) (h:Qi4 N p0 p1 p2=some r):Spec prog 158 [(.dat 5 (p0.map Qam)),(I p1),(.agg (Qac p2))] [] (.tup [(.agg (Qq8 r.1)),(I r.2)]) []:=by
  refine sA func158 0 fun _ _ _ hq hd0=>?_
  unfold Qi4 at h
  refine wxz<|wsq<|Qar ?_
  obtain⟨x2,hf1,h⟩:=bno h
  refine wx tbk [(1,rp _ _)] ⟨apw Qzh (Qg2 N p0 _ hf1),tv⟩ ?_
  refine bfe h (fun hc3 h=>?_) fun hc3 h=>?_
  ·refine wft hc3<|wx tbk [(0,rp _ _)] ⟨Qa8 (vs:=[]) rfl Zfe Zaa rfl (by rfl) rfl,tv⟩<|Qaf<|Qat<|Qal ?_
   obtain rfl:=osi h
   exact fie [Zen,I 1] ⟨Qb7 (n:=1) (m:=10) (j:=0) (i:=0) (xs:=[[I 0,I 0,I 0,I 0,I 0,I 0,I 0,I 0,I 0,I 0]]) (by kernel_rfl) (by kernel_rfl) Qyu (by decide) rfl (nle rfl) rfl,rot,tv⟩
  ·refine wfn hc3 ?_
   obtain⟨x5,hf4,h⟩:=bno h
   refine wx tbk [(2,rp _ _)] ⟨apw Zbk (Qn4 N p0 p1 _ hf4),tv⟩ ?_
   refine bfe h (fun hc6 h=>?_) fun hc6 h=>?_
   ·refine wft hc6<|wx tbk [(0,rp _ _)] ⟨Qa8 (vs:=[]) rfl Zfe Zaa rfl (by rfl) rfl,tv⟩<|Qaf<|Qat<|Qal ?_
    obtain rfl:=osi h
    exact fie [Zen,I 2] ⟨Qb7 (n:=1) (m:=10) (j:=0) (i:=0) (xs:=[[I 0,I 0,I 0,I 0,I 0,I 0,I 0,I 0,I 0,I 0]]) (by kernel_rfl) (by kernel_rfl) Qyu (by decide) rfl (nle rfl) rfl,rot,tv⟩
   ·refine wfn hc6 ?_
    obtain⟨x8,hf7,h⟩:=bno h
    refine wx tbk [(1,rp _ _)] ⟨apw Qvb (Qfj N p2 _ hf7),tv⟩ ?_
    refine bfe h (fun hc9 h=>?_) fun hc9 h=>?_
    ·refine wft hc9<|wx tbk [(0,rp _ _)] ⟨Qa8 (vs:=[]) rfl Zfe Zaa rfl (by rfl) rfl,tv⟩<|Qaf<|Qat<|Qal ?_
     obtain rfl:=osi h
     exact fie [Zen,I 1] ⟨Qb7 (n:=1) (m:=10) (j:=0) (i:=0) (xs:=[[I 0,I 0,I 0,I 0,I 0,I 0,I 0,I 0,I 0,I 0]]) (by kernel_rfl) (by kernel_rfl) Qyu (by decide) rfl (nle rfl) rfl,rot,tv⟩
    ·refine wfn hc9<|Qaq<|bln<|thn ?_
     obtain⟨x11,hf10,h⟩:=bno h
     obtain⟨x13,hf12,h⟩:=bno h
     refine wxd tbk [(2,rp _ _),(4,rp _ _)] ⟨apw Q8f (Qky N p0 p1 _ hf10),apw Q8e (Qkx N (⟨(⟨x11.Row.T,x11.Row.P,x11.Row.Liquid,x11.Row.Vapour,x11.Row.Silica⟩:GRow)⟩:Qjp) p2 _ hf12),tv⟩<|Qaf ?_
     obtain rfl:=osi h
     exact fie [(Zkj x13),I 0] ⟨Qb7 (n:=1) (m:=10) (j:=0) (i:=0) (xs:=[[I x13.Steam.Mass,I x13.Steam.Heat,I x13.Steam.Silica,I x13.Steam.Gas,I x13.Water.Mass,I x13.Water.Heat,I x13.Water.Silica,I x13.Water.Gas,I x13.Rest,I x13.Scale]]) (by kernel_rfl) (by kernel_rfl) Qyu (by decide) rfl (nle rfl) rfl,rot,tv⟩
def Qey (N:Nat) (p0:Int) (p1:Qaa) (p2:List Int) (_p3:List GRow) (_p4:List Qad) (_p5 p6 _p7:Nat) (_p8:List Qaa) (_p9:Int) (_p10:List (List Qaa)) (p11:List Qa9) (_p12:List Int):Option ((List Qaa)×(List Qa9)):=
  (Qi3 N p1 p2).bind fun x4=>
  chk (decide (0≤p0)&&decide (p0.toNat<p6))<|
  (p11[p0.toNat]?).bind fun x6=>
  chk (decide (0≤p0)&&decide (p0.toNat<p6))<|
  ((p11.set p0.toNat (⟨x4.2.1.Heat,x6.Silica,x6.Gas,x6.Scale⟩:Qa9))[p0.toNat]?).bind fun x9=>
  chk (decide (0≤p0)&&decide (p0.toNat<p6))<|
  (((p11.set p0.toNat (⟨x4.2.1.Heat,x6.Silica,x6.Gas,x6.Scale⟩:Qa9)).set p0.toNat (⟨x9.Heat,x4.2.1.Silica,x9.Gas,x9.Scale⟩:Qa9))[p0.toNat]?).bind fun x12=>
  some (x4.1,((p11.set p0.toNat (⟨x4.2.1.Heat,x6.Silica,x6.Gas,x6.Scale⟩:Qa9)).set p0.toNat (⟨x9.Heat,x4.2.1.Silica,x9.Gas,x9.Scale⟩:Qa9)).set p0.toNat (⟨x12.Heat,x12.Silica,x4.2.1.Gas,x12.Scale⟩:Qa9))
abbrev Zki (p1:Qaa):AV:=.agg [(I p1.Mass),(I p1.Heat),(I p1.Silica),(I p1.Gas)]
abbrev Qyd (p3:List GRow) (p4:List Qad) (p5 p6 p7:Nat) (p8:List Qaa) (p9:Int):Slot:=.own 7 [[(.dat 5 (p3.map Qam)),(.dat 7 (p4.map Qah)),(.own 1 1 (0) p5),(.own 2 4 (0) p6),(.own 3 1 (0) p7),(.dat 4 (p8.map Qac)),(I p9)]]
def Q41 (p11:List Qa9) (p0:Int) (x4:((List Qaa)×Qmm×Int)) (x6:Qa9):Slot:=.own 4 ((p11.set p0.toNat (⟨x4.2.1.Heat,x6.Silica,x6.Gas,x6.Scale⟩:Qa9):List Qa9).map Qav)
def Q40 (p11:List Qa9) (p0:Int) (x4:((List Qaa)×Qmm×Int)) (x6 x9:Qa9):Slot:=.own 4 (((p11.set p0.toNat (⟨x4.2.1.Heat,x6.Silica,x6.Gas,x6.Scale⟩:Qa9)).set p0.toNat (⟨x9.Heat,x4.2.1.Silica,x9.Gas,x9.Scale⟩:Qa9):List Qa9).map Qav)
def Zc0 (p11:List Qa9) (p0:Int) (x4:((List Qaa)×Qmm×Int)) (x6 x9 x12:Qa9):Slot:=.own 4 ((((p11.set p0.toNat (⟨x4.2.1.Heat,x6.Silica,x6.Gas,x6.Scale⟩:Qa9)).set p0.toNat (⟨x9.Heat,x4.2.1.Silica,x9.Gas,x9.Scale⟩:Qa9)).set p0.toNat (⟨x12.Heat,x12.Silica,x4.2.1.Gas,x12.Scale⟩:Qa9):List Qa9).map Qav)
theorem Qjc (N:Nat) (p0:Int) (p1:Qaa) (p2:List Int) (p3:List GRow) (p4:List Qad) (p5 p6 p7:Nat) (p8:List Qaa) (p9:Int) (p10:List (List Qaa)) (p11:List Qa9) (p12:List Int) (r:((List Qaa)×(List Qa9))) (h:Qey N p0 p1 p2 p3 p4 p5 p6 p7 p8 p9 p10 p11 p12=some r):Spec prog 159 [(.ref 0 7 (0) 0),(I p0),(Zki p1),(.dat 1 (p2.map Qab))] [(Qyd p3 p4 p5 p6 p7 p8 p9),(.own 1 (p10.map Qag)),(.own 4 (p11.map Qav)),(.own 1 (p12.map Qab))] (.dat 4 (r.1.map Qac)) [(Qyd p3 p4 p5 p6 p7 p8 p9),(.own 1 (p10.map Qag)),(.own 4 (r.2.map Qav)),(.own 1 (p12.map Qab))]:=by
  refine sF func159 4 fun _ _ _ hq hd0=>?_
  unfold Qey at h
  refine wxz ?_
  obtain⟨x4,hf3,h⟩:=bno h
  refine wx tbk [(2,rp _ _)] ⟨apw Zbj (Qrr N p1 p2 _ hf3),tv⟩ ?_
  obtain⟨hi5,h⟩:=cko h
  obtain⟨hi5a,hi5b⟩:=Qd0 hi5
  obtain⟨x6,hg7,h⟩:=bno h
  obtain⟨hi8,h⟩:=cko h
  obtain⟨hi8a,hi8b⟩:=Qd0 hi8
  obtain⟨x9,hg10,h⟩:=bno h
  obtain⟨hi11,h⟩:=cko h
  obtain⟨hi11a,hi11b⟩:=Qd0 hi11
  obtain⟨x12,hg13,h⟩:=bno h
  refine wxd tbk [(1,rb [(.tmp 19,.ref 0 7 0 0)] [(0,(Qyd p3 p4 p5 p6 p7 p8 p9))] (.ref 0 7 0 0)),(7,rb [(.tmp 25,.ref 0 7 0 0)] [(0,(Qyd p3 p4 p5 p6 p7 p8 p9))] (.ref 0 7 0 0)),(13,rb [(.tmp 31,.ref 0 7 0 0)] [(0,(Qyd p3 p4 p5 p6 p7 p8 p9))] (.ref 0 7 0 0)),(24,rb [(.tmp 23,(.own 2 4 (0) p6)),(.tmp 24,I p0)] [(2,(.own 4 (p11.map Qav)))] (.ref 2 4 p0.toNat 0)),(26,⟨[(.tmp 44,(.ref 2 4 p0.toNat 0)),(.tmp 38,I x4.2.1.Heat)],[(2,(.own 4 (p11.map Qav)))],.any,[(2,(Q41 p11 p0 x4 x6))],false⟩),(27,rb [(.tmp 29,(.own 2 4 (0) p6)),(.tmp 30,I p0)] [(2,(Q41 p11 p0 x4 x6))] (.ref 2 4 p0.toNat 0)),(29,⟨[(.tmp 46,(.ref 2 4 p0.toNat 1)),(.tmp 40,I x4.2.1.Silica)],[(2,(Q41 p11 p0 x4 x6))],.any,[(2,(Q40 p11 p0 x4 x6 x9))],false⟩),(30,rb [(.tmp 35,(.own 2 4 (0) p6)),(.tmp 36,I p0)] [(2,(Q40 p11 p0 x4 x6 x9))] (.ref 2 4 p0.toNat 0)),(32,⟨[(.tmp 48,(.ref 2 4 p0.toNat 2)),(.tmp 42,I x4.2.1.Gas)],[(2,(Q40 p11 p0 x4 x6 x9))],.any,[(2,(Zc0 p11 p0 x4 x6 x9 x12))],false⟩)] ⟨Qbd rfl,Qbd rfl,Qbd rfl,aio rfl underlying43 ti64 (odt hi5a) (odt hi5b) (Nat.zero_add _),ast rfl ti3 (by rfl) (mgt Qav hg7) (nle rfl) (Qf5 Qav rfl),aio rfl underlying43 ti64 (odt hi8a) (odt hi8b) (Nat.zero_add _),ast rfl ti3 (by rfl) (mgt Qav hg10) (nle rfl) (Qf5 Qav rfl),aio rfl underlying43 ti64 (odt hi11a) (odt hi11b) (Nat.zero_add _),ast rfl ti3 (by rfl) (mgt Qav hg13) (nle rfl) (Qf5 Qav rfl),tv⟩<|wxz ?_
  refine wmr (mto (n:=50) (l':=[(8,(.dat 4 (x4.1.map Qac)))]) (own':=[(Qyd p3 p4 p5 p6 p7 p8 p9),(.own 1 (p10.map Qag)),(.own 4 (((((p11.set p0.toNat (⟨x4.2.1.Heat,x6.Silica,x6.Gas,x6.Scale⟩:Qa9)).set p0.toNat (⟨x9.Heat,x4.2.1.Silica,x9.Gas,x9.Scale⟩:Qa9)).set p0.toNat (⟨x12.Heat,x12.Silica,x4.2.1.Gas,x12.Scale⟩:Qa9)):List Qa9).map Qav)),(.own 1 (p12.map Qab))]) [(8,(.dat 4 (x4.1.map Qac)))] [0,1,2,3] [(Qyd p3 p4 p5 p6 p7 p8 p9),(.own 1 (p10.map Qag)),(Zc0 p11 p0 x4 x6 x9 x12),(.own 1 (p12.map Qab))] hq (pc (rnd Qak) pn) (qb (lc (rnd Qap) (lc (rnd Qae) (lc (.rn (Qay rfl)) (lc (.rn (Qay rfl)) (lc (.rn (Qay rfl)) (lc (rnd Qak) (lc rwl ln))))))) (qc (spr Qan) (qc (spr Qbb) (qc (spr Qaj) qn)))))<|Qaf ?_
  obtain rfl:=osi h
  exact⟨_,Mor.rfl,fio [(.dat 4 (x4.1.map Qac))] ⟨rot,tv⟩⟩
def Qev (N:Nat) (p0:Int) (p1:Qaa) (p2:List GRow) (p3:List Qad) (p4 p5 p6:Nat) (p7:List Qaa) (p8:Int) (p9:List (List Qaa)) (p10:List Qa9) (p11:List Int):Option ((List Qaa)×Int×(List Qa9)×(List Int)):=
  (getI p3 p0).bind fun x5=>
  (Qi4 N p2 x5.Level p1).bind fun x10=>
  chk (decide (0≤p0)&&decide (p0.toNat<p5))<|
  (p10[p0.toNat]?).bind fun x12=>
  chk (decide (0≤p0)&&decide (p0.toNat<p6))<|
  (p11[p0.toNat]?).bind fun x15=>
  chk (decide (0≤p0)&&decide (p0.toNat<p6))<|
  (p11[p0.toNat]?).bind fun _=>
  bif (x5.Amount==0) then
   some ([(⟨x10.1.Steam.Mass,x10.1.Steam.Heat,x10.1.Steam.Silica,x10.1.Steam.Gas⟩:Qaa),(⟨x10.1.Water.Mass,x10.1.Water.Heat,x10.1.Water.Silica,x10.1.Water.Gas⟩:Qaa)],w64 (p8+x10.1.Steam.Mass),p10.set p0.toNat (⟨x12.Heat,x12.Silica,x12.Gas,x10.1.Scale⟩:Qa9),p11.set p0.toNat (w64 (x15+x10.1.Scale)))
  else
   (Qey N p0 (⟨x10.1.Water.Mass,x10.1.Water.Heat,x10.1.Water.Silica,x10.1.Water.Gas⟩:Qaa) ([w64 (1000-x5.Amount),x5.Amount]) p2 p3 p4 p5 p6 p7 (w64 (p8+x10.1.Steam.Mass)) p9 (p10.set p0.toNat (⟨x12.Heat,x12.Silica,x12.Gas,x10.1.Scale⟩:Qa9)) (p11.set p0.toNat (w64 (x15+x10.1.Scale)))).bind fun x22=>
   (getI x22.1 1).bind fun x23=>
   (Qff N ([(⟨x10.1.Steam.Mass,x10.1.Steam.Heat,x10.1.Steam.Silica,x10.1.Steam.Gas⟩:Qaa),x23])).bind fun x28=>
   (getI x22.1 0).bind fun x29=>
   some ([x28,x29],w64 (p8+x10.1.Steam.Mass),x22.2,p11.set p0.toNat (w64 (x15+x10.1.Scale)))
abbrev Zkk (p1:Qaa):AV:=.agg [(I p1.Mass),(I p1.Heat),(I p1.Silica),(I p1.Gas)]
abbrev Q44 (p3:List Qad):AV:=.dat 7 (p3.map Qah)
abbrev Q43 (p7:List Qaa):AV:=.dat 4 (p7.map Qac)
abbrev Qye (p2:List GRow) (p3:List Qad) (p4 p5 p6:Nat) (p7:List Qaa) (p8:Int):Slot:=.own 7 [[(.dat 5 (p2.map Qam)),(Q44 p3),(.own 1 1 (0) p4),(.own 2 4 (0) p5),(.own 3 1 (0) p6),(Q43 p7),(I p8)]]
abbrev Qqi (p9:List (List Qaa)):Slot:=.own 1 (p9.map Qag)
def Q42 (p10:List Qa9) (p0:Int) (x12:Qa9) (x10:(Qgv×Int)):Slot:=.own 4 ((p10.set p0.toNat (⟨x12.Heat,x12.Silica,x12.Gas,x10.1.Scale⟩:Qa9):List Qa9).map Qav)
def Qv4 (p11:List Int) (p0 x15:Int) (x10:(Qgv×Int)):Slot:=.own 1 ((p11.set p0.toNat (w64 (x15+x10.1.Scale)):List Int).map Qab)
def Q0i (x10:(Qgv×Int)):AV:=.agg [(I x10.1.Steam.Mass),(I x10.1.Steam.Heat),(I x10.1.Steam.Silica),(I x10.1.Steam.Gas)]
def Zc5 (x10:(Qgv×Int)):AV:=.agg [(I x10.1.Water.Mass),(I x10.1.Water.Heat),(I x10.1.Water.Silica),(I x10.1.Water.Gas)]
def Q0h (x10:(Qgv×Int)):AV:=.dat 4 (([(⟨x10.1.Steam.Mass,x10.1.Steam.Heat,x10.1.Steam.Silica,x10.1.Steam.Gas⟩:Qaa),(⟨x10.1.Water.Mass,x10.1.Water.Heat,x10.1.Water.Silica,x10.1.Water.Gas⟩:Qaa)]:List Qaa).map Qac)
def Q0j (p2:List GRow) (p3:List Qad) (p4 p5 p6:Nat) (p7:List Qaa) (p8:Int) (x10:(Qgv×Int)):Slot:=.own 7 [[(.dat 5 (p2.map Qam)),(Q44 p3),(.own 1 1 (0) p4),(.own 2 4 (0) p5),(.own 3 1 (0) p6),(Q43 p7),(I (w64 (p8+x10.1.Steam.Mass)))]]
def Zc4 (x5:Qad):AV:=.dat 1 (([w64 (1000-x5.Amount),x5.Amount]:List Int).map Qab)
def Zc3 (x23:Qaa):AV:=.agg [(I x23.Mass),(I x23.Heat),(I x23.Silica),(I x23.Gas)]
def Zhu (x10:(Qgv×Int)) (x23:Qaa):AV:=.dat 4 (([(⟨x10.1.Steam.Mass,x10.1.Steam.Heat,x10.1.Steam.Silica,x10.1.Steam.Gas⟩:Qaa),x23]:List Qaa).map Qac)
def Zc2 (x28:Qaa):AV:=.agg [(I x28.Mass),(I x28.Heat),(I x28.Silica),(I x28.Gas)]
def Zc1 (x29:Qaa):AV:=.agg [(I x29.Mass),(I x29.Heat),(I x29.Silica),(I x29.Gas)]
def Q0g (x28 x29:Qaa):AV:=.dat 4 (([x28,x29]:List Qaa).map Qac)
theorem Qlj (N:Nat) (p0:Int) (p1:Qaa) (p2:List GRow) (p3:List Qad) (p4 p5 p6:Nat) (p7:List Qaa) (p8:Int) (p9:List (List Qaa)) (p10:List Qa9) (p11:List Int) (r:((List Qaa)×Int×(List Qa9)×(List Int))) (h:Qev N p0 p1 p2 p3 p4 p5 p6 p7 p8 p9 p10 p11=some r):Spec prog 131 [(.ref 0 7 (0) 0),(I p0),(Zkk p1)] [(Qye p2 p3 p4 p5 p6 p7 p8),(Qqi p9),(.own 4 (p10.map Qav)),(.own 1 (p11.map Qab))] (.dat 4 (r.1.map Qac)) [(.own 7 [[(.dat 5 (p2.map Qam)),(Q44 p3),(.own 1 1 (0) p4),(.own 2 4 (0) p5),(.own 3 1 (0) p6),(Q43 p7),(I r.2.1)]]),(Qqi p9),(.own 4 (r.2.2.1.map Qav)),(.own 1 (r.2.2.2.map Qab))]:=by
  refine sF func131 4 fun _ _ _ hq hd0=>?_
  unfold Qev at h
  refine wxz ?_
  obtain⟨x5,hg6,h⟩:=bno h
  obtain⟨hi7,hj8⟩:=gsm hg6
  refine wx tbk [(1,rb [(.tmp 11,.ref 0 7 0 0)] [(0,(Qye p2 p3 p4 p5 p6 p7 p8))] (.ref 0 7 0 0)),(6,rp _ _)] ⟨Qbd rfl,aiq underlying37 Qi0 Qah hi7 hj8,tv⟩ ?_
  obtain⟨x10,hf9,h⟩:=bno h
  refine wxd tbk [(1,rb [(.tmp 20,.ref 0 7 0 0)] [(0,(Qye p2 p3 p4 p5 p6 p7 p8))] (.ref 0 7 0 0)),(8,rp _ _)] ⟨Qbd rfl,apw Zbn (Qrs N p2 x5.Level p1 _ hf9),tv⟩ ?_
  obtain⟨hi11,h⟩:=cko h
  obtain⟨hi11a,hi11b⟩:=Qd0 hi11
  obtain⟨x12,hg13,h⟩:=bno h
  refine wxd tbk [(1,rb [(.tmp 31,.ref 0 7 0 0)] [(0,(Qye p2 p3 p4 p5 p6 p7 p8))] (.ref 0 7 0 0)),(8,rb [(.tmp 35,(.own 2 4 (0) p5)),(.tmp 36,I p0)] [(2,(.own 4 (p10.map Qav)))] (.ref 2 4 p0.toNat 0)),(10,⟨[(.tmp 40,(.ref 2 4 p0.toNat 3)),(.tmp 38,I x10.1.Scale)],[(2,(.own 4 (p10.map Qav)))],.any,[(2,(Q42 p10 p0 x12 x10))],false⟩)] ⟨Qbd rfl,aio rfl underlying43 ti64 (odt hi11a) (odt hi11b) (Nat.zero_add _),ast rfl ti3 (by rfl) (mgt Qav hg13) (nle rfl) (Qf5 Qav rfl),tv⟩ ?_
  obtain⟨hi14,h⟩:=cko h
  obtain⟨hi14a,hi14b⟩:=Qd0 hi14
  obtain⟨x15,hg16,h⟩:=bno h
  obtain⟨hi17,h⟩:=cko h
  obtain⟨hi17a,hi17b⟩:=Qd0 hi17
  obtain⟨x18,hg19,h⟩:=bno h
  refine wxd tbk [(1,rb [(.tmp 41,.ref 0 7 0 0)] [(0,(Qye p2 p3 p4 p5 p6 p7 p8))] (.ref 0 7 0 0)),(6,rb [(.tmp 45,(.own 3 1 (0) p6)),(.tmp 46,I p0)] [(3,(.own 1 (p11.map Qab)))] (.ref 3 1 p0.toNat 0)),(7,rb [(.tmp 47,(.ref 3 1 p0.toNat 0))] [(3,(.own 1 (p11.map Qab)))] (I x15)),(11,rb [(.tmp 45,(.own 3 1 (0) p6)),(.tmp 46,I p0)] [(3,(.own 1 (p11.map Qab)))] (.ref 3 1 p0.toNat 0)),(12,⟨[(.tmp 52,(.ref 3 1 p0.toNat 0)),(.tmp 51,(I (w64 (x15+x10.1.Scale))))],[(3,(.own 1 (p11.map Qab)))],.any,[(3,(Qv4 p11 p0 x15 x10))],false⟩)] ⟨Qbd rfl,aio rfl underlying29 ti3 (odt hi14a) (odt hi14b) (Nat.zero_add _),ald rfl ti3 (by decide) (mgt Qab hg16) (nle rfl) rfl,aio rfl underlying29 ti3 (odt hi17a) (odt hi17b) (Nat.zero_add _),ast rfl ti3 (by rfl) (mgt Qab hg19) (nle rfl) (Qf5 Qab rfl),tv⟩ ?_
  refine wxd tbk [(1,rb [(.tmp 53,.ref 0 7 0 0)] [(0,(Qye p2 p3 p4 p5 p6 p7 p8))] (.ref 0 7 0 0)),(8,rb [(.tmp 53,.ref 0 7 0 0)] [(0,(Qye p2 p3 p4 p5 p6 p7 p8))] (.ref 0 7 0 0))] ⟨Qbd rfl,Qbd rfl,tv⟩<|wsq<|wxz ?_
  refine bfe h (fun hc20 h=>?_) fun hc20 h=>?_
  ·refine wft hc20<|wx tbk [(4,rp [(.tmp 67,(Q0i x10)),(.tmp 69,(Zc5 x10))] (Q0h x10))] ⟨Qbp (vs:=[(Q0i x10),(Zc5 x10)]) rfl underlying51 ti49 tz49 rfl (by decide) rfl (by decide) (by rfl) (by rfl) (by rfl) rfl,tv⟩ ?_
   refine wmr (mto (n:=93) (l':=[(6,(Q0h x10))]) (own':=[(.own 7 [[(.dat 5 (p2.map Qam)),(Q44 p3),(.own 1 1 (0) p4),(.own 2 4 (0) p5),(.own 3 1 (0) p6),(Q43 p7),(I ((w64 (p8+x10.1.Steam.Mass))))]]),(Qqi p9),(.own 4 (((p10.set p0.toNat (⟨x12.Heat,x12.Silica,x12.Gas,x10.1.Scale⟩:Qa9)):List Qa9).map Qav)),(.own 1 (((p11.set p0.toNat (w64 (x15+x10.1.Scale))):List Int).map Qab))]) [(6,(Q0h x10))] [0,1,2,3] [(Q0j p2 p3 p4 p5 p6 p7 p8 x10),(Qqi p9),(Q42 p10 p0 x12 x10),(Qv4 p11 p0 x15 x10)] hq (pc (rnd Qak) pn) (qb (lc (rnd Qap) (lc (rnd Qae) (lc (.rn (Qay rfl)) (lc (.rn (Qay rfl)) (lc (.rn (Qay rfl)) (lc (rnd Qak) (lc rwl ln))))))) (qc (spr Qan) (qc (spr Qbb) (qc (spr Qaj) qn)))))<|Qaf<|Qal ?_
   obtain rfl:=osi h
   exact⟨_,Mor.rfl,fio [(Q0h x10)] ⟨rot,tv⟩⟩
  ·refine wfn hc20<|Qaq<|thn ?_
   obtain⟨x22,hf21,h⟩:=bno h
   refine wx tbk [(9,rp [(.tmp 77,(I (w64 (1000-x5.Amount)))),(.tmp 79,I x5.Amount)] (Zc4 x5)),(10,⟨_,_,_,_,false⟩)] ⟨Qbp (vs:=[(I (w64 (1000-x5.Amount))),I x5.Amount]) rfl underlying29 ti3 tz3 rfl (by decide) rfl (by decide) (by rfl) (by rfl) (by rfl) rfl,acq [.ref 0 7 0 0,I p0,(.agg [(I ((⟨x10.1.Water.Mass,x10.1.Water.Heat,x10.1.Water.Silica,x10.1.Water.Gas⟩:Qaa).Mass)),(I ((⟨x10.1.Water.Mass,x10.1.Water.Heat,x10.1.Water.Silica,x10.1.Water.Gas⟩:Qaa).Heat)),(I ((⟨x10.1.Water.Mass,x10.1.Water.Heat,x10.1.Water.Silica,x10.1.Water.Gas⟩:Qaa).Silica)),(I ((⟨x10.1.Water.Mass,x10.1.Water.Heat,x10.1.Water.Silica,x10.1.Water.Gas⟩:Qaa).Gas))]),(Zc4 x5)] [(Q0j p2 p3 p4 p5 p6 p7 p8 x10),(Qqi p9),(Q42 p10 p0 x12 x10),(Qv4 p11 p0 x15 x10)] [(Q0j p2 p3 p4 p5 p6 p7 p8 x10),(Qqi p9),(.own 4 (x22.2.map Qav)),(Qv4 p11 p0 x15 x10)] (.dat 4 (x22.1.map Qac)) [0,1,2,3] Q18 (Qjc N p0 (⟨x10.1.Water.Mass,x10.1.Water.Heat,x10.1.Water.Silica,x10.1.Water.Gas⟩:Qaa) ([w64 (1000-x5.Amount),x5.Amount]) p2 p3 p4 p5 p6 p7 (w64 (p8+x10.1.Steam.Mass)) p9 (p10.set p0.toNat (⟨x12.Heat,x12.Silica,x12.Gas,x10.1.Scale⟩:Qa9)) (p11.set p0.toNat (w64 (x15+x10.1.Scale))) _ hf21) (Qbi (rnc (Qas rfl) (rnc (.plain _ nll) (rnc (.plain _ (NLt.agg _ (nlcc (nlcc nl0)))) (rnc (pld Qaj) rn0))))) (slc (Qai (rnc (pld Qap) (rnc (pld Qae) (rnc (Qcq rfl) (rnc (Qcq rfl) (rnc (Qcq rfl) (rnc (pld Qak) (rnc (.plain _ nll) rn0)))))))) (slc (Qa2 Qan) (slc (Qa2 Qbb) (slc (Qa2 Qaj) Qao)))) (slc (Qai (rnc (pld Qap) (rnc (pld Qae) (rnc (Qcr rfl) (rnc (Qcr rfl) (rnc (Qcr rfl) (rnc (pld Qak) (rnc (.plain _ nll) rn0)))))))) (slc (Qa2 Qan) (slc (Qa2 Qbb) (slc (Qa2 Qaj) Qao)))) (pld Qak),tv⟩ ?_
   obtain⟨x23,hg24,h⟩:=bno h
   obtain⟨hi25,hj26⟩:=gsm hg24
   obtain⟨x28,hf27,h⟩:=bno h
   obtain⟨x29,hg30,h⟩:=bno h
   obtain⟨hi31,hj32⟩:=gsm hg30
   refine wxd tbk [(3,rp _ _),(5,rp [(.tmp 83,(Q0i x10)),(.tmp 86,(Zc3 x23))] (Zhu x10 x23)),(6,rp _ _),(8,rp _ _),(10,rp [(.tmp 88,(Zc2 x28)),(.tmp 91,(Zc1 x29))] (Q0g x28 x29))] ⟨aiq underlying51 ti49 Qac hi25 hj26,Qbp (vs:=[(Q0i x10),(Zc3 x23)]) rfl underlying51 ti49 tz49 rfl (by decide) rfl (by decide) (by rfl) (by rfl) (by rfl) rfl,apw Qzg (Qla N ([(⟨x10.1.Steam.Mass,x10.1.Steam.Heat,x10.1.Steam.Silica,x10.1.Steam.Gas⟩:Qaa),x23]) _ hf27),aiq underlying51 ti49 Qac hi31 hj32,Qbp (vs:=[(Zc2 x28),(Zc1 x29)]) rfl underlying51 ti49 tz49 rfl (by decide) rfl (by decide) (by rfl) (by rfl) (by rfl) rfl,tv⟩ ?_
   refine wmr (mto (n:=93) (l':=[(6,(Q0g x28 x29))]) (own':=[(.own 7 [[(.dat 5 (p2.map Qam)),(Q44 p3),(.own 1 1 (0) p4),(.own 2 4 (0) p5),(.own 3 1 (0) p6),(Q43 p7),(I ((w64 (p8+x10.1.Steam.Mass))))]]),(Qqi p9),(.own 4 (x22.2.map Qav)),(.own 1 (((p11.set p0.toNat (w64 (x15+x10.1.Scale))):List Int).map Qab))]) [(6,(Q0g x28 x29))] [0,1,2,3] [(Q0j p2 p3 p4 p5 p6 p7 p8 x10),(Qqi p9),(.own 4 (x22.2.map Qav)),(Qv4 p11 p0 x15 x10)] hq (pc (rnd Qak) pn) (qb (lc (rnd Qap) (lc (rnd Qae) (lc (.rn (Qay rfl)) (lc (.rn (Qay rfl)) (lc (.rn (Qay rfl)) (lc (rnd Qak) (lc rwl ln))))))) (qc (spr Qan) (qc (spr Qbb) (qc (spr Qaj) qn)))))<|Qaf ?_
   obtain rfl:=osi h
   exact⟨_,Mor.rfl,fio [(Q0g x28 x29)] ⟨rot,tv⟩⟩
def Qg1 (N:Nat) (p0:Int) (p1:Qaa) (p2:List GRow) (p3:List Qad) (p4 p5 p6:Nat) (p7:List Qaa) (p8:Int) (p9:List (List Qaa)) (p10:List Qa9) (p11:List Int):Option ((List Qaa)×(List Qa9)):=
  (getI p3 p0).bind fun x3=>
  (Qey N p0 p1 x3.Weights p2 p3 p4 p5 p6 p7 p8 p9 p10 p11).bind fun x8=>
  some (x8.1,x8.2)
abbrev Zht (p1:Qaa):AV:=.agg [(I p1.Mass),(I p1.Heat),(I p1.Silica),(I p1.Gas)]
abbrev Qyc (p2:List GRow) (p3:List Qad) (p4 p5 p6:Nat) (p7:List Qaa) (p8:Int):Slot:=.own 7 [[(.dat 5 (p2.map Qam)),(.dat 7 (p3.map Qah)),(.own 1 1 (0) p4),(.own 2 4 (0) p5),(.own 3 1 (0) p6),(.dat 4 (p7.map Qac)),(I p8)]]
abbrev Q2y (p9:List (List Qaa)):Slot:=.own 1 (p9.map Qag)
def Q0f (x8:((List Qaa)×(List Qa9))):AV:=.dat 4 (x8.1.map Qac)
theorem Qmx (N:Nat) (p0:Int) (p1:Qaa) (p2:List GRow) (p3:List Qad) (p4 p5 p6:Nat) (p7:List Qaa) (p8:Int) (p9:List (List Qaa)) (p10:List Qa9) (p11:List Int) (r:((List Qaa)×(List Qa9))) (h:Qg1 N p0 p1 p2 p3 p4 p5 p6 p7 p8 p9 p10 p11=some r):Spec prog 132 [(.ref 0 7 (0) 0),(I p0),(Zht p1)] [(Qyc p2 p3 p4 p5 p6 p7 p8),(Q2y p9),(.own 4 (p10.map Qav)),(.own 1 (p11.map Qab))] (.dat 4 (r.1.map Qac)) [(Qyc p2 p3 p4 p5 p6 p7 p8),(Q2y p9),(.own 4 (r.2.map Qav)),(.own 1 (p11.map Qab))]:=by
  refine sF func132 4 fun _ _ _ hq hd0=>?_
  unfold Qg1 at h
  refine wxz ?_
  obtain⟨x3,hg4,h⟩:=bno h
  obtain⟨hi5,hj6⟩:=gsm hg4
  obtain⟨x8,hf7,h⟩:=bno h
  refine wxd tbk [(4,rb [(.tmp 10,.ref 0 7 0 0)] [(0,(Qyc p2 p3 p4 p5 p6 p7 p8))] (.ref 0 7 0 0)),(9,rp _ _),(12,⟨_,_,_,_,false⟩)] ⟨Qbd rfl,aiq underlying37 Qi0 Qah hi5 hj6,acq [.ref 0 7 0 0,I p0,(Zht p1),(.dat 1 (x3.Weights.map Qab))] [(Qyc p2 p3 p4 p5 p6 p7 p8),(Q2y p9),(.own 4 (p10.map Qav)),(.own 1 (p11.map Qab))] [(Qyc p2 p3 p4 p5 p6 p7 p8),(Q2y p9),(.own 4 (x8.2.map Qav)),(.own 1 (p11.map Qab))] (Q0f x8) [0,1,2,3] Q18 (Qjc N p0 p1 x3.Weights p2 p3 p4 p5 p6 p7 p8 p9 p10 p11 _ hf7) (Qbi (rnc (Qas rfl) (rnc (.plain _ nll) (rnc (.plain _ (NLt.agg _ (nlcc (nlcc nl0)))) (rnc (pld Qaj) rn0))))) (slc (Qai (rnc (pld Qap) (rnc (pld Qae) (rnc (Qcq rfl) (rnc (Qcq rfl) (rnc (Qcq rfl) (rnc (pld Qak) (rnc (.plain _ nll) rn0)))))))) (slc (Qa2 Qan) (slc (Qa2 Qbb) (slc (Qa2 Qaj) Qao)))) (slc (Qai (rnc (pld Qap) (rnc (pld Qae) (rnc (Qcr rfl) (rnc (Qcr rfl) (rnc (Qcr rfl) (rnc (pld Qak) (rnc (.plain _ nll) rn0)))))))) (slc (Qa2 Qan) (slc (Qa2 Qbb) (slc (Qa2 Qaj) Qao)))) (pld Qak),tv⟩ ?_
  refine wmr (mto (n:=20) (l':=[(6,(Q0f x8))]) (own':=[(Qyc p2 p3 p4 p5 p6 p7 p8),(Q2y p9),(.own 4 (x8.2.map Qav)),(.own 1 (p11.map Qab))]) [(6,(Q0f x8))] [0,1,2,3] [(Qyc p2 p3 p4 p5 p6 p7 p8),(Q2y p9),(.own 4 (x8.2.map Qav)),(.own 1 (p11.map Qab))] hq (pc (rnd Qak) pn) (qb (lc (rnd Qap) (lc (rnd Qae) (lc (.rn (Qay rfl)) (lc (.rn (Qay rfl)) (lc (.rn (Qay rfl)) (lc (rnd Qak) (lc rwl ln))))))) (qc (spr Qan) (qc (spr Qbb) (qc (spr Qaj) qn)))))<|Qaf ?_
  obtain rfl:=osi h
  exact⟨_,Mor.rfl,fio [(Q0f x8)] ⟨rot,tv⟩⟩
def Qco (N:Nat) (p0 p1:Int) (p2:List GRow) (p3:List Qad) (p4 p5 p6:Nat) (p7:List Qaa) (p8:Int) (p9:List (List Qaa)) (p10:List Qa9) (p11:List Int):Option ((Int×(List (List Qaa))×(List Qa9)×(List Int))⊕Int):=
  (Qgc N p0 p2 p3 p4 p5 p6 p7 p8 p9 p10 p11).bind fun _=>
  chk (decide (p4≤p9.length))<|
  chk (decide (p5≤p10.length))<|
  chk (decide (p6≤p11.length))<|
  (Qbq N p2 p3 (p9.take p4) (p10.take p5) (p11.take p6) p7 p8 p0).bind fun x12=>
  (Qff N x12).bind fun x14=>
  Qcf (fun _=>
    (getI p3 p0).bind fun x16=>
    bif (x16.Kind==0) then
     none
    else
     bif (x16.Kind==1) then
      (Qe8 N p0 x14 p2 p3 p4 p5 p6 p7 p8 p9 p10 p11).bind fun x23=>
      chk (decide (0≤p0)&&decide (p0.toNat<p4))<|
      (p9[p0.toNat]?).bind fun _=>
      some (.inl (p8,p9.set p0.toNat x23,p10,p11))
     else
      bif (x16.Kind==2) then
       (Qe8 N p0 x14 p2 p3 p4 p5 p6 p7 p8 p9 p10 p11).bind fun x29=>
       chk (decide (0≤p0)&&decide (p0.toNat<p4))<|
       (p9[p0.toNat]?).bind fun _=>
       some (.inl (p8,p9.set p0.toNat x29,p10,p11))
      else
       bif (x16.Kind==3) then
        (Qhd N p0 x14 p2 p3 p4 p5 p6 p7 p8 p9 p10 p11).bind fun x35=>
        chk (decide (0≤p0)&&decide (p0.toNat<p4))<|
        (p9[p0.toNat]?).bind fun _=>
        some (.inl (p8,p9.set p0.toNat x35.1,x35.2,p11))
       else
        bif (x16.Kind==4) then
         (Qev N p0 x14 p2 p3 p4 p5 p6 p7 p8 p9 p10 p11).bind fun x41=>
         chk (decide (0≤p0)&&decide (p0.toNat<p4))<|
         (p9[p0.toNat]?).bind fun _=>
         some (.inl (x41.2.1,p9.set p0.toNat x41.1,x41.2.2.1,x41.2.2.2))
        else
         bif (x16.Kind==5) then
          (Qg1 N p0 x14 p2 p3 p4 p5 p6 p7 p8 p9 p10 p11).bind fun x47=>
          chk (decide (0≤p0)&&decide (p0.toNat<p4))<|
          (p9[p0.toNat]?).bind fun _=>
          some (.inl (p8,p9.set p0.toNat x47.1,x47.2,p11))
         else
          bif (x16.Kind==6) then
           (Qe8 N p0 x14 p2 p3 p4 p5 p6 p7 p8 p9 p10 p11).bind fun x53=>
           chk (decide (0≤p0)&&decide (p0.toNat<p4))<|
           (p9[p0.toNat]?).bind fun _=>
           some (.inl (p8,p9.set p0.toNat x53,p10,p11))
          else
           none) fun k15:Unit→Option ((Int×(List (List Qaa))×(List Qa9)×(List Int))⊕Int)=>
  bif (decide (x14.Mass>p1)) then
   some (.inr p0)
  else
   k15 ()
abbrev Qj1 (p3:List Qad):AV:=.dat 7 (p3.map Qah)
abbrev Qrd (p7:List Qaa):AV:=.dat 4 (p7.map Qac)
abbrev Qgi (p2:List GRow) (p3:List Qad) (p4 p5 p6:Nat) (p7:List Qaa) (p8:Int):Slot:=.own 7 [[(.dat 5 (p2.map Qam)),(Qj1 p3),(.own 1 1 (0) p4),(.own 2 4 (0) p5),(.own 3 1 (0) p6),(Qrd p7),(I p8)]]
abbrev Qfp (p9:List (List Qaa)):Slot:=.own 1 (p9.map Qag)
abbrev Qhh (p10:List Qa9):Slot:=.own 4 (p10.map Qav)
def Zhw:AV:=.fn (.func 156) [] [(.ref 4 1 (0) 0),(.ref 5 1 (0) 0)]
def Zhx:Slot:=.own 1 [[(.ref 0 7 (0) 0)]]
def Qh0 (x14:Qaa):AV:=.agg [(I x14.Mass),(I x14.Heat),(I x14.Silica),(I x14.Gas)]
def Qqk (x14:Qaa):Slot:=.own 4 [[(I x14.Mass),(I x14.Heat),(I x14.Silica),(I x14.Gas)]]
def Ql9:Slot:=.own 7 [[(.lit .nilFunc),(.fn (.func 129) [] []),(.fn (.func 129) [] []),(.fn (.func 130) [] []),(.fn (.func 131) [] []),(.fn (.func 132) [] []),(.fn (.func 129) [] [])]]
def Q0m (p2:List GRow) (p3:List Qad) (p4 p5 p6:Nat) (p7:List Qaa) (x41:((List Qaa)×Int×(List Qa9)×(List Int))):Slot:=.own 7 [[(.dat 5 (p2.map Qam)),(Qj1 p3),(.own 1 1 (0) p4),(.own 2 4 (0) p5),(.own 3 1 (0) p6),(Qrd p7),(I x41.2.1)]]
theorem Qia (N:Nat) (p0 p1:Int) (p2:List GRow) (p3:List Qad) (p4 p5 p6:Nat) (p7:List Qaa) (p8:Int) (p9:List (List Qaa)) (p10:List Qa9) (p11:List Int) (r:((Int×(List (List Qaa))×(List Qa9)×(List Int))⊕Int)) (h:Qco N p0 p1 p2 p3 p4 p5 p6 p7 p8 p9 p10 p11=some r):Zka prog 83 [(.ref 0 7 (0) 0),(I p0),(I p1)] [(Qgi p2 p3 p4 p5 p6 p7 p8),(Qfp p9),(Qhh p10),(.own 1 (p11.map Qab))]  ((Sum.elim (fun r=>.ret (.tup []) [(.own 7 [[(.dat 5 (p2.map Qam)),(.dat 7 (p3.map Qah)),(.own 1 1 (0) p4),(.own 2 4 (0) p5),(.own 3 1 (0) p6),(.dat 4 (p7.map Qac)),(I r.1)]]),(.own 1 (r.2.1.map Qag)),(.own 4 (r.2.2.1.map Qav)),(.own 1 (r.2.2.2.map Qab))]) (fun r=>.pan (.iface 194 (.agg #[(.int .i64 r)]))):((Int×(List (List Qaa))×(List Qa9)×(List Int))⊕Int)→Out) r):=by
  refine Qwk func83 rfl 4 (nle rfl) (fun _ _ _ hq hd0=>?_)
  unfold Qco at h
  obtain⟨x7,hf6,h⟩:=bno h
  obtain⟨hz8,h⟩:=cko h
  obtain⟨hz9,h⟩:=cko h
  obtain⟨hz10,h⟩:=cko h
  obtain⟨x12,hf11,h⟩:=bno h
  obtain⟨x14,hf13,h⟩:=bno h
  refine wx tbk [(2,⟨_,_,_,_,false⟩),(3,⟨[fu 127,(.tmp 10,Zhw)],[(4,Zhx),(0,(Qgi p2 p3 p4 p5 p6 p7 p8)),(1,(Qfp p9)),(2,(Qhh p10)),(3,(.own 1 (p11.map Qab))),(5,.own 1 [[I p0]]),(6,.unused)],(.acc 6 49 4 (x12.map Qac)),[(6,.tok)],false⟩),(4,rp [fu 68,(.tmp 11,(.acc 6 49 4 (x12.map Qac)))] (Qh0 x14))] ⟨acq [.ref 0 7 0 0,I p0] [(Qgi p2 p3 p4 p5 p6 p7 p8),(Qfp p9),(Qhh p10),(.own 1 (p11.map Qab))] [(Qgi p2 p3 p4 p5 p6 p7 p8),(Qfp p9),(Qhh p10),(.own 1 (p11.map Qab)),Zhx,(.own 1 [[I p0]])] Zhw [0,1,2,3,4,5] Zb0 (Qnm N p0 p2 p3 p4 p5 p6 p7 p8 p9 p10 p11 _ hf6) (Qbi (rnc (Qas rfl) (rnc (.plain _ nll) rn0))) (slc (Qai (rnc (pld Qap) (rnc (pld Qae) (rnc (Qcq rfl) (rnc (Qcq rfl) (rnc (Qcq rfl) (rnc (pld Qak) (rnc (.plain _ nll) rn0)))))))) (slc (Qa2 Qan) (slc (Qa2 Qbb) (slc (Qa2 Qaj) Qao)))) (slc (Qai (rnc (pld Qap) (rnc (pld Qae) (rnc (Qcr rfl) (rnc (Qcr rfl) (rnc (Qcr rfl) (rnc (pld Qak) (rnc (.plain _ nll) rn0)))))))) (slc (Qa2 Qan) (slc (Qa2 Qbb) (slc (Qa2 Qaj) (slc (Qai (rnc (Qa3 rfl) rn0)) (slc (Qai (rnc (.plain _ nll) rn0)) Qao)))))) (Qa4 rn0 (rnc (Qa3 rfl) (rnc (Qa3 rfl) rn0))),Qii (rd':=[fu 127,(.tmp 10,(.fn (.func 156) [] [(.dptr [(.dptr [(.dat 5 (p2.map Qam)),(Qj1 p3),(.dat 1 ((p9.take p4:List (List Qaa)).map Qag)),(.dat 4 ((p10.take p5:List Qa9).map Qav)),(.dat 1 ((p11.take p6:List Int).map Qab)),(Qrd p7),I p8] 0)] 0),(.dptr [I p0] 0)]))]) [(4,1,[[.ref 0 7 0 0]]),(0,7,[[(.dat 5 (p2.map Qam)),(Qj1 p3),(.own 1 1 (0) p4),(.own 2 4 (0) p5),(.own 3 1 (0) p6),(Qrd p7),I p8]]),(1,1,p9.map Qag),(2,4,p10.map Qav),(3,1,p11.map Qab),(5,1,[[I p0]])] ⟨rfl,.same _,rfl,(Zcb tv ⟨(Qpg 0 rfl (lc (Qpg 1 rfl (lc (.same _) (lc (.same _) (lc (Qvj 2 rfl hz8) (lc (Qvj 3 rfl hz9) (lc (Qvj 4 rfl hz10) (lc (.same _) (lc (.same _) ln)))))))) ln)),(Qpg 5 rfl (lc (.same _) ln)),tv⟩),tv⟩ (by rfl) (.acc _ _ _ _ (nin rfl) (by simp) (Q1v Qzb _)) (Q1c .tok Qru) (acq [(.fn (.func 156) [] [(.dptr [(.dptr [(.dat 5 (p2.map Qam)),(Qj1 p3),(.dat 1 ((p9.take p4:List (List Qaa)).map Qag)),(.dat 4 ((p10.take p5:List Qa9).map Qav)),(.dat 1 ((p11.take p6:List Int).map Qab)),(Qrd p7),I p8] 0)] 0),(.dptr [I p0] 0)])] [] [.tok] (.acc 6 49 4 (x12.map Qac)) [6] Zb1 (Qh9 N p2 p3 (p9.take p4) (p10.take p5) (p11.take p6) p7 p8 p0 _ hf11) (Qbi (rnc (.plain _ (NLt.fn _ _ _ nl0 (nlc (NLt.dptr _ _ (nlc (NLt.dptr _ _ (nlc (nld Qap _) (nlc (nld Qae _) (nlc (nld Qan _) (nlc (nld Qbb _) (nlc (nld Qaj _) (nlc (nld Qak _) (nlc nll nl0)))))))) nl0)) (nlc (NLt.dptr _ _ (nlc nll nl0)) nl0)))) rn0)) Qao (slc .tok Qao) (Q6s rfl (Qdy Qak _))),awk (rd':=(.func 68,(.fn (.func 68) [] []))::[(.tmp 11,(.dat 4 (x12.map Qac)))]) ⟨rfl,lrf,rfl,Less.acc,tv⟩ (apv Qzg (Qla N x12 _ hf13) (nlc (nld Qak _) nl0) (NLt.agg _ (nlcc (nlcc nl0)))),tv⟩ ?_
  obtain⟨k15,hk_k15,h⟩:=jko h
  refine wjn (τ:=Unit) (fun t=>k15 t=some r) (fun _=>⟨mk 43 [(0,.ref 0 7 0 0),(1,I p0),(6,.ref 4 4 0 0)],[(Qgi p2 p3 p4 p5 p6 p7 p8),(Qfp p9),(Qhh p10),(.own 1 (p11.map Qab)),(Qqk x14)]⟩) (fun t h=>?_) ?_
  ·subst hk_k15
   refine wx tbk [(0,rp [fu 129,fu 129,fu 130,fu 131,fu 132,fu 129] (.agg [(.lit .nilFunc),(.fn (.func 129) [] []),(.fn (.func 129) [] []),(.fn (.func 130) [] []),(.fn (.func 131) [] []),(.fn (.func 132) [] []),(.fn (.func 129) [] [])]))] ⟨Qqu (vs:=[(.fn (.func 129) [] []),(.fn (.func 129) [] []),(.fn (.func 130) [] []),(.fn (.func 131) [] []),(.fn (.func 132) [] []),(.fn (.func 129) [] [])]) rfl underlying232 Qow Ziz rfl (by rfl) rfl,tv⟩ ?_
   obtain⟨x16,hg17,h⟩:=bno h
   obtain⟨hi18,hj19⟩:=gsm hg17
   refine bfe h (fun hb20 h=>?_) fun hb20 h=>?_
   ·cases h
   ·refine bfe h (fun hb21 h=>?_) fun hb21 h=>?_
    ·obtain⟨x23,hf22,h⟩:=bno h
     obtain⟨hi24,h⟩:=cko h
     obtain⟨hi24a,hi24b⟩:=Qd0 hi24
     obtain⟨x25,hg26,h⟩:=bno h
     refine Qlv 0 (.own 7 [[(.dat 5 (p2.map Qam)),(Qj1 p3),(.own 1 1 (0) p4),(.own 2 4 (0) p5),(.own 3 1 (0) p6),(Qrd p7),I p8]]) [mv 0 (.ref 0 7 0 0),rp [(.tmp 21,.ref 0 7 0 0)] (.ref 0 7 0 0),rp [(.tmp 22,.ref 0 7 0 0)] (.ref 0 7 0 2),rp [(.tmp 23,.ref 0 7 0 2)] (.ref 0 7 0 2),rp [(.tmp 24,.ref 0 7 0 2)] (.own 1 1 (0) p4),mv 1 (I p0),mv 0 (.ref 0 7 0 0),rp [(.tmp 27,.ref 0 7 0 0)] (.ref 0 7 0 0),rp [(.tmp 28,.ref 0 7 0 0)] (.ref 0 7 0 0),rp [(.tmp 29,.ref 0 7 0 0)] (.ref 0 7 0 1),rp [(.tmp 30,.ref 0 7 0 1)] (Qj1 p3),mv 1 (I p0),rp [(.tmp 31,(Qj1 p3)),(.tmp 32,I p0)] (.dptr (Qah x16) 0),mv 33 (.dptr (Qah x16) 0),rp [(.tmp 34,(.dptr (Qah x16) 0))] (K .u8 x16.Kind),rb [(.tmp 7,.ref 5 7 0 0),(.tmp 35,(K .u8 x16.Kind))] [(5,Ql9)] (.ref 5 7 0 1),rb [(.tmp 36,.ref 5 7 0 1)] [(5,Ql9)] (.fn (.func 129) [] []),mv 0 (.ref 0 7 0 0),mv 1 (I p0),rb [(.tmp 6,.ref 4 4 0 0)] [(4,(Qqk x14))] (Qh0 x14),⟨[(.tmp 37,(.fn (.func 129) [] [])),(.tmp 38,.ref 0 7 0 0),(.tmp 39,I p0),(.tmp 40,(Qh0 x14))],[(0,(Qgi p2 p3 p4 p5 p6 p7 p8)),(1,(Qfp p9)),(2,(Qhh p10)),(3,(.own 1 (p11.map Qab)))],(.dat 4 (x23.map Qac)),[(0,(Qgi p2 p3 p4 p5 p6 p7 p8)),(1,(Qfp p9)),(2,(Qhh p10)),(3,(.own 1 (p11.map Qab)))],false⟩,rb [(.tmp 25,(.own 1 1 (0) p4)),(.tmp 26,I p0)] [(1,(Qfp p9))] (.ref 1 1 p0.toNat 0),⟨[(.tmp 42,(.ref 1 1 p0.toNat 0)),(.tmp 41,(.dat 4 (x23.map Qac)))],[(1,(Qfp p9))],.any,[(1,(.own 1 ((p9.set p0.toNat x23:List (List Qaa)).map Qag)))],false⟩] (SImp.box ⟨lrf,lrf,lrf,lrf,lrf,lrf,lrf,tv⟩) ⟨tv,tv,tv,tv,tv,tv,tv,tv,tv,tv,tv,tv,tv,tv,tv,tv,tv,tv,tv,tv,⟨(SImp.box ⟨lrf,lrf,lrf,lrf,lrf,lrf,lrf,tv⟩),tv,tv,tv,tv⟩,tv,⟨tv,tv⟩,tv⟩ ?_ ?_
     ·exact⟨hr_ (amv rfl),sf_ (Qbd rfl),sf_ (afa rfl underlying119 rfl rfl ti45 (by decide) rfl),sf_ (afa rfl underlying45 rfl rfl ti42 (by decide) rfl),sf_ (ald rfl ti42 (by decide) rfl (nle rfl) rfl),hr_ (amv rfl),hr_ (amv rfl),sf_ (Qbd rfl),sf_ (afa rfl underlying119 rfl rfl ti39 (by decide) rfl),sf_ (afa rfl underlying39 rfl rfl ti37 (by decide) rfl),sf_ (ald rfl ti37 (by decide) rfl (nle rfl) rfl),hr_ (amv rfl),hr_ (aiq underlying37 Qi0 Qah hi18 hj19),hr_ (afd rfl underlying110 rfl rfl ti5 (by decide) rfl),hr_ (ald_ rfl ti5 (by decide) (nle rfl) rfl),hr_ (Qjz hb21 (Qj0 rfl underlying232 Qow (by decide) (by decide) rfl)),hr_ (ald rfl Qow (by decide) rfl (nle rfl) rfl),hr_ (amv rfl),hr_ (amv rfl),hr_ (ald rfl ti49 (by decide) rfl (nle rfl) rfl),hr_ (acq [.ref 0 7 0 0,I p0,(Qh0 x14)] [(Qgi p2 p3 p4 p5 p6 p7 p8),(Qfp p9),(Qhh p10),(.own 1 (p11.map Qab))] [(Qgi p2 p3 p4 p5 p6 p7 p8),(Qfp p9),(Qhh p10),(.own 1 (p11.map Qab))] (.dat 4 (x23.map Qac)) [0,1,2,3] Qvg (Qhg N p0 x14 p2 p3 p4 p5 p6 p7 p8 p9 p10 p11 _ hf22) (Qbi (rnc (Qas rfl) (rnc (.plain _ nll) (rnc (.plain _ (NLt.agg _ (nlcc (nlcc nl0)))) rn0)))) (slc (Qai (rnc (pld Qap) (rnc (pld Qae) (rnc (Qcq rfl) (rnc (Qcq rfl) (rnc (Qcq rfl) (rnc (pld Qak) (rnc (.plain _ nll) rn0)))))))) (slc (Qa2 Qan) (slc (Qa2 Qbb) (slc (Qa2 Qaj) Qao)))) (slc (Qai (rnc (pld Qap) (rnc (pld Qae) (rnc (Qcr rfl) (rnc (Qcr rfl) (rnc (Qcr rfl) (rnc (pld Qak) (rnc (.plain _ nll) rn0)))))))) (slc (Qa2 Qan) (slc (Qa2 Qbb) (slc (Qa2 Qaj) Qao)))) (pld Qak)),hr_ (aio rfl underlying42 ti51 (odt hi24a) (odt hi24b) (Nat.zero_add _)),hr_ (ast rfl ti51 (by rfl) (mgt Qag hg26) (nle rfl) (Qf5 Qag rfl)),tv⟩
     obtain rfl:=osi h
     exact⟨_,(mto (n:=43) (l':=[]) (own':=[(Qgi p2 p3 p4 p5 p6 p7 p8),(.own 1 (((p9.set p0.toNat x23):List (List Qaa)).map Qag)),(Qhh p10),(.own 1 (p11.map Qab))]) [] [0,1,2,3] [(Qgi p2 p3 p4 p5 p6 p7 p8),(.own 1 ((p9.set p0.toNat x23:List (List Qaa)).map Qag)),(Qhh p10),(.own 1 (p11.map Qab))] hq pn (qb (lc (rnd Qap) (lc (rnd Qae) (lc (.rn (Qay rfl)) (lc (.rn (Qay rfl)) (lc (.rn (Qay rfl)) (lc (rnd Qak) (lc rwl ln))))))) (qc (spr Qan) (qc (spr Qbb) (qc (spr Qaj) qn))))),Qk2 (vs:=[]) tv rfl (NLt.tup _ nl0) (by kernel_rfl) (Qch (Qh3 (nlc (NLt.of0 (nld Qap _)) (nlc (NLt.of0 (nld Qae _)) (nlc (NLt.own _ _ _ _ (by decide)) (nlc (NLt.own _ _ _ _ (by decide)) (nlc (NLt.own _ _ _ _ (by decide)) (nlc (NLt.of0 (nld Qak _)) (nlc (NLt.of0 nll) nl0)))))))) (Qch (Qfo Qan _) (Qch (Qfo Qbb _) (Qch (Qfo Qaj _) Qk9))))⟩
    ·refine bfe h (fun hb27 h=>?_) fun hb27 h=>?_
     ·obtain⟨x29,hf28,h⟩:=bno h
      obtain⟨hi30,h⟩:=cko h
      obtain⟨hi30a,hi30b⟩:=Qd0 hi30
      obtain⟨x31,hg32,h⟩:=bno h
      refine Qlv 0 (.own 7 [[(.dat 5 (p2.map Qam)),(Qj1 p3),(.own 1 1 (0) p4),(.own 2 4 (0) p5),(.own 3 1 (0) p6),(Qrd p7),I p8]]) [mv 0 (.ref 0 7 0 0),rp [(.tmp 21,.ref 0 7 0 0)] (.ref 0 7 0 0),rp [(.tmp 22,.ref 0 7 0 0)] (.ref 0 7 0 2),rp [(.tmp 23,.ref 0 7 0 2)] (.ref 0 7 0 2),rp [(.tmp 24,.ref 0 7 0 2)] (.own 1 1 (0) p4),mv 1 (I p0),mv 0 (.ref 0 7 0 0),rp [(.tmp 27,.ref 0 7 0 0)] (.ref 0 7 0 0),rp [(.tmp 28,.ref 0 7 0 0)] (.ref 0 7 0 0),rp [(.tmp 29,.ref 0 7 0 0)] (.ref 0 7 0 1),rp [(.tmp 30,.ref 0 7 0 1)] (Qj1 p3),mv 1 (I p0),rp [(.tmp 31,(Qj1 p3)),(.tmp 32,I p0)] (.dptr (Qah x16) 0),mv 33 (.dptr (Qah x16) 0),rp [(.tmp 34,(.dptr (Qah x16) 0))] (K .u8 x16.Kind),rb [(.tmp 7,.ref 5 7 0 0),(.tmp 35,(K .u8 x16.Kind))] [(5,Ql9)] (.ref 5 7 0 2),rb [(.tmp 36,.ref 5 7 0 2)] [(5,Ql9)] (.fn (.func 129) [] []),mv 0 (.ref 0 7 0 0),mv 1 (I p0),rb [(.tmp 6,.ref 4 4 0 0)] [(4,(Qqk x14))] (Qh0 x14),⟨[(.tmp 37,(.fn (.func 129) [] [])),(.tmp 38,.ref 0 7 0 0),(.tmp 39,I p0),(.tmp 40,(Qh0 x14))],[(0,(Qgi p2 p3 p4 p5 p6 p7 p8)),(1,(Qfp p9)),(2,(Qhh p10)),(3,(.own 1 (p11.map Qab)))],(.dat 4 (x29.map Qac)),[(0,(Qgi p2 p3 p4 p5 p6 p7 p8)),(1,(Qfp p9)),(2,(Qhh p10)),(3,(.own 1 (p11.map Qab)))],false⟩,rb [(.tmp 25,(.own 1 1 (0) p4)),(.tmp 26,I p0)] [(1,(Qfp p9))] (.ref 1 1 p0.toNat 0),⟨[(.tmp 42,(.ref 1 1 p0.toNat 0)),(.tmp 41,(.dat 4 (x29.map Qac)))],[(1,(Qfp p9))],.any,[(1,(.own 1 ((p9.set p0.toNat x29:List (List Qaa)).map Qag)))],false⟩] (SImp.box ⟨lrf,lrf,lrf,lrf,lrf,lrf,lrf,tv⟩) ⟨tv,tv,tv,tv,tv,tv,tv,tv,tv,tv,tv,tv,tv,tv,tv,tv,tv,tv,tv,tv,⟨(SImp.box ⟨lrf,lrf,lrf,lrf,lrf,lrf,lrf,tv⟩),tv,tv,tv,tv⟩,tv,⟨tv,tv⟩,tv⟩ ?_ ?_
      ·exact⟨hr_ (amv rfl),sf_ (Qbd rfl),sf_ (afa rfl underlying119 rfl rfl ti45 (by decide) rfl),sf_ (afa rfl underlying45 rfl rfl ti42 (by decide) rfl),sf_ (ald rfl ti42 (by decide) rfl (nle rfl) rfl),hr_ (amv rfl),hr_ (amv rfl),sf_ (Qbd rfl),sf_ (afa rfl underlying119 rfl rfl ti39 (by decide) rfl),sf_ (afa rfl underlying39 rfl rfl ti37 (by decide) rfl),sf_ (ald rfl ti37 (by decide) rfl (nle rfl) rfl),hr_ (amv rfl),hr_ (aiq underlying37 Qi0 Qah hi18 hj19),hr_ (afd rfl underlying110 rfl rfl ti5 (by decide) rfl),hr_ (ald_ rfl ti5 (by decide) (nle rfl) rfl),hr_ (Qjz hb27 (Qj0 rfl underlying232 Qow (by decide) (by decide) rfl)),hr_ (ald rfl Qow (by decide) rfl (nle rfl) rfl),hr_ (amv rfl),hr_ (amv rfl),hr_ (ald rfl ti49 (by decide) rfl (nle rfl) rfl),hr_ (acq [.ref 0 7 0 0,I p0,(Qh0 x14)] [(Qgi p2 p3 p4 p5 p6 p7 p8),(Qfp p9),(Qhh p10),(.own 1 (p11.map Qab))] [(Qgi p2 p3 p4 p5 p6 p7 p8),(Qfp p9),(Qhh p10),(.own 1 (p11.map Qab))] (.dat 4 (x29.map Qac)) [0,1,2,3] Qvg (Qhg N p0 x14 p2 p3 p4 p5 p6 p7 p8 p9 p10 p11 _ hf28) (Qbi (rnc (Qas rfl) (rnc (.plain _ nll) (rnc (.plain _ (NLt.agg _ (nlcc (nlcc nl0)))) rn0)))) (slc (Qai (rnc (pld Qap) (rnc (pld Qae) (rnc (Qcq rfl) (rnc (Qcq rfl) (rnc (Qcq rfl) (rnc (pld Qak) (rnc (.plain _ nll) rn0)))))))) (slc (Qa2 Qan) (slc (Qa2 Qbb) (slc (Qa2 Qaj) Qao)))) (slc (Qai (rnc (pld Qap) (rnc (pld Qae) (rnc (Qcr rfl) (rnc (Qcr rfl) (rnc (Qcr rfl) (rnc (pld Qak) (rnc (.plain _ nll) rn0)))))))) (slc (Qa2 Qan) (slc (Qa2 Qbb) (slc (Qa2 Qaj) Qao)))) (pld Qak)),hr_ (aio rfl underlying42 ti51 (odt hi30a) (odt hi30b) (Nat.zero_add _)),hr_ (ast rfl ti51 (by rfl) (mgt Qag hg32) (nle rfl) (Qf5 Qag rfl)),tv⟩
      obtain rfl:=osi h
      exact⟨_,(mto (n:=43) (l':=[]) (own':=[(Qgi p2 p3 p4 p5 p6 p7 p8),(.own 1 (((p9.set p0.toNat x29):List (List Qaa)).map Qag)),(Qhh p10),(.own 1 (p11.map Qab))]) [] [0,1,2,3] [(Qgi p2 p3 p4 p5 p6 p7 p8),(.own 1 ((p9.set p0.toNat x29:List (List Qaa)).map Qag)),(Qhh p10),(.own 1 (p11.map Qab))] hq pn (qb (lc (rnd Qap) (lc (rnd Qae) (lc (.rn (Qay rfl)) (lc (.rn (Qay rfl)) (lc (.rn (Qay rfl)) (lc (rnd Qak) (lc rwl ln))))))) (qc (spr Qan) (qc (spr Qbb) (qc (spr Qaj) qn))))),Qk2 (vs:=[]) tv rfl (NLt.tup _ nl0) (by kernel_rfl) (Qch (Qh3 (nlc (NLt.of0 (nld Qap _)) (nlc (NLt.of0 (nld Qae _)) (nlc (NLt.own _ _ _ _ (by decide)) (nlc (NLt.own _ _ _ _ (by decide)) (nlc (NLt.own _ _ _ _ (by decide)) (nlc (NLt.of0 (nld Qak _)) (nlc (NLt.of0 nll) nl0)))))))) (Qch (Qfo Qan _) (Qch (Qfo Qbb _) (Qch (Qfo Qaj _) Qk9))))⟩
     ·refine bfe h (fun hb33 h=>?_) fun hb33 h=>?_
      ·obtain⟨x35,hf34,h⟩:=bno h
       obtain⟨hi36,h⟩:=cko h
       obtain⟨hi36a,hi36b⟩:=Qd0 hi36
       obtain⟨x37,hg38,h⟩:=bno h
       refine Qlv 0 (.own 7 [[(.dat 5 (p2.map Qam)),(Qj1 p3),(.own 1 1 (0) p4),(.own 2 4 (0) p5),(.own 3 1 (0) p6),(Qrd p7),I p8]]) [mv 0 (.ref 0 7 0 0),rp [(.tmp 21,.ref 0 7 0 0)] (.ref 0 7 0 0),rp [(.tmp 22,.ref 0 7 0 0)] (.ref 0 7 0 2),rp [(.tmp 23,.ref 0 7 0 2)] (.ref 0 7 0 2),rp [(.tmp 24,.ref 0 7 0 2)] (.own 1 1 (0) p4),mv 1 (I p0),mv 0 (.ref 0 7 0 0),rp [(.tmp 27,.ref 0 7 0 0)] (.ref 0 7 0 0),rp [(.tmp 28,.ref 0 7 0 0)] (.ref 0 7 0 0),rp [(.tmp 29,.ref 0 7 0 0)] (.ref 0 7 0 1),rp [(.tmp 30,.ref 0 7 0 1)] (Qj1 p3),mv 1 (I p0),rp [(.tmp 31,(Qj1 p3)),(.tmp 32,I p0)] (.dptr (Qah x16) 0),mv 33 (.dptr (Qah x16) 0),rp [(.tmp 34,(.dptr (Qah x16) 0))] (K .u8 x16.Kind),rb [(.tmp 7,.ref 5 7 0 0),(.tmp 35,(K .u8 x16.Kind))] [(5,Ql9)] (.ref 5 7 0 3),rb [(.tmp 36,.ref 5 7 0 3)] [(5,Ql9)] (.fn (.func 130) [] []),mv 0 (.ref 0 7 0 0),mv 1 (I p0),rb [(.tmp 6,.ref 4 4 0 0)] [(4,(Qqk x14))] (Qh0 x14),⟨[(.tmp 37,(.fn (.func 130) [] [])),(.tmp 38,.ref 0 7 0 0),(.tmp 39,I p0),(.tmp 40,(Qh0 x14))],[(0,(Qgi p2 p3 p4 p5 p6 p7 p8)),(1,(Qfp p9)),(2,(Qhh p10)),(3,(.own 1 (p11.map Qab)))],(.dat 4 (x35.1.map Qac)),[(0,(Qgi p2 p3 p4 p5 p6 p7 p8)),(1,(Qfp p9)),(2,(.own 4 (x35.2.map Qav))),(3,(.own 1 (p11.map Qab)))],false⟩,rb [(.tmp 25,(.own 1 1 (0) p4)),(.tmp 26,I p0)] [(1,(Qfp p9))] (.ref 1 1 p0.toNat 0),⟨[(.tmp 42,(.ref 1 1 p0.toNat 0)),(.tmp 41,(.dat 4 (x35.1.map Qac)))],[(1,(Qfp p9))],.any,[(1,(.own 1 ((p9.set p0.toNat x35.1:List (List Qaa)).map Qag)))],false⟩] (SImp.box ⟨lrf,lrf,lrf,lrf,lrf,lrf,lrf,tv⟩) ⟨tv,tv,tv,tv,tv,tv,tv,tv,tv,tv,tv,tv,tv,tv,tv,tv,tv,tv,tv,tv,⟨(SImp.box ⟨lrf,lrf,lrf,lrf,lrf,lrf,lrf,tv⟩),tv,tv,tv,tv⟩,tv,⟨tv,tv⟩,tv⟩ ?_ ?_
       ·exact⟨hr_ (amv rfl),sf_ (Qbd rfl),sf_ (afa rfl underlying119 rfl rfl ti45 (by decide) rfl),sf_ (afa rfl underlying45 rfl rfl ti42 (by decide) rfl),sf_ (ald rfl ti42 (by decide) rfl (nle rfl) rfl),hr_ (amv rfl),hr_ (amv rfl),sf_ (Qbd rfl),sf_ (afa rfl underlying119 rfl rfl ti39 (by decide) rfl),sf_ (afa rfl underlying39 rfl rfl ti37 (by decide) rfl),sf_ (ald rfl ti37 (by decide) rfl (nle rfl) rfl),hr_ (amv rfl),hr_ (aiq underlying37 Qi0 Qah hi18 hj19),hr_ (afd rfl underlying110 rfl rfl ti5 (by decide) rfl),hr_ (ald_ rfl ti5 (by decide) (nle rfl) rfl),hr_ (Qjz hb33 (Qj0 rfl underlying232 Qow (by decide) (by decide) rfl)),hr_ (ald rfl Qow (by decide) rfl (nle rfl) rfl),hr_ (amv rfl),hr_ (amv rfl),hr_ (ald rfl ti49 (by decide) rfl (nle rfl) rfl),hr_ (acq [.ref 0 7 0 0,I p0,(Qh0 x14)] [(Qgi p2 p3 p4 p5 p6 p7 p8),(Qfp p9),(Qhh p10),(.own 1 (p11.map Qab))] [(Qgi p2 p3 p4 p5 p6 p7 p8),(Qfp p9),(.own 4 (x35.2.map Qav)),(.own 1 (p11.map Qab))] (.dat 4 (x35.1.map Qac)) [0,1,2,3] Zbz (Qnn N p0 x14 p2 p3 p4 p5 p6 p7 p8 p9 p10 p11 _ hf34) (Qbi (rnc (Qas rfl) (rnc (.plain _ nll) (rnc (.plain _ (NLt.agg _ (nlcc (nlcc nl0)))) rn0)))) (slc (Qai (rnc (pld Qap) (rnc (pld Qae) (rnc (Qcq rfl) (rnc (Qcq rfl) (rnc (Qcq rfl) (rnc (pld Qak) (rnc (.plain _ nll) rn0)))))))) (slc (Qa2 Qan) (slc (Qa2 Qbb) (slc (Qa2 Qaj) Qao)))) (slc (Qai (rnc (pld Qap) (rnc (pld Qae) (rnc (Qcr rfl) (rnc (Qcr rfl) (rnc (Qcr rfl) (rnc (pld Qak) (rnc (.plain _ nll) rn0)))))))) (slc (Qa2 Qan) (slc (Qa2 Qbb) (slc (Qa2 Qaj) Qao)))) (pld Qak)),hr_ (aio rfl underlying42 ti51 (odt hi36a) (odt hi36b) (Nat.zero_add _)),hr_ (ast rfl ti51 (by rfl) (mgt Qag hg38) (nle rfl) (Qf5 Qag rfl)),tv⟩
       obtain rfl:=osi h
       exact⟨_,(mto (n:=43) (l':=[]) (own':=[(Qgi p2 p3 p4 p5 p6 p7 p8),(.own 1 (((p9.set p0.toNat x35.1):List (List Qaa)).map Qag)),(.own 4 (x35.2.map Qav)),(.own 1 (p11.map Qab))]) [] [0,1,2,3] [(Qgi p2 p3 p4 p5 p6 p7 p8),(.own 1 ((p9.set p0.toNat x35.1:List (List Qaa)).map Qag)),(.own 4 (x35.2.map Qav)),(.own 1 (p11.map Qab))] hq pn (qb (lc (rnd Qap) (lc (rnd Qae) (lc (.rn (Qay rfl)) (lc (.rn (Qay rfl)) (lc (.rn (Qay rfl)) (lc (rnd Qak) (lc rwl ln))))))) (qc (spr Qan) (qc (spr Qbb) (qc (spr Qaj) qn))))),Qk2 (vs:=[]) tv rfl (NLt.tup _ nl0) (by kernel_rfl) (Qch (Qh3 (nlc (NLt.of0 (nld Qap _)) (nlc (NLt.of0 (nld Qae _)) (nlc (NLt.own _ _ _ _ (by decide)) (nlc (NLt.own _ _ _ _ (by decide)) (nlc (NLt.own _ _ _ _ (by decide)) (nlc (NLt.of0 (nld Qak _)) (nlc (NLt.of0 nll) nl0)))))))) (Qch (Qfo Qan _) (Qch (Qfo Qbb _) (Qch (Qfo Qaj _) Qk9))))⟩
      ·refine bfe h (fun hb39 h=>?_) fun hb39 h=>?_
       ·obtain⟨x41,hf40,h⟩:=bno h
        obtain⟨hi42,h⟩:=cko h
        obtain⟨hi42a,hi42b⟩:=Qd0 hi42
        obtain⟨x43,hg44,h⟩:=bno h
        refine Qlv 0 (.own 7 [[(.dat 5 (p2.map Qam)),(Qj1 p3),(.own 1 1 (0) p4),(.own 2 4 (0) p5),(.own 3 1 (0) p6),(Qrd p7),.any]]) [mv 0 (.ref 0 7 0 0),rp [(.tmp 21,.ref 0 7 0 0)] (.ref 0 7 0 0),rp [(.tmp 22,.ref 0 7 0 0)] (.ref 0 7 0 2),rp [(.tmp 23,.ref 0 7 0 2)] (.ref 0 7 0 2),rp [(.tmp 24,.ref 0 7 0 2)] (.own 1 1 (0) p4),mv 1 (I p0),mv 0 (.ref 0 7 0 0),rp [(.tmp 27,.ref 0 7 0 0)] (.ref 0 7 0 0),rp [(.tmp 28,.ref 0 7 0 0)] (.ref 0 7 0 0),rp [(.tmp 29,.ref 0 7 0 0)] (.ref 0 7 0 1),rp [(.tmp 30,.ref 0 7 0 1)] (Qj1 p3),mv 1 (I p0),rp [(.tmp 31,(Qj1 p3)),(.tmp 32,I p0)] (.dptr (Qah x16) 0),mv 33 (.dptr (Qah x16) 0),rp [(.tmp 34,(.dptr (Qah x16) 0))] (K .u8 x16.Kind),rb [(.tmp 7,.ref 5 7 0 0),(.tmp 35,(K .u8 x16.Kind))] [(5,Ql9)] (.ref 5 7 0 4),rb [(.tmp 36,.ref 5 7 0 4)] [(5,Ql9)] (.fn (.func 131) [] []),mv 0 (.ref 0 7 0 0),mv 1 (I p0),rb [(.tmp 6,.ref 4 4 0 0)] [(4,(Qqk x14))] (Qh0 x14),⟨[(.tmp 37,(.fn (.func 131) [] [])),(.tmp 38,.ref 0 7 0 0),(.tmp 39,I p0),(.tmp 40,(Qh0 x14))],[(0,(Qgi p2 p3 p4 p5 p6 p7 p8)),(1,(Qfp p9)),(2,(Qhh p10)),(3,(.own 1 (p11.map Qab)))],(.dat 4 (x41.1.map Qac)),[(0,(Q0m p2 p3 p4 p5 p6 p7 x41)),(1,(Qfp p9)),(2,(.own 4 (x41.2.2.1.map Qav))),(3,(.own 1 (x41.2.2.2.map Qab)))],false⟩,rb [(.tmp 25,(.own 1 1 (0) p4)),(.tmp 26,I p0)] [(1,(Qfp p9))] (.ref 1 1 p0.toNat 0),⟨[(.tmp 42,(.ref 1 1 p0.toNat 0)),(.tmp 41,(.dat 4 (x41.1.map Qac)))],[(1,(Qfp p9))],.any,[(1,(.own 1 ((p9.set p0.toNat x41.1:List (List Qaa)).map Qag)))],false⟩] (SImp.box ⟨lrf,lrf,lrf,lrf,lrf,lrf,Less.any,tv⟩) ⟨tv,tv,tv,tv,tv,tv,tv,tv,tv,tv,tv,tv,tv,tv,tv,tv,tv,tv,tv,tv,⟨(SImp.box ⟨lrf,lrf,lrf,lrf,lrf,lrf,Less.any,tv⟩),tv,tv,tv,tv⟩,tv,⟨tv,tv⟩,tv⟩ ?_ ?_
        ·exact⟨hr_ (amv rfl),sf_ (Qbd rfl),sf_ (afa rfl underlying119 rfl rfl ti45 (by decide) rfl),sf_ (afa rfl underlying45 rfl rfl ti42 (by decide) rfl),sf_ (ald rfl ti42 (by decide) rfl (nle rfl) rfl),hr_ (amv rfl),hr_ (amv rfl),sf_ (Qbd rfl),sf_ (afa rfl underlying119 rfl rfl ti39 (by decide) rfl),sf_ (afa rfl underlying39 rfl rfl ti37 (by decide) rfl),sf_ (ald rfl ti37 (by decide) rfl (nle rfl) rfl),hr_ (amv rfl),hr_ (aiq underlying37 Qi0 Qah hi18 hj19),hr_ (afd rfl underlying110 rfl rfl ti5 (by decide) rfl),hr_ (ald_ rfl ti5 (by decide) (nle rfl) rfl),hr_ (Qjz hb39 (Qj0 rfl underlying232 Qow (by decide) (by decide) rfl)),hr_ (ald rfl Qow (by decide) rfl (nle rfl) rfl),hr_ (amv rfl),hr_ (amv rfl),hr_ (ald rfl ti49 (by decide) rfl (nle rfl) rfl),hr_ (acq [.ref 0 7 0 0,I p0,(Qh0 x14)] [(Qgi p2 p3 p4 p5 p6 p7 p8),(Qfp p9),(Qhh p10),(.own 1 (p11.map Qab))] [(Q0m p2 p3 p4 p5 p6 p7 x41),(Qfp p9),(.own 4 (x41.2.2.1.map Qav)),(.own 1 (x41.2.2.2.map Qab))] (.dat 4 (x41.1.map Qac)) [0,1,2,3] Zby (Qlj N p0 x14 p2 p3 p4 p5 p6 p7 p8 p9 p10 p11 _ hf40) (Qbi (rnc (Qas rfl) (rnc (.plain _ nll) (rnc (.plain _ (NLt.agg _ (nlcc (nlcc nl0)))) rn0)))) (slc (Qai (rnc (pld Qap) (rnc (pld Qae) (rnc (Qcq rfl) (rnc (Qcq rfl) (rnc (Qcq rfl) (rnc (pld Qak) (rnc (.plain _ nll) rn0)))))))) (slc (Qa2 Qan) (slc (Qa2 Qbb) (slc (Qa2 Qaj) Qao)))) (slc (Qai (rnc (pld Qap) (rnc (pld Qae) (rnc (Qcr rfl) (rnc (Qcr rfl) (rnc (Qcr rfl) (rnc (pld Qak) (rnc (.plain _ nll) rn0)))))))) (slc (Qa2 Qan) (slc (Qa2 Qbb) (slc (Qa2 Qaj) Qao)))) (pld Qak)),hr_ (aio rfl underlying42 ti51 (odt hi42a) (odt hi42b) (Nat.zero_add _)),hr_ (ast rfl ti51 (by rfl) (mgt Qag hg44) (nle rfl) (Qf5 Qag rfl)),tv⟩
        obtain rfl:=osi h
        exact⟨_,(mto (n:=43) (l':=[]) (own':=[(Q0m p2 p3 p4 p5 p6 p7 x41),(.own 1 (((p9.set p0.toNat x41.1):List (List Qaa)).map Qag)),(.own 4 (x41.2.2.1.map Qav)),(.own 1 (x41.2.2.2.map Qab))]) [] [0,1,2,3] [(Q0m p2 p3 p4 p5 p6 p7 x41),(.own 1 ((p9.set p0.toNat x41.1:List (List Qaa)).map Qag)),(.own 4 (x41.2.2.1.map Qav)),(.own 1 (x41.2.2.2.map Qab))] hq pn (qb (lc (rnd Qap) (lc (rnd Qae) (lc (.rn (Qay rfl)) (lc (.rn (Qay rfl)) (lc (.rn (Qay rfl)) (lc (rnd Qak) (lc rwl ln))))))) (qc (spr Qan) (qc (spr Qbb) (qc (spr Qaj) qn))))),Qk2 (vs:=[]) tv rfl (NLt.tup _ nl0) (by kernel_rfl) (Qch (Qh3 (nlc (NLt.of0 (nld Qap _)) (nlc (NLt.of0 (nld Qae _)) (nlc (NLt.own _ _ _ _ (by decide)) (nlc (NLt.own _ _ _ _ (by decide)) (nlc (NLt.own _ _ _ _ (by decide)) (nlc (NLt.of0 (nld Qak _)) (nlc (NLt.of0 nll) nl0)))))))) (Qch (Qfo Qan _) (Qch (Qfo Qbb _) (Qch (Qfo Qaj _) Qk9))))⟩
       ·refine bfe h (fun hb45 h=>?_) fun hb45 h=>?_
        ·obtain⟨x47,hf46,h⟩:=bno h
         obtain⟨hi48,h⟩:=cko h
         obtain⟨hi48a,hi48b⟩:=Qd0 hi48
         obtain⟨x49,hg50,h⟩:=bno h
         refine Qlv 0 (.own 7 [[(.dat 5 (p2.map Qam)),(Qj1 p3),(.own 1 1 (0) p4),(.own 2 4 (0) p5),(.own 3 1 (0) p6),(Qrd p7),I p8]]) [mv 0 (.ref 0 7 0 0),rp [(.tmp 21,.ref 0 7 0 0)] (.ref 0 7 0 0),rp [(.tmp 22,.ref 0 7 0 0)] (.ref 0 7 0 2),rp [(.tmp 23,.ref 0 7 0 2)] (.ref 0 7 0 2),rp [(.tmp 24,.ref 0 7 0 2)] (.own 1 1 (0) p4),mv 1 (I p0),mv 0 (.ref 0 7 0 0),rp [(.tmp 27,.ref 0 7 0 0)] (.ref 0 7 0 0),rp [(.tmp 28,.ref 0 7 0 0)] (.ref 0 7 0 0),rp [(.tmp 29,.ref 0 7 0 0)] (.ref 0 7 0 1),rp [(.tmp 30,.ref 0 7 0 1)] (Qj1 p3),mv 1 (I p0),rp [(.tmp 31,(Qj1 p3)),(.tmp 32,I p0)] (.dptr (Qah x16) 0),mv 33 (.dptr (Qah x16) 0),rp [(.tmp 34,(.dptr (Qah x16) 0))] (K .u8 x16.Kind),rb [(.tmp 7,.ref 5 7 0 0),(.tmp 35,(K .u8 x16.Kind))] [(5,Ql9)] (.ref 5 7 0 5),rb [(.tmp 36,.ref 5 7 0 5)] [(5,Ql9)] (.fn (.func 132) [] []),mv 0 (.ref 0 7 0 0),mv 1 (I p0),rb [(.tmp 6,.ref 4 4 0 0)] [(4,(Qqk x14))] (Qh0 x14),⟨[(.tmp 37,(.fn (.func 132) [] [])),(.tmp 38,.ref 0 7 0 0),(.tmp 39,I p0),(.tmp 40,(Qh0 x14))],[(0,(Qgi p2 p3 p4 p5 p6 p7 p8)),(1,(Qfp p9)),(2,(Qhh p10)),(3,(.own 1 (p11.map Qab)))],(.dat 4 (x47.1.map Qac)),[(0,(Qgi p2 p3 p4 p5 p6 p7 p8)),(1,(Qfp p9)),(2,(.own 4 (x47.2.map Qav))),(3,(.own 1 (p11.map Qab)))],false⟩,rb [(.tmp 25,(.own 1 1 (0) p4)),(.tmp 26,I p0)] [(1,(Qfp p9))] (.ref 1 1 p0.toNat 0),⟨[(.tmp 42,(.ref 1 1 p0.toNat 0)),(.tmp 41,(.dat 4 (x47.1.map Qac)))],[(1,(Qfp p9))],.any,[(1,(.own 1 ((p9.set p0.toNat x47.1:List (List Qaa)).map Qag)))],false⟩] (SImp.box ⟨lrf,lrf,lrf,lrf,lrf,lrf,lrf,tv⟩) ⟨tv,tv,tv,tv,tv,tv,tv,tv,tv,tv,tv,tv,tv,tv,tv,tv,tv,tv,tv,tv,⟨(SImp.box ⟨lrf,lrf,lrf,lrf,lrf,lrf,lrf,tv⟩),tv,tv,tv,tv⟩,tv,⟨tv,tv⟩,tv⟩ ?_ ?_
         ·exact⟨hr_ (amv rfl),sf_ (Qbd rfl),sf_ (afa rfl underlying119 rfl rfl ti45 (by decide) rfl),sf_ (afa rfl underlying45 rfl rfl ti42 (by decide) rfl),sf_ (ald rfl ti42 (by decide) rfl (nle rfl) rfl),hr_ (amv rfl),hr_ (amv rfl),sf_ (Qbd rfl),sf_ (afa rfl underlying119 rfl rfl ti39 (by decide) rfl),sf_ (afa rfl underlying39 rfl rfl ti37 (by decide) rfl),sf_ (ald rfl ti37 (by decide) rfl (nle rfl) rfl),hr_ (amv rfl),hr_ (aiq underlying37 Qi0 Qah hi18 hj19),hr_ (afd rfl underlying110 rfl rfl ti5 (by decide) rfl),hr_ (ald_ rfl ti5 (by decide) (nle rfl) rfl),hr_ (Qjz hb45 (Qj0 rfl underlying232 Qow (by decide) (by decide) rfl)),hr_ (ald rfl Qow (by decide) rfl (nle rfl) rfl),hr_ (amv rfl),hr_ (amv rfl),hr_ (ald rfl ti49 (by decide) rfl (nle rfl) rfl),hr_ (acq [.ref 0 7 0 0,I p0,(Qh0 x14)] [(Qgi p2 p3 p4 p5 p6 p7 p8),(Qfp p9),(Qhh p10),(.own 1 (p11.map Qab))] [(Qgi p2 p3 p4 p5 p6 p7 p8),(Qfp p9),(.own 4 (x47.2.map Qav)),(.own 1 (p11.map Qab))] (.dat 4 (x47.1.map Qac)) [0,1,2,3] Zbx (Qmx N p0 x14 p2 p3 p4 p5 p6 p7 p8 p9 p10 p11 _ hf46) (Qbi (rnc (Qas rfl) (rnc (.plain _ nll) (rnc (.plain _ (NLt.agg _ (nlcc (nlcc nl0)))) rn0)))) (slc (Qai (rnc (pld Qap) (rnc (pld Qae) (rnc (Qcq rfl) (rnc (Qcq rfl) (rnc (Qcq rfl) (rnc (pld Qak) (rnc (.plain _ nll) rn0)))))))) (slc (Qa2 Qan) (slc (Qa2 Qbb) (slc (Qa2 Qaj) Qao)))) (slc (Qai (rnc (pld Qap) (rnc (pld Qae) (rnc (Qcr rfl) (rnc (Qcr rfl) (rnc (Qcr rfl) (rnc (pld Qak) (rnc (.plain _ nll) rn0)))))))) (slc (Qa2 Qan) (slc (Qa2 Qbb) (slc (Qa2 Qaj) Qao)))) (pld Qak)),hr_ (aio rfl underlying42 ti51 (odt hi48a) (odt hi48b) (Nat.zero_add _)),hr_ (ast rfl ti51 (by rfl) (mgt Qag hg50) (nle rfl) (Qf5 Qag rfl)),tv⟩
         obtain rfl:=osi h
         exact⟨_,(mto (n:=43) (l':=[]) (own':=[(Qgi p2 p3 p4 p5 p6 p7 p8),(.own 1 (((p9.set p0.toNat x47.1):List (List Qaa)).map Qag)),(.own 4 (x47.2.map Qav)),(.own 1 (p11.map Qab))]) [] [0,1,2,3] [(Qgi p2 p3 p4 p5 p6 p7 p8),(.own 1 ((p9.set p0.toNat x47.1:List (List Qaa)).map Qag)),(.own 4 (x47.2.map Qav)),(.own 1 (p11.map Qab))] hq pn (qb (lc (rnd Qap) (lc (rnd Qae) (lc (.rn (Qay rfl)) (lc (.rn (Qay rfl)) (lc (.rn (Qay rfl)) (lc (rnd Qak) (lc rwl ln))))))) (qc (spr Qan) (qc (spr Qbb) (qc (spr Qaj) qn))))),Qk2 (vs:=[]) tv rfl (NLt.tup _ nl0) (by kernel_rfl) (Qch (Qh3 (nlc (NLt.of0 (nld Qap _)) (nlc (NLt.of0 (nld Qae _)) (nlc (NLt.own _ _ _ _ (by decide)) (nlc (NLt.own _ _ _ _ (by decide)) (nlc (NLt.own _ _ _ _ (by decide)) (nlc (NLt.of0 (nld Qak _)) (nlc (NLt.of0 nll) nl0)))))))) (Qch (Qfo Qan _) (Qch (Qfo Qbb _) (Qch (Qfo Qaj _) Qk9))))⟩
        ·refine bfe h (fun hb51 h=>?_) fun hb51 h=>?_
         ·obtain⟨x53,hf52,h⟩:=bno h
          obtain⟨hi54,h⟩:=cko h
          obtain⟨hi54a,hi54b⟩:=Qd0 hi54
          obtain⟨x55,hg56,h⟩:=bno h
          refine Qlv 0 (.own 7 [[(.dat 5 (p2.map Qam)),(Qj1 p3),(.own 1 1 (0) p4),(.own 2 4 (0) p5),(.own 3 1 (0) p6),(Qrd p7),I p8]]) [mv 0 (.ref 0 7 0 0),rp [(.tmp 21,.ref 0 7 0 0)] (.ref 0 7 0 0),rp [(.tmp 22,.ref 0 7 0 0)] (.ref 0 7 0 2),rp [(.tmp 23,.ref 0 7 0 2)] (.ref 0 7 0 2),rp [(.tmp 24,.ref 0 7 0 2)] (.own 1 1 (0) p4),mv 1 (I p0),mv 0 (.ref 0 7 0 0),rp [(.tmp 27,.ref 0 7 0 0)] (.ref 0 7 0 0),rp [(.tmp 28,.ref 0 7 0 0)] (.ref 0 7 0 0),rp [(.tmp 29,.ref 0 7 0 0)] (.ref 0 7 0 1),rp [(.tmp 30,.ref 0 7 0 1)] (Qj1 p3),mv 1 (I p0),rp [(.tmp 31,(Qj1 p3)),(.tmp 32,I p0)] (.dptr (Qah x16) 0),mv 33 (.dptr (Qah x16) 0),rp [(.tmp 34,(.dptr (Qah x16) 0))] (K .u8 x16.Kind),rb [(.tmp 7,.ref 5 7 0 0),(.tmp 35,(K .u8 x16.Kind))] [(5,Ql9)] (.ref 5 7 0 6),rb [(.tmp 36,.ref 5 7 0 6)] [(5,Ql9)] (.fn (.func 129) [] []),mv 0 (.ref 0 7 0 0),mv 1 (I p0),rb [(.tmp 6,.ref 4 4 0 0)] [(4,(Qqk x14))] (Qh0 x14),⟨[(.tmp 37,(.fn (.func 129) [] [])),(.tmp 38,.ref 0 7 0 0),(.tmp 39,I p0),(.tmp 40,(Qh0 x14))],[(0,(Qgi p2 p3 p4 p5 p6 p7 p8)),(1,(Qfp p9)),(2,(Qhh p10)),(3,(.own 1 (p11.map Qab)))],(.dat 4 (x53.map Qac)),[(0,(Qgi p2 p3 p4 p5 p6 p7 p8)),(1,(Qfp p9)),(2,(Qhh p10)),(3,(.own 1 (p11.map Qab)))],false⟩,rb [(.tmp 25,(.own 1 1 (0) p4)),(.tmp 26,I p0)] [(1,(Qfp p9))] (.ref 1 1 p0.toNat 0),⟨[(.tmp 42,(.ref 1 1 p0.toNat 0)),(.tmp 41,(.dat 4 (x53.map Qac)))],[(1,(Qfp p9))],.any,[(1,(.own 1 ((p9.set p0.toNat x53:List (List Qaa)).map Qag)))],false⟩] (SImp.box ⟨lrf,lrf,lrf,lrf,lrf,lrf,lrf,tv⟩) ⟨tv,tv,tv,tv,tv,tv,tv,tv,tv,tv,tv,tv,tv,tv,tv,tv,tv,tv,tv,tv,⟨(SImp.box ⟨lrf,lrf,lrf,lrf,lrf,lrf,lrf,tv⟩),tv,tv,tv,tv⟩,tv,⟨tv,tv⟩,tv⟩ ?_ ?_
          ·exact⟨hr_ (amv rfl),sf_ (Qbd rfl),sf_ (afa rfl underlying119 rfl rfl ti45 (by decide) rfl),sf_ (afa rfl underlying45 rfl rfl ti42 (by decide) rfl),sf_ (ald rfl ti42 (by decide) rfl (nle rfl) rfl),hr_ (amv rfl),hr_ (amv rfl),sf_ (Qbd rfl),sf_ (afa rfl underlying119 rfl rfl ti39 (by decide) rfl),sf_ (afa rfl underlying39 rfl rfl ti37 (by decide) rfl),sf_ (ald rfl ti37 (by decide) rfl (nle rfl) rfl),hr_ (amv rfl),hr_ (aiq underlying37 Qi0 Qah hi18 hj19),hr_ (afd rfl underlying110 rfl rfl ti5 (by decide) rfl),hr_ (ald_ rfl ti5 (by decide) (nle rfl) rfl),hr_ (Qjz hb51 (Qj0 rfl underlying232 Qow (by decide) (by decide) rfl)),hr_ (ald rfl Qow (by decide) rfl (nle rfl) rfl),hr_ (amv rfl),hr_ (amv rfl),hr_ (ald rfl ti49 (by decide) rfl (nle rfl) rfl),hr_ (acq [.ref 0 7 0 0,I p0,(Qh0 x14)] [(Qgi p2 p3 p4 p5 p6 p7 p8),(Qfp p9),(Qhh p10),(.own 1 (p11.map Qab))] [(Qgi p2 p3 p4 p5 p6 p7 p8),(Qfp p9),(Qhh p10),(.own 1 (p11.map Qab))] (.dat 4 (x53.map Qac)) [0,1,2,3] Qvg (Qhg N p0 x14 p2 p3 p4 p5 p6 p7 p8 p9 p10 p11 _ hf52) (Qbi (rnc (Qas rfl) (rnc (.plain _ nll) (rnc (.plain _ (NLt.agg _ (nlcc (nlcc nl0)))) rn0)))) (slc (Qai (rnc (pld Qap) (rnc (pld Qae) (rnc (Qcq rfl) (rnc (Qcq rfl) (rnc (Qcq rfl) (rnc (pld Qak) (rnc (.plain _ nll) rn0)))))))) (slc (Qa2 Qan) (slc (Qa2 Qbb) (slc (Qa2 Qaj) Qao)))) (slc (Qai (rnc (pld Qap) (rnc (pld Qae) (rnc (Qcr rfl) (rnc (Qcr rfl) (rnc (Qcr rfl) (rnc (pld Qak) (rnc (.plain _ nll) rn0)))))))) (slc (Qa2 Qan) (slc (Qa2 Qbb) (slc (Qa2 Qaj) Qao)))) (pld Qak)),hr_ (aio rfl underlying42 ti51 (odt hi54a) (odt hi54b) (Nat.zero_add _)),hr_ (ast rfl ti51 (by rfl) (mgt Qag hg56) (nle rfl) (Qf5 Qag rfl)),tv⟩
          obtain rfl:=osi h
          exact⟨_,(mto (n:=43) (l':=[]) (own':=[(Qgi p2 p3 p4 p5 p6 p7 p8),(.own 1 (((p9.set p0.toNat x53):List (List Qaa)).map Qag)),(Qhh p10),(.own 1 (p11.map Qab))]) [] [0,1,2,3] [(Qgi p2 p3 p4 p5 p6 p7 p8),(.own 1 ((p9.set p0.toNat x53:List (List Qaa)).map Qag)),(Qhh p10),(.own 1 (p11.map Qab))] hq pn (qb (lc (rnd Qap) (lc (rnd Qae) (lc (.rn (Qay rfl)) (lc (.rn (Qay rfl)) (lc (.rn (Qay rfl)) (lc (rnd Qak) (lc rwl ln))))))) (qc (spr Qan) (qc (spr Qbb) (qc (spr Qaj) qn))))),Qk2 (vs:=[]) tv rfl (NLt.tup _ nl0) (by kernel_rfl) (Qch (Qh3 (nlc (NLt.of0 (nld Qap _)) (nlc (NLt.of0 (nld Qae _)) (nlc (NLt.own _ _ _ _ (by decide)) (nlc (NLt.own _ _ _ _ (by decide)) (nlc (NLt.own _ _ _ _ (by decide)) (nlc (NLt.of0 (nld Qak _)) (nlc (NLt.of0 nll) nl0)))))))) (Qch (Qfo Qan _) (Qch (Qfo Qbb _) (Qch (Qfo Qaj _) Qk9))))⟩
         ·cases h
  ·skip
   refine wxz ?_
   refine bfe h (fun hc57 h=>?_) fun hc57 h=>?_
   ·refine wft hc57<|Zch 3 [mv 1 (I p0),rp [(.tmp 17,I p0)] (.agg [I p0]),rp [(.tmp 18,(.agg [I p0]))] (.lit (.iface 194 (.agg #[(.int .i64 p0)]))),⟨[(.tmp 19,(.lit (.iface 194 (.agg #[(.int .i64 p0)]))))],[],.any,[],false⟩] (by exact⟨by kernel_rfl,by kernel_rfl⟩) rfl (by kernel_rfl) rfl (Qy1 rfl) (⟨fun _ _=>amv rfl,fun _ _=>Qa8 (vs:=[I p0]) rfl Zkw Zi0 rfl (by rfl) rfl,fun _ _=>awk (rd':=[(.tmp 18,.lit (.agg #[(.int .i64 p0)]))]) ⟨rfl,(Less.lits [(.int .i64 p0)]),tv⟩ (Qz2 rfl underlying194),fun _ h=>absurd rfl h,tv⟩) ?_
    obtain rfl:=osi h
    exact rfl
   ·exact wfn hc57<|Qaq<|thn<|⟨(),h,(mto (n:=43) [(0,.ref 0 7 0 0),(1,I p0),(6,.ref 7 4 0 0)] [0,1,2,3,7] [(Qgi p2 p3 p4 p5 p6 p7 p8),(Qfp p9),(Qhh p10),(.own 1 (p11.map Qab)),(Qqk x14)] hq (prr (pw (prr pn))) (qb (lc (rnd Qap) (lc (rnd Qae) (lc (.rn (Qay rfl)) (lc (.rn (Qay rfl)) (lc (.rn (Qay rfl)) (lc (rnd Qak) (lc rwl ln))))))) (qc (spr Qan) (qc (spr Qbb) (qc (spr Qaj) (qb (lcc (lcc ln)) qn))))))⟩
theorem Qll (N:Nat) (p0 p1:Int) (p2:List GRow) (p3:List Qad) (p4 p5 p6:Nat) (p7:List Qaa) (p8:Int) (p9:List (List Qaa)) (p10:List Qa9) (p11:List Int) (r:(Int×(List (List Qaa))×(List Qa9)×(List Int))) (h:Qco N p0 p1 p2 p3 p4 p5 p6 p7 p8 p9 p10 p11=some (.inl r)):Spec prog 83 [.ref 0 7 0 0,I p0,I p1] [(Qgi p2 p3 p4 p5 p6 p7 p8),(Qfp p9),(Qhh p10),(.own 1 (p11.map Qab))] (.tup []) [(.own 7 [[(.dat 5 (p2.map Qam)),(.dat 7 (p3.map Qah)),(.own 1 1 (0) p4),(.own 2 4 (0) p5),(.own 3 1 (0) p6),(.dat 4 (p7.map Qac)),I r.1]]),(.own 1 (r.2.1.map Qag)),(.own 4 (r.2.2.1.map Qav)),(.own 1 (r.2.2.2.map Qab))]:=Qia N p0 p1 p2 p3 p4 p5 p6 p7 p8 p9 p10 p11 _ h
theorem Qlk (N:Nat) (p0 p1:Int) (p2:List GRow) (p3:List Qad) (p4 p5 p6:Nat) (p7:List Qaa) (p8:Int) (p9:List (List Qaa)) (p10:List Qa9) (p11:List Int) (r:Int) (h:Qco N p0 p1 p2 p3 p4 p5 p6 p7 p8 p9 p10 p11=some (.inr r)):Zcs prog 83 [.ref 0 7 0 0,I p0,I p1] [(Qgi p2 p3 p4 p5 p6 p7 p8),(Qfp p9),(Qhh p10),(.own 1 (p11.map Qab))] (.iface 194 (.agg #[(.int .i64 r)])):=Qia N p0 p1 p2 p3 p4 p5 p6 p7 p8 p9 p10 p11 _ h
def Zhs:Slot:=.own 1 [[(.lit (.pointer none))]]
theorem Qo7 (v0:Int):DPan prog 82 [1,1] (.iface 194 (.agg #[(.int .i64 v0)])) [[(.lit (.pointer none))],[(I v0)]]:=by
  refine Qqr (t:=5) (args:=[.ref 0 1 0 0,.ref 1 1 0 0]) func82 rfl (fun _ _=>rfl) (by kernel_rfl) Zfu 2 (nle rfl) (fun X φ0 w0 hq=>?_)
  refine Qvq<|Qar ?_
  refine wx tbk [(0,rp [(.tmp 5,(.lit (.iface 194 (.agg #[(.int .i64 v0)])))),(.const .nilIface,(.lit .nilIface))] (B false))] ⟨Qz1 rfl underlying20,tv⟩<|wfa ?_
  exact wx tbk [(0,rp [(.tmp 5,(.lit (.iface 194 (.agg #[(.int .i64 v0)]))))] (.tup [(.agg [I v0]),B true]))] ⟨Qzv (r:=.lit (.tuple #[(.agg #[(.int .i64 v0)]),(.bool true)])) (Less.trans Q7q (Less.tup ⟨Q7r (l:=[(.int .i64 v0)]),lrf,tv⟩)) (Qvs rfl underlying194),tv⟩<|wtr<|wxz<|wxe1<|bln<|⟨_,(mto (n:=13) (l':=[]) (own':=[Zhs,(.own 1 [[I v0]])]) [] [0,1] [Zhs,(.own 1 [[I v0]])] hq pn (qb (lc rwl ln) (qb (lc rwl ln) qn))),Zd4 (vs:=[]) tv rfl (NLt.tup _ nl0) (by kernel_rfl) (Qch (Qh3 (nlt0 (nlc nll nl0))) (Qch (Qh3 (nlt0 (nlc nll nl0))) Qk9))⟩
end
section
def Qdn (N:Nat) (p0:GNet) (p1:List Int) (p2:List Qaa) (k16:(List (List Qaa))×(List Qa9)×(List Int)×Int→Option (Int⊕(Int×Int×(List (List Qaa))×(List Qa9)×(List Int)))):Nat→Int→(List (List Qaa))→(List Qa9)→(List Int)→Int→Option (Int⊕(Int×Int×(List (List Qaa))×(List Qa9)×(List Int)))
  |0,_,_,_,_,_=>none
  |n27+1,y17,y18,y19,y20,y21=>
    bif (decide (y17<(p0.Elements.length:Int))) then
     (getI p0.Elements y17).bind fun x29=>
     (getI p1 y17).bind fun x33=>
     (Qfg N x29 x33).bind fun x38=>
     (Qco N y17 x38 p0.Table p0.Elements ((p0.Elements.length:Int).toNat) ((p0.Elements.length:Int).toNat) p1.length p2 y21 y18 y19 y20).bind (
      Sum.elim (fun x41=>
        Qdn N p0 p1 p2 k16 n27 (w64 (y17+1)) x41.2.1 x41.2.2.1 x41.2.2.2 x41.1)
      (fun x42=>
        some (.inl x42)))
    else
     k16 (y18,y19,y20,y21)
def Qe5 (N:Nat) (p0:GNet) (p1:List Int) (p2:List Qaa):Option (Int⊕(Int×Int×(List (List Qaa))×(List Qa9)×(List Int))):=
  chk (decide (0≤(p0.Elements.length:Int))&&decide (24*(p0.Elements.length:Int)≤281474976710656)&&decide ((p0.Elements.length:Int)≤9223372036854775807))<|
  chk (decide (0≤(p0.Elements.length:Int))&&decide (32*(p0.Elements.length:Int)≤281474976710656)&&decide ((p0.Elements.length:Int)≤9223372036854775807))<|
  (Qe3 N p1).bind fun _=>
  Qcf (fun ⟨y12,y13,y14,y15⟩=>
    some (.inr ((-1),y15,y12,y13,y14))) fun k16:(List (List Qaa))×(List Qa9)×(List Int)×Int→Option (Int⊕(Int×Int×(List (List Qaa))×(List Qa9)×(List Int)))=>
  Qdn N p0 p1 p2 k16 N 0 (List.replicate (p0.Elements.length:Int).toNat ([])) (List.replicate (p0.Elements.length:Int).toNat (⟨0,0,0,0⟩:Qa9)) p1 0
abbrev Q2x (p0:GNet):AV:=.dat 5 (p0.Table.map Qam)
abbrev Qs4 (p0:GNet):AV:=.dat 7 (p0.Elements.map Qah)
abbrev Q9i (p0:GNet):AV:=.agg [(Q2x p0),(Qs4 p0)]
abbrev Qv2 (p2:List Qaa):AV:=.dat 4 (p2.map Qac)
def Zhp (p0:GNet):Slot:=.own 1 ((List.replicate (p0.Elements.length:Int).toNat ([]):List (List Qaa)).map Qag)
def Zho (p0:GNet):Slot:=.own 4 ((List.replicate (p0.Elements.length:Int).toNat (⟨0,0,0,0⟩:Qa9):List Qa9).map Qav)
def Zkg (p0:GNet) (p1:List Int):AV:=.agg [(.own 3 1 (0) ((p0.Elements.length:Int).toNat)),(.own 4 4 (0) ((p0.Elements.length:Int).toNat)),(.own 5 1 (0) p1.length)]
def Q2w (p0:GNet):Slot:=.own 2 [[(Q2x p0),(Qs4 p0)]]
def Qqh:Slot:=.own 1 [[(.ref 6 7 (0) 0)]]
def Q4w (p0:GNet) (p1:List Int) (p2:List Qaa) (y15:Int):Slot:=.own 7 [[(Q2x p0),(Qs4 p0),(.own 3 1 (0) ((p0.Elements.length:Int).toNat)),(.own 4 4 (0) ((p0.Elements.length:Int).toNat)),(.own 5 1 (0) p1.length),(Qv2 p2),(I y15)]]
def Zcw (p0:GNet) (p1:List Int) (p2:List Qaa):Slot:=.own 7 [[(Q2x p0),(Qs4 p0),(.own 3 1 (0) ((p0.Elements.length:Int).toNat)),(.own 4 4 (0) ((p0.Elements.length:Int).toNat)),(.own 5 1 (0) p1.length),(Qv2 p2),(I (0))]]
def Qrb (y18:List (List Qaa)):Slot:=.own 1 (y18.map Qag)
def Qra (y19:List Qa9):Slot:=.own 4 (y19.map Qav)
def Qrc (p0:GNet) (p1:List Int) (p2:List Qaa) (y21:Int):Slot:=.own 7 [[(Q2x p0),(Qs4 p0),(.own 3 1 (0) ((p0.Elements.length:Int).toNat)),(.own 4 4 (0) ((p0.Elements.length:Int).toNat)),(.own 5 1 (0) p1.length),(Qv2 p2),(I y21)]]
def Qt5 (x29:Qad):AV:=.agg [(K .u8 x29.Kind),(.dat 2 (x29.From.map Qc2)),(I x29.Level),(I x29.Amount),(I x29.Wide),(I x29.Narrow),(.dat 1 (x29.Weights.map Qab))]
def Q4x (p0:GNet) (p1:List Int) (p2:List Qaa) (x41:(Int×(List (List Qaa))×(List Qa9)×(List Int))):Slot:=.own 7 [[(Q2x p0),(Qs4 p0),(.own 3 1 (0) (((p0.Elements.length:Int).toNat))),(.own 4 4 (0) (((p0.Elements.length:Int).toNat))),(.own 5 1 (0) p1.length),(Qv2 p2),(I x41.1)]]
def Zhq:Slot:=.own 1 [[(.lit (.pointer none))]]
theorem Qln (N:Nat) (p0:GNet) (p1:List Int) (p2:List Qaa) (r:(Int⊕(Int×Int×(List (List Qaa))×(List Qa9)×(List Int)))) (h:Qe5 N p0 p1 p2=some r):Spec prog 40 [(Q9i p0),(.dat 1 (p1.map Qab)),(Qv2 p2)] [] (((Sum.elim (fun r=>(.tup [(.lit (.pointer none)),(I r)])) (fun r=>(.tup [(.ref 2 7 (0) 0),(I r.1)]))):(Int⊕(Int×Int×(List (List Qaa))×(List Qa9)×(List Int)))→AV) r) (((Sum.elim (fun r=>[(.own 1 [[(.lit (.pointer none))]]),(.own 1 [[(I r)]])]) (fun r=>[(.own 1 [[(.ref 2 7 (0) 0)]]),(.own 1 [[(I r.1)]]),(.own 7 [[(.dat 5 (p0.Table.map Qam)),(.dat 7 (p0.Elements.map Qah)),(.own 3 1 (0) ((p0.Elements.length:Int).toNat)),(.own 4 4 (0) ((p0.Elements.length:Int).toNat)),(.own 5 1 (0) p1.length),(.dat 4 (p2.map Qac)),(I r.2.1)]]),(.own 1 (r.2.2.1.map Qag)),(.own 4 (r.2.2.2.1.map Qav)),(.own 1 (r.2.2.2.2.map Qab))])):(Int⊕(Int×Int×(List (List Qaa))×(List Qa9)×(List Int)))→List Slot) r):=by
  refine Qwl func40 rfl (fun _ _ _ hq hd0=>?_)
  unfold Qe5 at h
  refine Q2j (k:=6) hd0 (fun n hn=>hq n (Nat.le_trans (nle rfl) hn))<|wxz1<|thn ?_
  refine Q2j (k:=6) hd0 (fun n hn=>hq n (Nat.le_trans (nle rfl) hn)) ?_
  obtain⟨hm8,h⟩:=cko h
  obtain⟨hm9,h⟩:=cko h
  obtain⟨x11,hf10,h⟩:=bno h
  refine wy1 tbk [(3,rp _ _),(4,⟨[(.tmp 13,(I ((p0.Elements.length:Int)))),(.tmp 13,(I ((p0.Elements.length:Int))))],[(3,.unused)],(.own 3 1 (0) ((p0.Elements.length:Int).toNat)),[(3,(Zhp p0))],false⟩),(7,rp _ _),(8,⟨[(.tmp 17,(I ((p0.Elements.length:Int)))),(.tmp 17,(I ((p0.Elements.length:Int))))],[(4,.unused)],(.own 4 4 (0) ((p0.Elements.length:Int).toNat)),[(4,(Zho p0))],false⟩),(10,⟨_,_,_,_,false⟩),(11,rp _ _),(13,rp _ _)] ⟨alq 7 Qah p0.Elements underlying37,Q83 (c:=Qag) (v:=([])) (z:=[nilS]) (k:=(p0.Elements.length:Int).toNat) ⟨Less.nil,tv⟩ (Qnh rfl underlying42 te51 tz51 rfl (Qz7 hm8) rfl (Qz6 hm8) (Q2p hm8) rfl),alq 7 Qah p0.Elements underlying37,Qnh rfl underlying43 te64 tz64 rfl (Qz7 hm9) rfl (Qz6 hm9) (Q2p hm9) (Qyz Qav rfl),acq [(.dat 1 (p1.map Qab))] [] [(.own 1 (p1.map Qab))] (.own 5 1 (0) p1.length) [5] Q76 (Qkn N p1 _ hf10) (Qbi (rnc (pld Qaj) rn0)) Qao (slc (Qa2 Qaj) Qao) (Qcr rfl),Qa8 (vs:=[(.own 3 1 (0) ((p0.Elements.length:Int).toNat)),(.own 4 4 (0) ((p0.Elements.length:Int).toNat)),(.own 5 1 (0) p1.length)]) rfl ts45 tz45 rfl (by rfl) rfl,Qa8 (vs:=[(Q9i p0),(Zkg p0 p1),(Qv2 p2)]) rfl Zky Zi2 rfl (by rfl) rfl,tv⟩<|thn ?_
  refine Q33 (k:=6) [(1,1),(2,1)] hd0 (fun n hn=>hq n (Nat.le_trans (nle rfl) hn)) Zgj rfl rfl (by kernel_rfl) (by kernel_rfl) (by kernel_rfl) Qp5 (fun φ1 w1 hφ1 hd1=>?_)
  obtain⟨k16,hk_k16,h⟩:=jko h
  refine wjn (τ:=(List (List Qaa))×(List Qa9)×(List Int)×Int) (fun t=>k16 t=some r) (fun ⟨y12,y13,y14,y15⟩=>⟨mk 45 [(6,.ref 1 1 0 0),(7,.ref 2 1 0 0)],[(Q2w p0),Qqh,(.own 1 [[I 0]]),(.own 1 (y12.map Qag)),(.own 4 (y13.map Qav)),(.own 1 (y14.map Qab)),(Q4w p0 p1 p2 y15)]⟩) (fun t h=>?_) ?_
  ·subst hk_k16
   obtain⟨y12,y13,y14,y15⟩:=t
   refine wxz<|Qaf ?_
   obtain rfl:=osi h
   exact⟨_,(mto (n:=45) (l':=[(6,.ref 0 1 0 0),(7,.ref 1 1 0 0)]) (own':=[(.own 1 [[.ref 2 7 0 0]]),(.own 1 [[(I ((-1)))]]),(Q4w p0 p1 p2 y15),(.own 1 (y12.map Qag)),(.own 4 (y13.map Qav)),(.own 1 (y14.map Qab))]) [(6,.ref 1 1 0 0),(7,.ref 2 1 0 0)] [1,2,6,3,4,5] [Qqh,(.own 1 [[(I ((-1)))]]),(Q4w p0 p1 p2 y15),(.own 1 (y12.map Qag)),(.own 4 (y13.map Qav)),(.own 1 (y14.map Qab))] hq (prr (prr pn)) (qb (lc (.rn (rqr rfl)) ln) (qb (lc rwl ln) (qb (lc (rnd Qap) (lc (rnd Qae) (lc (.rn (Qay rfl)) (lc (.rn (Qay rfl)) (lc (.rn (Qay rfl)) (lc (rnd Qak) (lc rwl ln))))))) (qc (spr Qan) (qc (spr Qbb) (qc (spr Qaj) qn))))))),Qk2 (vs:=[.ref 2 7 0 0,I (-1)]) ⟨Qb7 (n:=0) (m:=1) (j:=0) (i:=0) (xs:=[[.ref 2 7 0 0]]) (by kernel_rfl) (by kernel_rfl) Qnj (by decide) rfl (nle rfl) rfl,Qb7 (n:=1) (m:=1) (j:=0) (i:=0) (xs:=[[I (-1)]]) (by kernel_rfl) (by kernel_rfl) ti3 (by decide) rfl (nle rfl) rfl,tv⟩ rfl (NLt.tup _ (nlc (NLt.ref _ _ _ _ (by decide)) (nlc (NLt.of0 nll) nl0))) (by kernel_rfl) (Qch (Qh3 (nlc (NLt.ref _ _ _ _ (by decide)) nl0)) (Qch (Qh3 (nlc (NLt.of0 nll) nl0)) (Qch (Qh3 (nlc (NLt.of0 (nld Qap _)) (nlc (NLt.of0 (nld Qae _)) (nlc (NLt.own _ _ _ _ (by decide)) (nlc (NLt.own _ _ _ _ (by decide)) (nlc (NLt.own _ _ _ _ (by decide)) (nlc (NLt.of0 (nld Qak _)) (nlc (NLt.of0 nll) nl0)))))))) (Qch (Qfo Qan _) (Qch (Qfo Qbb _) (Qch (Qfo Qaj _) Qk9))))))⟩
  ·skip
   refine wx tbk [(2,rp _ _)] ⟨alq 7 Qah p0.Elements underlying37,tv⟩<|Qar ?_
   refine wmr (mto (n:=45) (l':=[(1,(.dat 1 (p1.map Qab))),(6,.ref 1 1 0 0),(7,.ref 2 1 0 0),(27,(Qs4 p0)),(28,(I ((p0.Elements.length:Int)))),(29,I 0)]) (own':=[(Q2w p0),Qqh,(.own 1 [[I 0]]),(.own 1 (((List.replicate (p0.Elements.length:Int).toNat ([])):List (List Qaa)).map Qag)),(.own 4 (((List.replicate (p0.Elements.length:Int).toNat (⟨0,0,0,0⟩:Qa9)):List Qa9).map Qav)),(.own 1 (p1.map Qab)),(Zcw p0 p1 p2)]) [(1,(.dat 1 (p1.map Qab))),(6,.ref 1 1 0 0),(7,.ref 2 1 0 0),(27,(Qs4 p0)),(28,(I ((p0.Elements.length:Int)))),(29,I 0)] [0,1,2,3,4,5,6] [(Q2w p0),Qqh,(.own 1 [[I 0]]),(Zhp p0),(Zho p0),(.own 1 (p1.map Qab)),(Zcw p0 p1 p2)] hφ1 (pc (rnd Qaj) (prr (prr (pc (rnd Qae) (pw (pw pn)))))) (qb (lc (rnd Qap) (lc (rnd Qae) ln)) (qb (lc (.rn (rqr rfl)) ln) (qb (lc rwl ln) (qc (spr Qan) (qc (spr Qbb) (qc (spr Qaj) (qb (lc (rnd Qap) (lc (rnd Qae) (lc (.rn (Qay rfl)) (lc (.rn (Qay rfl)) (lc (.rn (Qay rfl)) (lc (rnd Qak) (lc rwl ln))))))) qn)))))))) ?_
   refine Qcn (τ:=Int×(List (List Qaa))×(List Qa9)×(List Int)×Int) (fun n t=>Qdn N p0 p1 p2 k16 n t.1 t.2.1 t.2.2.1 t.2.2.2.1 t.2.2.2.2=some r) (fun ⟨y17,y18,y19,y20,y21⟩=>⟨mk 45 [(1,(.dat 1 (p1.map Qab))),(6,.ref 1 1 0 0),(7,.ref 2 1 0 0),(27,(Qs4 p0)),(28,(I ((p0.Elements.length:Int)))),(29,I y17)],[(Q2w p0),Qqh,(.own 1 [[I 0]]),(Qrb y18),(Qra y19),(.own 1 (y20.map Qab)),(Qrc p0 p1 p2 y21)]⟩) (fun t h=>by rw[Qdn] at h;cases h) (fun n27 ih t h=>?_) N (0,List.replicate (p0.Elements.length:Int).toNat ([]),List.replicate (p0.Elements.length:Int).toNat (⟨0,0,0,0⟩:Qa9),p1,0) h
   obtain⟨y17,y18,y19,y20,y21⟩:=t
   rw[Qdn] at h
   skip
   refine wxz<|wsq ?_
   refine bfe h (fun hc28 h=>?_) fun hc28 h=>?_
   ·refine wft hc28<|Qaq<|thn<|wsq<|Qar ?_
    obtain⟨x29,hg30,h⟩:=bno h
    obtain⟨hi31,hj32⟩:=gsm hg30
    refine wx tbk [(1,rp _ _)] ⟨aiq underlying37 Qi0 Qah hi31 hj32,tv⟩ ?_
    obtain⟨x33,hg34,h⟩:=bno h
    obtain⟨hi35,hj36⟩:=gsm hg34
    obtain⟨x38,hf37,h⟩:=bno h
    obtain⟨x40,hf39,h⟩:=bno h
    rcases x40 with x41 |x42
    ·replace h:=Zfj h
     refine wy1 tbk [(5,rp _ _),(7,rp _ _),(8,⟨_,_,_,_,false⟩)] ⟨aiq underlying29 ti3 Qab hi35 hj36,apw Q74 (Qik N x29 x33 _ hf37),acq [.ref 6 7 0 0,I y17,I x38] [(Qrc p0 p1 p2 y21),(Qrb y18),(Qra y19),(.own 1 (y20.map Qab))] [(Q4x p0 p1 p2 x41),(.own 1 (x41.2.1.map Qag)),(.own 4 (x41.2.2.1.map Qav)),(.own 1 (x41.2.2.2.map Qab))] (.tup []) [6,3,4,5] Q75 (Qll N y17 x38 p0.Table p0.Elements ((p0.Elements.length:Int).toNat) ((p0.Elements.length:Int).toNat) p1.length p2 y21 y18 y19 y20 _ hf39) (Qbi (rnc (Qas rfl) (rncc rn0))) (slc (Qai (rnc (pld Qap) (rnc (pld Qae) (rnc (Qcq rfl) (rnc (Qcq rfl) (rnc (Qcq rfl) (rnc (pld Qak) (rnc (.plain _ nll) rn0)))))))) (slc (Qa2 Qan) (slc (Qa2 Qbb) (slc (Qa2 Qaj) Qao)))) (slc (Qai (rnc (pld Qap) (rnc (pld Qae) (rnc (Qcr rfl) (rnc (Qcr rfl) (rnc (Qcr rfl) (rnc (pld Qak) (rnc (.plain _ nll) rn0)))))))) (slc (Qa2 Qan) (slc (Qa2 Qbb) (slc (Qa2 Qaj) Qao)))) (.plain _ (NLt.tup _ nl0)),tv⟩<|bln<|thn<|wxz1<|thn ?_
     exact arm (mto (n:=45) [(1,(.dat 1 (p1.map Qab))),(6,.ref 1 1 0 0),(7,.ref 2 1 0 0),(27,(Qs4 p0)),(28,(I ((p0.Elements.length:Int)))),(29,(I (w64 (y17+1))))] [0,1,2,3,4,5,6] [(Q2w p0),Qqh,(.own 1 [[I 0]]),(.own 1 (x41.2.1.map Qag)),(.own 4 (x41.2.2.1.map Qav)),(.own 1 (x41.2.2.2.map Qab)),(Q4x p0 p1 p2 x41)] hφ1 (pc (rnd Qaj) (prr (prr (pc (rnd Qae) (pw (pw pn)))))) (qb (lc (rnd Qap) (lc (rnd Qae) ln)) (qb (lc (.rn (rqr rfl)) ln) (qb (lc rwl ln) (qc (spr Qan) (qc (spr Qbb) (qc (spr Qaj) (qb (lc (rnd Qap) (lc (rnd Qae) (lc (.rn (Qay rfl)) (lc (.rn (Qay rfl)) (lc (.rn (Qay rfl)) (lc (rnd Qak) (lc rwl ln))))))) qn)))))))) (ih (w64 (y17+1),x41.2.1,x41.2.2.1,x41.2.2.2,x41.1) h)
    ·replace h:=Zfi h
     refine Q8x 8 [rb [(.tmp 6,.ref 1 1 0 0)] [(1,Qqh)] (.ref 6 7 0 0),mv 8 (I y17),rb [(.tmp 9,.ref 7 7 0 0)] [(7,(.own 7 [[(K .u8 x29.Kind),(.dat 2 (x29.From.map Qc2)),I x29.Level,I x29.Amount,I x29.Wide,I x29.Narrow,(.dat 1 (x29.Weights.map Qab))]]))] (Qt5 x29),mv 1 (.dat 1 (p1.map Qab)),mv 8 (I y17),rp [(.tmp 37,(.dat 1 (p1.map Qab))),(.tmp 38,I y17)] (.dptr (Qab x33) 0),rp [(.tmp 39,(.dptr (Qab x33) 0))] (I x33),rp [fu 84,(.tmp 36,(Qt5 x29)),(.tmp 40,I x33)] (I x38),⟨[fu 83,(.tmp 34,.ref 6 7 0 0),(.tmp 35,I y17),(.tmp 41,I x38),(.tmp 36,(Qt5 x29)),(.tmp 37,(.dat 1 (p1.map Qab))),(.tmp 38,I y17),(.tmp 39,(.dptr (Qab x33) 0)),(.tmp 40,I x33)],[(6,(Qrc p0 p1 p2 y21)),(3,(Qrb y18)),(4,(Qra y19)),(5,(.own 1 (y20.map Qab)))],.any,[(6,.dead),(3,.dead),(4,.dead),(5,.dead)],false⟩] (by exact⟨by kernel_rfl,by kernel_rfl⟩) rfl (by kernel_rfl) rfl (PStep.to (by rfl) (PStep.more (rd':=[(.tmp 36,(Qt5 x29)),(.tmp 37,(.dat 1 (p1.map Qab))),(.tmp 38,I y17),(.tmp 39,(.dptr (Qab x33) 0)),(.tmp 40,I x33)]) (Qy2 (first:=[]) (cap:=[]) (vs:=[.ref 6 7 0 0,I y17,I x38]) (σr:=[(Qrc p0 p1 p2 y21),(Qrb y18),(Qra y19),(.own 1 (y20.map Qab))]) [6,3,4,5] rfl Q75 (Qlk N y17 x38 p0.Table p0.Elements ((p0.Elements.length:Int).toNat) ((p0.Elements.length:Int).toNat) p1.length p2 y21 y18 y19 y20 _ hf39) rfl (Qbi (rnc (Qas rfl) (rncc rn0))) (slc (Qai (rnc (pld Qap) (rnc (pld Qae) (rnc (Qcq rfl) (rnc (Qcq rfl) (rnc (Qcq rfl) (rnc (pld Qak) (rnc (.plain _ nll) rn0)))))))) (slc (Qa2 Qan) (slc (Qa2 Qbb) (slc (Qa2 Qaj) Qao)))) rfl rfl rfl))) (⟨fun _ _=>ald rfl Qnj (by decide) rfl (nle rfl) rfl,fun _ _=>amv rfl,fun _ _=>ald rfl Qi0 (by decide) rfl (nle rfl) rfl,fun _ _=>amv rfl,fun _ _=>amv rfl,fun _ _=>aiq underlying29 ti3 Qab hi35 hj36,fun _ _=>ald_ rfl ti3 (by decide) (nle rfl) rfl,fun _ _=>apw Q74 (Qik N x29 x33 _ hf37),fun _ h=>absurd rfl h,tv⟩) ?_ (by kernel_rfl) (by kernel_rfl) (by kernel_rfl)
     obtain rfl:=osi h
     exact⟨_,[[(.lit (.pointer none))],[I x42]],rfl,(Qo7 x42),(Q1g (nlc nll nl0) (Q1g (nlc nll nl0) Zfv)),by kernel_rfl,_,(mto (n:=45) (l':=[(6,.ref 0 1 0 0),(7,.ref 1 1 0 0)]) (own':=[Zhq,(.own 1 [[I x42]])]) [(6,.ref 1 1 0 0),(7,.ref 2 1 0 0)] [1,2] [Zhq,(.own 1 [[I x42]])] hq (prr (prr pn)) (qb (lc rwl ln) (qb (lc rwl ln) qn))),Qk2 (vs:=[(.lit (.pointer none)),I x42]) ⟨Qb7 (n:=0) (m:=1) (j:=0) (i:=0) (xs:=[[(.lit (.pointer none))]]) (by kernel_rfl) (by kernel_rfl) Qnj (by decide) rfl (nle rfl) rfl,Qb7 (n:=1) (m:=1) (j:=0) (i:=0) (xs:=[[I x42]]) (by kernel_rfl) (by kernel_rfl) ti3 (by decide) rfl (nle rfl) rfl,tv⟩ rfl (NLt.tup _ (nlc (NLt.of0 nll) (nlc (NLt.of0 nll) nl0))) (by kernel_rfl) (Qch (Qh3 (nlc (NLt.of0 nll) nl0)) (Qch (Qh3 (nlc (NLt.of0 nll) nl0)) Qk9))⟩
   ·exact wfn hc28<|Qbl<|Qaz<|Qaz<|Qbk rfl<|thn<|⟨(y18,y19,y20,y21),h,(mto (n:=45) [(6,.ref 1 1 0 0),(7,.ref 2 1 0 0)] [0,1,2,3,4,5,6] [(Q2w p0),Qqh,(.own 1 [[I 0]]),(Qrb y18),(Qra y19),(.own 1 (y20.map Qab)),(Qrc p0 p1 p2 y21)] hφ1 (prr (prr pn)) (qb (lc (rnd Qap) (lc (rnd Qae) ln)) (qb (lc (.rn (rqr rfl)) ln) (qb (lc rwl ln) (qc (spr Qan) (qc (spr Qbb) (qc (spr Qaj) (qb (lc (rnd Qap) (lc (rnd Qae) (lc (.rn (Qay rfl)) (lc (.rn (Qay rfl)) (lc (.rn (Qay rfl)) (lc (rnd Qak) (lc rwl ln))))))) qn))))))))⟩
theorem Qk1 (N:Nat) (p0:GNet) (p1:List Int) (p2:List Qaa) (r:Int) (h:Qe5 N p0 p1 p2=some (.inl r)):Spec prog 40 [(Q9i p0),(.dat 1 (p1.map Qab)),(Qv2 p2)] [] (.tup [(.lit (.pointer none)),I r]) [(.own 1 [[(.lit (.pointer none))]]),(.own 1 [[I r]])]:=Qln N p0 p1 p2 _ h
theorem Qk0 (N:Nat) (p0:GNet) (p1:List Int) (p2:List Qaa) (r:(Int×Int×(List (List Qaa))×(List Qa9)×(List Int))) (h:Qe5 N p0 p1 p2=some (.inr r)):Spec prog 40 [(Q9i p0),(.dat 1 (p1.map Qab)),(Qv2 p2)] [] (.tup [.ref 2 7 0 0,I r.1]) [(.own 1 [[.ref 2 7 0 0]]),(.own 1 [[I r.1]]),(.own 7 [[(.dat 5 (p0.Table.map Qam)),(.dat 7 (p0.Elements.map Qah)),(.own 3 1 (0) ((p0.Elements.length:Int).toNat)),(.own 4 4 (0) ((p0.Elements.length:Int).toNat)),(.own 5 1 (0) p1.length),(.dat 4 (p2.map Qac)),I r.2.1]]),(.own 1 (r.2.2.1.map Qag)),(.own 4 (r.2.2.2.1.map Qav)),(.own 1 (r.2.2.2.2.map Qab))]:=Qln N p0 p1 p2 _ h
def Quv (N:Nat) (p0:GNet) (p1:List Int) (p2:List Qaa):Option (Qhn×Int×Int):=
  (Qn9 N p0 p1 p2).bind fun x11=>
  bif (x11 != 0) then
   some ((⟨[],[],[]⟩:Qhn),0,x11)
  else
   (Qe5 N p0 p1 p2).bind (
    Sum.elim (fun x15=>
      bif (decide (x15≥0)) then
       some ((⟨[],[],[]⟩:Qhn),x15,11)
      else
       none)
    (fun x17=>
      bif (decide (x17.1≥0)) then
       some ((⟨[],[],[]⟩:Qhn),x17.1,11)
      else
       chk (decide ((p0.Elements.length:Int).toNat≤x17.2.2.1.length))<|
       chk (decide ((p0.Elements.length:Int).toNat≤x17.2.2.2.1.length))<|
       chk (decide (p1.length≤x17.2.2.2.2.length))<|
       some ((⟨x17.2.2.1.take ((p0.Elements.length:Int).toNat),x17.2.2.2.1.take ((p0.Elements.length:Int).toNat),x17.2.2.2.2.take p1.length⟩:Qhn),0,0)))
def Zel (p0:GNet):AV:=.dat 5 (p0.Table.map Qam)
def Zek (p0:GNet):AV:=.dat 7 (p0.Elements.map Qah)
def Zhr (p0:GNet):AV:=.agg [(Zel p0),(Zek p0)]
def Zeh (p2:List Qaa):AV:=.dat 4 (p2.map Qac)
def Q4z:Slot:=.own 3 [[(.dat 1 ((((⟨[],[],[]⟩:Qhn).Out):List (List Qaa)).map Qag)),(.dat 4 ((((⟨[],[],[]⟩:Qhn).Lost):List Qa9).map Qav)),(.dat 1 ((((⟨[],[],[]⟩:Qhn).State):List Int).map Qab))]]
def Zei:Slot:=.own 3 [[nilS,nilS,nilS]]
def Q0e:AV:=.dat 1 (((⟨[],[],[]⟩:Qhn).Out:List (List Qaa)).map Qag)
def Q0d:AV:=.dat 4 (((⟨[],[],[]⟩:Qhn).Lost:List Qa9).map Qav)
def Q0c:AV:=.dat 1 (((⟨[],[],[]⟩:Qhn).State:List Int).map Qab)
def Q4y:AV:=.agg [Q0e,Q0d,Q0c]
def Zkh:Slot:=.own 1 [[(.lit (.pointer none))]]
def Q9j:Slot:=.own 1 [[(.ref 4 7 (0) 0)]]
def Qv3 (p0:GNet) (p1:List Int) (p2:List Qaa) (x17:(Int×Int×(List (List Qaa))×(List Qa9)×(List Int))):Slot:=.own 7 [[(Zel p0),(Zek p0),(.own 5 1 (0) ((p0.Elements.length:Int).toNat)),(.own 6 4 (0) ((p0.Elements.length:Int).toNat)),(.own 7 1 (0) p1.length),(Zeh p2),(I x17.2.1)]]
def Qol (x17:(Int×Int×(List (List Qaa))×(List Qa9)×(List Int))) (p0:GNet):AV:=.dat 1 ((x17.2.2.1.take ((p0.Elements.length:Int).toNat):List (List Qaa)).map Qag)
def Zej (p0:GNet):Slot:=.own 2 [[(Zel p0),(Zek p0)]]
def Qta (x17:(Int×Int×(List (List Qaa))×(List Qa9)×(List Int))) (p0:GNet):AV:=.dat 4 ((x17.2.2.2.1.take ((p0.Elements.length:Int).toNat):List Qa9).map Qav)
def Zcz (x17:(Int×Int×(List (List Qaa))×(List Qa9)×(List Int))) (p0:GNet) (p1:List Int):AV:=.dat 1 (((⟨x17.2.2.1.take ((p0.Elements.length:Int).toNat),x17.2.2.2.1.take ((p0.Elements.length:Int).toNat),x17.2.2.2.2.take p1.length⟩:Qhn).Out:List (List Qaa)).map Qag)
def Zcy (x17:(Int×Int×(List (List Qaa))×(List Qa9)×(List Int))) (p0:GNet) (p1:List Int):AV:=.dat 4 (((⟨x17.2.2.1.take ((p0.Elements.length:Int).toNat),x17.2.2.2.1.take ((p0.Elements.length:Int).toNat),x17.2.2.2.2.take p1.length⟩:Qhn).Lost:List Qa9).map Qav)
def Zcx (x17:(Int×Int×(List (List Qaa))×(List Qa9)×(List Int))) (p0:GNet) (p1:List Int):AV:=.dat 1 (((⟨x17.2.2.1.take ((p0.Elements.length:Int).toNat),x17.2.2.2.1.take ((p0.Elements.length:Int).toNat),x17.2.2.2.2.take p1.length⟩:Qhn).State:List Int).map Qab)
theorem Qy3 (N:Nat) (p0:GNet) (p1:List Int) (p2:List Qaa) (r:(Qhn×Int×Int)) (h:Quv N p0 p1 p2=some r):Spec prog 13 [(.agg (Qk3 p0)),(.dat 1 (p1.map Qab)),(.dat 4 (p2.map Qac))] [] (.tup [(.agg [(.dat 1 (r.1.Out.map Qag)),(.dat 4 (r.1.Lost.map Qav)),(.dat 1 (r.1.State.map Qab))]),(I r.2.1),(I r.2.2)]) []:=by
  refine sF func13 0 fun _ _ _ hq hd0=>?_
  unfold Quv at h
  refine wxz<|wsq ?_
  obtain⟨x11,hf10,h⟩:=bno h
  refine wx tbk [(3,rp _ _)] ⟨apw Zgr (Qs8 N p0 p1 p2 _ hf10),tv⟩<|wxz ?_
  refine bfe h (fun hc12 h=>?_) fun hc12 h=>?_
  ·refine wft hc12<|wx tbk [(0,rp _ _)] ⟨Qa8 (vs:=[]) rfl ts45 tz45 rfl (by rfl) rfl,tv⟩ ?_
   refine wmr (mto (n:=35) (l':=[(6,.ref 0 3 0 0),(7,I 0),(8,I x11)]) (own':=[Q4z]) [(6,.ref 1 3 0 0),(7,I 0),(8,I x11)] [1] [Zei] hq (prr (pw (pw pn))) (qb (lc (.nil _) (lc (.nil _) (lc (.nil _) ln))) qn))<|Qaf<|Qal ?_
   obtain rfl:=osi h
   exact⟨_,Mor.rfl,fie [Q4y,I 0,I x11] ⟨Qb7 (n:=0) (m:=3) (j:=0) (i:=0) (xs:=[[Q0e,Q0d,Q0c]]) (by kernel_rfl) (by kernel_rfl) ti45 (by decide) rfl (nle rfl) rfl,rot,rot,tv⟩⟩
  ·refine wfn hc12<|Qaq<|thn ?_
   obtain⟨x14,hf13,h⟩:=bno h
   rcases x14 with x15 |x17
   ·replace h:=Zfj h
    refine wx tbk [(3,⟨_,_,_,_,false⟩)] ⟨acq [(Zhr p0),(.dat 1 (p1.map Qab)),(Zeh p2)] [] [Zkh,(.own 1 [[I x15]])] (.tup [(.lit (.pointer none)),I x15]) [2,3] Qvd (Qk1 N p0 p1 p2 _ hf13) (Qbi (rnc (.plain _ (NLt.agg _ (nlc (nld Qap _) (nlc (nld Qae _) nl0)))) (rnc (pld Qaj) (rnc (pld Qak) rn0)))) Qao (slc (Qai (rnc (.plain _ nll) rn0)) (slc (Qai (rnc (.plain _ nll) rn0)) Qao)) (.plain _ (NLt.tup _ (nlcc nl0))),tv⟩<|wsq<|wxz ?_
    refine bfe h (fun hc16 h=>?_) fun hc16 h=>?_
    ·refine wft hc16<|wx tbk [(0,rp _ _)] ⟨Qa8 (vs:=[]) rfl ts45 tz45 rfl (by rfl) rfl,tv⟩ ?_
     refine wmr (mto (n:=35) (l':=[(6,.ref 0 3 0 0),(7,I x15),(8,I 11)]) (own':=[Q4z]) [(6,.ref 1 3 0 0),(7,I x15),(8,I 11)] [1] [Zei] hq (prr (pw (pw pn))) (qb (lc (.nil _) (lc (.nil _) (lc (.nil _) ln))) qn))<|Qaf<|Qal ?_
     obtain rfl:=osi h
     exact⟨_,Mor.rfl,fie [Q4y,I x15,I 11] ⟨Qb7 (n:=0) (m:=3) (j:=0) (i:=0) (xs:=[[Q0e,Q0d,Q0c]]) (by kernel_rfl) (by kernel_rfl) ti45 (by decide) rfl (nle rfl) rfl,rot,rot,tv⟩⟩
    ·refine wfn hc16<|Qaq<|thn ?_
     cases h
   ·replace h:=Zfi h
    refine wx tbk [(3,⟨_,_,_,_,false⟩)] ⟨acq [(Zhr p0),(.dat 1 (p1.map Qab)),(Zeh p2)] [] [Q9j,(.own 1 [[I x17.1]]),(Qv3 p0 p1 p2 x17),(.own 1 (x17.2.2.1.map Qag)),(.own 4 (x17.2.2.2.1.map Qav)),(.own 1 (x17.2.2.2.2.map Qab))] (.tup [.ref 4 7 0 0,I x17.1]) [2,3,4,5,6,7] Qvd (Qk0 N p0 p1 p2 _ hf13) (Qbi (rnc (.plain _ (NLt.agg _ (nlc (nld Qap _) (nlc (nld Qae _) nl0)))) (rnc (pld Qaj) (rnc (pld Qak) rn0)))) Qao (slc (Qai (rnc (Qa3 rfl) rn0)) (slc (Qai (rnc (.plain _ nll) rn0)) (slc (Qai (rnc (pld Qap) (rnc (pld Qae) (rnc (Qcr rfl) (rnc (Qcr rfl) (rnc (Qcr rfl) (rnc (pld Qak) (rnc (.plain _ nll) rn0)))))))) (slc (Qa2 Qan) (slc (Qa2 Qbb) (slc (Qa2 Qaj) Qao)))))) (Zdy (rnc (Qa3 rfl) (rnc (.plain _ nll) rn0))),tv⟩<|wsq<|wxz ?_
    refine bfe h (fun hc18 h=>?_) fun hc18 h=>?_
    ·refine wft hc18<|wx tbk [(0,rp _ _)] ⟨Qa8 (vs:=[]) rfl ts45 tz45 rfl (by rfl) rfl,tv⟩ ?_
     refine wmr (mto (n:=35) (l':=[(6,.ref 0 3 0 0),(7,I x17.1),(8,I 11)]) (own':=[Q4z]) [(6,.ref 1 3 0 0),(7,I x17.1),(8,I 11)] [1] [Zei] hq (prr (pw (pw pn))) (qb (lc (.nil _) (lc (.nil _) (lc (.nil _) ln))) qn))<|Qaf<|Qal ?_
     obtain rfl:=osi h
     exact⟨_,Mor.rfl,fie [Q4y,I x17.1,I 11] ⟨Qb7 (n:=0) (m:=3) (j:=0) (i:=0) (xs:=[[Q0e,Q0d,Q0c]]) (by kernel_rfl) (by kernel_rfl) ti45 (by decide) rfl (nle rfl) rfl,rot,rot,tv⟩⟩
    ·refine wfn hc18<|Qaq<|thn ?_
     refine wx tbk [(1,rb [(.tmp 31,.ref 4 7 0 0)] [(4,(Qv3 p0 p1 p2 x17))] (.ref 4 7 0 0))] ⟨Qbd rfl,tv⟩ ?_
     obtain⟨hz19,h⟩:=cko h
     refine wmr (Qu3 (n:=35) (mp:=3) (m:=1) (xs:=x17.2.2.1.map Qag) (c:=[(.own 5 1 (0) ((p0.Elements.length:Int).toNat)),(.own 6 4 (0) ((p0.Elements.length:Int).toNat)),(.own 7 1 (0) p1.length)]) (l':=[(6,.ref 1 3 0 0),(7,I 0),(8,I 0)]) (c':=[(Qol x17 p0),(.own 6 4 (0) ((p0.Elements.length:Int).toNat)),(.own 7 1 (0) p1.length)]) (own':=[(Zej p0),(.own 3 [[(Qol x17 p0),(.own 6 4 (0) ((p0.Elements.length:Int).toNat)),(.own 7 1 (0) p1.length)]]),Q9j,(.own 1 [[I x17.1]]),(Qv3 p0 p1 p2 x17),.dead,(.own 4 (x17.2.2.2.1.map Qav)),(.own 1 (x17.2.2.2.2.map Qab))]) 5 1 [(6,.ref 1 3 0 0),(7,I 0),(8,I 0)] (by kernel_rfl) (by kernel_rfl) (by kernel_rfl) (by kernel_rfl) ⟨(Ql4 hz19),(.same _),(.same _),tv⟩ ⟨rfl,(.same _),rfl,(.same _),rfl,(.same _),tv⟩ (by kernel_rfl)) ?_
     obtain⟨hz20,h⟩:=cko h
     refine wmr (Qu3 (n:=35) (mp:=3) (m:=4) (xs:=x17.2.2.2.1.map Qav) (c:=[(Qol x17 p0),(.own 6 4 (0) ((p0.Elements.length:Int).toNat)),(.own 7 1 (0) p1.length)]) (l':=[(6,.ref 1 3 0 0),(7,I 0),(8,I 0)]) (c':=[(Qol x17 p0),(Qta x17 p0),(.own 7 1 (0) p1.length)]) (own':=[(Zej p0),(.own 3 [[(Qol x17 p0),(Qta x17 p0),(.own 7 1 (0) p1.length)]]),Q9j,(.own 1 [[I x17.1]]),(Qv3 p0 p1 p2 x17),.dead,.dead,(.own 1 (x17.2.2.2.2.map Qab))]) 6 1 [(6,.ref 1 3 0 0),(7,I 0),(8,I 0)] (by kernel_rfl) (by kernel_rfl) (by kernel_rfl) (by kernel_rfl) ⟨(.same _),(Ql4 hz20),(.same _),tv⟩ ⟨rfl,(.same _),rfl,(.same _),rfl,(.same _),tv⟩ (by kernel_rfl)) ?_
     obtain⟨hz21,h⟩:=cko h
     refine wmr (Qu3 (n:=35) (mp:=3) (m:=1) (xs:=x17.2.2.2.2.map Qab) (c:=[(Qol x17 p0),(Qta x17 p0),(.own 7 1 (0) p1.length)]) (l':=[(6,.ref 1 3 0 0),(7,I 0),(8,I 0)]) (c':=[(Qol x17 p0),(Qta x17 p0),(.dat 1 ((x17.2.2.2.2.take p1.length:List Int).map Qab))]) (own':=[(Zej p0),(.own 3 [[(Qol x17 p0),(Qta x17 p0),(.dat 1 ((x17.2.2.2.2.take p1.length:List Int).map Qab))]]),Q9j,(.own 1 [[I x17.1]]),(Qv3 p0 p1 p2 x17),.dead,.dead,.dead]) 7 1 [(6,.ref 1 3 0 0),(7,I 0),(8,I 0)] (by kernel_rfl) (by kernel_rfl) (by kernel_rfl) (by kernel_rfl) ⟨(.same _),(.same _),(Ql4 hz21),tv⟩ ⟨rfl,(.same _),rfl,(.same _),rfl,(.same _),tv⟩ (by kernel_rfl)) ?_
     refine wmr (mto (n:=35) (l':=[(6,.ref 0 3 0 0),(7,I 0),(8,I 0)]) (own':=[(.own 3 [[(.dat 1 ((((⟨x17.2.2.1.take ((p0.Elements.length:Int).toNat),x17.2.2.2.1.take ((p0.Elements.length:Int).toNat),x17.2.2.2.2.take p1.length⟩:Qhn).Out):List (List Qaa)).map Qag)),(.dat 4 ((((⟨x17.2.2.1.take ((p0.Elements.length:Int).toNat),x17.2.2.2.1.take ((p0.Elements.length:Int).toNat),x17.2.2.2.2.take p1.length⟩:Qhn).Lost):List Qa9).map Qav)),(.dat 1 ((((⟨x17.2.2.1.take ((p0.Elements.length:Int).toNat),x17.2.2.2.1.take ((p0.Elements.length:Int).toNat),x17.2.2.2.2.take p1.length⟩:Qhn).State):List Int).map Qab))]])]) [(6,.ref 1 3 0 0),(7,I 0),(8,I 0)] [1] [(.own 3 [[(Qol x17 p0),(Qta x17 p0),(.dat 1 ((x17.2.2.2.2.take p1.length:List Int).map Qab))]])] hq (prr (pw (pw pn))) (qb (lc (rnd Qan) (lc (rnd Qbb) (lc (rnd Qaj) ln))) qn))<|Qaf ?_
     obtain rfl:=osi h
     exact⟨_,Mor.rfl,fie [(.agg [(Zcz x17 p0 p1),(Zcy x17 p0 p1),(Zcx x17 p0 p1)]),I 0,I 0] ⟨Qb7 (n:=0) (m:=3) (j:=0) (i:=0) (xs:=[[(Zcz x17 p0 p1),(Zcy x17 p0 p1),(Zcx x17 p0 p1)]]) (by kernel_rfl) (by kernel_rfl) ti45 (by decide) rfl (nle rfl) rfl,rot,rot,tv⟩⟩
end
section
def Qgs (_N:Nat) (p0 p1 p2:Int):Option Bool:=
  bif (decide (p0≥p1)) then
   some (decide (p0≤p2))
  else
   some false
theorem Qgk (N:Nat) (p0 p1 p2:Int) (r:Bool) (h:Qgs N p0 p1 p2=some r):Spec prog 37 [(I p0),(I p1),(I p2)] [] (B r) []:=by
  refine sA func37 0 fun _ _ _ hq hd0=>?_
  unfold Qgs at h
  refine wxz ?_
  refine bfe h (fun hb1 h=>?_) fun hb1 h=>?_
  ·refine wx tbk [(3,rp [(.tmp 9,(B ((decide (p0≥p1)))))] (B true))] ⟨asb hb1 (amv rfl),tv⟩<|Qaf ?_
   obtain rfl:=osi h
   exact fend ⟨[(B ((decide (p0≤p2))))],⟨rot,tv⟩,rfl⟩ nll
  ·exact wx tbk [(3,rp [(.tmp 9,(B ((decide (p0≥p1)))))] (B false))] ⟨asb hb1 (amv rfl),tv⟩<|Qaf<|frb h
def Qdq (N:Nat) (p0:List GRow) (k1:Unit→Option Bool):Nat→Int→Option Bool
  |0,_=>none
  |n5+1,y3=>
    bif (decide (y3<(p0.length:Int))) then
     (getI p0 y3).bind fun x7=>
     Qcf (fun _=>
       bif (decide (y3>0)) then
        (getI p0 (w64 (y3-1))).bind fun x13=>
        bif (decide (x7.T≤x13.T)) then
         some false
        else
         bif (decide (x7.P≤x13.P)) then
          some false
         else
          bif (decide (x7.Liquid≤x13.Liquid)) then
           some false
          else
           bif (decide (x7.Silica<x13.Silica)) then
            some false
           else
            Qdq N p0 k1 n5 (w64 (y3+1))
       else
        Qdq N p0 k1 n5 (w64 (y3+1))) fun k11:Unit→Option Bool=>
     (Qgs N x7.T 0 400).bind fun x22=>
     bif (!x22) then
      some false
     else
      (Qgs N x7.P 1 10000).bind fun x25=>
      bif (!x25) then
       some false
      else
       (Qgs N x7.Liquid 0 4000).bind fun x28=>
       bif (!x28) then
        some false
       else
        (Qgs N x7.Silica 0 2000).bind fun x31=>
        bif (!x31) then
         some false
        else
         bif (decide (x7.Vapour≤x7.Liquid)) then
          some false
         else
          bif (decide (x7.Vapour>4000)) then
           some false
          else
           k11 ()
    else
     k1 ()
def Qjb (N:Nat) (p0:List GRow):Option Bool:=
  Qcf (fun _=>
    bif (decide ((p0.length:Int)≥2)) then
     some (decide ((p0.length:Int)≤20))
    else
     some false) fun k1:Unit→Option Bool=>
  Qdq N p0 k1 N 0
def Zcv (x7:GRow):Slot:=.own 5 [[(I x7.T),(I x7.P),(I x7.Liquid),(I x7.Vapour),(I x7.Silica)]]
def Q4v (y3:Int) (p0:List GRow) (x13:GRow):List (Nat×Rec):=[(2,rp [((.tmp 50),(B ((decide (y3>0)))))] (B true)),(8,rp [((.tmp 51),(B true)),((.tmp 54),(.dat 5 (p0.map Qam))),((.tmp 56),(I (w64 (y3-1))))] (.dptr (Qam x13) 0))]
def Q4u y3 p0 x13 (x7:GRow):=hcat (Q4v y3 p0 x13) [(12,rp [((.tmp 51),(B true)),((.tmp 60),(B ((decide (x7.T≤x13.T)))))] (B false)),(18,rp [((.tmp 61),(B false)),((.tmp 64),(.dat 5 (p0.map Qam))),((.tmp 66),(I (w64 (y3-1))))] (.dptr (Qam x13) 0))]
def Q4t y3 p0 x13 x7:=hcat (Q4u y3 p0 x13 x7) [(23,rp [((.tmp 51),(B true)),((.tmp 71),(B ((decide (x7.P≤x13.P)))))] (B false)),(29,rp [((.tmp 72),(B false)),((.tmp 75),(.dat 5 (p0.map Qam))),((.tmp 77),(I (w64 (y3-1))))] (.dptr (Qam x13) 0))]
def Q4s (x7:GRow) (x22:Bool):List (Nat×Rec):=[(2,rp [fu 37,((.tmp 16),(I x7.T)),ci 0,ci 400] (B x22))]
def Q4r x7 x22 (x25:Bool):=hcat (Q4s x7 x22) [(4,rp [((.tmp 18),(B ((!x22))))] (B false)),(7,rp [((.tmp 19),(B false)),fu 37,((.tmp 21),(I x7.P)),ci 1,ci 10000] (B x25))]
def Q4q x7 x22 x25 (x28:Bool):=hcat (Q4r x7 x22 x25) [(10,rp [((.tmp 24),(B ((!x25))))] (B false)),(13,rp [((.tmp 25),(B false)),fu 37,((.tmp 27),(I x7.Liquid)),ci 0,ci 4000] (B x28))]
def Q0b x7 x22 x25 x28 (x31:Bool):=hcat (Q4q x7 x22 x25 x28) [(16,rp [((.tmp 30),(B ((!x28))))] (B false)),(19,rp [((.tmp 31),(B false)),fu 37,((.tmp 33),(I x7.Silica)),ci 0,ci 2000] (B x31))]
theorem Qrw (N:Nat) (p0:List GRow) (r:Bool) (h:Qjb N p0=some r):Spec prog 6 [(.dat 5 (p0.map Qam))] [] (B r) []:=by
  refine sA func6 0 fun _ _ _ hq hd0=>?_
  unfold Qjb at h
  refine wxz ?_
  obtain⟨k1,hk_k1,h⟩:=jko h
  refine wjn (τ:=Unit) (fun t=>k1 t=some r) (fun _=>⟨mk 103 [(0,(.dat 5 (p0.map Qam)))],[]⟩) (fun t h=>?_) ?_
  ·subst hk_k1
   refine bfe h (fun hb2 h=>?_) fun hb2 h=>?_
   ·refine wx tbk [(1,rp _ _),(3,rp [(.tmp 97,(B ((decide ((p0.length:Int)≥2)))))] (B true)),(5,rp [(.tmp 98,B true),(.tmp 99,(.dat 5 (p0.map Qam)))] (I ((p0.length:Int))))] ⟨alq 5 Qam p0 underlying23,asb hb2 (amv rfl),ag_ (alq 5 Qam p0 underlying23),tv⟩<|Qaf ?_
    obtain rfl:=osi h
    exact fend ⟨[(B ((decide ((p0.length:Int)≤20))))],⟨rot,tv⟩,rfl⟩ nll
   ·exact wx tbk [(1,rp _ _),(3,rp [(.tmp 97,(B ((decide ((p0.length:Int)≥2)))))] (B false))] ⟨alq 5 Qam p0 underlying23,asb hb2 (amv rfl),tv⟩<|Qaf<|frb h
  ·skip
   refine wxz<|Qar ?_
   refine wmr (mto (n:=103) (l':=[(0,(.dat 5 (p0.map Qam))),(3,I 0)]) (own':=[]) [(0,(.dat 5 (p0.map Qam))),(3,I 0)] [] [] hq (pc (rnd Qap) (pw pn)) qn) ?_
   refine Qcn (τ:=Int) (fun n t=>Qdq N p0 k1 n t=some r) (fun y3=>⟨mk 103 [(0,(.dat 5 (p0.map Qam))),(3,I y3)],[]⟩) (fun t h=>by rw[Qdq] at h;cases h) (fun n5 ih y3 h=>?_) N (0) h
   rw[Qdq] at h
   skip
   refine wsq<|wx tbk [(2,rp _ _)] ⟨alq 5 Qam p0 underlying23,tv⟩ ?_
   refine bfe h (fun hc6 h=>?_) fun hc6 h=>?_
   ·refine wft hc6<|Qaq<|thn<|wsq<|Qar ?_
    obtain⟨x7,hg8,h⟩:=bno h
    obtain⟨hi9,hj10⟩:=gsm hg8
    refine wx tbk [(2,rp _ _)] ⟨aiq underlying23 Qro Qam hi9 hj10,tv⟩ ?_
    obtain⟨k11,hk_k11,h⟩:=jko h
    refine wjn (τ:=Unit) (fun t=>k11 t=some r) (fun _=>⟨mk 103 [(0,(.dat 5 (p0.map Qam))),(3,I y3),(4,.ref 0 5 0 0)],[(Zcv x7)]⟩) (fun t h=>?_) ?_
    ·subst hk_k11
     refine bfe h (fun hb12 h=>?_) fun hb12 h=>?_
     ·obtain⟨x13,hg14,h⟩:=bno h
      obtain⟨hi15,hj16⟩:=gsm hg14
      refine hpre (A:=(Q4v y3 p0 x13)) ⟨asb hb12 (amv rfl),ag_ (aiq underlying23 Qro Qam hi15 hj16),tv⟩ fun q1_=>?_
      refine bfe h (fun hb17 h=>?_) fun hb17 h=>?_
      ·exact wxd tbk (hcat (Q4v y3 p0 x13) [(12,rp [(.tmp 51,B true),(.tmp 60,(B ((decide (x7.T≤x13.T)))))] (B true))]) (hap q1_ ⟨asb hb17 (ag_ (amv rfl)),tv⟩)<|wtr<|wxz<|Qaf<|Qat<|Qal<|Qal<|Qat<|Qal<|frb h
      ·refine hpre (A:=(Q4u y3 p0 x13 x7)) (hap q1_ ⟨asb hb17 (ag_ (amv rfl)),ag_ (aiq underlying23 Qro Qam hi15 hj16),tv⟩) fun q2_=>?_
       refine bfe h (fun hb18 h=>?_) fun hb18 h=>?_
       ·exact wxd tbk (hcat (Q4u y3 p0 x13 x7) [(23,rp [(.tmp 51,B true),(.tmp 71,(B ((decide (x7.P≤x13.P)))))] (B true))]) (hap q2_ ⟨asb hb18 (ag_ (amv rfl)),tv⟩)<|wtr<|wxz<|Qaf<|Qat<|Qal<|Qal<|Qat<|Qal<|frb h
       ·refine hpre (A:=(Q4t y3 p0 x13 x7)) (hap q2_ ⟨asb hb18 (ag_ (amv rfl)),ag_ (aiq underlying23 Qro Qam hi15 hj16),tv⟩) fun q3_=>?_
        refine bfe h (fun hb19 h=>?_) fun hb19 h=>?_
        ·exact wxd tbk (hcat (Q4t y3 p0 x13 x7) [(34,rp [(.tmp 51,B true),(.tmp 82,(B ((decide (x7.Liquid≤x13.Liquid)))))] (B true))]) (hap q3_ ⟨asb hb19 (ag_ (amv rfl)),tv⟩)<|wtr<|wxz<|Qaf<|Qat<|Qal<|Qal<|Qat<|Qal<|frb h
        ·refine wxd tbk (hcat (Q4t y3 p0 x13 x7) [(34,rp [(.tmp 51,B true),(.tmp 82,(B ((decide (x7.Liquid≤x13.Liquid)))))] (B false)),(40,rp [(.tmp 83,B false),(.tmp 86,(.dat 5 (p0.map Qam))),(.tmp 88,(I (w64 (y3-1))))] (.dptr (Qam x13) 0))]) (hap q3_ ⟨asb hb19 (ag_ (amv rfl)),ag_ (aiq underlying23 Qro Qam hi15 hj16),tv⟩) ?_
         refine bfe h (fun hc20 h=>?_) fun hc20 h=>?_
         ·exact wft hc20<|wxz<|Qaf<|Qat<|Qal<|Qal<|Qat<|Qal<|frb h
         ·exact wfn hc20<|Qaq<|bln<|thn<|wxz1<|thn<|arm (mto (n:=103) [(0,(.dat 5 (p0.map Qam))),(3,(I (w64 (y3+1))))] [] [] hq (pc (rnd Qap) (pw pn)) qn) (ih (w64 (y3+1)) h)
     ·exact wxd tbk [(2,rp [(.tmp 50,(B ((decide (y3>0)))))] (B false))] ⟨asb hb12 (amv rfl),tv⟩<|wfa<|Qaq<|bln<|thn<|wxz1<|thn<|arm (mto (n:=103) [(0,(.dat 5 (p0.map Qam))),(3,(I (w64 (y3+1))))] [] [] hq (pc (rnd Qap) (pw pn)) qn) (ih (w64 (y3+1)) h)
    ·skip
     obtain⟨x22,hf21,h⟩:=bno h
     refine hpre (A:=(Q4s x7 x22)) ⟨apv Qm4 (Qgk N x7.T 0 400 _ hf21) (nlcc (nlc nll nl0)) nll,tv⟩ fun q4_=>?_
     refine bfe h (fun hb23 h=>?_) fun hb23 h=>?_
     ·refine wx tbk (hcat (Q4s x7 x22) [(4,rp [(.tmp 18,(B ((!x22))))] (B true))]) (hap q4_ ⟨asb hb23 (amv rfl),tv⟩)<|wtr<|wxz<|Qaf<|Qal<|Qat<|Qal<|Qal<|Qat<|Qal ?_
      exact frb h
     ·obtain⟨x25,hf24,h⟩:=bno h
      refine hpre (A:=(Q4r x7 x22 x25)) (hap q4_ ⟨asb hb23 (amv rfl),ag_ (apv Qm4 (Qgk N x7.P 1 10000 _ hf24) (nlcc (nlc nll nl0)) nll),tv⟩) fun q5_=>?_
      refine bfe h (fun hb26 h=>?_) fun hb26 h=>?_
      ·refine wx tbk (hcat (Q4r x7 x22 x25) [(10,rp [(.tmp 24,(B ((!x25))))] (B true))]) (hap q5_ ⟨asb hb26 (amv rfl),tv⟩)<|wtr<|wxz<|Qaf<|Qal<|Qat<|Qal<|Qal<|Qat<|Qal ?_
       exact frb h
      ·obtain⟨x28,hf27,h⟩:=bno h
       refine hpre (A:=(Q4q x7 x22 x25 x28)) (hap q5_ ⟨asb hb26 (amv rfl),ag_ (apv Qm4 (Qgk N x7.Liquid 0 4000 _ hf27) (nlcc (nlc nll nl0)) nll),tv⟩) fun q6_=>?_
       refine bfe h (fun hb29 h=>?_) fun hb29 h=>?_
       ·refine wx tbk (hcat (Q4q x7 x22 x25 x28) [(16,rp [(.tmp 30,(B ((!x28))))] (B true))]) (hap q6_ ⟨asb hb29 (amv rfl),tv⟩)<|wtr<|wxz<|Qaf<|Qal<|Qat<|Qal<|Qal<|Qat<|Qal ?_
        exact frb h
       ·obtain⟨x31,hf30,h⟩:=bno h
        refine hpre (A:=(Q0b x7 x22 x25 x28 x31)) (hap q6_ ⟨asb hb29 (amv rfl),ag_ (apv Qm4 (Qgk N x7.Silica 0 2000 _ hf30) (nlcc (nlc nll nl0)) nll),tv⟩) fun q7_=>?_
        refine bfe h (fun hb32 h=>?_) fun hb32 h=>?_
        ·refine wx tbk (hcat (Q0b x7 x22 x25 x28 x31) [(22,rp [(.tmp 36,(B ((!x31))))] (B true))]) (hap q7_ ⟨asb hb32 (amv rfl),tv⟩)<|wtr<|wxz<|Qaf<|Qal<|Qat<|Qal<|Qal<|Qat<|Qal ?_
         exact frb h
        ·refine bfe h (fun hb33 h=>?_) fun hb33 h=>?_
         ·refine wx tbk (hcat (Q0b x7 x22 x25 x28 x31) [(22,rp [(.tmp 36,(B ((!x31))))] (B false)),(29,rp [(.tmp 43,(B ((decide (x7.Vapour≤x7.Liquid)))))] (B true))]) (hap q7_ ⟨asb hb32 (amv rfl),asb hb33 (amv rfl),tv⟩)<|wtr<|wxz<|Qaf<|Qal<|Qat<|Qal<|Qal<|Qat<|Qal ?_
          exact frb h
         ·refine wx tbk (hcat (Q0b x7 x22 x25 x28 x31) [(22,rp [(.tmp 36,(B ((!x31))))] (B false)),(29,rp [(.tmp 43,(B ((decide (x7.Vapour≤x7.Liquid)))))] (B false))]) (hap q7_ ⟨asb hb32 (amv rfl),asb hb33 (amv rfl),tv⟩) ?_
          refine bfe h (fun hc34 h=>?_) fun hc34 h=>?_
          ·exact wft hc34<|wxz<|Qaf<|Qal<|Qat<|Qal<|Qal<|Qat<|Qal<|frb h
          ·exact wfn hc34<|Qaq<|thn<|⟨(),h,(mto (n:=103) [(0,(.dat 5 (p0.map Qam))),(3,I y3),(4,.ref 0 5 0 0)] [0] [(Zcv x7)] hq (pc (rnd Qap) (pw (prr pn))) (qb (lcc (lcc (lc rwl ln))) qn))⟩
   ·exact wfn hc6<|Qbl<|Qaz<|Qaz<|Qbk rfl<|thn<|⟨(),h,(mto (n:=103) [(0,(.dat 5 (p0.map Qam)))] [] [] hq (pc (rnd Qap) pn) qn)⟩
def Qec (N:Nat) (p0:List GRow) (k2:(List GRow)→Option (List GRow)):Nat→(List GRow)→Int→Option (List GRow)
  |0,_,_=>none
  |n7+1,y3,y4=>
    bif (decide (y4<(p0.length:Int))) then
     (getI p0 y4).bind fun x9=>
     chk (decide ((y3.length+([x9]).length)*40≤140737488355328))<|
     Qec N p0 k2 n7 (y3++([x9])) (w64 (y4+1))
    else
     k2 (y3)
def Qjd (N:Nat) (p0:List GRow):Option (List GRow):=
  Qcf (fun y1=>
    some y1) fun k2:(List GRow)→Option (List GRow)=>
  Qec N p0 k2 N ([]) 0
def Zcu (x9:GRow):AV:=.agg [(I x9.T),(I x9.P),(I x9.Liquid),(I x9.Vapour),(I x9.Silica)]
theorem Qsa (N:Nat) (p0 r:List GRow) (h:Qjd N p0=some r):Spec prog 12 [(.dat 5 (p0.map Qam))] [] (.dat 5 (r.map Qam)) []:=by
  refine sA func12 0 fun _ _ _ hq hd0=>?_
  unfold Qjd at h
  refine wxz<|wxz ?_
  obtain⟨k2,hk_k2,h⟩:=jko h
  refine wjn (τ:=(List GRow)) (fun t=>k2 t=some r) (fun y1=>⟨mk 41 [(3,(.acc 0 113 5 (y1.map Qam)))],[.tok]⟩) (fun y1 h=>?_) ?_
  ·subst hk_k2
   refine wxz<|Qaf ?_
   obtain rfl:=osi h
   exact fie [(.dat 5 (y1.map Qam))] ⟨Qcs (v:=(.acc 0 113 5 (y1.map Qam))) rot Less.acc,tv⟩
  ·skip
   refine wxz<|Qar ?_
   refine wmr (Mor.trans (Qp8 0 113 5 3 (by kernel_rfl) (by kernel_rfl)) (mto (n:=41) (l':=[(0,(.dat 5 (p0.map Qam))),(3,(.acc 0 113 5 ((([]):List GRow).map Qam))),(4,I 0)]) (own':=[.tok]) [(0,(.dat 5 (p0.map Qam))),(3,(.acc 0 113 5 (([]:List GRow).map Qam))),(4,I 0)] [0] [.tok] hq (pc (rnd Qap) (pc (.rn (Qe4 rfl (Qdy Qap _))) (pw pn))) (qc .tok qn))) ?_
   refine Qcn (τ:=(List GRow)×Int) (fun n t=>Qec N p0 k2 n t.1 t.2=some r) (fun ⟨y3,y4⟩=>⟨mk 41 [(0,(.dat 5 (p0.map Qam))),(3,(.acc 0 113 5 (y3.map Qam))),(4,I y4)],[.tok]⟩) (fun t h=>by rw[Qec] at h;cases h) (fun n7 ih t h=>?_) N ([],0) h
   obtain⟨y3,y4⟩:=t
   rw[Qec] at h
   skip
   refine wsq<|wx tbk [(2,rp _ _)] ⟨alq 5 Qam p0 underlying23,tv⟩ ?_
   refine bfe h (fun hc8 h=>?_) fun hc8 h=>?_
   ·refine wft hc8<|Qaq<|thn<|wsq<|Qar ?_
    obtain⟨x9,hg10,h⟩:=bno h
    obtain⟨hi11,hj12⟩:=gsm hg10
    obtain⟨ha13,h⟩:=cko h
    refine wy1 tbk [(3,rp _ _),(8,rp _ _),(13,rp _ _),(18,rp _ _),(23,rp _ _),(26,rp _ _),(27,rp [(.tmp 37,(Zcu x9))] (.dat 5 (([x9]:List GRow).map Qam))),(28,⟨[(.tmp 11,(.acc 0 113 5 (y3.map Qam))),(.tmp 38,(.dat 5 (([x9]:List GRow).map Qam)))],[(0,.tok),(1,.unused)],(.acc 1 113 5 ((y3++([x9]):List GRow).map Qam)),[(0,.dead),(1,.tok)],false⟩)] ⟨aiq underlying23 Qro Qam hi11 hj12,aiq underlying23 Qro Qam hi11 hj12,aiq underlying23 Qro Qam hi11 hj12,aiq underlying23 Qro Qam hi11 hj12,aiq underlying23 Qro Qam hi11 hj12,Qa8 (vs:=[I x9.T,I x9.P,I x9.Liquid,I x9.Vapour,I x9.Silica]) rfl Zab Quh rfl (by rfl) rfl,Qbp (vs:=[(Zcu x9)]) rfl underlying36 Qqx Quh rfl (by decide) rfl (by decide) (by rfl) (by rfl) (by rfl) rfl,Qf4 rfl underlying36 Zfh (Base.acc _ _) rfl rfl (by rfl) (Qis Qam ha13) (Qir Qam ha13 (by decide)) (Qiq Qam) rfl rfl,tv⟩<|bln<|thn<|wxz1<|thn ?_
    exact arm (mto (n:=41) [(0,(.dat 5 (p0.map Qam))),(3,(.acc 1 113 5 ((y3++([x9]):List GRow).map Qam))),(4,(I (w64 (y4+1))))] [1] [.tok] hq (pc (rnd Qap) (pc (.rn (Qe4 rfl (Qdy Qap _))) (pw pn))) (qc .tok qn)) (ih (y3++([x9]),w64 (y4+1)) h)
   ·exact wfn hc8<|Qbl<|Qaz<|Qaz<|Qbk rfl<|thn<|⟨(y3),h,(mto (n:=41) [(3,(.acc 0 113 5 (y3.map Qam)))] [0] [.tok] hq (pc (.rn (Qe4 rfl (Qdy Qap _))) pn) (qc .tok qn))⟩
def Qhf (_N:Nat) (p0:Qaa):Option Qaa:=
  some p0
def Zkf (p0:Qaa):AV:=.agg [(I p0.Mass),(I p0.Heat),(I p0.Silica),(I p0.Gas)]
theorem Qmi (N:Nat) (p0 r:Qaa) (h:Qhf N p0=some r):Spec prog 14 [(.agg (Qac p0))] [] (.agg (Qac r)) []:=by
  refine sA func14 0 fun _ _ _ hq hd0=>?_
  unfold Qhf at h
  refine wxz<|wx tbk [(8,rp _ _)] ⟨Qa8 (vs:=[I p0.Mass,I p0.Heat,I p0.Silica,I p0.Gas]) rfl ts49 tz49 rfl (by rfl) rfl,tv⟩<|Qaf ?_
  obtain rfl:=osi h
  exact fie [(Zkf p0)] ⟨Qb7 (n:=1) (m:=4) (j:=0) (i:=0) (xs:=[[I p0.Mass,I p0.Heat,I p0.Silica,I p0.Gas]]) (by kernel_rfl) (by kernel_rfl) ti49 (by decide) rfl (nle rfl) rfl,tv⟩
def Qfy (N:Nat) (p0:Qaa):Option Bool:=
  (Qgs N p0.Mass 0 1000000).bind fun x2=>
  bif x2 then
   (Qgs N p0.Heat 0 (w64 (4000*p0.Mass))).bind fun x5=>
   bif x5 then
    (Qgs N p0.Silica 0 (w64 (10000*p0.Mass))).bind fun x8=>
    bif x8 then
     (Qgs N p0.Gas 0 1000000000).bind fun x11=>
     some x11
    else
     some false
   else
    some false
  else
   some false
def Zeg (p0:Qaa) (x2:Bool):List (Nat×Rec):=[(2,rp [fu 37,((.tmp 4),(I p0.Mass)),ci 0,ci 1000000] (B x2))]
def Zef p0 x2 (x5:Bool):=hcat (Zeg p0 x2) [(3,rp [((.tmp 5),(B x2))] (B true)),(9,rp [((.tmp 6),(B true)),fu 37,((.tmp 8),(I p0.Heat)),ci 0,((.tmp 11),(I (w64 (4000*p0.Mass))))] (B x5))]
def Zee p0 x2 x5 (x8:Bool):=hcat (Zef p0 x2 x5) [(11,rp [((.tmp 13),(B x5))] (B true)),(17,rp [((.tmp 14),(B true)),fu 37,((.tmp 16),(I p0.Silica)),ci 0,((.tmp 19),(I (w64 (10000*p0.Mass))))] (B x8))]
theorem Qmw (N:Nat) (p0:Qaa) (r:Bool) (h:Qfy N p0=some r):Spec prog 7 [(.agg (Qac p0))] [] (B r) []:=by
  refine sA func7 0 fun _ _ _ hq hd0=>?_
  unfold Qfy at h
  refine wxz ?_
  obtain⟨x2,hf1,h⟩:=bno h
  refine hpre (A:=(Zeg p0 x2)) ⟨apv Qm4 (Qgk N p0.Mass 0 1000000 _ hf1) (nlcc (nlc nll nl0)) nll,tv⟩ fun q1_=>?_
  refine bfe h (fun hb3 h=>?_) fun hb3 h=>?_
  ·obtain⟨x5,hf4,h⟩:=bno h
   refine hpre (A:=(Zef p0 x2 x5)) (hap q1_ ⟨asb hb3 (amv rfl),ag_ (apv Qm4 (Qgk N p0.Heat 0 (w64 (4000*p0.Mass)) _ hf4) (nlcc (nlc nll nl0)) nll),tv⟩) fun q2_=>?_
   refine bfe h (fun hb6 h=>?_) fun hb6 h=>?_
   ·obtain⟨x8,hf7,h⟩:=bno h
    refine hpre (A:=(Zee p0 x2 x5 x8)) (hap q2_ ⟨asb hb6 (amv rfl),ag_ (apv Qm4 (Qgk N p0.Silica 0 (w64 (10000*p0.Mass)) _ hf7) (nlcc (nlc nll nl0)) nll),tv⟩) fun q3_=>?_
    refine bfe h (fun hb9 h=>?_) fun hb9 h=>?_
    ·obtain⟨x11,hf10,h⟩:=bno h
     exact wx tbk (hcat (Zee p0 x2 x5 x8) [(19,rp [(.tmp 21,B x8)] (B true)),(22,rp [(.tmp 22,B true),fu 37,(.tmp 24,I p0.Gas),ci 0,ci 1000000000] (B x11))]) (hap q3_ ⟨asb hb9 (amv rfl),ag_ (apv Qm4 (Qgk N p0.Gas 0 1000000000 _ hf10) (nlcc (nlc nll nl0)) nll),tv⟩)<|Qaf<|frb h
    ·exact wx tbk (hcat (Zee p0 x2 x5 x8) [(19,rp [(.tmp 21,B x8)] (B false))]) (hap q3_ ⟨asb hb9 (amv rfl),tv⟩)<|Qaf<|frb h
   ·exact wx tbk (hcat (Zef p0 x2 x5) [(11,rp [(.tmp 13,B x5)] (B false))]) (hap q2_ ⟨asb hb6 (amv rfl),tv⟩)<|Qaf<|frb h
  ·exact wx tbk (hcat (Zeg p0 x2) [(3,rp [(.tmp 5,B x2)] (B false))]) (hap q1_ ⟨asb hb3 (amv rfl),tv⟩)<|Qaf<|frb h
def Qdm (N:Nat) (p0:List Qaa) (k1:Unit→Option Bool):Nat→Int→Option Bool
  |0,_=>none
  |n4+1,y2=>
    bif (decide (y2<(p0.length:Int))) then
     (getI p0 y2).bind fun x6=>
     (Qfy N x6).bind fun x11=>
     bif (!x11) then
      some false
     else
      Qdm N p0 k1 n4 (w64 (y2+1))
    else
     k1 ()
def Qhk (N:Nat) (p0:List Qaa):Option Bool:=
  Qcf (fun _=>
    some true) fun k1:Unit→Option Bool=>
  Qdm N p0 k1 N 0
def Q9h (p0:List Qaa):AV:=.dat 4 (p0.map Qac)
theorem Qp1 (N:Nat) (p0:List Qaa) (r:Bool) (h:Qhk N p0=some r):Spec prog 18 [(.dat 4 (p0.map Qac))] [] (B r) []:=by
  refine sA func18 0 fun _ _ _ hq hd0=>?_
  unfold Qhk at h
  refine wxz ?_
  obtain⟨k1,hk_k1,h⟩:=jko h
  refine wjn (τ:=Unit) (fun t=>k1 t=some r) (fun _=>⟨mk 16 [],[]⟩) (fun t h=>?_) ?_
  ·subst hk_k1
   exact wxz<|Qaf<|frb h
  ·skip
   refine wxz<|Qar ?_
   refine wmr (mto (n:=16) (l':=[(0,(Q9h p0)),(3,I 0)]) (own':=[]) [(0,(Q9h p0)),(3,I 0)] [] [] hq (pc (rnd Qak) (pw pn)) qn) ?_
   refine Qcn (τ:=Int) (fun n t=>Qdm N p0 k1 n t=some r) (fun y2=>⟨mk 16 [(0,(Q9h p0)),(3,I y2)],[]⟩) (fun t h=>by rw[Qdm] at h;cases h) (fun n4 ih y2 h=>?_) N (0) h
   rw[Qdm] at h
   skip
   refine wsq<|wx tbk [(2,rp _ _)] ⟨alq 4 Qac p0 underlying66,tv⟩ ?_
   refine bfe h (fun hc5 h=>?_) fun hc5 h=>?_
   ·refine wft hc5<|Qaq<|thn<|wsq<|Qar ?_
    obtain⟨x6,hg7,h⟩:=bno h
    obtain⟨hi8,hj9⟩:=gsm hg7
    obtain⟨x11,hf10,h⟩:=bno h
    refine wx tbk [(2,rp _ _),(4,rp _ _)] ⟨aiq underlying66 ti25 Qac hi8 hj9,apw Zjy (Qmw N x6 _ hf10),tv⟩ ?_
    refine bfe h (fun hc12 h=>?_) fun hc12 h=>?_
    ·exact wft hc12<|wxz<|Qaf<|Qat<|Qal<|Qal<|Qat<|Qal<|frb h
    ·exact wfn hc12<|Qaq<|bln<|thn<|wxz1<|thn<|arm (mto (n:=16) [(0,(Q9h p0)),(3,(I (w64 (y2+1))))] [] [] hq (pc (rnd Qak) (pw pn)) qn) (ih (w64 (y2+1)) h)
   ·exact wfn hc5<|Qbl<|Qaz<|Qaz<|Qbk rfl<|thn<|⟨(),h,(mto (n:=16) [] [] [] hq pn qn)⟩
def Qdo (N:Nat) (p0:List Qaa) (k2:(List Qaa)→Option (List Qaa)):Nat→(List Qaa)→Int→Option (List Qaa)
  |0,_,_=>none
  |n7+1,y3,y4=>
    bif (decide (y4<(p0.length:Int))) then
     (getI p0 y4).bind fun x9=>
     (Qhf N x9).bind fun x14=>
     chk (decide ((y3.length+([x14]).length)*32≤140737488355328))<|
     Qdo N p0 k2 n7 (y3++([x14])) (w64 (y4+1))
    else
     k2 (y3)
def Qhm (N:Nat) (p0:List Qaa):Option (List Qaa):=
  Qcf (fun y1=>
    some y1) fun k2:(List Qaa)→Option (List Qaa)=>
  Qdo N p0 k2 N ([]) 0
def Q9g (p0:List Qaa):AV:=.dat 4 (p0.map Qac)
def Zct (x14:Qaa):AV:=.agg [(I x14.Mass),(I x14.Heat),(I x14.Silica),(I x14.Gas)]
theorem Qqc (N:Nat) (p0 r:List Qaa) (h:Qhm N p0=some r):Spec prog 21 [(.dat 4 (p0.map Qac))] [] (.dat 4 (r.map Qac)) []:=by
  refine sA func21 0 fun _ _ _ hq hd0=>?_
  unfold Qhm at h
  refine wxz<|wxz ?_
  obtain⟨k2,hk_k2,h⟩:=jko h
  refine wjn (τ:=(List Qaa)) (fun t=>k2 t=some r) (fun y1=>⟨mk 20 [(3,(.acc 0 49 4 (y1.map Qac)))],[.tok]⟩) (fun y1 h=>?_) ?_
  ·subst hk_k2
   refine wxz<|Qaf ?_
   obtain rfl:=osi h
   exact fie [(.dat 4 (y1.map Qac))] ⟨Qcs (v:=(.acc 0 49 4 (y1.map Qac))) rot Less.acc,tv⟩
  ·skip
   refine wxz<|Qar ?_
   refine wmr (Mor.trans (Qp8 0 49 4 3 (by kernel_rfl) (by kernel_rfl)) (mto (n:=20) (l':=[(0,(Q9g p0)),(3,(.acc 0 49 4 ((([]):List Qaa).map Qac))),(4,I 0)]) (own':=[.tok]) [(0,(Q9g p0)),(3,(.acc 0 49 4 (([]:List Qaa).map Qac))),(4,I 0)] [0] [.tok] hq (pc (rnd Qak) (pc (.rn (Qe4 rfl (Qdy Qak _))) (pw pn))) (qc .tok qn))) ?_
   refine Qcn (τ:=(List Qaa)×Int) (fun n t=>Qdo N p0 k2 n t.1 t.2=some r) (fun ⟨y3,y4⟩=>⟨mk 20 [(0,(Q9g p0)),(3,(.acc 0 49 4 (y3.map Qac))),(4,I y4)],[.tok]⟩) (fun t h=>by rw[Qdo] at h;cases h) (fun n7 ih t h=>?_) N ([],0) h
   obtain⟨y3,y4⟩:=t
   rw[Qdo] at h
   skip
   refine wsq<|wx tbk [(2,rp _ _)] ⟨alq 4 Qac p0 underlying66,tv⟩ ?_
   refine bfe h (fun hc8 h=>?_) fun hc8 h=>?_
   ·refine wft hc8<|Qaq<|thn<|wsq<|Qar ?_
    obtain⟨x9,hg10,h⟩:=bno h
    obtain⟨hi11,hj12⟩:=gsm hg10
    obtain⟨x14,hf13,h⟩:=bno h
    obtain⟨ha15,h⟩:=cko h
    refine wx1 tbk [(3,rp _ _),(5,rp _ _),(6,rp [(.tmp 16,(Zct x14))] (.dat 4 (([x14]:List Qaa).map Qac))),(7,⟨[(.tmp 11,(.acc 0 49 4 (y3.map Qac))),(.tmp 17,(.dat 4 (([x14]:List Qaa).map Qac)))],[(0,.tok),(1,.unused)],(.acc 1 49 4 ((y3++([x14]):List Qaa).map Qac)),[(0,.dead),(1,.tok)],false⟩)] ⟨aiq underlying66 ti25 Qac hi11 hj12,apw Q8h (Qmi N x9 _ hf13),Qbp (vs:=[(Zct x14)]) rfl underlying51 ti49 tz49 rfl (by decide) rfl (by decide) (by rfl) (by rfl) (by rfl) rfl,Qf4 rfl underlying51 te49 (Base.acc _ _) rfl rfl (by rfl) (Qis Qac ha15) (Qir Qac ha15 (by decide)) (Qiq Qac) rfl rfl,tv⟩<|bln<|thn<|wxz1<|thn ?_
    exact arm (mto (n:=20) [(0,(Q9g p0)),(3,(.acc 1 49 4 ((y3++([x14]):List Qaa).map Qac))),(4,(I (w64 (y4+1))))] [1] [.tok] hq (pc (rnd Qak) (pc (.rn (Qe4 rfl (Qdy Qak _))) (pw pn))) (qc .tok qn)) (ih (y3++([x14]),w64 (y4+1)) h)
   ·exact wfn hc8<|Qbl<|Qaz<|Qaz<|Qbk rfl<|thn<|⟨(y3),h,(mto (n:=20) [(3,(.acc 0 49 4 (y3.map Qac)))] [0] [.tok] hq (pc (.rn (Qe4 rfl (Qdy Qak _))) pn) (qc .tok qn))⟩
def Qdd (N:Nat) (p0:Qaa):Option Bool:=
  (Qde N p0).bind fun x3=>
  some (!x3)
abbrev Zkd (p0:Qaa):AV:=.agg [(I p0.Mass),(I p0.Heat),(I p0.Silica),(I p0.Gas)]
abbrev Q9f:Slot:=.own 1 [[(.fn (.func 90) [] [])]]
theorem Qi2 (N:Nat) (p0:Qaa) (r:Bool) (h:Qdd N p0=some r):Spec prog 95 [(Zkd p0),(.ref 0 1 (0) 0)] [Q9f] (B r) [Q9f]:=by
  refine sF func95 1 fun _ _ _ hq hd0=>?_
  unfold Qdd at h
  refine wxz ?_
  obtain⟨x3,hf2,h⟩:=bno h
  refine wx tbk [(2,rp _ _)] ⟨apw Qvb (Qfj N p0 _ hf2),tv⟩ ?_
  refine wmr (mto (n:=8) (l':=[(3,(B ((!x3))))]) (own':=[Q9f]) [(3,(B ((!x3))))] [0] [Q9f] hq (pw pn) (qb (lc (.rn (Qa4 rn0 rn0)) ln) qn))<|Qaf ?_
  obtain rfl:=osi h
  exact⟨_,Mor.rfl,fio [(B ((!x3)))] ⟨rot,tv⟩⟩
def Qa5 (N:Nat) (p0:List Qaa) (k2:Unit→Option Int):Nat→Int→Option Int
  |0,_=>none
  |n5+1,y3=>
    bif (decide (y3<(p0.length:Int))) then
     (getI p0 y3).bind fun x7=>
     (Qdd N x7).bind fun x12=>
     bif x12 then
      some y3
     else
      Qa5 N p0 k2 n5 (w64 (y3+1))
    else
     k2 ()
def Qbv (N:Nat) (p0:List Qaa):Option Int:=
  Qcf (fun _=>
    some (-1)) fun k2:Unit→Option Int=>
  Qa5 N p0 k2 N 0
abbrev Q4p (p0:List Qaa):AV:=.dat 4 (p0.map Qac)
abbrev Q4o:AV:=.fn (.func 95) [] [(.ref 0 1 (0) 0)]
abbrev Qok:Slot:=.own 1 [[(.fn (.func 90) [] [])]]
def Zke (x7:Qaa):AV:=.agg [(I x7.Mass),(I x7.Heat),(I x7.Silica),(I x7.Gas)]
theorem Qfu (N:Nat) (p0:List Qaa) (r:Int) (h:Qbv N p0=some r):Spec prog 137 [(Q4p p0),Q4o] [Qok] (I r) [Qok]:=by
  refine sF func137 1 fun _ _ _ hq hd0=>?_
  unfold Qbv at h
  refine wxz ?_
  obtain⟨k2,hk_k2,h⟩:=jko h
  refine wjn (τ:=Unit) (fun t=>k2 t=some r) (fun _=>⟨mk 19 [],[Qok]⟩) (fun t h=>?_) ?_
  ·subst hk_k2
   refine wxz<|wmr (mto (n:=19) (l':=[(4,(I ((-1))))]) (own':=[Qok]) [(4,(I ((-1))))] [0] [Qok] hq (pw pn) (qb (lc (.rn (Qa4 rn0 rn0)) ln) qn))<|Qaf ?_
   obtain rfl:=osi h
   exact⟨_,Mor.rfl,fio [(I ((-1)))] ⟨rot,tv⟩⟩
  ·skip
   refine wx tbk [(1,rp _ _)] ⟨alq 4 Qac p0 underlying51,tv⟩<|Qar ?_
   refine wmr (mto (n:=19) (l':=[(0,(Q4p p0)),(1,Q4o),(7,(I ((p0.length:Int)))),(8,I 0)]) (own':=[Qok]) [(0,(Q4p p0)),(1,Q4o),(7,(I ((p0.length:Int)))),(8,I 0)] [0] [Qok] hq (pc (rnd Qak) (pc (.rn (Qa4 rn0 (rnc (rqr rfl) rn0))) (pw (pw pn)))) (qb (lc (.rn (Qa4 rn0 rn0)) ln) qn)) ?_
   refine Qcn (τ:=Int) (fun n t=>Qa5 N p0 k2 n t=some r) (fun y3=>⟨mk 19 [(0,(Q4p p0)),(1,Q4o),(7,(I ((p0.length:Int)))),(8,I y3)],[Qok]⟩) (fun t h=>by rw[Qa5] at h;cases h) (fun n5 ih y3 h=>?_) N (0) h
   rw[Qa5] at h
   skip
   refine wxz<|wsq ?_
   refine bfe h (fun hc6 h=>?_) fun hc6 h=>?_
   ·refine wft hc6<|Qaq<|thn<|wsq<|Qar<|wxz ?_
    obtain⟨x7,hg8,h⟩:=bno h
    obtain⟨hi9,hj10⟩:=gsm hg8
    obtain⟨x12,hf11,h⟩:=bno h
    refine wx tbk [(3,rp _ _),(5,⟨_,_,_,_,false⟩)] ⟨aiq underlying51 ti49 Qac hi9 hj10,Qct (first:=[]) (cap:=[.ref 0 1 0 0]) (vs:=[(Zke x7)]) (σr:=[Qok]) (σr':=[Qok]) (res':=(B x12)) [0] rfl Q73 (Qi2 N x7 _ hf11) rfl (Qbi (rnc (.plain _ (NLt.agg _ (nlcc (nlcc nl0)))) (rnc (Qas rfl) rn0))) (slc (Qai (rnc (.plain _ (NLt.fn _ _ _ nl0 nl0)) rn0)) Qao) (slc (Qai (rnc (.plain _ (NLt.fn _ _ _ nl0 nl0)) rn0)) Qao) (.plain _ nll) rfl rfl rfl,tv⟩ ?_
    refine bfe h (fun hc13 h=>?_) fun hc13 h=>?_
    ·refine wft hc13<|wxz ?_
     refine wmr (mto (n:=19) (l':=[(4,I y3)]) (own':=[Qok]) [(4,I y3)] [0] [Qok] hq (pw pn) (qb (lc (.rn (Qa4 rn0 rn0)) ln) qn))<|Qaf<|Qat<|Qal<|Qal<|Qat<|Qal ?_
     obtain rfl:=osi h
     exact⟨_,Mor.rfl,fio [I y3] ⟨rot,tv⟩⟩
    ·exact wfn hc13<|Qaq<|bln<|thn<|wxz1<|thn<|arm (mto (n:=19) [(0,(Q4p p0)),(1,Q4o),(7,(I ((p0.length:Int)))),(8,(I (w64 (y3+1))))] [0] [Qok] hq (pc (rnd Qak) (pc (.rn (Qa4 rn0 (rnc (rqr rfl) rn0))) (pw (pw pn)))) (qb (lc (.rn (Qa4 rn0 rn0)) ln) qn)) (ih (w64 (y3+1)) h)
   ·exact wfn hc6<|Qbl<|Qaz<|Qaz<|Qbk rfl<|thn<|⟨(),h,(mto (n:=19) [] [0] [Qok] hq pn (qb (lc (.rn (Qa4 rn0 rn0)) ln) qn))⟩
def Qbf (N:Nat) (p0:List Qaa):Option Bool:=
  (Qbv N p0).bind fun x3=>
  some (decide (x3≥0))
abbrev Zhl:AV:=.fn (.func 95) [] [(.ref 0 1 (0) 0)]
abbrev Q2u:Slot:=.own 1 [[(.fn (.func 90) [] [])]]
theorem Qfc (N:Nat) (p0:List Qaa) (r:Bool) (h:Qbf N p0=some r):Spec prog 94 [(.dat 4 (p0.map Qac)),Zhl] [Q2u] (B r) [Q2u]:=by
  refine sF func94 1 fun _ _ _ hq hd0=>?_
  unfold Qbf at h
  refine wxz ?_
  obtain⟨x3,hf2,h⟩:=bno h
  refine wx tbk [(2,⟨_,_,_,_,false⟩)] ⟨acq [(.dat 4 (p0.map Qac)),Zhl] [Q2u] [Q2u] (I x3) [0] Qvf (Qfu N p0 _ hf2) (Qbi (rnc (pld Qak) (rnc (Qa4 rn0 (rnc (Qas rfl) rn0)) rn0))) (slc (Qai (rnc (.plain _ (NLt.fn _ _ _ nl0 nl0)) rn0)) Qao) (slc (Qai (rnc (.plain _ (NLt.fn _ _ _ nl0 nl0)) rn0)) Qao) (.plain _ nll),tv⟩ ?_
  refine wmr (mto (n:=9) (l':=[(4,(B ((decide (x3≥0)))))]) (own':=[Q2u]) [(4,(B ((decide (x3≥0)))))] [0] [Q2u] hq (pw pn) (qb (lc (.rn (Qa4 rn0 rn0)) ln) qn))<|Qaf ?_
  obtain rfl:=osi h
  exact⟨_,Mor.rfl,fio [(B ((decide (x3≥0))))] ⟨rot,tv⟩⟩
def Qdt (N:Nat) (p0:List Qaa):Option Bool:=
  (Qbf N p0).bind fun x2=>
  some (!x2)
def Zhm:AV:=.fn (.func 95) [] [(.ref 0 1 (0) 0)]
def Zhn:Slot:=.own 1 [[(.fn (.func 90) [] [])]]
theorem Qjt (N:Nat) (p0:List Qaa) (r:Bool) (h:Qdt N p0=some r):Spec prog 50 [(.dat 4 (p0.map Qac)),(.fn (.func 90) [] [])] [] (B r) []:=by
  refine sA func50 0 fun _ _ _ hq hd0=>?_
  unfold Qdt at h
  refine wxz ?_
  obtain⟨x2,hf1,h⟩:=bno h
  refine wx tbk [(1,rp [(.tmp 3,.ref 0 1 0 0)] Zhm),(2,⟨_,_,_,_,false⟩)] ⟨Qed (fs:=[]) (cs:=[.ref 0 1 0 0]) rfl rfl rfl rfl,acq [(.dat 4 (p0.map Qac)),Zhm] [Zhn] [Zhn] (B x2) [0] Qzf (Qfc N p0 _ hf1) (Qbi (rnc (pld Qak) (rnc (Qa4 rn0 (rnc (Qas rfl) rn0)) rn0))) (slc (Qai (rnc (.plain _ (NLt.fn _ _ _ nl0 nl0)) rn0)) Qao) (slc (Qai (rnc (.plain _ (NLt.fn _ _ _ nl0 nl0)) rn0)) Qao) (.plain _ nll),tv⟩<|Qaf ?_
  obtain rfl:=osi h
  exact fend ⟨[(B ((!x2)))],⟨rot,tv⟩,rfl⟩ nll
def Qiv (N:Nat) (p0:List Qaa):Option Int:=
  bif (decide ((p0.length:Int)>40)) then
   some 3
  else
   (Qdt N p0).bind fun x3=>
   bif (!x3) then
    some 1
   else
    some 0
theorem Qpx (N:Nat) (p0:List Qaa) (r:Int) (h:Qiv N p0=some r):Spec prog 49 [(.dat 4 (p0.map Qac))] [] (I r) []:=by
  refine sA func49 0 fun _ _ _ hq hd0=>?_
  unfold Qiv at h
  refine wxz<|wsq<|Qar ?_
  refine wx tbk [(1,rp _ _)] ⟨alq 4 Qac p0 underlying51,tv⟩ ?_
  refine bfe h (fun hc1 h=>?_) fun hc1 h=>?_
  ·refine wft hc1<|wxz<|Qaf<|Qat<|Qal ?_
   obtain rfl:=osi h
   exact fend ⟨[I 3],⟨rot,tv⟩,rfl⟩ nll
  ·refine wfn hc1 ?_
   obtain⟨x3,hf2,h⟩:=bno h
   refine wx tbk [(1,rp _ _)] ⟨acq [(.dat 4 (p0.map Qac)),(.fn (.func 90) [] [])] [] [] (B x3) [] Q8g (Qjt N p0 _ hf2) (Qbi (rnc (pld Qak) (rnc (.plain _ (NLt.fn _ _ _ nl0 nl0)) rn0))) Qao Qao (.plain _ nll),tv⟩ ?_
   refine bfe h (fun hc4 h=>?_) fun hc4 h=>?_
   ·refine wft hc4<|wxz<|Qaf<|Qat<|Qal ?_
    obtain rfl:=osi h
    exact fend ⟨[I 1],⟨rot,tv⟩,rfl⟩ nll
   ·refine wfn hc4<|Qaq<|bln<|thn<|wxz<|Qaf ?_
    obtain rfl:=osi h
    exact fend ⟨[I 0],⟨rot,tv⟩,rfl⟩ nll
def Qgz (N:Nat) (p0:Qaa) (p1:List GRow) (p2:Int):Option Bool:=
  (Qf9 N p1 (w64 (p2-1))).bind fun x3=>
  (Qfa N (⟨(⟨x3.Row.T,x3.Row.P,x3.Row.Liquid,x3.Row.Vapour,x3.Row.Silica⟩:GRow)⟩:Qjp) p0).bind fun x5=>
  some (x5.Scale==0)
abbrev Ziv (p0:Qaa):AV:=.agg [(I p0.Mass),(I p0.Heat),(I p0.Silica),(I p0.Gas)]
abbrev Q06 (p1:List GRow):Slot:=.own 1 [[(.dat 5 (p1.map Qam))]]
theorem Qms (N:Nat) (p0:Qaa) (p1:List GRow) (p2:Int) (r:Bool) (h:Qgz N p0 p1 p2=some r):Spec prog 51 [(Ziv p0),(.ref 0 1 (0) 0),(.ref 1 1 (0) 0)] [(Q06 p1),(.own 1 [[(I p2)]])] (B r) [(Q06 p1),(.own 1 [[(I p2)]])]:=by
  refine sF func51 2 fun _ _ _ hq hd0=>?_
  unfold Qgz at h
  refine wxz ?_
  obtain⟨x3,hf2,h⟩:=bno h
  obtain⟨x5,hf4,h⟩:=bno h
  refine wxd tbk [(3,rp _ _),(5,rp _ _)] ⟨apw Q8f (Qky N p1 (w64 (p2-1)) _ hf2),apw Q8e (Qkx N (⟨(⟨x3.Row.T,x3.Row.P,x3.Row.Liquid,x3.Row.Vapour,x3.Row.Silica⟩:GRow)⟩:Qjp) p0 _ hf4),tv⟩ ?_
  refine wmr (mto (n:=13) (l':=[(4,(B ((x5.Scale==0))))]) (own':=[(Q06 p1),(.own 1 [[I p2]])]) [(4,(B ((x5.Scale==0))))] [0,1] [(Q06 p1),(.own 1 [[I p2]])] hq (pw pn) (qb (lc (rnd Qap) ln) (qb (lc rwl ln) qn)))<|Qaf ?_
  obtain rfl:=osi h
  exact⟨_,Mor.rfl,fio [(B ((x5.Scale==0)))] ⟨rot,tv⟩⟩
def Qdc (N:Nat) (p0:Qaa) (p1:List GRow) (p2:Int):Option Bool:=
  (Qgz N p0 p1 p2).bind fun x3=>
  some (!x3)
abbrev Zdu (p0:Qaa):AV:=.agg [(I p0.Mass),(I p0.Heat),(I p0.Silica),(I p0.Gas)]
abbrev Q07:AV:=.fn (.func 51) [] [(.ref 1 1 (0) 0),(.ref 2 1 (0) 0)]
abbrev Qte (p1:List GRow):Slot:=.own 1 [[(.dat 5 (p1.map Qam))]]
theorem Qi1 (N:Nat) (p0:Qaa) (p1:List GRow) (p2:Int) (r:Bool) (h:Qdc N p0 p1 p2=some r):Spec prog 95 [(Zdu p0),(.ref 0 1 (0) 0)] [(.own 1 [[Q07]]),(Qte p1),(.own 1 [[(I p2)]])] (B r) [(.own 1 [[Q07]]),(Qte p1),(.own 1 [[(I p2)]])]:=by
  refine sF func95 3 fun _ _ _ hq hd0=>?_
  unfold Qdc at h
  refine wxz ?_
  obtain⟨x3,hf2,h⟩:=bno h
  refine wx tbk [(2,⟨_,_,_,_,false⟩)] ⟨Qct (first:=[]) (cap:=[.ref 1 1 0 0,.ref 2 1 0 0]) (vs:=[(Zdu p0)]) (σr:=[(Qte p1),(.own 1 [[I p2]])]) (σr':=[(Qte p1),(.own 1 [[I p2]])]) (res':=(B x3)) [1,2] rfl Zgn (Qms N p0 p1 p2 _ hf2) rfl (Qbi (rnc (.plain _ (NLt.agg _ (nlcc (nlcc nl0)))) (rnc (Qas rfl) (rnc (Qas rfl) rn0)))) (slc (Qai (rnc (pld Qap) rn0)) (slc (Qai (rnc (.plain _ nll) rn0)) Qao)) (slc (Qai (rnc (pld Qap) rn0)) (slc (Qai (rnc (.plain _ nll) rn0)) Qao)) (.plain _ nll) rfl rfl rfl,tv⟩ ?_
  refine wmr (mto (n:=8) (l':=[(3,(B ((!x3))))]) (own':=[(.own 1 [[Q07]]),(Qte p1),(.own 1 [[I p2]])]) [(3,(B ((!x3))))] [0,1,2] [(.own 1 [[Q07]]),(Qte p1),(.own 1 [[I p2]])] hq (pw pn) (qb (lc (.rn (Qa4 rn0 (rnc (rqr rfl) (rnc (rqr rfl) rn0)))) ln) (qb (lc (rnd Qap) ln) (qb (lc rwl ln) qn))))<|Qaf ?_
  obtain rfl:=osi h
  exact⟨_,Mor.rfl,fio [(B ((!x3)))] ⟨rot,tv⟩⟩
def Qaw (N:Nat) (p0:List Qaa) (p1:List GRow) (k2:Unit→Option Int) (p2:Int):Nat→Int→Option Int
  |0,_=>none
  |n5+1,y3=>
    bif (decide (y3<(p0.length:Int))) then
     (getI p0 y3).bind fun x7=>
     (Qdc N x7 p1 p2).bind fun x12=>
     bif x12 then
      some y3
     else
      Qaw N p0 p1 k2 p2 n5 (w64 (y3+1))
    else
     k2 ()
def Qbu (N:Nat) (p0:List Qaa) (p1:List GRow) (p2:Int):Option Int:=
  Qcf (fun _=>
    some (-1)) fun k2:Unit→Option Int=>
  Qaw N p0 p1 k2 p2 N 0
abbrev Qwc (p0:List Qaa):AV:=.dat 4 (p0.map Qac)
abbrev Qwb:AV:=.fn (.func 95) [] [(.ref 0 1 (0) 0)]
abbrev Qkv:AV:=.fn (.func 51) [] [(.ref 1 1 (0) 0),(.ref 2 1 (0) 0)]
abbrev Qku (p1:List GRow):Slot:=.own 1 [[(.dat 5 (p1.map Qam))]]
def Ziw (x7:Qaa):AV:=.agg [(I x7.Mass),(I x7.Heat),(I x7.Silica),(I x7.Gas)]
theorem Qft (N:Nat) (p0:List Qaa) (p1:List GRow) (p2 r:Int) (h:Qbu N p0 p1 p2=some r):Spec prog 137 [(Qwc p0),Qwb] [(.own 1 [[Qkv]]),(Qku p1),(.own 1 [[(I p2)]])] (I r) [(.own 1 [[Qkv]]),(Qku p1),(.own 1 [[(I p2)]])]:=by
  refine sF func137 3 fun _ _ _ hq hd0=>?_
  unfold Qbu at h
  refine wxz ?_
  obtain⟨k2,hk_k2,h⟩:=jko h
  refine wjn (τ:=Unit) (fun t=>k2 t=some r) (fun _=>⟨mk 19 [],[(.own 1 [[Qkv]]),(Qku p1),(.own 1 [[I p2]])]⟩) (fun t h=>?_) ?_
  ·subst hk_k2
   refine wxz<|wmr (mto (n:=19) (l':=[(4,(I ((-1))))]) (own':=[(.own 1 [[Qkv]]),(Qku p1),(.own 1 [[I p2]])]) [(4,(I ((-1))))] [0,1,2] [(.own 1 [[Qkv]]),(Qku p1),(.own 1 [[I p2]])] hq (pw pn) (qb (lc (.rn (Qa4 rn0 (rnc (rqr rfl) (rnc (rqr rfl) rn0)))) ln) (qb (lc (rnd Qap) ln) (qb (lc rwl ln) qn))))<|Qaf ?_
   obtain rfl:=osi h
   exact⟨_,Mor.rfl,fio [(I ((-1)))] ⟨rot,tv⟩⟩
  ·skip
   refine wx tbk [(1,rp _ _)] ⟨alq 4 Qac p0 underlying51,tv⟩<|Qar ?_
   refine wmr (mto (n:=19) (l':=[(0,(Qwc p0)),(1,Qwb),(7,(I ((p0.length:Int)))),(8,I 0)]) (own':=[(.own 1 [[Qkv]]),(Qku p1),(.own 1 [[I p2]])]) [(0,(Qwc p0)),(1,Qwb),(7,(I ((p0.length:Int)))),(8,I 0)] [0,1,2] [(.own 1 [[Qkv]]),(Qku p1),(.own 1 [[I p2]])] hq (pc (rnd Qak) (pc (.rn (Qa4 rn0 (rnc (rqr rfl) rn0))) (pw (pw pn)))) (qb (lc (.rn (Qa4 rn0 (rnc (rqr rfl) (rnc (rqr rfl) rn0)))) ln) (qb (lc (rnd Qap) ln) (qb (lc rwl ln) qn)))) ?_
   refine Qcn (τ:=Int) (fun n t=>Qaw N p0 p1 k2 p2 n t=some r) (fun y3=>⟨mk 19 [(0,(Qwc p0)),(1,Qwb),(7,(I ((p0.length:Int)))),(8,I y3)],[(.own 1 [[Qkv]]),(Qku p1),(.own 1 [[I p2]])]⟩) (fun t h=>by rw[Qaw] at h;cases h) (fun n5 ih y3 h=>?_) N (0) h
   rw[Qaw] at h
   skip
   refine wxz<|wsq ?_
   refine bfe h (fun hc6 h=>?_) fun hc6 h=>?_
   ·refine wft hc6<|Qaq<|thn<|wsq<|Qar<|wxz ?_
    obtain⟨x7,hg8,h⟩:=bno h
    obtain⟨hi9,hj10⟩:=gsm hg8
    obtain⟨x12,hf11,h⟩:=bno h
    refine wx tbk [(3,rp _ _),(5,⟨_,_,_,_,false⟩)] ⟨aiq underlying51 ti49 Qac hi9 hj10,Qct (first:=[]) (cap:=[.ref 0 1 0 0]) (vs:=[(Ziw x7)]) (σr:=[(.own 1 [[Qkv]]),(Qku p1),(.own 1 [[I p2]])]) (σr':=[(.own 1 [[Qkv]]),(Qku p1),(.own 1 [[I p2]])]) (res':=(B x12)) [0,1,2] rfl Q73 (Qi1 N x7 p1 p2 _ hf11) rfl (Qbi (rnc (.plain _ (NLt.agg _ (nlcc (nlcc nl0)))) (rnc (Qas rfl) rn0))) (slc (Qai (rnc (Qa4 rn0 (rnc (Qas rfl) (rnc (Qas rfl) rn0))) rn0)) (slc (Qai (rnc (pld Qap) rn0)) (slc (Qai (rnc (.plain _ nll) rn0)) Qao))) (slc (Qai (rnc (Qa4 rn0 (rnc (Qa3 rfl) (rnc (Qa3 rfl) rn0))) rn0)) (slc (Qai (rnc (pld Qap) rn0)) (slc (Qai (rnc (.plain _ nll) rn0)) Qao))) (.plain _ nll) rfl rfl rfl,tv⟩ ?_
    refine bfe h (fun hc13 h=>?_) fun hc13 h=>?_
    ·refine wft hc13<|wxz ?_
     refine wmr (mto (n:=19) (l':=[(4,I y3)]) (own':=[(.own 1 [[Qkv]]),(Qku p1),(.own 1 [[I p2]])]) [(4,I y3)] [0,1,2] [(.own 1 [[Qkv]]),(Qku p1),(.own 1 [[I p2]])] hq (pw pn) (qb (lc (.rn (Qa4 rn0 (rnc (rqr rfl) (rnc (rqr rfl) rn0)))) ln) (qb (lc (rnd Qap) ln) (qb (lc rwl ln) qn))))<|Qaf<|Qat<|Qal<|Qal<|Qat<|Qal ?_
     obtain rfl:=osi h
     exact⟨_,Mor.rfl,fio [I y3] ⟨rot,tv⟩⟩
    ·exact wfn hc13<|Qaq<|bln<|thn<|wxz1<|thn<|arm (mto (n:=19) [(0,(Qwc p0)),(1,Qwb),(7,(I ((p0.length:Int)))),(8,(I (w64 (y3+1))))] [0,1,2] [(.own 1 [[Qkv]]),(Qku p1),(.own 1 [[I p2]])] hq (pc (rnd Qak) (pc (.rn (Qa4 rn0 (rnc (rqr rfl) rn0))) (pw (pw pn)))) (qb (lc (.rn (Qa4 rn0 (rnc (rqr rfl) (rnc (rqr rfl) rn0)))) ln) (qb (lc (rnd Qap) ln) (qb (lc rwl ln) qn)))) (ih (w64 (y3+1)) h)
   ·exact wfn hc6<|Qbl<|Qaz<|Qaz<|Qbk rfl<|thn<|⟨(),h,(mto (n:=19) [] [0,1,2] [(.own 1 [[Qkv]]),(Qku p1),(.own 1 [[I p2]])] hq pn (qb (lc (.rn (Qa4 rn0 (rnc (rqr rfl) (rnc (rqr rfl) rn0)))) ln) (qb (lc (rnd Qap) ln) (qb (lc rwl ln) qn))))⟩
def Qbn (N:Nat) (p0:List Qaa) (p1:List GRow) (p2:Int):Option Bool:=
  (Qbu N p0 p1 p2).bind fun x3=>
  some (decide (x3≥0))
abbrev Zhj:AV:=.fn (.func 95) [] [(.ref 0 1 (0) 0)]
abbrev Q2s:AV:=.fn (.func 51) [] [(.ref 1 1 (0) 0),(.ref 2 1 (0) 0)]
abbrev Q2r (p1:List GRow):Slot:=.own 1 [[(.dat 5 (p1.map Qam))]]
theorem Qfb (N:Nat) (p0:List Qaa) (p1:List GRow) (p2:Int) (r:Bool) (h:Qbn N p0 p1 p2=some r):Spec prog 94 [(.dat 4 (p0.map Qac)),Zhj] [(.own 1 [[Q2s]]),(Q2r p1),(.own 1 [[(I p2)]])] (B r) [(.own 1 [[Q2s]]),(Q2r p1),(.own 1 [[(I p2)]])]:=by
  refine sF func94 3 fun _ _ _ hq hd0=>?_
  unfold Qbn at h
  refine wxz ?_
  obtain⟨x3,hf2,h⟩:=bno h
  refine wx tbk [(2,⟨_,_,_,_,false⟩)] ⟨acq [(.dat 4 (p0.map Qac)),Zhj] [(.own 1 [[Q2s]]),(Q2r p1),(.own 1 [[I p2]])] [(.own 1 [[Q2s]]),(Q2r p1),(.own 1 [[I p2]])] (I x3) [0,1,2] Qvf (Qft N p0 p1 p2 _ hf2) (Qbi (rnc (pld Qak) (rnc (Qa4 rn0 (rnc (Qas rfl) rn0)) rn0))) (slc (Qai (rnc (Qa4 rn0 (rnc (Qas rfl) (rnc (Qas rfl) rn0))) rn0)) (slc (Qai (rnc (pld Qap) rn0)) (slc (Qai (rnc (.plain _ nll) rn0)) Qao))) (slc (Qai (rnc (Qa4 rn0 (rnc (Qa3 rfl) (rnc (Qa3 rfl) rn0))) rn0)) (slc (Qai (rnc (pld Qap) rn0)) (slc (Qai (rnc (.plain _ nll) rn0)) Qao))) (.plain _ nll),tv⟩ ?_
  refine wmr (mto (n:=9) (l':=[(4,(B ((decide (x3≥0)))))]) (own':=[(.own 1 [[Q2s]]),(Q2r p1),(.own 1 [[I p2]])]) [(4,(B ((decide (x3≥0)))))] [0,1,2] [(.own 1 [[Q2s]]),(Q2r p1),(.own 1 [[I p2]])] hq (pw pn) (qb (lc (.rn (Qa4 rn0 (rnc (rqr rfl) (rnc (rqr rfl) rn0)))) ln) (qb (lc (rnd Qap) ln) (qb (lc rwl ln) qn))))<|Qaf ?_
  obtain rfl:=osi h
  exact⟨_,Mor.rfl,fio [(B ((decide (x3≥0))))] ⟨rot,tv⟩⟩
def Qds (N:Nat) (p0:List Qaa) (p1:List GRow) (p2:Int):Option Bool:=
  (Qbn N p0 p1 p2).bind fun x3=>
  some (!x3)
abbrev Zec:AV:=.fn (.func 51) [] [(.ref 0 1 (0) 0),(.ref 1 1 (0) 0)]
abbrev Q2t (p1:List GRow):Slot:=.own 1 [[(.dat 5 (p1.map Qam))]]
def Zhk:AV:=.fn (.func 95) [] [(.ref 2 1 (0) 0)]
theorem Qjs (N:Nat) (p0:List Qaa) (p1:List GRow) (p2:Int) (r:Bool) (h:Qds N p0 p1 p2=some r):Spec prog 50 [(.dat 4 (p0.map Qac)),Zec] [(Q2t p1),(.own 1 [[(I p2)]])] (B r) [(Q2t p1),(.own 1 [[(I p2)]])]:=by
  refine sF func50 2 fun _ _ _ hq hd0=>?_
  unfold Qds at h
  refine wxz ?_
  obtain⟨x3,hf2,h⟩:=bno h
  refine wx tbk [(1,rp [(.tmp 3,.ref 2 1 0 0)] Zhk),(2,⟨_,_,_,_,false⟩)] ⟨Qed (fs:=[]) (cs:=[.ref 2 1 0 0]) rfl rfl rfl rfl,acq [(.dat 4 (p0.map Qac)),Zhk] [(.own 1 [[Zec]]),(Q2t p1),(.own 1 [[I p2]])] [(.own 1 [[Zec]]),(Q2t p1),(.own 1 [[I p2]])] (B x3) [2,0,1] Qzf (Qfb N p0 p1 p2 _ hf2) (Qbi (rnc (pld Qak) (rnc (Qa4 rn0 (rnc (Qas rfl) rn0)) rn0))) (slc (Qai (rnc (Qa4 rn0 (rnc (Qas rfl) (rnc (Qas rfl) rn0))) rn0)) (slc (Qai (rnc (pld Qap) rn0)) (slc (Qai (rnc (.plain _ nll) rn0)) Qao))) (slc (Qai (rnc (Qa4 rn0 (rnc (Qa3 rfl) (rnc (Qa3 rfl) rn0))) rn0)) (slc (Qai (rnc (pld Qap) rn0)) (slc (Qai (rnc (.plain _ nll) rn0)) Qao))) (.plain _ nll),tv⟩ ?_
  refine wmr (mto (n:=9) (l':=[(4,(B ((!x3))))]) (own':=[(Q2t p1),(.own 1 [[I p2]])]) [(4,(B ((!x3))))] [0,1] [(Q2t p1),(.own 1 [[I p2]])] hq (pw pn) (qb (lc (rnd Qap) ln) (qb (lc rwl ln) qn)))<|Qaf ?_
  obtain rfl:=osi h
  exact⟨_,Mor.rfl,fio [(B ((!x3)))] ⟨rot,tv⟩⟩
def Qc4 (N:Nat) (p0:List GRow) (p1:List Qaa) (k9:Int→Option (Int×Int)):Nat→Int→Option (Int×Int)
  |0,_=>none
  |n13+1,y11=>
    bif (decide (y11>0)) then
     (Qds N p1 p0 y11).bind fun x16=>
     bif x16 then
      Qc4 N p0 p1 k9 n13 (w64 (y11-1))
     else
      k9 (y11)
    else
     k9 (y11)
def Qhi (N:Nat) (p0:List GRow) (p1:List Qaa):Option (Int×Int):=
  (Qd2 N p0).bind fun x2=>
  bif (!x2) then
   some (0,1)
  else
   (Qiv N p1).bind fun x5=>
   bif (x5 != 0) then
    some (0,x5)
   else
    bif ((p1.length:Int)==0) then
     some (0,1)
    else
     Qcf (fun y8=>
       bif (y8==(p0.length:Int)) then
        some (0,7)
       else
        some (y8,0)) fun k9:Int→Option (Int×Int)=>
     Qc4 N p0 p1 k9 N (p0.length:Int)
def Q2v (p1:List Qaa):AV:=.dat 4 (p1.map Qac)
def Qq9 (p0:List GRow):Slot:=.own 1 [[(.dat 5 (p0.map Qam))]]
def Zed:AV:=.fn (.func 51) [] [(.ref 0 1 (0) 0),(.ref 1 1 (0) 0)]
theorem Qp0 (N:Nat) (p0:List GRow) (p1:List Qaa) (r:(Int×Int)) (h:Qhi N p0 p1=some r):Spec prog 20 [(.dat 5 (p0.map Qam)),(.dat 4 (p1.map Qac))] [] (.tup [(I r.1),(I r.2)]) []:=by
  refine sA func20 0 fun _ _ _ hq hd0=>?_
  unfold Qhi at h
  refine wxz<|wsq ?_
  obtain⟨x2,hf1,h⟩:=bno h
  refine wx tbk [(1,rp _ _)] ⟨apw Qzh (Qg2 N p0 _ hf1),tv⟩ ?_
  refine bfe h (fun hc3 h=>?_) fun hc3 h=>?_
  ·refine wft hc3<|wxz<|Qaf<|Qal ?_
   obtain rfl:=osi h
   exact fie [I 0,I 1] ⟨rot,rot,tv⟩
  ·refine wfn hc3<|Qaq<|thn<|wsq ?_
   obtain⟨x5,hf4,h⟩:=bno h
   refine wx tbk [(1,rp _ _)] ⟨apw Zgo (Qpx N p1 _ hf4),tv⟩<|wxz ?_
   refine bfe h (fun hc6 h=>?_) fun hc6 h=>?_
   ·refine wft hc6<|wxz<|Qaf<|Qal ?_
    obtain rfl:=osi h
    exact fie [I 0,I x5] ⟨rot,rot,tv⟩
   ·refine wfn hc6<|Qaq<|thn<|wsq ?_
    refine wx tbk [(1,rp _ _)] ⟨alq 4 Qac p1 underlying51,tv⟩ ?_
    refine bfe h (fun hc7 h=>?_) fun hc7 h=>?_
    ·refine wft hc7<|wxz<|Qaf<|Qal ?_
     obtain rfl:=osi h
     exact fie [I 0,I 1] ⟨rot,rot,tv⟩
    ·refine wfn hc7<|Qaq<|thn ?_
     refine wx tbk [(1,rp _ _)] ⟨alq 5 Qam p0 underlying36,tv⟩ ?_
     obtain⟨k9,hk_k9,h⟩:=jko h
     refine wjn (τ:=Int) (fun t=>k9 t=some r) (fun y8=>⟨mk 35 [(2,.ref 0 1 0 0),(7,.ref 1 1 0 0)],[(Qq9 p0),(.own 1 [[I y8]])]⟩) (fun y8 h=>?_) ?_
     ·subst hk_k9
      refine wsq<|wx tbk [(2,rp _ _)] ⟨alq 5 Qam p0 underlying36,tv⟩ ?_
      refine bfe h (fun hc10 h=>?_) fun hc10 h=>?_
      ·refine wft hc10<|wxz<|Qaf<|Qal ?_
       obtain rfl:=osi h
       exact fie [I 0,I 7] ⟨rot,rot,tv⟩
      ·refine wfn hc10<|Qaq<|thn<|wxz<|Qaf ?_
       obtain rfl:=osi h
       exact fie [I y8,I 0] ⟨rot,rot,tv⟩
     ·skip
      refine Qar<|wmr (mto (n:=35) (l':=[(1,(Q2v p1)),(2,.ref 0 1 0 0),(7,.ref 1 1 0 0)]) (own':=[(Qq9 p0),(.own 1 [[(I ((p0.length:Int)))]])]) [(1,(Q2v p1)),(2,.ref 0 1 0 0),(7,.ref 1 1 0 0)] [0,1] [(Qq9 p0),(.own 1 [[(I ((p0.length:Int)))]])] hq (pc (rnd Qak) (prr (prr pn))) (qb (lc (rnd Qap) ln) (qb (lc rwl ln) qn))) ?_
      refine Qcn (τ:=Int) (fun n t=>Qc4 N p0 p1 k9 n t=some r) (fun y11=>⟨mk 35 [(1,(Q2v p1)),(2,.ref 0 1 0 0),(7,.ref 1 1 0 0)],[(Qq9 p0),(.own 1 [[I y11]])]⟩) (fun t h=>by rw[Qc4] at h;cases h) (fun n13 ih y11 h=>?_) N ((p0.length:Int)) h
      rw[Qc4] at h
      skip
      refine wsq ?_
      refine bfe h (fun hb14 h=>?_) fun hb14 h=>?_
      ·obtain⟨x16,hf15,h⟩:=bno h
       refine wx tbk [(2,rp [(.tmp 22,(B ((decide (y11>0)))))] (B true)),(4,rp [(.tmp 23,B true),(.tmp 2,.ref 0 1 0 0),(.tmp 7,.ref 1 1 0 0)] Zed),(5,⟨[(.tmp 23,B true),fu 50,(.tmp 24,(Q2v p1)),(.tmp 25,Zed)],[(0,(Qq9 p0)),(1,.own 1 [[I y11]])],B x16,[(0,(Qq9 p0)),(1,.own 1 [[I y11]])],false⟩)] ⟨asb hb14 (amv rfl),ag_ (Qed (fs:=[]) (cs:=[.ref 0 1 0 0,.ref 1 1 0 0]) rfl rfl rfl rfl),ag_ (acq [(Q2v p1),Zed] [(Qq9 p0),(.own 1 [[I y11]])] [(Qq9 p0),(.own 1 [[I y11]])] (B x16) [0,1] Q8g (Qjs N p1 p0 y11 _ hf15) (Qbi (rnc (pld Qak) (rnc (Qa4 rn0 (rnc (Qas rfl) (rnc (Qas rfl) rn0))) rn0))) (slc (Qai (rnc (pld Qap) rn0)) (slc (Qai (rnc (.plain _ nll) rn0)) Qao)) (slc (Qai (rnc (pld Qap) rn0)) (slc (Qai (rnc (.plain _ nll) rn0)) Qao)) (.plain _ nll)),tv⟩ ?_
       refine bfe h (fun hc17 h=>?_) fun hc17 h=>?_
       ·exact wft hc17<|Qaq<|thn<|Qar<|wxz1<|bln<|thn<|arm (mto (n:=35) [(1,(Q2v p1)),(2,.ref 0 1 0 0),(7,.ref 1 1 0 0)] [0,1] [(Qq9 p0),(.own 1 [[(I (w64 (y11-1)))]])] hq (pc (rnd Qak) (prr (prr pn))) (qb (lc (rnd Qap) ln) (qb (lc rwl ln) qn))) (ih (w64 (y11-1)) h)
       ·exact wfn hc17<|Qbl<|Qaz<|Qaz<|Qbk rfl<|thn<|⟨(y11),h,(mto (n:=35) [(2,.ref 0 1 0 0),(7,.ref 1 1 0 0)] [0,1] [(Qq9 p0),(.own 1 [[I y11]])] hq (prr (prr pn)) (qb (lc (rnd Qap) ln) (qb (lc rwl ln) qn)))⟩
      ·exact wx tbk [(2,rp [(.tmp 22,(B ((decide (y11>0)))))] (B false))] ⟨asb hb14 (amv rfl),tv⟩<|wfa<|Qbl<|Qaz<|Qaz<|Qbk rfl<|thn<|⟨(y11),h,(mto (n:=35) [(2,.ref 0 1 0 0),(7,.ref 1 1 0 0)] [0,1] [(Qq9 p0),(.own 1 [[I y11]])] hq (prr (prr pn)) (qb (lc (rnd Qap) ln) (qb (lc rwl ln) qn)))⟩
def Qm3 (_N:Nat):Option (List GRow):=
  some ([(⟨100,101,419,2676,150⟩:GRow),(⟨150,476,632,2746,300⟩:GRow),(⟨200,1555,852,2793,600⟩:GRow)])
def Zdo:AV:=.agg [(I (100)),(I (101)),(I (419)),(I (2676)),(I (150))]
def Zdn:AV:=.agg [(I (150)),(I (476)),(I (632)),(I (2746)),(I (300))]
def Zdm:AV:=.agg [(I (200)),(I (1555)),(I (852)),(I (2793)),(I (600))]
def Zdl:AV:=.dat 5 (([(⟨100,101,419,2676,150⟩:GRow),(⟨150,476,632,2746,300⟩:GRow),(⟨200,1555,852,2793,600⟩:GRow)]:List GRow).map Qam)
theorem Qr9 (N:Nat) (r:List GRow) (h:Qm3 N=some r):Spec prog 47 [] [] (.dat 5 (r.map Qam)) []:=by
  refine sA func47 0 fun _ _ _ hq hd0=>?_
  unfold Qm3 at h
  refine wxz<|wx tbk [(0,rp _ _),(1,rp _ _),(2,rp _ _),(3,rp [(.tmp 1,Zdo),(.tmp 2,Zdn),(.tmp 3,Zdm)] Zdl)] ⟨Qa8 (vs:=[I 100,I 101,I 419,I 2676,I 150]) rfl Zab Quh rfl (by rfl) rfl,Qa8 (vs:=[I 150,I 476,I 632,I 2746,I 300]) rfl Zab Quh rfl (by rfl) rfl,Qa8 (vs:=[I 200,I 1555,I 852,I 2793,I 600]) rfl Zab Quh rfl (by rfl) rfl,Qbp (vs:=[Zdo,Zdn,Zdm]) rfl underlying36 Qqx Quh rfl (by decide) rfl (by decide) (by rfl) (by rfl) (by rfl) rfl,tv⟩<|Qaf ?_
  obtain rfl:=osi h
  exact fie [Zdl] ⟨rot,tv⟩
def Qgw (N:Nat):Option Bool:=
  (Qm3 2000 ).bind fun x2=>
  (Quv N (⟨x2,[(⟨1,[],0,0,5,1,[]⟩:Qad),(⟨6,[(⟨0,0⟩:Qeg)],0,0,5,1,[]⟩:Qad)]⟩:GNet) ([0,0]) ([(⟨5,7,0,0⟩:Qaa)])).bind fun x4=>
  bif (x4.2.2==0) then
   bif ((x4.1.Out.length:Int)==2) then
    (getI x4.1.Out 1).bind fun x7=>
    bif ((x7.length:Int)==1) then
     (getI x7 0).bind fun x12=>
     some (([x12.Mass,x12.Heat,x12.Silica,x12.Gas]:List Int)==[5,7,0,0])
    else
     some false
   else
    some false
  else
   some false
def Ziu:AV:=.agg [(K .u8 (1)),nilS,(I (0)),(I (0)),(I (5)),(I (1)),nilS]
def Zdt:AV:=.agg [(I (0)),(I (0))]
def Q05:AV:=.dat 2 (([(⟨0,0⟩:Qeg)]:List Qeg).map Qc2)
def Zit:AV:=.agg [(K .u8 (6)),Q05,(I (0)),(I (0)),(I (5)),(I (1)),nilS]
def Zdp:AV:=.dat 7 (([(⟨1,[],0,0,5,1,[]⟩:Qad),(⟨6,[(⟨0,0⟩:Qeg)],0,0,5,1,[]⟩:Qad)]:List Qad).map Qah)
def Zds:AV:=.dat 1 (([]:List Int).map Qab)
def Zdr:AV:=.agg [(K .u8 (1)),(.dat 2 (([]:List Qeg).map Qc2)),(I (0)),(I (0)),(I (5)),(I (1)),Zds]
def Zdq:AV:=.agg [(K .u8 (6)),Q05,(I (0)),(I (0)),(I (5)),(I (1)),Zds]
def Ze8:AV:=.dat 1 (([0,0]:List Int).map Qab)
def Quf:AV:=.agg [(I (5)),(I (7)),(I (0)),(I (0))]
def Ze7:AV:=.dat 4 (([(⟨5,7,0,0⟩:Qaa)]:List Qaa).map Qac)
def Qyp (x4:(Qhn×Int×Int)):AV:=.dat 1 (x4.1.Out.map Qag)
def Qyo (x4:(Qhn×Int×Int)):List (Nat×Rec):=[(2,rp [((.tmp 22),(B ((x4.2.2==0))))] (B true)),(5,rp [((.tmp 23),(B true)),((.tmp 25),(Qyp x4))] (I ((x4.1.Out.length:Int))))]
def Qyn x4 (x7:List Qaa):=hcat (Qyo x4) [(8,rp [((.tmp 28),(B (((x4.1.Out.length:Int)==2))))] (B true)),(11,rp [((.tmp 29),(B true)),((.tmp 31),(Qyp x4)),ci 1] (.dptr (Qag x7) 0)),(13,rp [((.tmp 29),(B true)),((.tmp 33),(.dat 4 (x7.map Qac)))] (I ((x7.length:Int))))]
theorem Qgm (N:Nat) (r:Bool) (h:Qgw N=some r):Spec prog 19 [] [] (B r) []:=by
  refine sA func19 0 fun _ _ _ hq hd0=>?_
  unfold Qgw at h
  refine wxz ?_
  obtain⟨x2,hf1,h⟩:=bno h
  refine wx tbk [(0,rp _ _),(1,rp _ _),(2,rp _ _),(3,rp [(.tmp 7,Zdt)] Q05),(4,rp _ _),(5,rp [(.tmp 6,Ziu),(.tmp 9,Zit)] Zdp),(6,rp _ _)] ⟨apw Zgp (Qr9 2000  _ hf1),Qa8 (vs:=[(K .u8 (1)),I 5,I 1]) rfl Q6d Quj rfl (by rfl) rfl,Qa8 (vs:=[]) rfl Zff Qui rfl (by rfl) rfl,Qbp (vs:=[Zdt]) rfl underlying108 Qwg Qui rfl (by decide) rfl (by decide) (by rfl) (by rfl) (by rfl) rfl,Qa8 (vs:=[(K .u8 (6)),Q05,I 5,I 1]) rfl Q6d Quj rfl (by rfl) rfl,awk (rd':=[(.tmp 6,Zdr),(.tmp 9,Zdq)]) ⟨rfl,(Less.agg ⟨lrf,Less.nil,lrf,lrf,lrf,lrf,Less.nil,tv⟩),rfl,(Less.agg ⟨lrf,lrf,lrf,lrf,lrf,lrf,Less.nil,tv⟩),tv⟩ (Qbp (vs:=[Zdr,Zdq]) rfl underlying37 Qi0 Quj rfl (by decide) rfl (by decide) (by rfl) (by rfl) (by rfl) rfl),Qa8 (vs:=[(.dat 5 (x2.map Qam)),Zdp]) rfl ts39 tz39 rfl (by rfl) rfl,tv⟩ ?_
  obtain⟨x4,hf3,h⟩:=bno h
  refine wx tbk [(1,rp [ci 0,ci 0] Ze8),(2,rp _ _),(3,rp [(.tmp 15,Quf)] Ze7),(4,rp _ _)] ⟨Qbp (vs:=[I 0,I 0]) rfl underlying29 ti3 tz3 rfl (by decide) rfl (by decide) (by rfl) (by rfl) (by rfl) rfl,Qa8 (vs:=[I 5,I 7]) rfl ts49 tz49 rfl (by rfl) rfl,Qbp (vs:=[Quf]) rfl underlying51 ti49 tz49 rfl (by decide) rfl (by decide) (by rfl) (by rfl) (by rfl) rfl,apw Zgw (Qy3 N (⟨x2,[(⟨1,[],0,0,5,1,[]⟩:Qad),(⟨6,[(⟨0,0⟩:Qeg)],0,0,5,1,[]⟩:Qad)]⟩:GNet) ([0,0]) ([(⟨5,7,0,0⟩:Qaa)]) _ hf3),tv⟩ ?_
  refine bfe h (fun hb5 h=>?_) fun hb5 h=>?_
  ·refine hpre (A:=(Qyo x4)) ⟨asb hb5 (amv rfl),ag_ (alq 1 Qag x4.1.Out underlying42),tv⟩ fun q1_=>?_
   refine bfe h (fun hb6 h=>?_) fun hb6 h=>?_
   ·obtain⟨x7,hg8,h⟩:=bno h
    obtain⟨hi9,hj10⟩:=gsm hg8
    refine hpre (A:=(Qyn x4 x7)) (hap q1_ ⟨asb hb6 (amv rfl),ag_ (aiq underlying42 ti51 Qag hi9 hj10),ag_ (alq 4 Qac x7 underlying51),tv⟩) fun q2_=>?_
    refine bfe h (fun hb11 h=>?_) fun hb11 h=>?_
    ·obtain⟨x12,hg13,h⟩:=bno h
     obtain⟨hi14,hj15⟩:=gsm hg13
     refine wx tbk (hcat (Qyn x4 x7) [(16,rp [(.tmp 36,(B (((x7.length:Int)==1))))] (B true)),(19,rp [(.tmp 37,B true),(.tmp 39,(Qyp x4)),ci 1] (.dptr (Qag x7) 0)),(21,rp [(.tmp 37,B true),(.tmp 41,(.dat 4 (x7.map Qac))),ci 0] (.dptr (Qac x12) 0)),(23,rp [(.tmp 37,B true),ci 5,ci 7] Quf),(24,rp [(.tmp 37,B true),(.tmp 43,(.agg [I x12.Mass,I x12.Heat,I x12.Silica,I x12.Gas])),(.tmp 44,Quf)] (B ((([x12.Mass,x12.Heat,x12.Silica,x12.Gas]:List Int)==[5,7,0,0]))))]) (hap q2_ ⟨asb hb11 (amv rfl),ag_ (aiq underlying42 ti51 Qag hi9 hj10),ag_ (aiq underlying51 ti49 Qac hi14 hj15),ag_ (Qa8 (vs:=[I 5,I 7]) rfl ts49 tz49 rfl (by rfl) rfl),ag_ (Q84 (ls:=[x12.Mass,x12.Heat,x12.Silica,x12.Gas]) (ks:=[5,7,0,0]) rfl rfl Zlg (by kernel_rfl) rfl rfl),tv⟩)<|Qaf ?_
     obtain rfl:=osi h
     exact fend ⟨[(B ((([x12.Mass,x12.Heat,x12.Silica,x12.Gas]:List Int)==[5,7,0,0])))],⟨rot,tv⟩,rfl⟩ nll
    ·exact wx tbk (hcat (Qyn x4 x7) [(16,rp [(.tmp 36,(B (((x7.length:Int)==1))))] (B false))]) (hap q2_ ⟨asb hb11 (amv rfl),tv⟩)<|Qaf<|frb h
   ·exact wx tbk (hcat (Qyo x4) [(8,rp [(.tmp 28,(B (((x4.1.Out.length:Int)==2))))] (B false))]) (hap q1_ ⟨asb hb6 (amv rfl),tv⟩)<|Qaf<|frb h
  ·exact wx tbk [(2,rp [(.tmp 22,(B ((x4.2.2==0))))] (B false))] ⟨asb hb5 (amv rfl),tv⟩<|Qaf<|frb h
def Qhu (_N:Nat) (p0:List GRow) (p1 p2:Int):Option GNet:=
  some (⟨p0,[(⟨1,[],w64 ((p0.length:Int)-1),0,1000000,1,[]⟩:Qad),(⟨4,[(⟨0,0⟩:Qeg)],p1,0,1000000,1,[]⟩:Qad),(⟨3,[(⟨1,1⟩:Qeg)],0,p2,1000000,1,[]⟩:Qad)]⟩:GNet)
def Zis (p0:List GRow):AV:=.agg [(K .u8 (1)),nilS,(I (w64 ((p0.length:Int)-1))),(I (0)),(I (1000000)),(I (1)),nilS]
def Zdk:AV:=.agg [(I (0)),(I (0))]
def Q04:AV:=.dat 2 (([(⟨0,0⟩:Qeg)]:List Qeg).map Qc2)
def Zir (p1:Int):AV:=.agg [(K .u8 (4)),Q04,(I p1),(I (0)),(I (1000000)),(I (1)),nilS]
def Zdj:AV:=.agg [(I (1)),(I (1))]
def Q03:AV:=.dat 2 (([(⟨1,1⟩:Qeg)]:List Qeg).map Qc2)
def Ziq (p2:Int):AV:=.agg [(K .u8 (3)),Q03,(I (0)),(I p2),(I (1000000)),(I (1)),nilS]
def Que (p0:List GRow) (p1 p2:Int):AV:=.dat 7 (([(⟨1,[],w64 ((p0.length:Int)-1),0,1000000,1,[]⟩:Qad),(⟨4,[(⟨0,0⟩:Qeg)],p1,0,1000000,1,[]⟩:Qad),(⟨3,[(⟨1,1⟩:Qeg)],0,p2,1000000,1,[]⟩:Qad)]:List Qad).map Qah)
def Q5z:AV:=.dat 1 (([]:List Int).map Qab)
def Zdi (p0:List GRow):AV:=.agg [(K .u8 (1)),(.dat 2 (([]:List Qeg).map Qc2)),(I (w64 ((p0.length:Int)-1))),(I (0)),(I (1000000)),(I (1)),Q5z]
def Q51 (p1:Int):AV:=.agg [(K .u8 (4)),Q04,(I p1),(I (0)),(I (1000000)),(I (1)),Q5z]
def Q50 (p2:Int):AV:=.agg [(K .u8 (3)),Q03,(I (0)),(I p2),(I (1000000)),(I (1)),Q5z]
theorem Qjr (N:Nat) (p0:List GRow) (p1 p2:Int) (r:GNet) (h:Qhu N p0 p1 p2=some r):Spec prog 11 [(.dat 5 (p0.map Qam)),(I p1),(I p2)] [] (.agg (Qk3 r)) []:=by
  refine sA func11 0 fun _ _ _ hq hd0=>?_
  unfold Qhu at h
  refine wxz<|wx tbk [(2,rp _ _),(4,rp _ _),(5,rp _ _),(6,rp [(.tmp 12,Zdk)] Q04),(8,rp _ _),(9,rp _ _),(10,rp [(.tmp 16,Zdj)] Q03),(12,rp _ _),(13,rp [(.tmp 11,(Zis p0)),(.tmp 15,(Zir p1)),(.tmp 19,(Ziq p2))] (Que p0 p1 p2)),(14,rp _ _)] ⟨alq 5 Qam p0 underlying36,Qa8 (vs:=[(K .u8 (1)),(I (w64 ((p0.length:Int)-1))),I 1000000,I 1]) rfl Q6d Quj rfl (by rfl) rfl,Qa8 (vs:=[]) rfl Zff Qui rfl (by rfl) rfl,Qbp (vs:=[Zdk]) rfl underlying108 Qwg Qui rfl (by decide) rfl (by decide) (by rfl) (by rfl) (by rfl) rfl,Qa8 (vs:=[(K .u8 (4)),Q04,I p1,I 1000000,I 1]) rfl Q6d Quj rfl (by rfl) rfl,Qa8 (vs:=[I 1,I 1]) rfl Zff Qui rfl (by rfl) rfl,Qbp (vs:=[Zdj]) rfl underlying108 Qwg Qui rfl (by decide) rfl (by decide) (by rfl) (by rfl) (by rfl) rfl,Qa8 (vs:=[(K .u8 (3)),Q03,I 0,I p2,I 1000000,I 1]) rfl Q6d Quj rfl (by rfl) rfl,awk (rd':=[(.tmp 11,(Zdi p0)),(.tmp 15,(Q51 p1)),(.tmp 19,(Q50 p2))]) ⟨rfl,(Less.agg ⟨lrf,Less.nil,lrf,lrf,lrf,lrf,Less.nil,tv⟩),rfl,(Less.agg ⟨lrf,lrf,lrf,lrf,lrf,lrf,Less.nil,tv⟩),rfl,(Less.agg ⟨lrf,lrf,lrf,lrf,lrf,lrf,Less.nil,tv⟩),tv⟩ (Qbp (vs:=[(Zdi p0),(Q51 p1),(Q50 p2)]) rfl underlying37 Qi0 Quj rfl (by decide) rfl (by decide) (by rfl) (by rfl) (by rfl) rfl),Qa8 (vs:=[(.dat 5 (p0.map Qam)),(Que p0 p1 p2)]) rfl ts39 tz39 rfl (by rfl) rfl,tv⟩<|Qaf ?_
  obtain rfl:=osi h
  exact fie [(.agg [(.dat 5 (p0.map Qam)),(Que p0 p1 p2)])] ⟨Qb7 (n:=0) (m:=2) (j:=0) (i:=0) (xs:=[[(.dat 5 (p0.map Qam)),(Que p0 p1 p2)]]) (by kernel_rfl) (by kernel_rfl) ti39 (by decide) rfl (nle rfl) rfl,tv⟩
end
section
def Qem (N:Nat) (p0:GNet) (p2:List (List Qaa)) (k7:Unit→Option Int):Nat→Int→Option Int
  |0,_=>none
  |n10+1,y8=>
    bif (decide (y8<(p2.length:Int))) then
     (getI p2 y8).bind fun x12=>
     (Qhe N p0 x12).bind fun x17=>
     bif (x17 != 0) then
      some x17
     else
      Qem N p0 p2 k7 n10 (w64 (y8+1))
    else
     k7 ()
def Qim (N:Nat) (p0:GNet) (p1:List Int) (p2:List (List Qaa)):Option Int:=
  (Qhy N p0 p1).bind fun x2=>
  bif (x2 != 0) then
   some x2
  else
   (Qck N (p2.length:Int) 1 6).bind fun x5=>
   bif (!x5) then
    some 3
   else
    Qcf (fun _=>
      some 0) fun k7:Unit→Option Int=>
    Qem N p0 p2 k7 N 0
def Q01 (p2:List (List Qaa)):AV:=.dat 1 (p2.map Qag)
def Q02 (p0:GNet):Slot:=.own 2 [[(.dat 5 (p0.Table.map Qam)),(.dat 7 (p0.Elements.map Qah))]]
theorem Qnv (N:Nat) (p0:GNet) (p1:List Int) (p2:List (List Qaa)) (r:Int) (h:Qim N p0 p1 p2=some r):Spec prog 54 [(.agg (Qk3 p0)),(.dat 1 (p1.map Qab)),(.dat 1 (p2.map Qag))] [] (I r) []:=by
  refine sA func54 0 fun _ _ _ hq hd0=>?_
  unfold Qim at h
  refine wxz<|wsq ?_
  obtain⟨x2,hf1,h⟩:=bno h
  refine wx tbk [(2,rp _ _)] ⟨apw Q78 (Qmz N p0 p1 _ hf1),tv⟩<|wxz ?_
  refine bfe h (fun hc3 h=>?_) fun hc3 h=>?_
  ·refine wft hc3<|wxz<|Qaf<|Qal ?_
   obtain rfl:=osi h
   exact fend ⟨[I x2],⟨rot,tv⟩,rfl⟩ nll
  ·refine wfn hc3<|Qaq<|thn<|wsq ?_
   obtain⟨x5,hf4,h⟩:=bno h
   refine wx tbk [(1,rp _ _),(2,rp _ _)] ⟨alq 1 Qag p2 underlying42,apw Qke (Qdf N (p2.length:Int) 1 6 _ hf4),tv⟩ ?_
   refine bfe h (fun hc6 h=>?_) fun hc6 h=>?_
   ·refine wft hc6<|wxz<|Qaf<|Qal ?_
    obtain rfl:=osi h
    exact fend ⟨[I 3],⟨rot,tv⟩,rfl⟩ nll
   ·refine wfn hc6<|Qaq<|thn ?_
    obtain⟨k7,hk_k7,h⟩:=jko h
    refine wjn (τ:=Unit) (fun t=>k7 t=some r) (fun _=>⟨mk 34 [],[]⟩) (fun t h=>?_) ?_
    ·subst hk_k7
     refine wxz<|Qaf ?_
     obtain rfl:=osi h
     exact fend ⟨[I 0],⟨rot,tv⟩,rfl⟩ nll
    ·skip
     refine wx tbk [(1,rp _ _)] ⟨alq 1 Qag p2 underlying42,tv⟩<|Qar ?_
     refine wmr (mto (n:=34) (l':=[(3,.ref 0 2 0 0),(21,(Q01 p2)),(22,(I ((p2.length:Int)))),(23,I 0)]) (own':=[(Q02 p0)]) [(3,.ref 0 2 0 0),(21,(Q01 p2)),(22,(I ((p2.length:Int)))),(23,I 0)] [0] [(Q02 p0)] hq (prr (pc (rnd Qan) (pw (pw pn)))) (qb (lc (rnd Qap) (lc (rnd Qae) ln)) qn)) ?_
     refine Qcn (τ:=Int) (fun n t=>Qem N p0 p2 k7 n t=some r) (fun y8=>⟨mk 34 [(3,.ref 0 2 0 0),(21,(Q01 p2)),(22,(I ((p2.length:Int)))),(23,I y8)],[(Q02 p0)]⟩) (fun t h=>by rw[Qem] at h;cases h) (fun n10 ih y8 h=>?_) N (0) h
     rw[Qem] at h
     skip
     refine wxz<|wsq ?_
     refine bfe h (fun hc11 h=>?_) fun hc11 h=>?_
     ·refine wft hc11<|Qaq<|thn<|wsq<|Qar ?_
      obtain⟨x12,hg13,h⟩:=bno h
      obtain⟨hi14,hj15⟩:=gsm hg13
      refine wx tbk [(0,rp _ _)] ⟨aiq underlying42 ti51 Qag hi14 hj15,tv⟩ ?_
      obtain⟨x17,hf16,h⟩:=bno h
      refine wx tbk [(2,rp _ _)] ⟨apw Q77 (Qmf N p0 x12 _ hf16),tv⟩<|wxz ?_
      refine bfe h (fun hc18 h=>?_) fun hc18 h=>?_
      ·refine wft hc18<|wxz<|Qaf<|Qat<|Qal<|Qal<|Qat<|Qal ?_
       obtain rfl:=osi h
       exact fend ⟨[I x17],⟨rot,tv⟩,rfl⟩ nll
      ·exact wfn hc18<|Qaq<|bln<|thn<|wxz1<|thn<|arm (mto (n:=34) [(3,.ref 0 2 0 0),(21,(Q01 p2)),(22,(I ((p2.length:Int)))),(23,(I (w64 (y8+1))))] [0] [(Q02 p0)] hq (prr (pc (rnd Qan) (pw (pw pn)))) (qb (lc (rnd Qap) (lc (rnd Qae) ln)) qn)) (ih (w64 (y8+1)) h)
     ·exact wfn hc11<|Qbl<|Qaz<|Qaz<|Qbk rfl<|thn<|⟨(),h,(mto (n:=34) [] [] [] hq pn qn)⟩
def Qc5 (N:Nat) (p0:GNet) (p1:List Int) (k2:(List Qdp)→Option ((List Qdp)×Bool)) (p2:List (List Qaa)):Nat→(List Qdp)→Int→Option ((List Qdp)×Bool)
  |0,_,_=>none
  |n7+1,y3,y4=>
    bif (decide (y4<(p2.length:Int))) then
     (getI p2 y4).bind fun x9=>
     (Qe5 N p0 p1 x9).bind (
      Sum.elim (fun x15=>
        bif (decide (x15≥0)) then
         some ([],false)
        else
         none)
      (fun x17=>
        bif (decide (x17.1≥0)) then
         some ([],false)
        else
         chk (decide ((p0.Elements.length:Int).toNat≤x17.2.2.1.length))<|
         chk (decide ((p0.Elements.length:Int).toNat≤x17.2.2.2.1.length))<|
         chk (decide (p1.length≤x17.2.2.2.2.length))<|
         chk (decide ((y3.length+([(⟨p0,(⟨x17.2.2.1.take ((p0.Elements.length:Int).toNat),x17.2.2.2.1.take ((p0.Elements.length:Int).toNat),x17.2.2.2.2.take p1.length⟩:Qhn),x9,x17.2.1⟩:Qdp)]).length)*8≤140737488355328))<|
         Qc5 N p0 p1 k2 p2 n7 (y3++([(⟨p0,(⟨x17.2.2.1.take ((p0.Elements.length:Int).toNat),x17.2.2.2.1.take ((p0.Elements.length:Int).toNat),x17.2.2.2.2.take p1.length⟩:Qhn),x9,x17.2.1⟩:Qdp)])) (w64 (y4+1))))
    else
     k2 (y3)
def Qgx (N:Nat) (p0:GNet) (p1:List Int) (p2:List (List Qaa)):Option ((List Qdp)×Bool):=
  Qcf (fun y1=>
    some (y1,true)) fun k2:(List Qdp)→Option ((List Qdp)×Bool)=>
  Qc5 N p0 p1 k2 p2 N ([]) 0
def Qmd (p2:List (List Qaa)):AV:=.dat 1 (p2.map Qag)
def Qnt (p0:GNet):AV:=.dat 5 (p0.Table.map Qam)
def Qns (p0:GNet):AV:=.dat 7 (p0.Elements.map Qah)
def Qme (p0:GNet):Slot:=.own 2 [[(Qnt p0),(Qns p0)]]
def Qj3 (y3:List Qdp):AV:=.acc 1 115 1 (y3.map Qda)
def Qnr (p0:GNet):AV:=.agg [(Qnt p0),(Qns p0)]
def Qdj (x9:List Qaa):AV:=.dat 4 (x9.map Qac)
def Zip:Slot:=.own 1 [[(.lit (.pointer none))]]
def Q5v:AV:=.dat 1 (([]:List Qdp).map Qda)
def Qmo:Slot:=.own 1 [[(.ref 4 7 (0) 0)]]
def Q5y (p0:GNet) (p1:List Int) (x9:List Qaa) (x17:(Int×Int×(List (List Qaa))×(List Qa9)×(List Int))):Slot:=.own 7 [[(Qnt p0),(Qns p0),(.own 5 1 (0) ((p0.Elements.length:Int).toNat)),(.own 6 4 (0) ((p0.Elements.length:Int).toNat)),(.own 7 1 (0) p1.length),(Qdj x9),(I x17.2.1)]]
def Qpt (x17:(Int×Int×(List (List Qaa))×(List Qa9)×(List Int))):Slot:=.own 1 (x17.2.2.2.2.map Qab)
def Qn1 (x17:(Int×Int×(List (List Qaa))×(List Qa9)×(List Int))) (p0:GNet):AV:=.dat 1 ((x17.2.2.1.take ((p0.Elements.length:Int).toNat):List (List Qaa)).map Qag)
def Qrj (x17:(Int×Int×(List (List Qaa))×(List Qa9)×(List Int))) (p0:GNet):AV:=.dat 4 ((x17.2.2.2.1.take ((p0.Elements.length:Int).toNat):List Qa9).map Qav)
def Q5x (p0:GNet) (x17:(Int×Int×(List (List Qaa))×(List Qa9)×(List Int))) (p1:List Int) (x9:List Qaa):AV:=.dat 1 (([(⟨p0,(⟨x17.2.2.1.take ((p0.Elements.length:Int).toNat),x17.2.2.2.1.take ((p0.Elements.length:Int).toNat),x17.2.2.2.2.take p1.length⟩:Qhn),x9,x17.2.1⟩:Qdp)]:List Qdp).map Qda)
def Q5w (y3:List Qdp) (p0:GNet) (x17:(Int×Int×(List (List Qaa))×(List Qa9)×(List Int))) (p1:List Int) (x9:List Qaa):AV:=.acc 8 115 1 ((y3++([(⟨p0,(⟨x17.2.2.1.take ((p0.Elements.length:Int).toNat),x17.2.2.2.1.take ((p0.Elements.length:Int).toNat),x17.2.2.2.2.take p1.length⟩:Qhn),x9,x17.2.1⟩:Qdp)]):List Qdp).map Qda)
theorem Qlm (N:Nat) (p0:GNet) (p1:List Int) (p2:List (List Qaa)) (r:((List Qdp)×Bool)) (h:Qgx N p0 p1 p2=some r):Spec prog 55 [(.agg (Qk3 p0)),(.dat 1 (p1.map Qab)),(.dat 1 (p2.map Qag))] [] (.tup [(.dat 1 (r.1.map Qda)),(B r.2)]) []:=by
  refine sA func55 0 fun _ _ _ hq hd0=>?_
  unfold Qgx at h
  refine wxz<|wxz ?_
  obtain⟨k2,hk_k2,h⟩:=jko h
  refine wjn (τ:=(List Qdp)) (fun t=>k2 t=some r) (fun y1=>⟨mk 34 [(8,(.acc 0 115 1 (y1.map Qda)))],[.tok]⟩) (fun y1 h=>?_) ?_
  ·subst hk_k2
   refine wxz<|Qaf ?_
   obtain rfl:=osi h
   exact fie [(.dat 1 (y1.map Qda)),B true] ⟨Qcs (v:=(.acc 0 115 1 (y1.map Qda))) rot Less.acc,rot,tv⟩
  ·skip
   refine wx tbk [(1,rp _ _)] ⟨alq 1 Qag p2 underlying42,tv⟩<|Qar ?_
   refine wmr (Mor.trans (Qp8 1 115 1 8 (by kernel_rfl) (by kernel_rfl)) (mto (n:=34) (l':=[(1,(.dat 1 (p1.map Qab))),(3,.ref 0 2 0 0),(8,(.acc 1 115 1 ((([]):List Qdp).map Qda))),(13,(Qmd p2)),(14,(I ((p2.length:Int)))),(15,I 0)]) (own':=[(Qme p0),.tok]) [(1,(.dat 1 (p1.map Qab))),(3,.ref 0 2 0 0),(8,(.acc 1 115 1 (([]:List Qdp).map Qda))),(13,(Qmd p2)),(14,(I ((p2.length:Int)))),(15,I 0)] [0,1] [(Qme p0),.tok] hq (pc (rnd Qaj) (prr (pc (.rn (Qe4 rfl (Qdy Qgu _))) (pc (rnd Qan) (pw (pw pn)))))) (qb (lc (rnd Qap) (lc (rnd Qae) ln)) (qc .tok qn)))) ?_
   refine Qcn (τ:=(List Qdp)×Int) (fun n t=>Qc5 N p0 p1 k2 p2 n t.1 t.2=some r) (fun ⟨y3,y4⟩=>⟨mk 34 [(1,(.dat 1 (p1.map Qab))),(3,.ref 0 2 0 0),(8,(Qj3 y3)),(13,(Qmd p2)),(14,(I ((p2.length:Int)))),(15,I y4)],[(Qme p0),.tok]⟩) (fun t h=>by rw[Qc5] at h;cases h) (fun n7 ih t h=>?_) N ([],0) h
   obtain⟨y3,y4⟩:=t
   rw[Qc5] at h
   skip
   refine wxz<|wsq ?_
   refine bfe h (fun hc8 h=>?_) fun hc8 h=>?_
   ·refine wft hc8<|Qaq<|thn<|wsq<|Qar ?_
    obtain⟨x9,hg10,h⟩:=bno h
    obtain⟨hi11,hj12⟩:=gsm hg10
    refine wx tbk [(0,rp _ _)] ⟨aiq underlying42 ti51 Qag hi11 hj12,tv⟩ ?_
    obtain⟨x14,hf13,h⟩:=bno h
    rcases x14 with x15 |x17
    ·replace h:=Zfj h
     refine wx tbk [(3,⟨_,_,_,_,false⟩)] ⟨acq [(Qnr p0),(.dat 1 (p1.map Qab)),(Qdj x9)] [] [Zip,(.own 1 [[I x15]])] (.tup [(.lit (.pointer none)),I x15]) [2,3] Qvd (Qk1 N p0 p1 x9 _ hf13) (Qbi (rnc (.plain _ (NLt.agg _ (nlc (nld Qap _) (nlc (nld Qae _) nl0)))) (rnc (pld Qaj) (rnc (pld Qak) rn0)))) Qao (slc (Qai (rnc (.plain _ nll) rn0)) (slc (Qai (rnc (.plain _ nll) rn0)) Qao)) (.plain _ (NLt.tup _ (nlcc nl0))),tv⟩<|wsq<|wxz ?_
     refine bfe h (fun hc16 h=>?_) fun hc16 h=>?_
     ·refine wft hc16<|wxz<|Qaf<|Qal<|Qat<|Qal<|Qal<|Qat<|Qal ?_
      obtain rfl:=osi h
      exact fie [Q5v,B false] ⟨Qcs (v:=nilS) rot Less.nil,rot,tv⟩
     ·refine wfn hc16<|Qaq<|thn ?_
      cases h
    ·replace h:=Zfi h
     refine wx tbk [(3,⟨_,_,_,_,false⟩)] ⟨acq [(Qnr p0),(.dat 1 (p1.map Qab)),(Qdj x9)] [] [Qmo,(.own 1 [[I x17.1]]),(Q5y p0 p1 x9 x17),(.own 1 (x17.2.2.1.map Qag)),(.own 4 (x17.2.2.2.1.map Qav)),(Qpt x17)] (.tup [.ref 4 7 0 0,I x17.1]) [2,3,4,5,6,7] Qvd (Qk0 N p0 p1 x9 _ hf13) (Qbi (rnc (.plain _ (NLt.agg _ (nlc (nld Qap _) (nlc (nld Qae _) nl0)))) (rnc (pld Qaj) (rnc (pld Qak) rn0)))) Qao (slc (Qai (rnc (Qa3 rfl) rn0)) (slc (Qai (rnc (.plain _ nll) rn0)) (slc (Qai (rnc (pld Qap) (rnc (pld Qae) (rnc (Qcr rfl) (rnc (Qcr rfl) (rnc (Qcr rfl) (rnc (pld Qak) (rnc (.plain _ nll) rn0)))))))) (slc (Qa2 Qan) (slc (Qa2 Qbb) (slc (Qa2 Qaj) Qao)))))) (Zdy (rnc (Qa3 rfl) (rnc (.plain _ nll) rn0))),tv⟩<|wsq<|wxz ?_
     refine bfe h (fun hc18 h=>?_) fun hc18 h=>?_
     ·refine wft hc18<|wxz<|Qaf<|Qal<|Qat<|Qal<|Qal<|Qat<|Qal ?_
      obtain rfl:=osi h
      exact fie [Q5v,B false] ⟨Qcs (v:=nilS) rot Less.nil,rot,tv⟩
     ·refine wfn hc18<|Qaq<|thn ?_
      obtain⟨hz19,h⟩:=cko h
      refine wmr (Qu1 [(Qme p0),.tok,Qmo,(.own 1 [[I x17.1]]),(Q5y p0 p1 x9 x17),(.own 1 (x17.2.2.1.map Qag)),(.own 4 (x17.2.2.2.1.map Qav)),(Qpt x17)] (Qu2 (n:=34) (m:=1) (xs:=x17.2.2.1.map Qag) (l':=[(1,(.dat 1 (p1.map Qab))),(3,.ref 0 2 0 0),(8,(Qj3 y3)),(10,(Qdj x9)),(11,.ref 4 7 0 0),(12,I x17.1),(13,(Qmd p2)),(14,(I ((p2.length:Int)))),(15,I y4),(16,(B ((decide (y4<(p2.length:Int)))))),(17,(.dptr (Qag x9) 0)),(18,(Qdj x9)),(19,(.tup [.ref 4 7 0 0,I x17.1])),(20,(Qnr p0)),(21,(.dat 1 (p1.map Qab))),(22,(Qdj x9)),(23,(.tup [.ref 4 7 0 0,I x17.1])),(24,.ref 4 7 0 0),(25,I x17.1),(26,I x17.1),(27,(B ((decide (x17.1≥0)))))]) (own':=[(Qme p0),.tok,Qmo,(.own 1 [[I x17.1]]),(.own 7 [[(Qnt p0),(Qns p0),(Qn1 x17 p0),(.own 6 4 (0) ((p0.Elements.length:Int).toNat)),(.own 7 1 (0) p1.length),(Qdj x9),I x17.2.1]]),.dead,(.own 4 (x17.2.2.2.1.map Qav)),(Qpt x17)]) 5 [(1,(.dat 1 (p1.map Qab))),(3,.ref 0 2 0 0),(8,(Qj3 y3)),(10,(Qdj x9)),(11,.ref 4 7 0 0),(12,I x17.1),(13,(Qmd p2)),(14,(I ((p2.length:Int)))),(15,I y4),(16,(B ((decide (y4<(p2.length:Int)))))),(17,(.dptr (Qag x9) 0)),(18,(Qdj x9)),(19,(.tup [.ref 4 7 0 0,I x17.1])),(20,(Qnr p0)),(21,(.dat 1 (p1.map Qab))),(22,(Qdj x9)),(23,(.tup [.ref 4 7 0 0,I x17.1])),(24,.ref 4 7 0 0),(25,I x17.1),(26,I x17.1),(27,(B ((decide (x17.1≥0)))))] (by kernel_rfl) (by kernel_rfl) (by kernel_rfl) ⟨rfl,(.same _),rfl,(.same _),rfl,(.same _),rfl,(.same _),rfl,(.same _),rfl,(.same _),rfl,(.same _),rfl,(.same _),rfl,(.same _),rfl,(.same _),rfl,(.same _),rfl,(.same _),rfl,(.same _),rfl,(.same _),rfl,(.same _),rfl,(.same _),rfl,(.same _),rfl,(.same _),rfl,(.same _),rfl,(.same _),rfl,(.same _),tv⟩ (qc Qc7 (qc Qc7 (qc Qc7 (qc Qc7 (qc (Qq3 (lc (.same _) (lc (.same _) (lc (Ql4 hz19) (lc (.same _) (lc (.same _) (lc (.same _) (lc (.same _) ln)))))))) (qc .dead (qc Qc7 (qc Qc7 qn)))))))))) ?_
      obtain⟨hz20,h⟩:=cko h
      refine wmr (Qu1 [(Qme p0),.tok,Qmo,(.own 1 [[I x17.1]]),(.own 7 [[(Qnt p0),(Qns p0),(Qn1 x17 p0),(.own 6 4 (0) ((p0.Elements.length:Int).toNat)),(.own 7 1 (0) p1.length),(Qdj x9),I x17.2.1]]),.dead,(.own 4 (x17.2.2.2.1.map Qav)),(Qpt x17)] (Qu2 (n:=34) (m:=4) (xs:=x17.2.2.2.1.map Qav) (l':=[(1,(.dat 1 (p1.map Qab))),(3,.ref 0 2 0 0),(8,(Qj3 y3)),(10,(Qdj x9)),(11,.ref 4 7 0 0),(12,I x17.1),(13,(Qmd p2)),(14,(I ((p2.length:Int)))),(15,I y4),(16,(B ((decide (y4<(p2.length:Int)))))),(17,(.dptr (Qag x9) 0)),(18,(Qdj x9)),(19,(.tup [.ref 4 7 0 0,I x17.1])),(20,(Qnr p0)),(21,(.dat 1 (p1.map Qab))),(22,(Qdj x9)),(23,(.tup [.ref 4 7 0 0,I x17.1])),(24,.ref 4 7 0 0),(25,I x17.1),(26,I x17.1),(27,(B ((decide (x17.1≥0)))))]) (own':=[(Qme p0),.tok,Qmo,(.own 1 [[I x17.1]]),(.own 7 [[(Qnt p0),(Qns p0),(Qn1 x17 p0),(Qrj x17 p0),(.own 7 1 (0) p1.length),(Qdj x9),I x17.2.1]]),.dead,.dead,(Qpt x17)]) 6 [(1,(.dat 1 (p1.map Qab))),(3,.ref 0 2 0 0),(8,(Qj3 y3)),(10,(Qdj x9)),(11,.ref 4 7 0 0),(12,I x17.1),(13,(Qmd p2)),(14,(I ((p2.length:Int)))),(15,I y4),(16,(B ((decide (y4<(p2.length:Int)))))),(17,(.dptr (Qag x9) 0)),(18,(Qdj x9)),(19,(.tup [.ref 4 7 0 0,I x17.1])),(20,(Qnr p0)),(21,(.dat 1 (p1.map Qab))),(22,(Qdj x9)),(23,(.tup [.ref 4 7 0 0,I x17.1])),(24,.ref 4 7 0 0),(25,I x17.1),(26,I x17.1),(27,(B ((decide (x17.1≥0)))))] (by kernel_rfl) (by kernel_rfl) (by kernel_rfl) ⟨rfl,(.same _),rfl,(.same _),rfl,(.same _),rfl,(.same _),rfl,(.same _),rfl,(.same _),rfl,(.same _),rfl,(.same _),rfl,(.same _),rfl,(.same _),rfl,(.same _),rfl,(.same _),rfl,(.same _),rfl,(.same _),rfl,(.same _),rfl,(.same _),rfl,(.same _),rfl,(.same _),rfl,(.same _),rfl,(.same _),rfl,(.same _),tv⟩ (qc Qc7 (qc Qc7 (qc Qc7 (qc Qc7 (qc (Qq3 (lc (.same _) (lc (.same _) (lc (.same _) (lc (Ql4 hz20) (lc (.same _) (lc (.same _) (lc (.same _) ln)))))))) (qc Qc7 (qc .dead (qc Qc7 qn)))))))))) ?_
      obtain⟨hz21,h⟩:=cko h
      refine wmr (Qu1 [(Qme p0),.tok,Qmo,(.own 1 [[I x17.1]]),(.own 7 [[(Qnt p0),(Qns p0),(Qn1 x17 p0),(Qrj x17 p0),(.own 7 1 (0) p1.length),(Qdj x9),I x17.2.1]]),.dead,.dead,(Qpt x17)] (Qu2 (n:=34) (m:=1) (xs:=x17.2.2.2.2.map Qab) (l':=[(1,(.dat 1 (p1.map Qab))),(3,.ref 0 2 0 0),(8,(Qj3 y3)),(10,(Qdj x9)),(11,.ref 4 7 0 0),(12,I x17.1),(13,(Qmd p2)),(14,(I ((p2.length:Int)))),(15,I y4),(16,(B ((decide (y4<(p2.length:Int)))))),(17,(.dptr (Qag x9) 0)),(18,(Qdj x9)),(19,(.tup [.ref 4 7 0 0,I x17.1])),(20,(Qnr p0)),(21,(.dat 1 (p1.map Qab))),(22,(Qdj x9)),(23,(.tup [.ref 4 7 0 0,I x17.1])),(24,.ref 4 7 0 0),(25,I x17.1),(26,I x17.1),(27,(B ((decide (x17.1≥0)))))]) (own':=[(Qme p0),.tok,Qmo,(.own 1 [[I x17.1]]),(.own 7 [[(Qnt p0),(Qns p0),(Qn1 x17 p0),(Qrj x17 p0),(.dat 1 ((x17.2.2.2.2.take p1.length:List Int).map Qab)),(Qdj x9),I x17.2.1]]),.dead,.dead,.dead]) 7 [(1,(.dat 1 (p1.map Qab))),(3,.ref 0 2 0 0),(8,(Qj3 y3)),(10,(Qdj x9)),(11,.ref 4 7 0 0),(12,I x17.1),(13,(Qmd p2)),(14,(I ((p2.length:Int)))),(15,I y4),(16,(B ((decide (y4<(p2.length:Int)))))),(17,(.dptr (Qag x9) 0)),(18,(Qdj x9)),(19,(.tup [.ref 4 7 0 0,I x17.1])),(20,(Qnr p0)),(21,(.dat 1 (p1.map Qab))),(22,(Qdj x9)),(23,(.tup [.ref 4 7 0 0,I x17.1])),(24,.ref 4 7 0 0),(25,I x17.1),(26,I x17.1),(27,(B ((decide (x17.1≥0)))))] (by kernel_rfl) (by kernel_rfl) (by kernel_rfl) ⟨rfl,(.same _),rfl,(.same _),rfl,(.same _),rfl,(.same _),rfl,(.same _),rfl,(.same _),rfl,(.same _),rfl,(.same _),rfl,(.same _),rfl,(.same _),rfl,(.same _),rfl,(.same _),rfl,(.same _),rfl,(.same _),rfl,(.same _),rfl,(.same _),rfl,(.same _),rfl,(.same _),rfl,(.same _),rfl,(.same _),rfl,(.same _),tv⟩ (qc Qc7 (qc Qc7 (qc Qc7 (qc Qc7 (qc (Qq3 (lc (.same _) (lc (.same _) (lc (.same _) (lc (.same _) (lc (Ql4 hz21) (lc (.same _) (lc (.same _) ln)))))))) (qc Qc7 (qc Qc7 (qc .dead qn)))))))))) ?_
      refine wmr (Qu1 [(Qme p0),.tok,Qmo,(.own 1 [[I x17.1]]),(.own 7 [[(Qnt p0),(Qns p0),(Qn1 x17 p0),(Qrj x17 p0),(.dat 1 ((x17.2.2.2.2.take p1.length:List Int).map Qab)),(Qdj x9),I x17.2.1]]),.dead,.dead,.dead] (Qu2 (n:=34) (m:=7) (xs:=[[(Qnt p0),(Qns p0),(Qn1 x17 p0),(Qrj x17 p0),(.dat 1 ((x17.2.2.2.2.take p1.length:List Int).map Qab)),(Qdj x9),I x17.2.1]]) (l':=[(1,(.dat 1 (p1.map Qab))),(3,.ref 0 2 0 0),(8,(Qj3 y3)),(10,(Qdj x9)),(11,(.dptr (Qio (⟨p0,(⟨x17.2.2.1.take ((p0.Elements.length:Int).toNat),x17.2.2.2.1.take ((p0.Elements.length:Int).toNat),x17.2.2.2.2.take p1.length⟩:Qhn),x9,x17.2.1⟩:Qdp)) 0)),(12,I x17.1),(13,(Qmd p2)),(14,(I ((p2.length:Int)))),(15,I y4),(16,(B ((decide (y4<(p2.length:Int)))))),(17,(.dptr (Qag x9) 0)),(18,(Qdj x9)),(19,.any),(20,(Qnr p0)),(21,(.dat 1 (p1.map Qab))),(22,(Qdj x9)),(23,.any),(24,(.dptr (Qio (⟨p0,(⟨x17.2.2.1.take ((p0.Elements.length:Int).toNat),x17.2.2.2.1.take ((p0.Elements.length:Int).toNat),x17.2.2.2.2.take p1.length⟩:Qhn),x9,x17.2.1⟩:Qdp)) 0)),(25,I x17.1),(26,I x17.1),(27,(B ((decide (x17.1≥0)))))]) (own':=[(Qme p0),.tok,(.own 1 [[(.dptr (Qio (⟨p0,(⟨x17.2.2.1.take ((p0.Elements.length:Int).toNat),x17.2.2.2.1.take ((p0.Elements.length:Int).toNat),x17.2.2.2.2.take p1.length⟩:Qhn),x9,x17.2.1⟩:Qdp)) 0)]]),(.own 1 [[I x17.1]]),.dead,.dead,.dead,.dead]) 4 [(1,(.dat 1 (p1.map Qab))),(3,.ref 0 2 0 0),(8,(Qj3 y3)),(10,(Qdj x9)),(11,.ref 4 7 0 0),(12,I x17.1),(13,(Qmd p2)),(14,(I ((p2.length:Int)))),(15,I y4),(16,(B ((decide (y4<(p2.length:Int)))))),(17,(.dptr (Qag x9) 0)),(18,(Qdj x9)),(19,(.tup [.ref 4 7 0 0,I x17.1])),(20,(Qnr p0)),(21,(.dat 1 (p1.map Qab))),(22,(Qdj x9)),(23,(.tup [.ref 4 7 0 0,I x17.1])),(24,.ref 4 7 0 0),(25,I x17.1),(26,I x17.1),(27,(B ((decide (x17.1≥0)))))] (by kernel_rfl) (by kernel_rfl) (by kernel_rfl) ⟨rfl,(.same _),rfl,(.same _),rfl,(.same _),rfl,(.same _),rfl,(.ptr _ _ rfl),rfl,(.same _),rfl,(.same _),rfl,(.same _),rfl,(.same _),rfl,(.same _),rfl,(.same _),rfl,(.same _),rfl,(.any _),rfl,(.same _),rfl,(.same _),rfl,(.same _),rfl,(.any _),rfl,(.ptr _ _ rfl),rfl,(.same _),rfl,(.same _),rfl,(.same _),tv⟩ (qc Qc7 (qc Qc7 (qc (Qq3 (lc (.ptr _ _ rfl) ln)) (qc Qc7 (qc .dead (qc Qc7 (qc Qc7 (qc Qc7 qn)))))))))) ?_
      obtain⟨ha22,h⟩:=cko h
      refine wx1 tbk [(2,rp [(.tmp 29,(.dptr (Qio (⟨p0,(⟨x17.2.2.1.take ((p0.Elements.length:Int).toNat),x17.2.2.2.1.take ((p0.Elements.length:Int).toNat),x17.2.2.2.2.take p1.length⟩:Qhn),x9,x17.2.1⟩:Qdp)) 0))] (Q5x p0 x17 p1 x9)),(3,⟨[(.tmp 28,(Qj3 y3)),(.tmp 30,(Q5x p0 x17 p1 x9))],[(1,.tok),(8,.unused)],(Q5w y3 p0 x17 p1 x9),[(1,.dead),(8,.tok)],false⟩)] ⟨Qbp (vs:=[(.dptr (Qio (⟨p0,(⟨x17.2.2.1.take ((p0.Elements.length:Int).toNat),x17.2.2.2.1.take ((p0.Elements.length:Int).toNat),x17.2.2.2.2.take p1.length⟩:Qhn),x9,x17.2.1⟩:Qdp)) 0)]) rfl underlying137 Qnj Zi3 rfl (by decide) rfl (by decide) (by rfl) (by rfl) (by rfl) rfl,Qf4 rfl underlying137 Zk8 (Base.acc _ _) rfl rfl (by rfl) (Qis Qda ha22) (Qir Qda ha22 (by decide)) (Qiq Qda) rfl rfl,tv⟩<|bln<|thn<|wxz1<|thn ?_
      exact arm (mto (n:=34) [(1,(.dat 1 (p1.map Qab))),(3,.ref 0 2 0 0),(8,(Q5w y3 p0 x17 p1 x9)),(13,(Qmd p2)),(14,(I ((p2.length:Int)))),(15,(I (w64 (y4+1))))] [0,8] [(Qme p0),.tok] hq (pc (rnd Qaj) (prr (pc (.rn (Qe4 rfl (Qdy Qgu _))) (pc (rnd Qan) (pw (pw pn)))))) (qb (lc (rnd Qap) (lc (rnd Qae) ln)) (qc .tok qn))) (ih (y3++([(⟨p0,(⟨x17.2.2.1.take ((p0.Elements.length:Int).toNat),x17.2.2.2.1.take ((p0.Elements.length:Int).toNat),x17.2.2.2.2.take p1.length⟩:Qhn),x9,x17.2.1⟩:Qdp)]),w64 (y4+1)) h)
   ·exact wfn hc8<|Qbl<|Qaz<|Qaz<|Qbk rfl<|thn<|⟨(y3),h,(mto (n:=34) [(8,(Qj3 y3))] [1] [.tok] hq (pc (.rn (Qe4 rfl (Qdy Qgu _))) pn) (qc .tok qn))⟩
def Qea (N:Nat) (y2:Int) (k6:Unit→Option (Int×Int)) (x7:Qdp):Nat→Int→Option (Int×Int)
  |0,_=>none
  |n13+1,y11=>
    bif (decide (y11<(x7.Tick.Lost.length:Int))) then
     (getI x7.Tick.Lost y11).bind fun x15=>
     bif (decide (x15.Scale>0)) then
      some (y2,y11)
     else
      Qea N y2 k6 x7 n13 (w64 (y11+1))
    else
     k6 ()
def Qeb (N:Nat) (p0:List Qdp) (k1:Unit→Option (Int×Int)):Nat→Int→Option (Int×Int)
  |0,_=>none
  |n4+1,y2=>
    bif (decide (y2<(p0.length:Int))) then
     Qcf (fun _=>
       Qeb N p0 k1 n4 (w64 (y2+1))) fun k6:Unit→Option (Int×Int)=>
     (getI p0 y2).bind fun x7=>
     Qea N y2 k6 x7 N 0
    else
     k1 ()
def Qhx (N:Nat) (p0:List Qdp):Option (Int×Int):=
  Qcf (fun _=>
    some ((-1),(-1))) fun k1:Unit→Option (Int×Int)=>
  Qeb N p0 k1 N 0
def Qnq (p0:List Qdp):AV:=.dat 1 (p0.map Qda)
def Qud (x7:Qdp):AV:=.dat 4 (x7.Tick.Lost.map Qav)
theorem Qmy (N:Nat) (p0:List Qdp) (r:(Int×Int)) (h:Qhx N p0=some r):Spec prog 56 [(.dat 1 (p0.map Qda))] [] (.tup [(I r.1),(I r.2)]) []:=by
  refine sA func56 0 fun _ _ _ hq hd0=>?_
  unfold Qhx at h
  refine wxz ?_
  obtain⟨k1,hk_k1,h⟩:=jko h
  refine wjn (τ:=Unit) (fun t=>k1 t=some r) (fun _=>⟨mk 33 [],[]⟩) (fun t h=>?_) ?_
  ·subst hk_k1
   refine wxz<|Qaf ?_
   obtain rfl:=osi h
   exact fie [(I ((-1))),(I ((-1)))] ⟨rot,rot,tv⟩
  ·skip
   refine wx tbk [(1,rp _ _)] ⟨alq 1 Qda p0 underlying137,tv⟩<|Qar ?_
   refine wmr (mto (n:=33) (l':=[(8,(Qnq p0)),(9,(I ((p0.length:Int)))),(10,I 0)]) (own':=[]) [(8,(Qnq p0)),(9,(I ((p0.length:Int)))),(10,I 0)] [] [] hq (pc (rnd Qgu) (pw (pw pn))) qn) ?_
   refine Qcn (τ:=Int) (fun n t=>Qeb N p0 k1 n t=some r) (fun y2=>⟨mk 33 [(8,(Qnq p0)),(9,(I ((p0.length:Int)))),(10,I y2)],[]⟩) (fun t h=>by rw[Qeb] at h;cases h) (fun n4 ih y2 h=>?_) N (0) h
   rw[Qeb] at h
   skip
   refine wxz<|wsq ?_
   refine bfe h (fun hc5 h=>?_) fun hc5 h=>?_
   ·refine wft hc5<|Qaq<|thn ?_
    obtain⟨k6,hk_k6,h⟩:=jko h
    refine wjn (τ:=Unit) (fun t=>k6 t=some r) (fun _=>⟨mk 33 [(8,(Qnq p0)),(9,(I ((p0.length:Int)))),(10,I y2)],[]⟩) (fun t h=>?_) ?_
    ·subst hk_k6
     exact wxz1<|thn<|arm (mto (n:=33) [(8,(Qnq p0)),(9,(I ((p0.length:Int)))),(10,(I (w64 (y2+1))))] [] [] hq (pc (rnd Qgu) (pw (pw pn))) qn) (ih (w64 (y2+1)) h)
    ·skip
     refine Qar ?_
     obtain⟨x7,hg8,h⟩:=bno h
     obtain⟨hi9,hj10⟩:=gsm hg8
     refine wx tbk [(1,rp _ _)] ⟨aiq underlying137 Qnj Qda hi9 hj10,tv⟩ ?_
     refine wx tbk [(5,rp _ _)] ⟨alq 4 Qav x7.Tick.Lost underlying43,tv⟩<|Qar ?_
     refine wmr (mto (n:=33) (l':=[(4,I y2),(8,(Qnq p0)),(9,(I ((p0.length:Int)))),(10,I y2),(19,(Qud x7)),(20,(I ((x7.Tick.Lost.length:Int)))),(21,I 0)]) (own':=[]) [(4,I y2),(8,(Qnq p0)),(9,(I ((p0.length:Int)))),(10,I y2),(19,(Qud x7)),(20,(I ((x7.Tick.Lost.length:Int)))),(21,I 0)] [] [] hq (pw (pc (rnd Qgu) (pw (pw (pc (rnd Qbb) (pw (pw pn))))))) qn) ?_
     refine Qcn (τ:=Int) (fun n t=>Qea N y2 k6 x7 n t=some r) (fun y11=>⟨mk 33 [(4,I y2),(8,(Qnq p0)),(9,(I ((p0.length:Int)))),(10,I y2),(19,(Qud x7)),(20,(I ((x7.Tick.Lost.length:Int)))),(21,I y11)],[]⟩) (fun t h=>by rw[Qea] at h;cases h) (fun n13 ih y11 h=>?_) N (0) h
     rw[Qea] at h
     skip
     refine wxz<|wsq ?_
     refine bfe h (fun hc14 h=>?_) fun hc14 h=>?_
     ·refine wft hc14<|Qaq<|thn<|wsq<|Qar ?_
      obtain⟨x15,hg16,h⟩:=bno h
      obtain⟨hi17,hj18⟩:=gsm hg16
      refine wx tbk [(1,rp _ _)] ⟨aiq underlying43 ti64 Qav hi17 hj18,tv⟩<|wxz ?_
      refine bfe h (fun hc19 h=>?_) fun hc19 h=>?_
      ·refine wft hc19<|wxz<|Qaf<|Qat<|Qal<|Qal<|Qat<|Qat<|Qal<|Qal ?_
       refine Qat<|Qal ?_
       obtain rfl:=osi h
       exact fie [I y2,I y11] ⟨rot,rot,tv⟩
      ·exact wfn hc19<|Qaq<|bln<|thn<|wxz1<|thn<|arm (mto (n:=33) [(4,I y2),(8,(Qnq p0)),(9,(I ((p0.length:Int)))),(10,I y2),(19,(Qud x7)),(20,(I ((x7.Tick.Lost.length:Int)))),(21,(I (w64 (y11+1))))] [] [] hq (pw (pc (rnd Qgu) (pw (pw (pc (rnd Qbb) (pw (pw pn))))))) qn) (ih (w64 (y11+1)) h)
     ·exact wfn hc14<|Qbl<|Qaz<|Qaz<|Qbk rfl<|bln<|thn<|⟨(),h,(mto (n:=33) [(8,(Qnq p0)),(9,(I ((p0.length:Int)))),(10,I y2)] [] [] hq (pc (rnd Qgu) (pw (pw pn))) qn)⟩
   ·exact wfn hc5<|Qbl<|Qaz<|Qaz<|Qbk rfl<|thn<|⟨(),h,(mto (n:=33) [] [] [] hq pn qn)⟩
def Qgl (N:Nat) (p0:GNet) (p1:List Int) (p2:List (List Qaa)):Option (Int×Int×Int):=
  (Qim N p0 p1 p2).bind fun x2=>
  bif (x2 != 0) then
   some (0,0,x2)
  else
   (Qgx N p0 p1 p2).bind fun x5=>
   bif (!x5.2) then
    some (0,0,11)
   else
    (Qhx N x5.1).bind fun x8=>
    some (x8.1,x8.2,0)
theorem Qkb (N:Nat) (p0:GNet) (p1:List Int) (p2:List (List Qaa)) (r:(Int×Int×Int)) (h:Qgl N p0 p1 p2=some r):Spec prog 22 [(.agg (Qk3 p0)),(.dat 1 (p1.map Qab)),(.dat 1 (p2.map Qag))] [] (.tup [(I r.1),(I r.2.1),(I r.2.2)]) []:=by
  refine sA func22 0 fun _ _ _ hq hd0=>?_
  unfold Qgl at h
  refine wxz<|wsq ?_
  obtain⟨x2,hf1,h⟩:=bno h
  refine wx tbk [(3,rp _ _)] ⟨apw Q8d (Qnv N p0 p1 p2 _ hf1),tv⟩<|wxz ?_
  refine bfe h (fun hc3 h=>?_) fun hc3 h=>?_
  ·refine wft hc3<|wxz<|Qaf<|Qal ?_
   obtain rfl:=osi h
   exact fie [I 0,I 0,I x2] ⟨rot,rot,rot,tv⟩
  ·refine wfn hc3<|Qaq<|thn ?_
   obtain⟨x5,hf4,h⟩:=bno h
   refine wx tbk [(3,rp _ _)] ⟨apw Q8c (Qlm N p0 p1 p2 _ hf4),tv⟩<|wsq<|wxz ?_
   refine bfe h (fun hc6 h=>?_) fun hc6 h=>?_
   ·refine wft hc6<|wxz<|Qaf<|Qal ?_
    obtain rfl:=osi h
    exact fie [I 0,I 0,I 11] ⟨rot,rot,rot,tv⟩
   ·refine wfn hc6<|Qaq<|thn ?_
    obtain⟨x8,hf7,h⟩:=bno h
    refine wx tbk [(1,rp _ _)] ⟨apw Q8b (Qmy N x5.1 _ hf7),tv⟩<|wxz<|Qaf ?_
    obtain rfl:=osi h
    exact fie [I x8.1,I x8.2,I 0] ⟨rot,rot,rot,tv⟩
end
section
def Qcc (_N:Nat) (p0:List GRow):Option (List GRow):=
  bif p0.isEmpty then
   some ([])
  else
   chk (decide ((([]:List GRow).length+p0.length)*40≤140737488355328))<|
   some (([]:List GRow)++p0)
def Q00:AV:=.acc 0 113 5 ((([]:List GRow):List GRow).map Qam)
def Q0z (p0:List GRow):AV:=.acc 1 113 5 ((([]:List GRow)++p0:List GRow).map Qam)
theorem Qhc (N:Nat) (p0 r:List GRow) (h:Qcc N p0=some r):Spec prog 98 [(.dat 5 (p0.map Qam))] [] (.dat 5 (r.map Qam)) []:=by
  refine sA func98 0 fun _ _ _ hq hd0=>?_
  unfold Qcc at h
  refine wxz<|wsq ?_
  refine bfe h (fun hz2 h=>?_) fun hz2 h=>?_
  ·refine Qvp 1 [mv 0 (.dat 5 (p0.map Qam)),rp [(.tmp 3,(.dat 5 (p0.map Qam))),((.const (.slice none 0 0)),nilS)] (B true)] [mv 0 (.dat 5 (p0.map Qam)),rp [(.tmp 3,(.dat 5 (p0.map Qam))),((.const (.slice none 0 0)),nilS)] (B false)] (by exact⟨by kernel_rfl,by kernel_rfl⟩) (by exact⟨by kernel_rfl,by kernel_rfl⟩) rfl rfl rfl rfl (Qm9 rfl underlying36 rfl) (⟨fun _ _=>amv rfl,fun _ h=>absurd rfl h,tv⟩) (⟨fun _ _=>amv rfl,fun _ h=>absurd rfl h,tv⟩) ?_ ?_
   ·refine wtr<|wxz<|Qaf<|Qal ?_
    obtain rfl:=osi h
    exact fie [(.dat 5 (([]:List GRow).map Qam))] ⟨Qcs (v:=nilS) rot Less.nil,tv⟩
   ·replace h:(chk (decide ((([]:List GRow).length+p0.length)*40≤140737488355328))<|some (([]:List GRow)++p0))=some r:=by rw[List.isEmpty_iff.1 hz2];exact h
    refine wfa<|Qaq<|thn ?_
    obtain⟨ha1,h⟩:=cko h
    refine wx tbk [(0,⟨[],[(0,.unused)],Q00,[(0,.tok)],false⟩),(2,⟨[(.tmp 5,Q00),(.tmp 6,(.dat 5 (p0.map Qam)))],[(0,.tok),(1,.unused)],(Q0z p0),[(0,.dead),(1,.tok)],false⟩)] ⟨Qf3 rfl underlying36 Qqx Quh,Qf4 rfl underlying36 Zfh (Base.acc _ _) rfl rfl (Qjv Qam Q1m _) (Qis Qam ha1) (Qir Qam ha1 (by decide)) (Qiq Qam) rfl rfl,tv⟩<|Qaf ?_
    obtain rfl:=osi h
    exact fie [(.dat 5 ((([]:List GRow)++p0:List GRow).map Qam))] ⟨Qcs (v:=(Q0z p0)) rot Less.acc,tv⟩
  ·refine wx tbk [(1,rp [(.tmp 3,(.dat 5 (p0.map Qam))),((.const (.slice none 0 0)),nilS)] (B false))] ⟨Qki rfl underlying36 rfl (Qgo (emf hz2)),tv⟩<|wfa<|Qaq<|thn ?_
   obtain⟨ha3,h⟩:=cko h
   refine wx tbk [(0,⟨[],[(0,.unused)],Q00,[(0,.tok)],false⟩),(2,⟨[(.tmp 5,Q00),(.tmp 6,(.dat 5 (p0.map Qam)))],[(0,.tok),(1,.unused)],(Q0z p0),[(0,.dead),(1,.tok)],false⟩)] ⟨Qf3 rfl underlying36 Qqx Quh,Qf4 rfl underlying36 Zfh (Base.acc _ _) rfl rfl (Qjv Qam Q1m _) (Qis Qam ha3) (Qir Qam ha3 (by decide)) (Qiq Qam) rfl rfl,tv⟩<|Qaf ?_
   obtain rfl:=osi h
   exact fie [(.dat 5 ((([]:List GRow)++p0:List GRow).map Qam))] ⟨Qcs (v:=(Q0z p0)) rot Less.acc,tv⟩
def Qbm (_N:Nat) (p0:List Qad):Option Unit:=
  chk (!p0.isEmpty)<|
  chk (!p0.isEmpty)<|
  chk (decide ((0+p0.length)*88≤140737488355328))<|
  some ()
def Zdh:AV:=.acc 0 110 7 ((([]:List Qad):List Qad).map Qah)
theorem Qgj (N:Nat) (p0:List Qad) (r:Unit) (h:Qbm N p0=some r):Spec prog 99 [(.dat 7 (p0.map Qah))] [] (.own 0 7 (0) p0.length) [(.own 7 (p0.map Qah))]:=by
  refine sF func99 1 fun _ _ _ hq hd0=>?_
  unfold Qbm at h
  refine wxz<|wsq ?_
  obtain⟨hz1,h⟩:=cko h
  refine wx tbk [(1,rp [(.tmp 3,(.dat 7 (p0.map Qah))),((.const (.slice none 0 0)),nilS)] (B false))] ⟨Qki rfl underlying37 rfl (Qgo hz1),tv⟩<|wfa<|Qaq<|thn ?_
  obtain⟨ha3,h⟩:=cko h
  obtain⟨ha2,h⟩:=cko h
  refine wx tbk [(0,⟨[],[(0,.unused)],Zdh,[(0,.tok)],false⟩),(2,⟨[(.tmp 5,Zdh),(.tmp 6,(.dat 7 (p0.map Qah)))],[(0,.tok),(1,.unused)],(.own 1 7 (0) p0.length),[(0,.dead),(1,(.own 7 (p0.map Qah)))],false⟩)] ⟨Qf3 rfl underlying37 Qi0 Quj,Qt0 rfl underlying37 Zk9 (Base.acc _ _) rfl rfl (Qgo ha3) (Qjv Qah Qw9 _) (Qvx Qah ha2) (Qvw Qah ha2 (by decide)) (List.length_map _),tv⟩ ?_
  refine wmr (mto (n:=8) (l':=[(2,(.own 0 7 (0) p0.length))]) (own':=[(.own 7 (p0.map Qah))]) [(2,(.own 1 7 (0) p0.length))] [1] [(.own 7 (p0.map Qah))] hq (pc (.rn (Qay rfl)) pn) (qc (spr Qae) qn))<|Qaf ?_
  obtain rfl:=osi h
  exact⟨_,Mor.rfl,fio [(.own 0 7 (0) p0.length)] ⟨rot,tv⟩⟩
def Qcj (_N:Nat) (p0:List Qeg):Option (List Qeg):=
  bif p0.isEmpty then
   some ([])
  else
   chk (decide ((([]:List Qeg).length+p0.length)*16≤140737488355328))<|
   some (([]:List Qeg)++p0)
def Qri (p0:List Qeg):AV:=.dat 2 (p0.map Qc2)
def Q0y:AV:=.acc 0 112 2 ((([]:List Qeg):List Qeg).map Qc2)
def Q0x (p0:List Qeg):AV:=.acc 1 112 2 ((([]:List Qeg)++p0:List Qeg).map Qc2)
def Zdg (p0:List Qeg):AV:=.dat 2 ((([]:List Qeg)++p0:List Qeg).map Qc2)
theorem Qhj (N:Nat) (p0 r:List Qeg) (h:Qcj N p0=some r):Spec prog 100 [(.dat 2 (p0.map Qc2))] [] (.dat 2 (r.map Qc2)) []:=by
  refine sA func100 0 fun _ _ _ hq hd0=>?_
  unfold Qcj at h
  refine wxz<|wsq ?_
  refine bfe h (fun hz2 h=>?_) fun hz2 h=>?_
  ·refine Qvp 1 [mv 0 (Qri p0),rp [(.tmp 3,(Qri p0)),((.const (.slice none 0 0)),nilS)] (B true)] [mv 0 (Qri p0),rp [(.tmp 3,(Qri p0)),((.const (.slice none 0 0)),nilS)] (B false)] (by exact⟨by kernel_rfl,by kernel_rfl⟩) (by exact⟨by kernel_rfl,by kernel_rfl⟩) rfl rfl rfl rfl (Qm9 rfl underlying108 rfl) (⟨fun _ _=>amv rfl,fun _ h=>absurd rfl h,tv⟩) (⟨fun _ _=>amv rfl,fun _ h=>absurd rfl h,tv⟩) ?_ ?_
   ·refine wtr<|wxz<|Qaf<|Qal ?_
    obtain rfl:=osi h
    exact fie [(.dat 2 (([]:List Qeg).map Qc2))] ⟨Qcs (v:=nilS) rot Less.nil,tv⟩
   ·replace h:(chk (decide ((([]:List Qeg).length+p0.length)*16≤140737488355328))<|some (([]:List Qeg)++p0))=some r:=by rw[List.isEmpty_iff.1 hz2];exact h
    refine wfa<|Qaq<|thn ?_
    obtain⟨ha1,h⟩:=cko h
    refine wx tbk [(0,⟨[],[(0,.unused)],Q0y,[(0,.tok)],false⟩),(2,⟨[(.tmp 5,Q0y),(.tmp 6,(Qri p0))],[(0,.tok),(1,.unused)],(Q0x p0),[(0,.dead),(1,.tok)],false⟩)] ⟨Qf3 rfl underlying108 Qwg Qui,Qf4 rfl underlying108 Zi9 (Base.acc _ _) rfl rfl (Qjv Qc2 Qw8 _) (Qis Qc2 ha1) (Qir Qc2 ha1 (by decide)) (Qiq Qc2) rfl rfl,tv⟩<|Qaf ?_
    obtain rfl:=osi h
    exact fie [(Zdg p0)] ⟨Qcs (v:=(Q0x p0)) rot Less.acc,tv⟩
  ·refine wx tbk [(1,rp [(.tmp 3,(Qri p0)),((.const (.slice none 0 0)),nilS)] (B false))] ⟨Qki rfl underlying108 rfl (Qgo (emf hz2)),tv⟩<|wfa<|Qaq<|thn ?_
   obtain⟨ha3,h⟩:=cko h
   refine wx tbk [(0,⟨[],[(0,.unused)],Q0y,[(0,.tok)],false⟩),(2,⟨[(.tmp 5,Q0y),(.tmp 6,(Qri p0))],[(0,.tok),(1,.unused)],(Q0x p0),[(0,.dead),(1,.tok)],false⟩)] ⟨Qf3 rfl underlying108 Qwg Qui,Qf4 rfl underlying108 Zi9 (Base.acc _ _) rfl rfl (Qjv Qc2 Qw8 _) (Qis Qc2 ha3) (Qir Qc2 ha3 (by decide)) (Qiq Qc2) rfl rfl,tv⟩<|Qaf ?_
   obtain rfl:=osi h
   exact fie [(Zdg p0)] ⟨Qcs (v:=(Q0x p0)) rot Less.acc,tv⟩
def Qeu (_N:Nat) (p0:List Int):Option (List Int):=
  bif p0.isEmpty then
   some ([])
  else
   chk (decide ((([]:List Int).length+p0.length)*8≤140737488355328))<|
   some (([]:List Int)++p0)
def Q0w:AV:=.acc 0 3 1 ((([]:List Int):List Int).map Qab)
def Q0v (p0:List Int):AV:=.acc 1 3 1 ((([]:List Int)++p0:List Int).map Qab)
theorem Qli (N:Nat) (p0 r:List Int) (h:Qeu N p0=some r):Spec prog 81 [(.dat 1 (p0.map Qab))] [] (.dat 1 (r.map Qab)) []:=by
  refine sA func81 0 fun _ _ _ hq hd0=>?_
  unfold Qeu at h
  refine wxz<|wsq ?_
  refine bfe h (fun hz2 h=>?_) fun hz2 h=>?_
  ·refine Qvp 1 [mv 0 (.dat 1 (p0.map Qab)),rp [(.tmp 3,(.dat 1 (p0.map Qab))),((.const (.slice none 0 0)),nilS)] (B true)] [mv 0 (.dat 1 (p0.map Qab)),rp [(.tmp 3,(.dat 1 (p0.map Qab))),((.const (.slice none 0 0)),nilS)] (B false)] (by exact⟨by kernel_rfl,by kernel_rfl⟩) (by exact⟨by kernel_rfl,by kernel_rfl⟩) rfl rfl rfl rfl (Qm9 rfl underlying29 rfl) (⟨fun _ _=>amv rfl,fun _ h=>absurd rfl h,tv⟩) (⟨fun _ _=>amv rfl,fun _ h=>absurd rfl h,tv⟩) ?_ ?_
   ·refine wtr<|wxz<|Qaf<|Qal ?_
    obtain rfl:=osi h
    exact fie [(.dat 1 (([]:List Int).map Qab))] ⟨Qcs (v:=nilS) rot Less.nil,tv⟩
   ·replace h:(chk (decide ((([]:List Int).length+p0.length)*8≤140737488355328))<|some (([]:List Int)++p0))=some r:=by rw[List.isEmpty_iff.1 hz2];exact h
    refine wfa<|Qaq<|thn ?_
    obtain⟨ha1,h⟩:=cko h
    refine wx tbk [(0,⟨[],[(0,.unused)],Q0w,[(0,.tok)],false⟩),(2,⟨[(.tmp 5,Q0w),(.tmp 6,(.dat 1 (p0.map Qab)))],[(0,.tok),(1,.unused)],(Q0v p0),[(0,.dead),(1,.tok)],false⟩)] ⟨Qf3 rfl underlying29 ti3 tz3,Qf4 rfl underlying29 te3 (Base.acc _ _) rfl rfl (Qjv Qab Qht _) (Qis Qab ha1) (Qir Qab ha1 (by decide)) (Qiq Qab) rfl rfl,tv⟩<|Qaf ?_
    obtain rfl:=osi h
    exact fie [(.dat 1 ((([]:List Int)++p0:List Int).map Qab))] ⟨Qcs (v:=(Q0v p0)) rot Less.acc,tv⟩
  ·refine wx tbk [(1,rp [(.tmp 3,(.dat 1 (p0.map Qab))),((.const (.slice none 0 0)),nilS)] (B false))] ⟨Qki rfl underlying29 rfl (Qgo (emf hz2)),tv⟩<|wfa<|Qaq<|thn ?_
   obtain⟨ha3,h⟩:=cko h
   refine wx tbk [(0,⟨[],[(0,.unused)],Q0w,[(0,.tok)],false⟩),(2,⟨[(.tmp 5,Q0w),(.tmp 6,(.dat 1 (p0.map Qab)))],[(0,.tok),(1,.unused)],(Q0v p0),[(0,.dead),(1,.tok)],false⟩)] ⟨Qf3 rfl underlying29 ti3 tz3,Qf4 rfl underlying29 te3 (Base.acc _ _) rfl rfl (Qjv Qab Qht _) (Qis Qab ha3) (Qir Qab ha3 (by decide)) (Qiq Qab) rfl rfl,tv⟩<|Qaf ?_
   obtain rfl:=osi h
   exact fie [(.dat 1 ((([]:List Int)++p0:List Int).map Qab))] ⟨Qcs (v:=(Q0v p0)) rot Less.acc,tv⟩
def Qeo (N:Nat) (p0:GNet) (p1:List Int) (k12:(List Qad)→Option GNet) (x15:List Int):Nat→Int→(List Qad)→Option GNet
  |0,_,_=>none
  |n20+1,y16,y17=>
    bif (decide (y16<(x15.length:Int))) then
     (getI x15 y16).bind fun x22=>
     (getI p1 y16).bind fun x26=>
     chk (decide (0≤x22)&&decide (x22.toNat<p0.Elements.length))<|
     (y17[x22.toNat]?).bind fun x31=>
     Qeo N p0 p1 k12 x15 n20 (w64 (y16+1)) (y17.set x22.toNat (⟨x31.Kind,x31.From,x26,x31.Amount,x31.Wide,x31.Narrow,x31.Weights⟩:Qad))
    else
     k12 (y17)
def Qen (N:Nat) (p0:GNet) (k10:(List Qad)→Option GNet):Nat→Int→(List Qad)→Option GNet
  |0,_,_=>none
  |n37+1,y33,y34=>
    bif (decide (y33<(p0.Elements.length:Int))) then
     (getI p0.Elements y33).bind fun x39=>
     (Qcj N x39.From).bind fun x44=>
     (Qeu N x39.Weights).bind fun x46=>
     chk (decide (0≤y33)&&decide (y33.toNat<p0.Elements.length))<|
     (y34[y33.toNat]?).bind fun x48=>
     chk (decide (0≤y33)&&decide (y33.toNat<p0.Elements.length))<|
     ((y34.set y33.toNat (⟨x48.Kind,x44,x48.Level,x48.Amount,x48.Wide,x48.Narrow,x48.Weights⟩:Qad))[y33.toNat]?).bind fun x51=>
     Qen N p0 k10 n37 (w64 (y33+1)) ((y34.set y33.toNat (⟨x48.Kind,x44,x48.Level,x48.Amount,x48.Wide,x48.Narrow,x48.Weights⟩:Qad)).set y33.toNat (⟨x51.Kind,x51.From,x51.Level,x51.Amount,x51.Wide,x51.Narrow,x46⟩:Qad))
    else
     k10 (y34)
def Qju (N:Nat) (p0:GNet) (p1:List Int):Option GNet:=
  (Qcc N p0.Table).bind fun x6=>
  (Qbm N p0.Elements).bind fun _=>
  Qcf (fun y9=>
    Qcf (fun y11=>
      chk (decide (p0.Elements.length≤y11.length))<|
      some (⟨x6,y11.take p0.Elements.length⟩:GNet)) fun k12:(List Qad)→Option GNet=>
    (Qfz N p0 4).bind fun x15=>
    Qeo N p0 p1 k12 x15 N 0 y9) fun k10:(List Qad)→Option GNet=>
  Qen N p0 k10 N 0 p0.Elements
def Qdi (N:Nat) (p0:GNet) (p1:Nat) (p2:List Int) (k12:(List Qad)→Option GNet) (x15:List Int):Nat→Int→(List Qad)→Option GNet
  |0,_,_=>none
  |n20+1,y16,y17=>
    bif (decide (y16<(x15.length:Int))) then
     (getI x15 y16).bind fun x22=>
     chk (decide (0≤y16)&&decide (y16.toNat<p1))<|
     (p2[y16.toNat]?).bind fun x27=>
     chk (decide (0≤x22)&&decide (x22.toNat<p0.Elements.length))<|
     (y17[x22.toNat]?).bind fun x30=>
     Qdi N p0 p1 p2 k12 x15 n20 (w64 (y16+1)) (y17.set x22.toNat (⟨x30.Kind,x30.From,x27,x30.Amount,x30.Wide,x30.Narrow,x30.Weights⟩:Qad))
    else
     k12 (y17)
def Qdh (N:Nat) (p0:GNet) (k10:(List Qad)→Option GNet):Nat→Int→(List Qad)→Option GNet
  |0,_,_=>none
  |n36+1,y32,y33=>
    bif (decide (y32<(p0.Elements.length:Int))) then
     (getI p0.Elements y32).bind fun x38=>
     (Qcj N x38.From).bind fun x43=>
     (Qeu N x38.Weights).bind fun x45=>
     chk (decide (0≤y32)&&decide (y32.toNat<p0.Elements.length))<|
     (y33[y32.toNat]?).bind fun x47=>
     chk (decide (0≤y32)&&decide (y32.toNat<p0.Elements.length))<|
     ((y33.set y32.toNat (⟨x47.Kind,x43,x47.Level,x47.Amount,x47.Wide,x47.Narrow,x47.Weights⟩:Qad))[y32.toNat]?).bind fun x50=>
     Qdh N p0 k10 n36 (w64 (y32+1)) ((y33.set y32.toNat (⟨x47.Kind,x43,x47.Level,x47.Amount,x47.Wide,x47.Narrow,x47.Weights⟩:Qad)).set y32.toNat (⟨x50.Kind,x50.From,x50.Level,x50.Amount,x50.Wide,x50.Narrow,x45⟩:Qad))
    else
     k10 (y33)
def Qg3 (N:Nat) (p0:GNet) (p1:Nat) (p2:List Int):Option GNet:=
  (Qcc N p0.Table).bind fun x6=>
  (Qbm N p0.Elements).bind fun _=>
  Qcf (fun y9=>
    Qcf (fun y11=>
      chk (decide (p0.Elements.length≤y11.length))<|
      some (⟨x6,y11.take p0.Elements.length⟩:GNet)) fun k12:(List Qad)→Option GNet=>
    (Qfz N p0 4).bind fun x15=>
    Qdi N p0 p1 p2 k12 x15 N 0 y9) fun k10:(List Qad)→Option GNet=>
  Qdh N p0 k10 N 0 p0.Elements
abbrev Zda (p0:GNet):AV:=.dat 5 (p0.Table.map Qam)
abbrev Qrg (p0:GNet):AV:=.dat 7 (p0.Elements.map Qah)
abbrev Zio (p0:GNet):AV:=.agg [(Zda p0),(Qrg p0)]
def Q5t (p0:GNet):Slot:=.own 7 (p0.Elements.map Qah)
def Qtc (p0:GNet):Slot:=.own 2 [[(Zda p0),(Qrg p0)]]
def Qps (x6:List GRow) (p0:GNet):Slot:=.own 2 [[(.dat 5 (x6.map Qam)),(.own 4 7 (0) p0.Elements.length)]]
def Qn0 (x6:List GRow) (p0:GNet):Slot:=.own 2 [[(.dat 5 (x6.map Qam)),(.own 3 7 (0) p0.Elements.length)]]
def Qua (y11:List Qad) (p0:GNet):AV:=.dat 7 ((y11.take p0.Elements.length:List Qad).map Qah)
def Q0t (y17:List Qad) (x22:Int) (x30:Qad) (x27:Int):Slot:=.own 7 ((y17.set x22.toNat (⟨x30.Kind,x30.From,x27,x30.Amount,x30.Wide,x30.Narrow,x30.Weights⟩:Qad):List Qad).map Qah)
def Qt9 (y33:List Qad) (y32:Int) (x47:Qad) (x43:List Qeg):Slot:=.own 7 ((y33.set y32.toNat (⟨x47.Kind,x43,x47.Level,x47.Amount,x47.Wide,x47.Narrow,x47.Weights⟩:Qad):List Qad).map Qah)
def Q0s (y33:List Qad) (y32:Int) (x47:Qad) (x43:List Qeg) (x50:Qad) (x45:List Int):Slot:=.own 7 (((y33.set y32.toNat (⟨x47.Kind,x43,x47.Level,x47.Amount,x47.Wide,x47.Narrow,x47.Weights⟩:Qad)).set y32.toNat (⟨x50.Kind,x50.From,x50.Level,x50.Amount,x50.Wide,x50.Narrow,x45⟩:Qad):List Qad).map Qah)
theorem Qo5 (N:Nat) (p0:GNet) (p1:Nat) (p2:List Int) (r:GNet) (h:Qg3 N p0 p1 p2=some r):Spec prog 59 [(Zio p0),(.own 0 1 (0) p1)] [(.own 1 (p2.map Qab))] (.agg [(.dat 5 (r.Table.map Qam)),(.dat 7 (r.Elements.map Qah))]) [(.own 1 (p2.map Qab)),(.own 2 [[(.dat 5 (r.Table.map Qam)),(.dat 7 (r.Elements.map Qah))]])]:=by
  refine sF func59 2 fun _ _ _ hq hd0=>?_
  unfold Qg3 at h
  refine wxz ?_
  obtain⟨x6,hf5,h⟩:=bno h
  obtain⟨x8,hf7,h⟩:=bno h
  refine wxd tbk [(2,rp _ _),(5,⟨_,_,_,_,false⟩),(6,rp _ _)] ⟨apw Zgf (Qhc N p0.Table _ hf5),acq [(Qrg p0)] [] [(Q5t p0)] (.own 3 7 (0) p0.Elements.length) [3] Zge (Qgj N p0.Elements _ hf7) (Qbi (rnc (pld Qae) rn0)) Qao (slc (Qa2 Qae) Qao) (Qcr rfl),Qa8 (vs:=[(.dat 5 (x6.map Qam)),(.own 3 7 (0) p0.Elements.length)]) rfl ts39 tz39 rfl (by rfl) rfl,tv⟩ ?_
  obtain⟨k10,hk_k10,h⟩:=jko h
  refine wjn (τ:=(List Qad)) (fun t=>k10 t=some r) (fun y9=>⟨mk 61 [(1,(.own 0 1 (0) p1)),(2,.ref 1 2 0 0),(4,.ref 2 2 0 0),(5,.ref 3 2 0 0)],[(.own 1 (p2.map Qab)),(Qtc p0),(.own 2 [[nilS,nilS]]),(Qps x6 p0),(.own 7 (y9.map Qah))]⟩) (fun y9 h=>?_) ?_
  ·subst hk_k10
   obtain⟨k12,hk_k12,h⟩:=jko h
   refine wjn (τ:=(List Qad)) (fun t=>k12 t=some r) (fun y11=>⟨mk 61 [(4,.ref 1 2 0 0),(5,.ref 2 2 0 0)],[(.own 1 (p2.map Qab)),(.own 2 [[nilS,nilS]]),(Qn0 x6 p0),(.own 7 (y11.map Qah))]⟩) (fun y11 h=>?_) ?_
   ·subst hk_k12
    refine wxz ?_
    obtain⟨hz13,h⟩:=cko h
    refine wmr (Qu3 (n:=61) (mp:=2) (m:=7) (xs:=y11.map Qah) (c:=[(.dat 5 (x6.map Qam)),(.own 3 7 (0) p0.Elements.length)]) (l':=[(4,.ref 1 2 0 0)]) (c':=[(.dat 5 (x6.map Qam)),(Qua y11 p0)]) (own':=[(.own 1 (p2.map Qab)),(.own 2 [[(.dat 5 (x6.map Qam)),(Qua y11 p0)]]),(Qn0 x6 p0),.dead]) 3 1 [(4,.ref 1 2 0 0)] (by kernel_rfl) (by kernel_rfl) (by kernel_rfl) (by kernel_rfl) ⟨(.same _),(Ql4 hz13),tv⟩ ⟨rfl,(.same _),tv⟩ (by kernel_rfl)) ?_
    refine wmr (mto (n:=61) (l':=[(4,.ref 1 2 0 0)]) (own':=[(.own 1 (p2.map Qab)),(.own 2 [[(.dat 5 ((((⟨x6,y11.take p0.Elements.length⟩:GNet).Table):List GRow).map Qam)),(.dat 7 ((((⟨x6,y11.take p0.Elements.length⟩:GNet).Elements):List Qad).map Qah))]])]) [(4,.ref 1 2 0 0)] [0,1] [(.own 1 (p2.map Qab)),(.own 2 [[(.dat 5 (x6.map Qam)),(Qua y11 p0)]])] hq (prr pn) (qc (spr Qaj) (qb (lc (rnd Qap) (lc (rnd Qae) ln)) qn)))<|Qaf ?_
    obtain rfl:=osi h
    exact⟨_,Mor.rfl,fio [(.agg [(.dat 5 (((⟨x6,y11.take p0.Elements.length⟩:GNet).Table:List GRow).map Qam)),(.dat 7 (((⟨x6,y11.take p0.Elements.length⟩:GNet).Elements:List Qad).map Qah))])] ⟨Qb7 (n:=1) (m:=2) (j:=0) (i:=0) (xs:=[[(.dat 5 (((⟨x6,y11.take p0.Elements.length⟩:GNet).Table:List GRow).map Qam)),(.dat 7 (((⟨x6,y11.take p0.Elements.length⟩:GNet).Elements:List Qad).map Qah))]]) (by kernel_rfl) (by kernel_rfl) ti39 (by decide) rfl (nle rfl) rfl,tv⟩⟩
   ·skip
    obtain⟨x15,hf14,h⟩:=bno h
    refine wx tbk [(1,rp _ _),(2,rp _ _)] ⟨apw Qsj (Qg4 N p0 4 _ hf14),alq 1 Qab x15 underlying29,tv⟩<|Qar ?_
    refine wmr (mto (n:=61) (l':=[(1,(.own 0 1 (0) p1)),(4,.ref 1 2 0 0),(5,.ref 2 2 0 0),(43,(.dat 1 (x15.map Qab))),(44,(I ((x15.length:Int)))),(45,I 0)]) (own':=[(.own 1 (p2.map Qab)),(.own 2 [[nilS,nilS]]),(Qn0 x6 p0),(.own 7 (y9.map Qah))]) [(1,(.own 0 1 (0) p1)),(4,.ref 2 2 0 0),(5,.ref 3 2 0 0),(43,(.dat 1 (x15.map Qab))),(44,(I ((x15.length:Int)))),(45,I 0)] [0,2,3,4] [(.own 1 (p2.map Qab)),(.own 2 [[nilS,nilS]]),(Qps x6 p0),(.own 7 (y9.map Qah))] hq (pc (.rn (Qay rfl)) (prr (prr (pc (rnd Qaj) (pw (pw pn)))))) (qc (spr Qaj) (qb (lcc ln) (qb (lc (rnd Qap) (lc (.rn (Qay rfl)) ln)) (qc (spr Qae) qn))))) ?_
    refine Qcn (τ:=Int×(List Qad)) (fun n t=>Qdi N p0 p1 p2 k12 x15 n t.1 t.2=some r) (fun ⟨y16,y17⟩=>⟨mk 61 [(1,(.own 0 1 (0) p1)),(4,.ref 1 2 0 0),(5,.ref 2 2 0 0),(43,(.dat 1 (x15.map Qab))),(44,(I ((x15.length:Int)))),(45,I y16)],[(.own 1 (p2.map Qab)),(.own 2 [[nilS,nilS]]),(Qn0 x6 p0),(.own 7 (y17.map Qah))]⟩) (fun t h=>by rw[Qdi] at h;cases h) (fun n20 ih t h=>?_) N (0,y9) h
    obtain⟨y16,y17⟩:=t
    rw[Qdi] at h
    skip
    refine wxz<|wsq ?_
    refine bfe h (fun hc21 h=>?_) fun hc21 h=>?_
    ·refine wft hc21<|Qaq<|thn<|wsq<|Qar ?_
     obtain⟨x22,hg23,h⟩:=bno h
     obtain⟨hi24,hj25⟩:=gsm hg23
     refine wx tbk [(1,rp _ _)] ⟨aiq underlying29 ti3 Qab hi24 hj25,tv⟩ ?_
     obtain⟨hi26,h⟩:=cko h
     obtain⟨hi26a,hi26b⟩:=Qd0 hi26
     obtain⟨x27,hg28,h⟩:=bno h
     obtain⟨hi29,h⟩:=cko h
     obtain⟨hi29a,hi29b⟩:=Qd0 hi29
     obtain⟨x30,hg31,h⟩:=bno h
     refine wy1 tbk [(5,rb [(.tmp 53,(.own 0 1 (0) p1)),(.tmp 54,I y16)] [(0,(.own 1 (p2.map Qab)))] (.ref 0 1 y16.toNat 0)),(6,rb [(.tmp 55,(.ref 0 1 y16.toNat 0))] [(0,(.own 1 (p2.map Qab)))] (I x27)),(7,rb [(.tmp 51,(.own 3 7 (0) p0.Elements.length)),(.tmp 52,I x22)] [(3,(.own 7 (y17.map Qah)))] (.ref 3 7 x22.toNat 0)),(9,⟨[(.tmp 58,(.ref 3 7 x22.toNat 2)),(.tmp 56,I x27)],[(3,(.own 7 (y17.map Qah)))],.any,[(3,(Q0t y17 x22 x30 x27))],false⟩)] ⟨aio rfl underlying29 ti3 (odt hi26a) (odt hi26b) (Nat.zero_add _),ald rfl ti3 (by decide) (mgt Qab hg28) (nle rfl) rfl,aio rfl underlying37 Qi0 (odt hi29a) (odt hi29b) (Nat.zero_add _),ast rfl ti3 (by rfl) (mgt Qah hg31) (nle rfl) (Qf5 Qah rfl),tv⟩<|bln<|thn<|wxz1<|thn ?_
     exact arm (mto (n:=61) [(1,(.own 0 1 (0) p1)),(4,.ref 1 2 0 0),(5,.ref 2 2 0 0),(43,(.dat 1 (x15.map Qab))),(44,(I ((x15.length:Int)))),(45,(I (w64 (y16+1))))] [0,1,2,3] [(.own 1 (p2.map Qab)),(.own 2 [[nilS,nilS]]),(Qn0 x6 p0),(Q0t y17 x22 x30 x27)] hq (pc (.rn (Qay rfl)) (prr (prr (pc (rnd Qaj) (pw (pw pn)))))) (qc (spr Qaj) (qb (lcc ln) (qb (lc (rnd Qap) (lc (.rn (Qay rfl)) ln)) (qc (spr Qae) qn))))) (ih (w64 (y16+1),y17.set x22.toNat (⟨x30.Kind,x30.From,x27,x30.Amount,x30.Wide,x30.Narrow,x30.Weights⟩:Qad)) h)
    ·exact wfn hc21<|Qbl<|Qaz<|Qaz<|Qbk rfl<|thn<|⟨(y17),h,(mto (n:=61) [(4,.ref 1 2 0 0),(5,.ref 2 2 0 0)] [0,1,2,3] [(.own 1 (p2.map Qab)),(.own 2 [[nilS,nilS]]),(Qn0 x6 p0),(.own 7 (y17.map Qah))] hq (prr (prr pn)) (qc (spr Qaj) (qb (lcc ln) (qb (lc (rnd Qap) (lc (.rn (Qay rfl)) ln)) (qc (spr Qae) qn)))))⟩
  ·skip
   refine wx tbk [(2,rp _ _)] ⟨alq 7 Qah p0.Elements underlying37,tv⟩<|Qar ?_
   refine wmr (mto (n:=61) (l':=[(1,(.own 0 1 (0) p1)),(2,.ref 1 2 0 0),(4,.ref 2 2 0 0),(5,.ref 3 2 0 0),(18,(Qrg p0)),(19,(I ((p0.Elements.length:Int)))),(20,I 0)]) (own':=[(.own 1 (p2.map Qab)),(Qtc p0),(.own 2 [[nilS,nilS]]),(Qps x6 p0),(Q5t p0)]) [(1,(.own 0 1 (0) p1)),(2,.ref 1 2 0 0),(4,.ref 2 2 0 0),(5,.ref 4 2 0 0),(18,(Qrg p0)),(19,(I ((p0.Elements.length:Int)))),(20,I 0)] [0,1,2,4,3] [(.own 1 (p2.map Qab)),(Qtc p0),(.own 2 [[nilS,nilS]]),(Qn0 x6 p0),(Q5t p0)] hq (pc (.rn (Qay rfl)) (prr (prr (prr (pc (rnd Qae) (pw (pw pn))))))) (qc (spr Qaj) (qb (lc (rnd Qap) (lc (rnd Qae) ln)) (qb (lcc ln) (qb (lc (rnd Qap) (lc (.rn (Qay rfl)) ln)) (qc (spr Qae) qn)))))) ?_
   refine Qcn (τ:=Int×(List Qad)) (fun n t=>Qdh N p0 k10 n t.1 t.2=some r) (fun ⟨y32,y33⟩=>⟨mk 61 [(1,(.own 0 1 (0) p1)),(2,.ref 1 2 0 0),(4,.ref 2 2 0 0),(5,.ref 3 2 0 0),(18,(Qrg p0)),(19,(I ((p0.Elements.length:Int)))),(20,I y32)],[(.own 1 (p2.map Qab)),(Qtc p0),(.own 2 [[nilS,nilS]]),(Qps x6 p0),(.own 7 (y33.map Qah))]⟩) (fun t h=>by rw[Qdh] at h;cases h) (fun n36 ih t h=>?_) N (0,p0.Elements) h
   obtain⟨y32,y33⟩:=t
   rw[Qdh] at h
   skip
   refine wxz<|wsq ?_
   refine bfe h (fun hc37 h=>?_) fun hc37 h=>?_
   ·refine wft hc37<|Qaq<|thn<|wsq<|Qar ?_
    obtain⟨x38,hg39,h⟩:=bno h
    obtain⟨hi40,hj41⟩:=gsm hg39
    refine wx tbk [(1,rp _ _)] ⟨aiq underlying37 Qi0 Qah hi40 hj41,tv⟩ ?_
    obtain⟨x43,hf42,h⟩:=bno h
    obtain⟨x45,hf44,h⟩:=bno h
    obtain⟨hi46,h⟩:=cko h
    obtain⟨hi46a,hi46b⟩:=Qd0 hi46
    obtain⟨x47,hg48,h⟩:=bno h
    obtain⟨hi49,h⟩:=cko h
    obtain⟨hi49a,hi49b⟩:=Qd0 hi49
    obtain⟨x50,hg51,h⟩:=bno h
    refine wy1 tbk [(8,rp _ _),(11,rp _ _),(12,rb [(.tmp 26,(.own 4 7 (0) p0.Elements.length)),(.tmp 27,I y32)] [(4,(.own 7 (y33.map Qah)))] (.ref 4 7 y32.toNat 0)),(14,⟨[(.tmp 38,(.ref 4 7 y32.toNat 1)),(.tmp 33,(.dat 2 (x43.map Qc2)))],[(4,(.own 7 (y33.map Qah)))],.any,[(4,(Qt9 y33 y32 x47 x43))],false⟩),(15,rb [(.tmp 29,(.own 4 7 (0) p0.Elements.length)),(.tmp 30,I y32)] [(4,(Qt9 y33 y32 x47 x43))] (.ref 4 7 y32.toNat 0)),(17,⟨[(.tmp 40,(.ref 4 7 y32.toNat 6)),(.tmp 36,(.dat 1 (x45.map Qab)))],[(4,(Qt9 y33 y32 x47 x43))],.any,[(4,(Q0s y33 y32 x47 x43 x50 x45))],false⟩)] ⟨apw Zb9 (Qhj N x38.From _ hf42),apw Q76 (Qli N x38.Weights _ hf44),aio rfl underlying37 Qi0 (odt hi46a) (odt hi46b) (Nat.zero_add _),ast rfl Zad (by rfl) (mgt Qah hg48) (nle rfl) (Qf5 Qah rfl),aio rfl underlying37 Qi0 (odt hi49a) (odt hi49b) (Nat.zero_add _),ast rfl ti29 (by rfl) (mgt Qah hg51) (nle rfl) (Qf5 Qah rfl),tv⟩<|bln<|thn<|wxz1<|thn ?_
    exact arm (mto (n:=61) [(1,(.own 0 1 (0) p1)),(2,.ref 1 2 0 0),(4,.ref 2 2 0 0),(5,.ref 3 2 0 0),(18,(Qrg p0)),(19,(I ((p0.Elements.length:Int)))),(20,(I (w64 (y32+1))))] [0,1,2,3,4] [(.own 1 (p2.map Qab)),(Qtc p0),(.own 2 [[nilS,nilS]]),(Qps x6 p0),(Q0s y33 y32 x47 x43 x50 x45)] hq (pc (.rn (Qay rfl)) (prr (prr (prr (pc (rnd Qae) (pw (pw pn))))))) (qc (spr Qaj) (qb (lc (rnd Qap) (lc (rnd Qae) ln)) (qb (lcc ln) (qb (lc (rnd Qap) (lc (.rn (Qay rfl)) ln)) (qc (spr Qae) qn)))))) (ih (w64 (y32+1),(y33.set y32.toNat (⟨x47.Kind,x43,x47.Level,x47.Amount,x47.Wide,x47.Narrow,x47.Weights⟩:Qad)).set y32.toNat (⟨x50.Kind,x50.From,x50.Level,x50.Amount,x50.Wide,x50.Narrow,x45⟩:Qad)) h)
   ·exact wfn hc37<|Qbl<|Qaz<|Qaz<|Qbk rfl<|thn<|⟨(y33),h,(mto (n:=61) [(1,(.own 0 1 (0) p1)),(2,.ref 1 2 0 0),(4,.ref 2 2 0 0),(5,.ref 3 2 0 0)] [0,1,2,3,4] [(.own 1 (p2.map Qab)),(Qtc p0),(.own 2 [[nilS,nilS]]),(Qps x6 p0),(.own 7 (y33.map Qah))] hq (pc (.rn (Qay rfl)) (prr (prr (prr pn)))) (qc (spr Qaj) (qb (lc (rnd Qap) (lc (rnd Qae) ln)) (qb (lcc ln) (qb (lc (rnd Qap) (lc (.rn (Qay rfl)) ln)) (qc (spr Qae) qn))))))⟩
def Qee (_N:Nat) (p0:Qdp):Option Int:=
  some p0.steam
theorem Qgn (N:Nat) (p0:Qdp) (r:Int) (h:Qee N p0=some r):Spec prog 62 [(.dptr (Qio p0) 0)] [] (I r) []:=by
  refine sA func62 0 fun _ _ _ hq hd0=>?_
  unfold Qee at h
  refine wxz<|wxz<|Qaf ?_
  obtain rfl:=osi h
  exact fend ⟨[I p0.steam],⟨rot,tv⟩,rfl⟩ nll
def Qb6 (N:Nat) (p0:List Qdp) (k11:Int×Int→Option Qk4):Nat→Int→Int→Int→Option Qk4
  |0,_,_,_=>none
  |n19+1,y13,y14,y15=>
    bif (decide (y13<((p0.drop (1:Int).toNat).length:Int))) then
     (getI (p0.drop (1:Int).toNat) y13).bind fun x21=>
     (Qee N x21).bind fun x26=>
     (Qee N x21).bind fun x28=>
     Qb6 N p0 k11 n19 (w64 (y13+1)) (if x26<y14 then x26 else y14) (if x28>y15 then x28 else y15)
    else
     k11 (y14,y15)
def Qej (N:Nat) (p0:List Qdp):Option Qk4:=
  (getI p0 0).bind fun x1=>
  (Qee N x1).bind fun x6=>
  (Qee N x1).bind fun x8=>
  Qcf (fun ⟨y9,y10⟩=>
    some (⟨y9,y10⟩:Qk4)) fun k11:Int×Int→Option Qk4=>
  chk (decide (0≤1)&&decide (1≤(p0.length:Int))&&decide ((p0.length:Int)≤(p0.length:Int)))<|
  Qb6 N p0 k11 N 0 x6 x8
def Qtb:Slot:=.own 2 [[(I (0)),(I (0))]]
def Qwa (p0:List Qdp):AV:=.dat 1 ((p0.drop (1:Int).toNat:List Qdp).map Qda)
theorem Qlb (N:Nat) (p0:List Qdp) (r:Qk4) (h:Qej N p0=some r):Spec prog 61 [(.dat 1 (p0.map Qda)),(.fn (.func 62) [] [])] [] (.agg [(I r.Lo),(I r.Hi)]) []:=by
  refine sA func61 0 fun _ _ _ hq hd0=>?_
  unfold Qej at h
  refine wxz ?_
  obtain⟨x1,hg2,h⟩:=bno h
  obtain⟨hi3,hj4⟩:=gsm hg2
  obtain⟨x6,hf5,h⟩:=bno h
  obtain⟨x8,hf7,h⟩:=bno h
  refine wxd tbk [(2,rp _ _),(4,rp _ _),(7,rp _ _),(9,rp _ _),(10,rp _ _)] ⟨aiq underlying137 Qnj Qda hi3 hj4,acq [(.dptr (Qio x1) 0)] [] [] (I x6) [] Qvc (Qgn N x1 _ hf5) (Qbi (rnc (.plain _ (NLt.dptr _ _ (Qnd _))) rn0)) Qao Qao (.plain _ nll),aiq underlying137 Qnj Qda hi3 hj4,acq [(.dptr (Qio x1) 0)] [] [] (I x8) [] Qvc (Qgn N x1 _ hf7) (Qbi (rnc (.plain _ (NLt.dptr _ _ (Qnd _))) rn0)) Qao Qao (.plain _ nll),Qa8 (vs:=[I x6,I x8]) rfl Zi4 Zfd rfl (by rfl) rfl,tv⟩ ?_
  obtain⟨k11,hk_k11,h⟩:=jko h
  refine wjn (τ:=Int×Int) (fun t=>k11 t=some r) (fun ⟨y9,y10⟩=>⟨mk 41 [(4,.ref 0 2 0 0),(5,.ref 1 2 0 0)],[Qtb,(.own 2 [[I y9,I y10]])]⟩) (fun t h=>?_) ?_
  ·subst hk_k11
   obtain⟨y9,y10⟩:=t
   refine wxz<|Qaf ?_
   obtain rfl:=osi h
   exact fie [(.agg [I y9,I y10])] ⟨Qb7 (n:=0) (m:=2) (j:=0) (i:=0) (xs:=[[I y9,I y10]]) (by kernel_rfl) (by kernel_rfl) Zi7 (by decide) rfl (nle rfl) rfl,tv⟩
  ·skip
   obtain⟨hs12,h⟩:=cko h
   refine wx tbk [(1,rp [(.tmp 19,(.dat 1 (p0.map Qda))),ci 1] (Qwa p0)),(2,rp _ _)] ⟨Qm7 (k:=.i64) (k':=.i64) (lo:=some (.const (.int .i64 1))) (hi:=none) (l:=1) (hh:=((p0.length:Nat):Int)) rfl underlying137 Qnj rfl (fun e=>nomatch e) (fun _=>by simp) (Qz7 hs12) (Qz6 hs12) (Zhe Qda hs12) (Zjc Qda),alq 1 Qda (p0.drop (1:Int).toNat) underlying137,tv⟩<|Qar ?_
   refine wmr (mto (n:=41) (l':=[(1,(.fn (.func 62) [] [])),(4,.ref 0 2 0 0),(5,.ref 1 2 0 0),(20,(Qwa p0)),(21,(I (((p0.drop (1:Int).toNat).length:Int)))),(22,I 0)]) (own':=[Qtb,(.own 2 [[I x6,I x8]])]) [(1,(.fn (.func 62) [] [])),(4,.ref 0 2 0 0),(5,.ref 1 2 0 0),(20,(Qwa p0)),(21,(I (((p0.drop (1:Int).toNat).length:Int)))),(22,I 0)] [0,1] [Qtb,(.own 2 [[I x6,I x8]])] hq (pc (.rn (Qa4 rn0 rn0)) (prr (prr (pc (rnd Qgu) (pw (pw pn)))))) (qb (lcc ln) (qb (lcc ln) qn))) ?_
   refine Qcn (τ:=Int×Int×Int) (fun n t=>Qb6 N p0 k11 n t.1 t.2.1 t.2.2=some r) (fun ⟨y13,y14,y15⟩=>⟨mk 41 [(1,(.fn (.func 62) [] [])),(4,.ref 0 2 0 0),(5,.ref 1 2 0 0),(20,(Qwa p0)),(21,(I (((p0.drop (1:Int).toNat).length:Int)))),(22,I y13)],[Qtb,(.own 2 [[I y14,I y15]])]⟩) (fun t h=>by rw[Qb6] at h;cases h) (fun n19 ih t h=>?_) N (0,x6,x8) h
   obtain⟨y13,y14,y15⟩:=t
   rw[Qb6] at h
   skip
   refine wxz<|wsq ?_
   refine bfe h (fun hc20 h=>?_) fun hc20 h=>?_
   ·refine wft hc20<|Qaq<|thn<|wsq<|Qar ?_
    obtain⟨x21,hg22,h⟩:=bno h
    obtain⟨hi23,hj24⟩:=gsm hg22
    refine wx tbk [(0,rp _ _)] ⟨aiq underlying137 Qnj Qda hi23 hj24,tv⟩ ?_
    obtain⟨x26,hf25,h⟩:=bno h
    obtain⟨x28,hf27,h⟩:=bno h
    refine wy1 tbk [(4,rp _ _),(5,rp [(.tmp 27,I y14),(.tmp 30,I x26)] (I ((if x26<y14 then x26 else y14)))),(10,rp _ _),(11,rp [(.tmp 33,I y15),(.tmp 36,I x28)] (I ((if x28>y15 then x28 else y15)))),(12,rp _ _)] ⟨acq [(.dptr (Qio x21) 0)] [] [] (I x26) [] Qvc (Qgn N x21 _ hf25) (Qbi (rnc (.plain _ (NLt.dptr _ _ (Qnd _))) rn0)) Qao Qao (.plain _ nll),Qpn rfl,acq [(.dptr (Qio x21) 0)] [] [] (I x28) [] Qvc (Qgn N x21 _ hf27) (Qbi (rnc (.plain _ (NLt.dptr _ _ (Qnd _))) rn0)) Qao Qao (.plain _ nll),Qm8 rfl,Qa8 (vs:=[(I ((if x26<y14 then x26 else y14))),(I ((if x28>y15 then x28 else y15)))]) rfl Zi4 Zfd rfl (by rfl) rfl,tv⟩<|bln<|thn<|wxz1<|thn ?_
    exact arm (mto (n:=41) [(1,(.fn (.func 62) [] [])),(4,.ref 0 2 0 0),(5,.ref 1 2 0 0),(20,(Qwa p0)),(21,(I (((p0.drop (1:Int).toNat).length:Int)))),(22,(I (w64 (y13+1))))] [0,1] [Qtb,(.own 2 [[(I ((if x26<y14 then x26 else y14))),(I ((if x28>y15 then x28 else y15)))]])] hq (pc (.rn (Qa4 rn0 rn0)) (prr (prr (pc (rnd Qgu) (pw (pw pn)))))) (qb (lcc ln) (qb (lcc ln) qn))) (ih (w64 (y13+1),(if x26<y14 then x26 else y14),(if x28>y15 then x28 else y15)) h)
   ·exact wfn hc20<|Qbl<|Qaz<|Qaz<|Qbk rfl<|thn<|⟨(y14,y15),h,(mto (n:=41) [(4,.ref 0 2 0 0),(5,.ref 1 2 0 0)] [0,1] [Qtb,(.own 2 [[I y14,I y15]])] hq (prr (prr pn)) (qb (lcc ln) (qb (lcc ln) qn)))⟩
def Qhl (N:Nat) (p0:List GRow) (p1:List Qad) (p2:Nat) (p3:List Int) (p4:List (List Qaa)) (p5:Int) (p6:List Int) (p7:Bool) (p8:List Int):Option (Int×(List Int)×Bool):=
  (Qg3 N (⟨p0,p1⟩:GNet) p2 p8).bind fun x5=>
  (Qgg N x5).bind fun x7=>
  bif (!x7) then
   some (p5,p6,p7)
  else
   (Qgx N x5 p3 p4).bind fun x10=>
   bif (!x10.2) then
    some (p5,p6,p7)
   else
    (Qhx N x10.1).bind fun x13=>
    bif (decide (x13.1≥0)) then
     some (p5,p6,p7)
    else
     (Qej N x10.1).bind fun x16=>
     bif (decide (x16.Lo>p5)) then
      chk (decide (p2≤p8.length))<|
      chk (decide ((0+(p8.take p2).length)*8≤140737488355328))<|
      some (x16.Lo,p8.take p2,true)
     else
      some (p5,p6,p7)
abbrev Qmb (p0:List GRow) (p1:List Qad):Slot:=.own 2 [[(.dat 5 (p0.map Qam)),(.dat 7 (p1.map Qah))]]
abbrev Qma (p2:Nat):Slot:=.own 1 [[(.own 7 1 (0) p2)]]
abbrev Qjh (p3:List Int):Slot:=.own 1 [[(.dat 1 (p3.map Qab))]]
abbrev Qjg (p4:List (List Qaa)):Slot:=.own 1 [[(.dat 1 (p4.map Qag))]]
abbrev Qk7 (p6:List Int):Slot:=.own 1 [[(.dat 1 (p6.map Qab))]]
def Q5u (x5:GNet):AV:=.dat 7 (x5.Elements.map Qah)
def Ze6 (x5:GNet):AV:=.agg [(.dat 5 (x5.Table.map Qam)),(Q5u x5)]
def Ze5 (x10:((List Qdp)×Bool)):AV:=.dat 1 (x10.1.map Qda)
def Qub (p8:List Int) (p2:Nat):AV:=.dat 1 ((p8.take p2:List Int).map Qab)
theorem Qp7 (N:Nat) (p0:List GRow) (p1:List Qad) (p2:Nat) (p3:List Int) (p4:List (List Qaa)) (p5:Int) (p6:List Int) (p7:Bool) (p8:List Int) (r:(Int×(List Int)×Bool)) (h:Qhl N p0 p1 p2 p3 p4 p5 p6 p7 p8=some r):Spec prog 58 [(.ref 0 2 (0) 0),(.ref 1 1 (0) 0),(.ref 2 1 (0) 0),(.ref 3 1 (0) 0),(.ref 4 1 (0) 0),(.ref 5 1 (0) 0),(.ref 6 1 (0) 0)] [(Qmb p0 p1),(Qma p2),(Qjh p3),(Qjg p4),(.own 1 [[(I p5)]]),(Qk7 p6),(.own 1 [[(B p7)]]),(.own 1 (p8.map Qab))] (.tup []) [(Qmb p0 p1),(Qma p2),(Qjh p3),(Qjg p4),(.own 1 [[(I r.1)]]),(.own 1 [[(.dat 1 (r.2.1.map Qab))]]),(.own 1 [[(B r.2.2)]]),(.own 1 (p8.map Qab))]:=by
  refine sF func58 8 fun _ _ _ hq hd0=>?_
  unfold Qhl at h
  obtain⟨x5,hf4,h⟩:=bno h
  refine wx tbk [(2,⟨_,_,_,_,false⟩),(3,⟨[],[(9,.unused)],.ref 9 2 0 0,[(9,(.own 2 [[(.dat 5 (([]:List GRow).map Qam)),(.dat 7 (([]:List Qad).map Qah))]]))],false⟩)] ⟨acq [(.agg [(.dat 5 (((⟨p0,p1⟩:GNet).Table:List GRow).map Qam)),(.dat 7 (((⟨p0,p1⟩:GNet).Elements:List Qad).map Qah))]),(.own 7 1 (0) p2)] [(.own 1 (p8.map Qab))] [(.own 1 (p8.map Qab)),(.own 2 [[(.dat 5 (x5.Table.map Qam)),(Q5u x5)]])] (Ze6 x5) [7,8] Zgl (Qo5 N (⟨p0,p1⟩:GNet) p2 p8 _ hf4) (Qbi (rnc (.plain _ (NLt.agg _ (nlc (nld Qap _) (nlc (nld Qae _) nl0)))) (rnc (Qcq rfl) rn0))) (slc (Qa2 Qaj) Qao) (slc (Qa2 Qaj) (slc (Qai (rnc (pld Qap) (rnc (pld Qae) rn0))) Qao)) (.plain _ (NLt.agg _ (nlc (nld Qap _) (nlc (nld Qae _) nl0)))),Qof (SImp.box (l:=[nilS,nilS]) ⟨Less.nil,Less.nil,tv⟩) (Ql7 rfl tz39 rfl),tv⟩<|wsq ?_
  obtain⟨x7,hf6,h⟩:=bno h
  refine wx tbk [(1,rp _ _)] ⟨apw Q8a (Qkz N x5 _ hf6),tv⟩ ?_
  refine bfe h (fun hc8 h=>?_) fun hc8 h=>?_
  ·refine wft hc8<|wmr (mto (n:=44) (l':=[]) (own':=[(Qmb p0 p1),(Qma p2),(Qjh p3),(Qjg p4),(.own 1 [[I p5]]),(Qk7 p6),(.own 1 [[B p7]]),(.own 1 (p8.map Qab))]) [] [0,1,2,3,4,5,6,7] [(Qmb p0 p1),(Qma p2),(Qjh p3),(Qjg p4),(.own 1 [[I p5]]),(Qk7 p6),(.own 1 [[B p7]]),(.own 1 (p8.map Qab))] hq pn (qb (lc (rnd Qap) (lc (rnd Qae) ln)) (qb (lc (.rn (Qay rfl)) ln) (qb (lc (rnd Qaj) ln) (qb (lc (rnd Qan) ln) (qb (lc rwl ln) (qb (lc (rnd Qaj) ln) (qb (lc rwl ln) (qc (spr Qaj) qn)))))))))<|Qaf<|Qal ?_
   obtain rfl:=osi h
   exact⟨_,Mor.rfl,fio [] tv⟩
  ·refine wfn hc8<|Qaq<|thn ?_
   obtain⟨x10,hf9,h⟩:=bno h
   refine wx tbk [(3,rp _ _)] ⟨apw Q8c (Qlm N x5 p3 p4 _ hf9),tv⟩<|wsq<|wxz ?_
   refine bfe h (fun hc11 h=>?_) fun hc11 h=>?_
   ·refine wft hc11<|wmr (mto (n:=44) (l':=[]) (own':=[(Qmb p0 p1),(Qma p2),(Qjh p3),(Qjg p4),(.own 1 [[I p5]]),(Qk7 p6),(.own 1 [[B p7]]),(.own 1 (p8.map Qab))]) [] [0,1,2,3,4,5,6,7] [(Qmb p0 p1),(Qma p2),(Qjh p3),(Qjg p4),(.own 1 [[I p5]]),(Qk7 p6),(.own 1 [[B p7]]),(.own 1 (p8.map Qab))] hq pn (qb (lc (rnd Qap) (lc (rnd Qae) ln)) (qb (lc (.rn (Qay rfl)) ln) (qb (lc (rnd Qaj) ln) (qb (lc (rnd Qan) ln) (qb (lc rwl ln) (qb (lc (rnd Qaj) ln) (qb (lc rwl ln) (qc (spr Qaj) qn)))))))))<|Qaf<|Qal ?_
    obtain rfl:=osi h
    exact⟨_,Mor.rfl,fio [] tv⟩
   ·refine wfn hc11<|Qaq<|thn<|wsq ?_
    obtain⟨x13,hf12,h⟩:=bno h
    refine wx tbk [(1,rp _ _)] ⟨apw Q8b (Qmy N x10.1 _ hf12),tv⟩<|wxz ?_
    refine bfe h (fun hc14 h=>?_) fun hc14 h=>?_
    ·refine wft hc14<|wmr (mto (n:=44) (l':=[]) (own':=[(Qmb p0 p1),(Qma p2),(Qjh p3),(Qjg p4),(.own 1 [[I p5]]),(Qk7 p6),(.own 1 [[B p7]]),(.own 1 (p8.map Qab))]) [] [0,1,2,3,4,5,6,7] [(Qmb p0 p1),(Qma p2),(Qjh p3),(Qjg p4),(.own 1 [[I p5]]),(Qk7 p6),(.own 1 [[B p7]]),(.own 1 (p8.map Qab))] hq pn (qb (lc (rnd Qap) (lc (rnd Qae) ln)) (qb (lc (.rn (Qay rfl)) ln) (qb (lc (rnd Qaj) ln) (qb (lc (rnd Qan) ln) (qb (lc rwl ln) (qb (lc (rnd Qaj) ln) (qb (lc rwl ln) (qc (spr Qaj) qn)))))))))<|Qaf<|Qal ?_
     obtain rfl:=osi h
     exact⟨_,Mor.rfl,fio [] tv⟩
    ·refine wfn hc14<|Qaq<|thn ?_
     obtain⟨x16,hf15,h⟩:=bno h
     refine wx tbk [(1,rp _ _)] ⟨acq [(Ze5 x10),(.fn (.func 62) [] [])] [] [] (.agg [I x16.Lo,I x16.Hi]) [] Zgk (Qlb N x10.1 _ hf15) (Qbi (rnc (pld Qgu) (rnc (.plain _ (NLt.fn _ _ _ nl0 nl0)) rn0))) Qao Qao (.plain _ (NLt.agg _ (nlcc nl0))),tv⟩<|wxz ?_
     refine bfe h (fun hc17 h=>?_) fun hc17 h=>?_
     ·refine wft hc17 ?_
      obtain⟨hz18,h⟩:=cko h
      obtain⟨ha19,h⟩:=cko h
      refine wx1 tbk [(1,⟨[((.const (.slice none 0 0)),nilS),(.tmp 41,(.own 7 1 (0) p2))],[(7,(.own 1 (p8.map Qab))),(10,.unused)],(.acc 10 3 1 ((p8.take p2:List Int).map Qab)),[(10,.tok)],false⟩),(3,⟨[(.tmp 5,.ref 5 1 0 0),(.tmp 42,(.acc 10 3 1 ((p8.take p2:List Int).map Qab)))],[(5,(Qk7 p6))],.any,[(5,(.own 1 [[(Qub p8 p2)]]))],false⟩)] ⟨Qii (rd':=[((.const (.slice none 0 0)),nilS),(.tmp 41,(Qub p8 p2))]) [(7,1,p8.map Qab)] ⟨rfl,.same _,rfl,(Qvj 0 rfl hz18),tv⟩ (by rfl) (.acc _ _ _ _ (nin rfl) (by simp) (Q1v Qr8 _)) (Q1c .tok Qru) (Qf4 rfl underlying29 te3 (Base.nil) rfl rfl (Qjv Qab Qht _) (Qvx Qab ha19) (Qvw Qab ha19 (by decide)) (Zcm Qab) rfl rfl),awk (rd':=[(.tmp 5,.ref 5 1 0 0),(.tmp 42,(Qub p8 p2))]) ⟨rfl,lrf,rfl,Less.acc,tv⟩ (ast rfl ti29 (by rfl) rfl (nle rfl) rfl),tv⟩ ?_
      obtain rfl:=osi h
      exact⟨_,(mto (n:=44) (l':=[]) (own':=[(Qmb p0 p1),(Qma p2),(Qjh p3),(Qjg p4),(.own 1 [[I x16.Lo]]),(.own 1 [[(.dat 1 (((p8.take p2):List Int).map Qab))]]),(.own 1 [[B true]]),(.own 1 (p8.map Qab))]) [] [0,1,2,3,4,5,6,7] [(Qmb p0 p1),(Qma p2),(Qjh p3),(Qjg p4),(.own 1 [[I x16.Lo]]),(.own 1 [[(Qub p8 p2)]]),(.own 1 [[B true]]),(.own 1 (p8.map Qab))] hq pn (qb (lc (rnd Qap) (lc (rnd Qae) ln)) (qb (lc (.rn (Qay rfl)) ln) (qb (lc (rnd Qaj) ln) (qb (lc (rnd Qan) ln) (qb (lc rwl ln) (qb (lc (rnd Qaj) ln) (qb (lc rwl ln) (qc (spr Qaj) qn))))))))),fio [] tv⟩
     ·refine wfn hc17<|Qaq ?_
      obtain rfl:=osi h
      exact⟨_,(mto (n:=44) (l':=[]) (own':=[(Qmb p0 p1),(Qma p2),(Qjh p3),(Qjg p4),(.own 1 [[I p5]]),(Qk7 p6),(.own 1 [[B p7]]),(.own 1 (p8.map Qab))]) [] [0,1,2,3,4,5,6,7] [(Qmb p0 p1),(Qma p2),(Qjh p3),(Qjg p4),(.own 1 [[I p5]]),(Qk7 p6),(.own 1 [[B p7]]),(.own 1 (p8.map Qab))] hq pn (qb (lc (rnd Qap) (lc (rnd Qae) ln)) (qb (lc (.rn (Qay rfl)) ln) (qb (lc (rnd Qaj) ln) (qb (lc (rnd Qan) ln) (qb (lc rwl ln) (qb (lc (rnd Qaj) ln) (qb (lc rwl ln) (qc (spr Qaj) qn))))))))),fio [] tv⟩
def Qc6 (N:Nat) (p0:Int) (rec_:(Int→Int→Nat→(List GRow)→(List Qad)→(List Int)→(List (List Qaa))→Int→(List Int)→Bool→(List Int)→Option (Int×(List Int)×Bool×(List Int)))) (p1:Int) (p2:Nat) (p3:List GRow) (p4:List Qad) (p5:List Int) (p6:List (List Qaa)):Nat→Int→(List Int)→Bool→(List Int)→Option (Int×(List Int)×Bool×(List Int))
  |0,_,_,_,_=>none
  |n23+1,y15,y16,y17,y18=>
    chk (decide (0≤p0)&&decide (p0.toNat<p2))<|
    (y18[p0.toNat]?).bind fun x25=>
    bif (decide (x25<(p3.length:Int))) then
     (rec_ (w64 (p0+1)) p1 p2 p3 p4 p5 p6 y15 y16 y17 y18).bind fun x29=>
     chk (decide (0≤p0)&&decide (p0.toNat<p2))<|
     (x29.2.2.2[p0.toNat]?).bind fun x31=>
     chk (decide (0≤p0)&&decide (p0.toNat<p2))<|
     (x29.2.2.2[p0.toNat]?).bind fun _=>
     Qc6 N p0 rec_ p1 p2 p3 p4 p5 p6 n23 x29.1 x29.2.1 x29.2.2.1 (x29.2.2.2.set p0.toNat (w64 (x31+1)))
    else
     some (y15,y16,y17,y18)
def Qfi (N:Nat) (rec_:Int→Int→Nat→(List GRow)→(List Qad)→(List Int)→(List (List Qaa))→Int→(List Int)→Bool→(List Int)→Option (Int×(List Int)×Bool×(List Int))) (p0 p1:Int) (p2:Nat) (p3:List GRow) (p4:List Qad) (p5:List Int) (p6:List (List Qaa)) (p7:Int) (p8:List Int) (p9:Bool) (p10:List Int):Option (Int×(List Int)×Bool×(List Int)):=
  bif (p0==p1) then
   (Qhl N p3 p4 p2 p5 p6 p7 p8 p9 p10).bind fun x11=>
   some (x11.1,x11.2.1,x11.2.2,p10)
  else
   chk (decide (0≤p0)&&decide (p0.toNat<p2))<|
   (p10[p0.toNat]?).bind fun _=>
   Qc6 N p0 rec_ p1 p2 p3 p4 p5 p6 N p7 p8 p9 (p10.set p0.toNat 0)
def Qer:Nat→Int→Int→Nat→(List GRow)→(List Qad)→(List Int)→(List (List Qaa))→Int→(List Int)→Bool→(List Int)→Option (Int×(List Int)×Bool×(List Int))
  |0,_,_,_,_,_,_,_,_,_,_,_=>none
  |N+1,p0,p1,p2,p3,p4,p5,p6,p7,p8,p9,p10=>Qfi N (Qer N) p0 p1 p2 p3 p4 p5 p6 p7 p8 p9 p10
abbrev Qmc:AV:=.fn (.func 58) [] [(.ref 3 2 (0) 0),(.ref 2 1 (0) 0),(.ref 5 1 (0) 0),(.ref 6 1 (0) 0),(.ref 7 1 (0) 0),(.ref 8 1 (0) 0),(.ref 9 1 (0) 0)]
abbrev Qks (p2:Nat):Slot:=.own 1 [[(.own 10 1 (0) p2)]]
abbrev Qkt (p3:List GRow) (p4:List Qad):Slot:=.own 2 [[(.dat 5 (p3.map Qam)),(.dat 7 (p4.map Qah))]]
abbrev Qji:AV:=.fn (.func 63) [] [(.ref 0 1 (0) 0),(.ref 1 1 (0) 0),(.ref 2 1 (0) 0),(.ref 3 2 (0) 0),(.ref 4 1 (0) 0)]
abbrev Qkr (p5:List Int):Slot:=.own 1 [[(.dat 1 (p5.map Qab))]]
abbrev Qkq (p6:List (List Qaa)):AV:=.dat 1 (p6.map Qag)
abbrev Q0u (p8:List Int):Slot:=.own 1 [[(.dat 1 (p8.map Qab))]]
def Quc (y16:List Int):Slot:=.own 1 [[(.dat 1 (y16.map Qab))]]
def Qrh (x29:(Int×(List Int)×Bool×(List Int))):Slot:=.own 1 (x29.2.2.2.map Qab)
theorem Qp6:∀(N:Nat) (p0 p1:Int) (p2:Nat) (p3:List GRow) (p4:List Qad) (p5:List Int) (p6:List (List Qaa)) (p7:Int) (p8:List Int) (p9:Bool) (p10:List Int) (r:(Int×(List Int)×Bool×(List Int))) (_:Qer N p0 p1 p2 p3 p4 p5 p6 p7 p8 p9 p10=some r),Spec prog 63 [(I p0),(.ref 0 1 (0) 0),(.ref 1 1 (0) 0),(.ref 2 1 (0) 0),(.ref 3 2 (0) 0),(.ref 4 1 (0) 0)] [(.own 1 [[(I p1)]]),(.own 1 [[Qmc]]),(Qks p2),(Qkt p3 p4),(.own 1 [[Qji]]),(Qkr p5),(.own 1 [[(Qkq p6)]]),(.own 1 [[(I p7)]]),(Q0u p8),(.own 1 [[(B p9)]]),(.own 1 (p10.map Qab))] (.tup []) [(.own 1 [[(I p1)]]),(.own 1 [[Qmc]]),(Qks p2),(Qkt p3 p4),(.own 1 [[Qji]]),(Qkr p5),(.own 1 [[(Qkq p6)]]),(.own 1 [[(I r.1)]]),(.own 1 [[(.dat 1 (r.2.1.map Qab))]]),(.own 1 [[(B r.2.2.1)]]),(.own 1 (r.2.2.2.map Qab))]:=by
  intro N
  induction N with
  |zero=>intro p0 p1 p2 p3 p4 p5 p6 p7 p8 p9 p10 r h;exact nomatch (show(none:Option (Int×(List Int)×Bool×(List Int)))=some r from h)
  |succ N ihX=>
  intro p0 p1 p2 p3 p4 p5 p6 p7 p8 p9 p10 r h
  replace h:Qfi N (Qer N) p0 p1 p2 p3 p4 p5 p6 p7 p8 p9 p10=some r:=h
  refine sF func63 11 fun _ _ _ hq hd0=>?_
  unfold Qfi at h
  refine wsq<|wxz ?_
  refine bfe h (fun hc9 h=>?_) fun hc9 h=>?_
  ·refine wft hc9 ?_
   obtain⟨x11,hf10,h⟩:=bno h
   refine wx tbk [(1,⟨_,_,_,_,false⟩)] ⟨Qct (first:=[]) (cap:=[.ref 3 2 0 0,.ref 2 1 0 0,.ref 5 1 0 0,.ref 6 1 0 0,.ref 7 1 0 0,.ref 8 1 0 0,.ref 9 1 0 0]) (vs:=[]) (σr:=[(Qkt p3 p4),(Qks p2),(Qkr p5),(.own 1 [[(Qkq p6)]]),(.own 1 [[I p7]]),(Q0u p8),(.own 1 [[B p9]]),(.own 1 (p10.map Qab))]) (σr':=[(Qkt p3 p4),(Qks p2),(Qkr p5),(.own 1 [[(Qkq p6)]]),(.own 1 [[I x11.1]]),(.own 1 [[(.dat 1 (x11.2.1.map Qab))]]),(.own 1 [[B x11.2.2]]),(.own 1 (p10.map Qab))]) (res':=(.tup [])) [3,2,5,6,7,8,9,10] rfl Zgm (Qp7 N p3 p4 p2 p5 p6 p7 p8 p9 p10 _ hf10) rfl (Qbi (rnc (Qas rfl) (rnc (Qas rfl) (rnc (Qas rfl) (rnc (Qas rfl) (rnc (Qas rfl) (rnc (Qas rfl) (rnc (Qas rfl) rn0)))))))) (slc (Qai (rnc (pld Qap) (rnc (pld Qae) rn0))) (slc (Qai (rnc (Qcq rfl) rn0)) (slc (Qai (rnc (pld Qaj) rn0)) (slc (Qai (rnc (pld Qan) rn0)) (slc (Qai (rnc (.plain _ nll) rn0)) (slc (Qai (rnc (pld Qaj) rn0)) (slc (Qai (rnc (.plain _ nll) rn0)) (slc (Qa2 Qaj) Qao)))))))) (slc (Qai (rnc (pld Qap) (rnc (pld Qae) rn0))) (slc (Qai (rnc (Qcr rfl) rn0)) (slc (Qai (rnc (pld Qaj) rn0)) (slc (Qai (rnc (pld Qan) rn0)) (slc (Qai (rnc (.plain _ nll) rn0)) (slc (Qai (rnc (pld Qaj) rn0)) (slc (Qai (rnc (.plain _ nll) rn0)) (slc (Qa2 Qaj) Qao)))))))) (.plain _ (NLt.tup _ nl0)) rfl rfl rfl,tv⟩ ?_
   refine wmr (mto (n:=33) (l':=[]) (own':=[(.own 1 [[I p1]]),(.own 1 [[Qmc]]),(Qks p2),(Qkt p3 p4),(.own 1 [[Qji]]),(Qkr p5),(.own 1 [[(Qkq p6)]]),(.own 1 [[I x11.1]]),(.own 1 [[(.dat 1 (x11.2.1.map Qab))]]),(.own 1 [[B x11.2.2]]),(.own 1 (p10.map Qab))]) [] [0,1,2,3,4,5,6,7,8,9,10] [(.own 1 [[I p1]]),(.own 1 [[Qmc]]),(Qks p2),(Qkt p3 p4),(.own 1 [[Qji]]),(Qkr p5),(.own 1 [[(Qkq p6)]]),(.own 1 [[I x11.1]]),(.own 1 [[(.dat 1 (x11.2.1.map Qab))]]),(.own 1 [[B x11.2.2]]),(.own 1 (p10.map Qab))] hq pn (qb (lc rwl ln) (qb (lc (.rn (Qa4 rn0 (rnc (rqr rfl) (rnc (rqr rfl) (rnc (rqr rfl) (rnc (rqr rfl) (rnc (rqr rfl) (rnc (rqr rfl) (rnc (rqr rfl) rn0))))))))) ln) (qb (lc (.rn (Qay rfl)) ln) (qb (lc (rnd Qap) (lc (rnd Qae) ln)) (qb (lc (.rn (Qa4 rn0 (rnc (rqr rfl) (rnc (rqr rfl) (rnc (rqr rfl) (rnc (rqr rfl) (rnc (rqr rfl) rn0))))))) ln) (qb (lc (rnd Qaj) ln) (qb (lc (rnd Qan) ln) (qb (lc rwl ln) (qb (lc (rnd Qaj) ln) (qb (lc rwl ln) (qc (spr Qaj) qn))))))))))))<|Qaf<|Qal ?_
   obtain rfl:=osi h
   exact⟨_,Mor.rfl,fio [] tv⟩
  ·refine wfn hc9<|Qaq<|thn ?_
   obtain⟨hi12,h⟩:=cko h
   obtain⟨hi12a,hi12b⟩:=Qd0 hi12
   obtain⟨x13,hg14,h⟩:=bno h
   refine wx tbk [(2,rb [(.tmp 12,(.own 10 1 (0) p2)),(.tmp 13,I p0)] [(10,(.own 1 (p10.map Qab)))] (.ref 10 1 p0.toNat 0)),(3,⟨[(.tmp 14,(.ref 10 1 p0.toNat 0)),ci 0],[(10,(.own 1 (p10.map Qab)))],.any,[(10,(.own 1 ((p10.set p0.toNat 0:List Int).map Qab)))],false⟩)] ⟨aio rfl underlying29 ti3 (odt hi12a) (odt hi12b) (Nat.zero_add _),ast rfl ti3 (by rfl) (mgt Qab hg14) (nle rfl) (Qf5 Qab rfl),tv⟩<|Qar ?_
   refine wmr (mto (n:=33) (l':=[(0,I p0),(3,.ref 2 1 0 0),(4,.ref 3 2 0 0),(5,.ref 4 1 0 0)]) (own':=[(.own 1 [[I p1]]),(.own 1 [[Qmc]]),(Qks p2),(Qkt p3 p4),(.own 1 [[Qji]]),(Qkr p5),(.own 1 [[(Qkq p6)]]),(.own 1 [[I p7]]),(Q0u p8),(.own 1 [[B p9]]),(.own 1 (((p10.set p0.toNat 0):List Int).map Qab))]) [(0,I p0),(3,.ref 2 1 0 0),(4,.ref 3 2 0 0),(5,.ref 4 1 0 0)] [0,1,2,3,4,5,6,7,8,9,10] [(.own 1 [[I p1]]),(.own 1 [[Qmc]]),(Qks p2),(Qkt p3 p4),(.own 1 [[Qji]]),(Qkr p5),(.own 1 [[(Qkq p6)]]),(.own 1 [[I p7]]),(Q0u p8),(.own 1 [[B p9]]),(.own 1 ((p10.set p0.toNat 0:List Int).map Qab))] hq (pw (prr (prr (prr pn)))) (qb (lc rwl ln) (qb (lc (.rn (Qa4 rn0 (rnc (rqr rfl) (rnc (rqr rfl) (rnc (rqr rfl) (rnc (rqr rfl) (rnc (rqr rfl) (rnc (rqr rfl) (rnc (rqr rfl) rn0))))))))) ln) (qb (lc (.rn (Qay rfl)) ln) (qb (lc (rnd Qap) (lc (rnd Qae) ln)) (qb (lc (.rn (Qa4 rn0 (rnc (rqr rfl) (rnc (rqr rfl) (rnc (rqr rfl) (rnc (rqr rfl) (rnc (rqr rfl) rn0))))))) ln) (qb (lc (rnd Qaj) ln) (qb (lc (rnd Qan) ln) (qb (lc rwl ln) (qb (lc (rnd Qaj) ln) (qb (lc rwl ln) (qc (spr Qaj) qn)))))))))))) ?_
   refine Qcn (τ:=Int×(List Int)×Bool×(List Int)) (fun n t=>Qc6 N p0 (Qer N) p1 p2 p3 p4 p5 p6 n t.1 t.2.1 t.2.2.1 t.2.2.2=some r) (fun ⟨y15,y16,y17,y18⟩=>⟨mk 33 [(0,I p0),(3,.ref 2 1 0 0),(4,.ref 3 2 0 0),(5,.ref 4 1 0 0)],[(.own 1 [[I p1]]),(.own 1 [[Qmc]]),(Qks p2),(Qkt p3 p4),(.own 1 [[Qji]]),(Qkr p5),(.own 1 [[(Qkq p6)]]),(.own 1 [[I y15]]),(Quc y16),(.own 1 [[B y17]]),(.own 1 (y18.map Qab))]⟩) (fun t h=>by rw[Qc6] at h;cases h) (fun n23 ih t h=>?_) N (p7,p8,p9,p10.set p0.toNat 0) h
   obtain⟨y15,y16,y17,y18⟩:=t
   rw[Qc6] at h
   skip
   refine wsq ?_
   obtain⟨hi24,h⟩:=cko h
   obtain⟨hi24a,hi24b⟩:=Qd0 hi24
   obtain⟨x25,hg26,h⟩:=bno h
   refine wxd tbk [(2,rb [(.tmp 15,(.own 10 1 (0) p2)),(.tmp 16,I p0)] [(10,(.own 1 (y18.map Qab)))] (.ref 10 1 p0.toNat 0)),(3,rb [(.tmp 17,(.ref 10 1 p0.toNat 0))] [(10,(.own 1 (y18.map Qab)))] (I x25)),(6,rp _ _)] ⟨aio rfl underlying29 ti3 (odt hi24a) (odt hi24b) (Nat.zero_add _),ald rfl ti3 (by decide) (mgt Qab hg26) (nle rfl) rfl,alq 5 Qam p3 underlying36,tv⟩ ?_
   refine bfe h (fun hc27 h=>?_) fun hc27 h=>?_
   ·refine wft hc27<|Qaq<|thn<|wsq<|Qar ?_
    obtain⟨x29,hf28,h⟩:=bno h
    refine wx1 tbk [(3,⟨_,_,_,_,false⟩)] ⟨Qct (first:=[]) (cap:=[.ref 0 1 0 0,.ref 1 1 0 0,.ref 2 1 0 0,.ref 3 2 0 0,.ref 4 1 0 0]) (vs:=[(I (w64 (p0+1)))]) (σr:=[(.own 1 [[I p1]]),(.own 1 [[Qmc]]),(Qks p2),(Qkt p3 p4),(.own 1 [[Qji]]),(Qkr p5),(.own 1 [[(Qkq p6)]]),(.own 1 [[I y15]]),(Quc y16),(.own 1 [[B y17]]),(.own 1 (y18.map Qab))]) (σr':=[(.own 1 [[I p1]]),(.own 1 [[Qmc]]),(Qks p2),(Qkt p3 p4),(.own 1 [[Qji]]),(Qkr p5),(.own 1 [[(Qkq p6)]]),(.own 1 [[I x29.1]]),(.own 1 [[(.dat 1 (x29.2.1.map Qab))]]),(.own 1 [[B x29.2.2.1]]),(Qrh x29)]) (res':=(.tup [])) [0,1,2,3,4,5,6,7,8,9,10] rfl Q79 (ihX (w64 (p0+1)) p1 p2 p3 p4 p5 p6 y15 y16 y17 y18 _ hf28) rfl (Qbi (rnc (.plain _ nll) (rnc (Qas rfl) (rnc (Qas rfl) (rnc (Qas rfl) (rnc (Qas rfl) (rnc (Qas rfl) rn0))))))) (slc (Qai (rnc (.plain _ nll) rn0)) (slc (Qai (rnc (Qa4 rn0 (rnc (Qas rfl) (rnc (Qas rfl) (rnc (Qas rfl) (rnc (Qas rfl) (rnc (Qas rfl) (rnc (Qas rfl) (rnc (Qas rfl) rn0)))))))) rn0)) (slc (Qai (rnc (Qcq rfl) rn0)) (slc (Qai (rnc (pld Qap) (rnc (pld Qae) rn0))) (slc (Qai (rnc (Qa4 rn0 (rnc (Qas rfl) (rnc (Qas rfl) (rnc (Qas rfl) (rnc (Qas rfl) (rnc (Qas rfl) rn0)))))) rn0)) (slc (Qai (rnc (pld Qaj) rn0)) (slc (Qai (rnc (pld Qan) rn0)) (slc (Qai (rnc (.plain _ nll) rn0)) (slc (Qai (rnc (pld Qaj) rn0)) (slc (Qai (rnc (.plain _ nll) rn0)) (slc (Qa2 Qaj) Qao))))))))))) (slc (Qai (rnc (.plain _ nll) rn0)) (slc (Qai (rnc (Qa4 rn0 (rnc (Qa3 rfl) (rnc (Qa3 rfl) (rnc (Qa3 rfl) (rnc (Qa3 rfl) (rnc (Qa3 rfl) (rnc (Qa3 rfl) (rnc (Qa3 rfl) rn0)))))))) rn0)) (slc (Qai (rnc (Qcr rfl) rn0)) (slc (Qai (rnc (pld Qap) (rnc (pld Qae) rn0))) (slc (Qai (rnc (Qa4 rn0 (rnc (Qa3 rfl) (rnc (Qa3 rfl) (rnc (Qa3 rfl) (rnc (Qa3 rfl) (rnc (Qa3 rfl) rn0)))))) rn0)) (slc (Qai (rnc (pld Qaj) rn0)) (slc (Qai (rnc (pld Qan) rn0)) (slc (Qai (rnc (.plain _ nll) rn0)) (slc (Qai (rnc (pld Qaj) rn0)) (slc (Qai (rnc (.plain _ nll) rn0)) (slc (Qa2 Qaj) Qao))))))))))) (.plain _ (NLt.tup _ nl0)) rfl rfl rfl,tv⟩<|bln<|thn ?_
    obtain⟨hi30,h⟩:=cko h
    obtain⟨hi30a,hi30b⟩:=Qd0 hi30
    obtain⟨x31,hg32,h⟩:=bno h
    obtain⟨hi33,h⟩:=cko h
    obtain⟨hi33a,hi33b⟩:=Qd0 hi33
    obtain⟨x34,hg35,h⟩:=bno h
    refine wx1 tbk [(2,rb [(.tmp 23,(.own 10 1 (0) p2)),(.tmp 24,I p0)] [(10,(Qrh x29))] (.ref 10 1 p0.toNat 0)),(3,rb [(.tmp 25,(.ref 10 1 p0.toNat 0))] [(10,(Qrh x29))] (I x31)),(5,rb [(.tmp 23,(.own 10 1 (0) p2)),(.tmp 24,I p0)] [(10,(Qrh x29))] (.ref 10 1 p0.toNat 0)),(6,⟨[(.tmp 28,(.ref 10 1 p0.toNat 0)),(.tmp 27,(I (w64 (x31+1))))],[(10,(Qrh x29))],.any,[(10,(.own 1 ((x29.2.2.2.set p0.toNat (w64 (x31+1)):List Int).map Qab)))],false⟩)] ⟨aio rfl underlying29 ti3 (odt hi30a) (odt hi30b) (Nat.zero_add _),ald rfl ti3 (by decide) (mgt Qab hg32) (nle rfl) rfl,aio rfl underlying29 ti3 (odt hi33a) (odt hi33b) (Nat.zero_add _),ast rfl ti3 (by rfl) (mgt Qab hg35) (nle rfl) (Qf5 Qab rfl),tv⟩<|thn ?_
    exact arm (mto (n:=33) [(0,I p0),(3,.ref 2 1 0 0),(4,.ref 3 2 0 0),(5,.ref 4 1 0 0)] [0,1,2,3,4,5,6,7,8,9,10] [(.own 1 [[I p1]]),(.own 1 [[Qmc]]),(Qks p2),(Qkt p3 p4),(.own 1 [[Qji]]),(Qkr p5),(.own 1 [[(Qkq p6)]]),(.own 1 [[I x29.1]]),(.own 1 [[(.dat 1 (x29.2.1.map Qab))]]),(.own 1 [[B x29.2.2.1]]),(.own 1 ((x29.2.2.2.set p0.toNat (w64 (x31+1)):List Int).map Qab))] hq (pw (prr (prr (prr pn)))) (qb (lc rwl ln) (qb (lc (.rn (Qa4 rn0 (rnc (rqr rfl) (rnc (rqr rfl) (rnc (rqr rfl) (rnc (rqr rfl) (rnc (rqr rfl) (rnc (rqr rfl) (rnc (rqr rfl) rn0))))))))) ln) (qb (lc (.rn (Qay rfl)) ln) (qb (lc (rnd Qap) (lc (rnd Qae) ln)) (qb (lc (.rn (Qa4 rn0 (rnc (rqr rfl) (rnc (rqr rfl) (rnc (rqr rfl) (rnc (rqr rfl) (rnc (rqr rfl) rn0))))))) ln) (qb (lc (rnd Qaj) ln) (qb (lc (rnd Qan) ln) (qb (lc rwl ln) (qb (lc (rnd Qaj) ln) (qb (lc rwl ln) (qc (spr Qaj) qn)))))))))))) (ih (x29.1,x29.2.1,x29.2.2.1,x29.2.2.2.set p0.toNat (w64 (x31+1))) h)
   ·refine wfn hc27<|Qbl<|Qaz<|Qaz<|Qbk rfl ?_
    obtain rfl:=osi h
    exact⟨_,(mto (n:=33) (l':=[]) (own':=[(.own 1 [[I p1]]),(.own 1 [[Qmc]]),(Qks p2),(Qkt p3 p4),(.own 1 [[Qji]]),(Qkr p5),(.own 1 [[(Qkq p6)]]),(.own 1 [[I y15]]),(Quc y16),(.own 1 [[B y17]]),(.own 1 (y18.map Qab))]) [] [0,1,2,3,4,5,6,7,8,9,10] [(.own 1 [[I p1]]),(.own 1 [[Qmc]]),(Qks p2),(Qkt p3 p4),(.own 1 [[Qji]]),(Qkr p5),(.own 1 [[(Qkq p6)]]),(.own 1 [[I y15]]),(Quc y16),(.own 1 [[B y17]]),(.own 1 (y18.map Qab))] hq pn (qb (lc rwl ln) (qb (lc (.rn (Qa4 rn0 (rnc (rqr rfl) (rnc (rqr rfl) (rnc (rqr rfl) (rnc (rqr rfl) (rnc (rqr rfl) (rnc (rqr rfl) (rnc (rqr rfl) rn0))))))))) ln) (qb (lc (.rn (Qay rfl)) ln) (qb (lc (rnd Qap) (lc (rnd Qae) ln)) (qb (lc (.rn (Qa4 rn0 (rnc (rqr rfl) (rnc (rqr rfl) (rnc (rqr rfl) (rnc (rqr rfl) (rnc (rqr rfl) rn0))))))) ln) (qb (lc (rnd Qaj) ln) (qb (lc (rnd Qan) ln) (qb (lc rwl ln) (qb (lc (rnd Qaj) ln) (qb (lc rwl ln) (qc (spr Qaj) qn)))))))))))),fio [] tv⟩
def Qjy (N:Nat) (p0:GNet) (p1:List Int) (p2:List (List Qaa)):Option ((List Int)×Int×Int):=
  (Qim N p0 p1 p2).bind fun x2=>
  bif (x2 != 0) then
   some ([],0,x2)
  else
   (Qfz N p0 4).bind fun x5=>
   bif (decide ((x5.length:Int)>3)) then
    some ([],0,3)
   else
    chk (decide (0≤(x5.length:Int))&&decide (8*(x5.length:Int)≤281474976710656)&&decide ((x5.length:Int)≤9223372036854775807))<|
    (Qer N 0 (x5.length:Int) ((x5.length:Int).toNat) p0.Table p0.Elements p1 p2 (-1) ([]) false (List.replicate (x5.length:Int).toNat 0)).bind fun x9=>
    bif (!x9.2.2.1) then
     some ([],0,7)
    else
     some (x9.2.1,x9.1,0)
def Zdd (p2:List (List Qaa)):AV:=.dat 1 (p2.map Qag)
def Qtd:AV:=.dat 1 (([]:List Int).map Qab)
def Zdb (x5:List Int):Slot:=.own 1 ((List.replicate (x5.length:Int).toNat 0:List Int).map Qab)
def Qym:AV:=.fn (.func 58) [] [(.ref 0 2 (0) 0),(.ref 8 1 (0) 0),(.ref 1 1 (0) 0),(.ref 2 1 (0) 0),(.ref 5 1 (0) 0),(.ref 4 1 (0) 0),(.ref 6 1 (0) 0)]
def Qyl:AV:=.fn (.func 63) [] [(.ref 3 1 (0) 0),(.ref 9 1 (0) 0),(.ref 8 1 (0) 0),(.ref 0 2 (0) 0),(.ref 10 1 (0) 0)]
def Zdc (x5:List Int):Slot:=.own 1 [[(I ((x5.length:Int)))]]
def Zdf (p0:GNet):Slot:=.own 2 [[(.dat 5 (p0.Table.map Qam)),(.dat 7 (p0.Elements.map Qah))]]
def Zde (p1:List Int):Slot:=.own 1 [[(.dat 1 (p1.map Qab))]]
theorem Quw (N:Nat) (p0:GNet) (p1:List Int) (p2:List (List Qaa)) (r:((List Int)×Int×Int)) (h:Qjy N p0 p1 p2=some r):Spec prog 23 [(.agg (Qk3 p0)),(.dat 1 (p1.map Qab)),(.dat 1 (p2.map Qag))] [] (.tup [(.dat 1 (r.1.map Qab)),(I r.2.1),(I r.2.2)]) []:=by
  refine sA func23 0 fun _ _ _ hq hd0=>?_
  unfold Qjy at h
  refine wxz<|wsq ?_
  obtain⟨x2,hf1,h⟩:=bno h
  refine wx tbk [(3,rp _ _)] ⟨apw Q8d (Qnv N p0 p1 p2 _ hf1),tv⟩<|wxz ?_
  refine bfe h (fun hc3 h=>?_) fun hc3 h=>?_
  ·refine wft hc3<|wxz<|Qaf<|Qal ?_
   obtain rfl:=osi h
   exact fie [Qtd,I 0,I x2] ⟨Qcs (v:=nilS) rot Less.nil,rot,rot,tv⟩
  ·refine wfn hc3<|Qaq<|thn ?_
   obtain⟨x5,hf4,h⟩:=bno h
   refine wx tbk [(1,rp _ _),(2,rp _ _)] ⟨apw Qsj (Qg4 N p0 4 _ hf4),alq 1 Qab x5 underlying29,tv⟩<|wsq<|wxz ?_
   refine bfe h (fun hc6 h=>?_) fun hc6 h=>?_
   ·refine wft hc6<|wxz<|Qaf<|Qal ?_
    obtain rfl:=osi h
    exact fie [Qtd,I 0,I 3] ⟨Qcs (v:=nilS) rot Less.nil,rot,rot,tv⟩
   ·refine wfn hc6<|Qaq<|thn ?_
    refine wx tbk [(0,⟨[],[(4,.unused)],.ref 4 1 0 0,[(4,.own 1 [[Qtd]])],false⟩)] ⟨Qof (SImp.box (l:=[nilS]) ⟨Less.nil,tv⟩) (Ql7 rfl tz29 rfl),tv⟩<|wxz ?_
    obtain⟨hm7,h⟩:=cko h
    refine wx tbk [(1,⟨[(.tmp 29,(I ((x5.length:Int)))),(.tmp 29,(I ((x5.length:Int))))],[(7,.unused)],(.own 7 1 (0) ((x5.length:Int).toNat)),[(7,(Zdb x5))],false⟩),(2,⟨[],[(8,.unused)],.ref 8 1 0 0,[(8,.own 1 [[Qtd]])],false⟩)] ⟨Qnh rfl underlying29 te3 tz3 rfl (Qz7 hm7) rfl (Qz6 hm7) (Q2p hm7) (Qyz Qab rfl),Qof (SImp.box (l:=[nilS]) ⟨Less.nil,tv⟩) (Ql7 rfl tz29 rfl),tv⟩ ?_
    refine wx tbk [(0,rp [(.tmp 3,.ref 0 2 0 0),(.tmp 14,.ref 8 1 0 0),(.tmp 4,.ref 1 1 0 0),(.tmp 5,.ref 2 1 0 0),(.tmp 12,.ref 5 1 0 0),(.tmp 11,.ref 4 1 0 0),(.tmp 13,.ref 6 1 0 0)] Qym)] ⟨Qed (fs:=[]) (cs:=[.ref 0 2 0 0,.ref 8 1 0 0,.ref 1 1 0 0,.ref 2 1 0 0,.ref 5 1 0 0,.ref 4 1 0 0,.ref 6 1 0 0]) rfl rfl rfl rfl,tv⟩<|wxz ?_
    refine wx tbk [(0,rp [(.tmp 10,.ref 3 1 0 0),(.tmp 15,.ref 9 1 0 0),(.tmp 14,.ref 8 1 0 0),(.tmp 3,.ref 0 2 0 0),(.tmp 16,.ref 10 1 0 0)] Qyl)] ⟨Qed (fs:=[]) (cs:=[.ref 3 1 0 0,.ref 9 1 0 0,.ref 8 1 0 0,.ref 0 2 0 0,.ref 10 1 0 0]) rfl rfl rfl rfl,tv⟩ ?_
    obtain⟨x9,hf8,h⟩:=bno h
    refine wx tbk [(1,⟨_,_,_,_,false⟩)] ⟨Qct (first:=[]) (cap:=[.ref 3 1 0 0,.ref 9 1 0 0,.ref 8 1 0 0,.ref 0 2 0 0,.ref 10 1 0 0]) (vs:=[I 0]) (σr:=[(Zdc x5),(.own 1 [[Qym]]),(.own 1 [[(.own 7 1 (0) ((x5.length:Int).toNat))]]),(Zdf p0),(.own 1 [[Qyl]]),(Zde p1),(.own 1 [[(Zdd p2)]]),(.own 1 [[(I ((-1)))]]),(.own 1 [[Qtd]]),(.own 1 [[B false]]),(Zdb x5)]) (σr':=[(Zdc x5),(.own 1 [[Qym]]),(.own 1 [[(.own 7 1 (0) (((x5.length:Int).toNat)))]]),(Zdf p0),(.own 1 [[Qyl]]),(Zde p1),(.own 1 [[(Zdd p2)]]),(.own 1 [[I x9.1]]),(.own 1 [[(.dat 1 (x9.2.1.map Qab))]]),(.own 1 [[B x9.2.2.1]]),(.own 1 (x9.2.2.2.map Qab))]) (res':=(.tup [])) [3,9,8,0,10,1,2,5,4,6,7] rfl Q79 (Qp6 N 0 (x5.length:Int) ((x5.length:Int).toNat) p0.Table p0.Elements p1 p2 (-1) ([]) false (List.replicate (x5.length:Int).toNat 0) _ hf8) rfl (Qbi (rnc (.plain _ nll) (rnc (Qas rfl) (rnc (Qas rfl) (rnc (Qas rfl) (rnc (Qas rfl) (rnc (Qas rfl) rn0))))))) (slc (Qai (rnc (.plain _ nll) rn0)) (slc (Qai (rnc (Qa4 rn0 (rnc (Qas rfl) (rnc (Qas rfl) (rnc (Qas rfl) (rnc (Qas rfl) (rnc (Qas rfl) (rnc (Qas rfl) (rnc (Qas rfl) rn0)))))))) rn0)) (slc (Qai (rnc (Qcq rfl) rn0)) (slc (Qai (rnc (pld Qap) (rnc (pld Qae) rn0))) (slc (Qai (rnc (Qa4 rn0 (rnc (Qas rfl) (rnc (Qas rfl) (rnc (Qas rfl) (rnc (Qas rfl) (rnc (Qas rfl) rn0)))))) rn0)) (slc (Qai (rnc (pld Qaj) rn0)) (slc (Qai (rnc (pld Qan) rn0)) (slc (Qai (rnc (.plain _ nll) rn0)) (slc (Qai (rnc (pld Qaj) rn0)) (slc (Qai (rnc (.plain _ nll) rn0)) (slc (Qa2 Qaj) Qao))))))))))) (slc (Qai (rnc (.plain _ nll) rn0)) (slc (Qai (rnc (Qa4 rn0 (rnc (Qa3 rfl) (rnc (Qa3 rfl) (rnc (Qa3 rfl) (rnc (Qa3 rfl) (rnc (Qa3 rfl) (rnc (Qa3 rfl) (rnc (Qa3 rfl) rn0)))))))) rn0)) (slc (Qai (rnc (Qcr rfl) rn0)) (slc (Qai (rnc (pld Qap) (rnc (pld Qae) rn0))) (slc (Qai (rnc (Qa4 rn0 (rnc (Qa3 rfl) (rnc (Qa3 rfl) (rnc (Qa3 rfl) (rnc (Qa3 rfl) (rnc (Qa3 rfl) rn0)))))) rn0)) (slc (Qai (rnc (pld Qaj) rn0)) (slc (Qai (rnc (pld Qan) rn0)) (slc (Qai (rnc (.plain _ nll) rn0)) (slc (Qai (rnc (pld Qaj) rn0)) (slc (Qai (rnc (.plain _ nll) rn0)) (slc (Qa2 Qaj) Qao))))))))))) (.plain _ (NLt.tup _ nl0)) rfl rfl rfl,tv⟩<|wsq<|wxz ?_
    refine bfe h (fun hc10 h=>?_) fun hc10 h=>?_
    ·refine wft hc10<|wxz<|Qaf<|Qal ?_
     obtain rfl:=osi h
     exact fie [Qtd,I 0,I 7] ⟨Qcs (v:=nilS) rot Less.nil,rot,rot,tv⟩
    ·refine wfn hc10<|Qaq<|thn<|wxe<|Qaf ?_
     obtain rfl:=osi h
     exact fie [(.dat 1 (x9.2.1.map Qab)),I x9.1,I 0] ⟨rot,rot,rot,tv⟩
end
end Go.Proofs.YtflmombnmnblnaaGreat
