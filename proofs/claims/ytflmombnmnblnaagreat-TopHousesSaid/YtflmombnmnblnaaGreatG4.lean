/-
  The texts X3, X4, X5, PB6, PV6, PN6, POpn, PE6, PSa6 of the proof, one behind the other. No conditions.
-/
import Derived.Test.YtflmombnmnblnaaGreatG3
namespace Go.Proofs.YtflmombnmnblnaaGreat
open _root_.Go.Proofs.Tryz
open Go.RowKit
set_option maxRecDepth 100000
set_option maxHeartbeats 4000000
set_option synthInstance.maxSize 4000
set_option synthInstance.maxHeartbeats 400000
section
def Qc5 (_N:Nat) (p0:List Int):Option Unit:=
  chk (!p0.isEmpty)<|
  chk (!p0.isEmpty)<|
  chk (decide ((0+p0.length)*8≤140737488355328))<|
  some ()
def Zet:AV:=.acc 0 3 1 ((([]:List Int):List Int).map Qab)
theorem Qgl (N:Nat) (p0:List Int) (r:Unit) (h:Qc5 N p0=some r):Spec prog 81 [(.dat 1 (p0.map Qab))] [] (.own 0 1 (0) p0.length) [(.own 1 (p0.map Qab))]:=by
  refine sF func81 1 fun _ _ _ hq hd0=>?_
  unfold Qc5 at h
  refine wxz<|wsq ?_
  obtain⟨hz1,h⟩:=cko h
  refine wx tbk [(1,rp [(.tmp 3,(.dat 1 (p0.map Qab))),((.const (.slice none 0 0)),nilS)] (B false))] ⟨Qxw rfl underlying29 rfl (Qkr hz1),tv⟩<|wfa<|Qam<|thn ?_
  obtain⟨ha3,h⟩:=cko h
  obtain⟨ha2,h⟩:=cko h
  refine wx tbk [(0,⟨[],[(0,.unused)],Zet,[(0,.tok)],false⟩),(2,⟨[(.tmp 5,Zet),(.tmp 6,(.dat 1 (p0.map Qab)))],[(0,.tok),(1,.unused)],(.own 1 1 (0) p0.length),[(0,.dead),(1,(.own 1 (p0.map Qab)))],false⟩)] ⟨Qn3 rfl underlying29 ti3 tz3,Q1k rfl underlying29 te3 (Base.acc _ _) rfl rfl (Qkr ha3) (Qy6 Qab Q4q _) (Q9y Qab ha2) (Q9x Qab ha2 (by decide)) (List.length_map _),tv⟩ ?_
  refine wmr (mto (n:=8) (l':=[(2,(.own 0 1 (0) p0.length))]) (own':=[(.own 1 (p0.map Qab))]) [(2,(.own 1 1 (0) p0.length))] [1] [(.own 1 (p0.map Qab))] hq (pc (.rn (Qa2 rfl)) pn) (qc (spr Qaf) qn))<|Qad ?_
  obtain rfl:=osi h
  exact⟨_,Mor.rfl,fio [(.own 0 1 (0) p0.length)] ⟨rot,tv⟩⟩
theorem Qoh:DRet prog 82 [1,1]:=by
  refine Qo4 (t:=5) (args:=[.any,.any]) func82 rfl (fun _ _=>rfl) (by kernel_rfl) Zcl 0 (nle rfl) (fun X φ0 w0 hq=>?_)
  exact Qaq<|wx tbk [(0,rp [(.tmp 5,(.lit .nilIface)),(.const .nilIface,(.lit .nilIface))] (B true))] ⟨Qvt rfl underlying20,tv⟩<|wtr<|wxz1<|bln<|fend ⟨[],tv,rfl⟩ (.tup _ nl0)
def Qet (_N:Nat) (p0:Qaj) (p1:Int):Option Int:=
  chk (p0.Narrow != 0)<|
  (some (if (w64 (p0.Wide-(w64 (p1.tdiv p0.Narrow))))>0 then w64 (p0.Wide-(w64 (p1.tdiv p0.Narrow))) else 0)).bind fun x2=>
  some x2
theorem Qhm (N:Nat) (p0:Qaj) (p1 r:Int) (h:Qet N p0 p1=some r):Spec prog 84 [(.agg (Qan p0)),(I p1)] [] (I r) []:=by
  refine sA func84 0 fun _ _ _ hq hd0=>?_
  unfold Qet at h
  refine wxz ?_
  obtain⟨hz1,h⟩:=cko h
  obtain⟨x2,hl3,h⟩:=bno h
  refine wxd tbk [(5,rp [(.tmp 7,I p1),(.tmp 9,I p0.Narrow)] (I (w64 (p1.tdiv p0.Narrow)))),(7,rp [ci 0,(.tmp 11,(I (w64 (p0.Wide-(w64 (p1.tdiv p0.Narrow))))))] (I x2))] ⟨Qn1 rfl (Qoo hz1),Qgu hl3 (Qki rfl),tv⟩<|Qad ?_
  obtain rfl:=osi h
  exact fend ⟨[I x2],⟨rot,tv⟩,rfl⟩ nll
def Qfi (_N:Nat) (_p0:Int) (_p1:List GRow) (_p2:List Qaj) (_p3 _p4 _p5:Nat) (_p6:List Qaa) (_p7:Int) (_p8:List (List Qaa)) (_p9:List Qba) (_p10:List Int):Option Unit:=
  some ()
abbrev Q63 (p1:List GRow) (p2:List Qaj) (p3 p4 p5:Nat) (p6:List Qaa) (p7:Int):Slot:=.own 7 [[(.dat 5 (p1.map Qap)),(.dat 7 (p2.map Qan)),(.own 1 1 (0) p3),(.own 2 4 (0) p4),(.own 3 1 (0) p5),(.dat 4 (p6.map Qac)),(I p7)]]
abbrev Q2i:AV:=.fn (.func 156) [] [(.ref 4 1 (0) 0),(.ref 5 1 (0) 0)]
abbrev Zbp:Slot:=.own 1 [[(.ref 0 7 (0) 0)]]
theorem Qlx (N:Nat) (p0:Int) (p1:List GRow) (p2:List Qaj) (p3 p4 p5:Nat) (p6:List Qaa) (p7:Int) (p8:List (List Qaa)) (p9:List Qba) (p10:List Int) (r:Unit) (h:Qfi N p0 p1 p2 p3 p4 p5 p6 p7 p8 p9 p10=some r):Spec prog 128 [(.ref 0 7 (0) 0),(I p0)] [(Q63 p1 p2 p3 p4 p5 p6 p7),(.own 1 (p8.map Qag)),(.own 4 (p9.map Qau)),(.own 1 (p10.map Qab))] Q2i [(Q63 p1 p2 p3 p4 p5 p6 p7),(.own 1 (p8.map Qag)),(.own 4 (p9.map Qau)),(.own 1 (p10.map Qab)),Zbp,(.own 1 [[(I p0)]])]:=by
  refine sF func128 6 fun _ _ _ hq hd0=>?_
  unfold Qfi at h
  refine wxz<|wx tbk [(0,rp [(.tmp 2,.ref 4 1 0 0),(.tmp 3,.ref 5 1 0 0)] Q2i)] ⟨Qef (fs:=[]) (cs:=[.ref 4 1 0 0,.ref 5 1 0 0]) rfl rfl rfl rfl,tv⟩ ?_
  refine wmr (mto (n:=6) (l':=[(4,Q2i)]) (own':=[(Q63 p1 p2 p3 p4 p5 p6 p7),(.own 1 (p8.map Qag)),(.own 4 (p9.map Qau)),(.own 1 (p10.map Qab)),Zbp,(.own 1 [[I p0]])]) [(4,Q2i)] [0,1,2,3,4,5] [(Q63 p1 p2 p3 p4 p5 p6 p7),(.own 1 (p8.map Qag)),(.own 4 (p9.map Qau)),(.own 1 (p10.map Qab)),Zbp,(.own 1 [[I p0]])] hq (pc (.rn (Qbc rn0 (rnc (rqr rfl) (rnc (rqr rfl) rn0)))) pn) (qb (lc (rnd Qaw) (lc (rnd Qah) (lc (.rn (Qa2 rfl)) (lc (.rn (Qa2 rfl)) (lc (.rn (Qa2 rfl)) (lc (rnd Qai) (lc rwl ln))))))) (qc (spr Qar) (qc (spr Qa3) (qc (spr Qaf) (qb (lc (.rn (rqr rfl)) ln) (qb (lc rwl ln) qn)))))))<|Qad ?_
  obtain rfl:=osi h
  exact⟨_,Mor.rfl,fio [Q2i] ⟨rot,tv⟩⟩
def Qb6 (N:Nat) (p0:List Int) (k1:Unit→Option Int) (p1:Int):Nat→Int→Option Int
  |0,_=>none
  |n4+1,y2=>
    bif (decide (y2<(p0.length:Int))) then
     (getI p0 y2).bind fun x6=>
     bif (p1==x6) then
      some y2
     else
      Qb6 N p0 k1 p1 n4 (w64 (y2+1))
    else
     k1 ()
def Qd7 (N:Nat) (p0:List Int) (p1:Int):Option Int:=
  Qb7 (fun _=>
    some (-1)) fun k1:Unit→Option Int=>
  Qb6 N p0 k1 p1 N 0
theorem Qgw (N:Nat) (p0:List Int) (p1 r:Int) (h:Qd7 N p0 p1=some r):Spec prog 157 [(.dat 1 (p0.map Qab)),(I p1)] [] (I r) []:=by
  refine sA func157 0 fun _ _ _ hq hd0=>?_
  unfold Qd7 at h
  refine wxz ?_
  obtain⟨k1,hk_k1,h⟩:=jko h
  refine wjn (τ:=Unit) (fun t=>k1 t=some r) (fun _=>⟨mk 19 [],[]⟩) (fun t h=>?_) ?_
  ·subst hk_k1
   refine wxz<|Qad ?_
   obtain rfl:=osi h
   exact fend ⟨[(I ((-1)))],⟨rot,tv⟩,rfl⟩ nll
  ·skip
   refine wx tbk [(1,rp _ _)] ⟨alq 1 Qab p0 underlying29,tv⟩<|Qaq ?_
   refine wmr (mto (n:=19) (l':=[(0,(.dat 1 (p0.map Qab))),(1,I p1),(7,(I ((p0.length:Int)))),(8,I 0)]) (own':=[]) [(0,(.dat 1 (p0.map Qab))),(1,I p1),(7,(I ((p0.length:Int)))),(8,I 0)] [] [] hq (pc (rnd Qaf) (pw (pw (pw pn)))) qn) ?_
   refine Qcz (τ:=Int) (fun n t=>Qb6 N p0 k1 p1 n t=some r) (fun y2=>⟨mk 19 [(0,(.dat 1 (p0.map Qab))),(1,I p1),(7,(I ((p0.length:Int)))),(8,I y2)],[]⟩) (fun t h=>by rw[Qb6] at h;cases h) (fun n4 ih y2 h=>?_) N (0) h
   rw[Qb6] at h
   skip
   refine wxz<|wsq ?_
   refine bfe h (fun hc5 h=>?_) fun hc5 h=>?_
   ·refine wft hc5<|Qam<|thn<|wsq<|Qaq<|wxz ?_
    obtain⟨x6,hg7,h⟩:=bno h
    obtain⟨hi8,hj9⟩:=gsm hg7
    refine wx tbk [(3,rp _ _)] ⟨aiq underlying29 ti3 Qab hi8 hj9,tv⟩ ?_
    refine bfe h (fun hc10 h=>?_) fun hc10 h=>?_
    ·refine wft hc10<|wxz<|Qad<|Qal<|Qae<|Qae<|Qal<|Qae ?_
     obtain rfl:=osi h
     exact fend ⟨[I y2],⟨rot,tv⟩,rfl⟩ nll
    ·exact wfn hc10<|Qam<|bln<|thn<|wxz1<|thn<|arm (mto (n:=19) [(0,(.dat 1 (p0.map Qab))),(1,I p1),(7,(I ((p0.length:Int)))),(8,(I (w64 (y2+1))))] [] [] hq (pc (rnd Qaf) (pw (pw (pw pn)))) qn) (ih (w64 (y2+1)) h)
   ·exact wfn hc5<|Qb4<|Qa4<|Qa4<|Qb3 rfl<|thn<|⟨(),h,(mto (n:=19) [] [] [] hq pn qn)⟩
def Qcu (N:Nat) (x1:Qaj) (p2:List (List Qaa)):Nat→Int→Option (List Qaa)
  |0,_=>none
  |n19+1,y15=>
    bif (decide (y15<(x1.From.length:Int))) then
     (getI x1.From y15).bind fun x21=>
     (getI p2 x21.Element).bind fun x25=>
     (getI x25 x21.Outlet).bind fun x29=>
     yld x29<|
     Qcu N x1 p2 n19 (w64 (y15+1))
    else
     some ([])
def Qfh (N:Nat) (p0:List GRow) (p1:List Qaj) (p2:List (List Qaa)) (_p3:List Qba) (_p4:List Int) (p5:List Qaa) (_p6 p7:Int):Option (List Qaa):=
  (getI p1 p7).bind fun x1=>
  bif (x1.Kind==1) then
   (Qgx N (⟨p0,p1⟩:GNet) 1).bind fun x7=>
   (Qd7 N x7 p7).bind fun x9=>
   (getI p5 x9).bind fun x10=>
   yld x10<|
   some ([])
  else
   Qcu N x1 p2 N 0
abbrev Qfd (p1:List Qaj):AV:=.dat 7 (p1.map Qan)
abbrev Qez (p2:List (List Qaa)):AV:=.dat 1 (p2.map Qag)
abbrev Qfe (p3:List Qba):AV:=.dat 4 (p3.map Qau)
abbrev Qey (p5:List Qaa):AV:=.dat 4 (p5.map Qac)
def Q61 (p0:List GRow) (p1:List Qaj):AV:=.agg [(.dat 5 (p0.map Qap)),(Qfd p1)]
def Q60 (x10:Qaa):AV:=.agg [(I x10.Mass),(I x10.Heat),(I x10.Silica),(I x10.Gas)]
def Q6z (x1:Qaj):AV:=.dat 2 (x1.From.map Qfo)
def Qow (x21:Qkk):Slot:=.own 2 [[(I x21.Element),(I x21.Outlet)]]
def Qyd (x29:Qaa):AV:=.agg [(I x29.Mass),(I x29.Heat),(I x29.Silica),(I x29.Gas)]
theorem Qlw (N:Nat) (p0:List GRow) (p1:List Qaj) (p2:List (List Qaa)) (p3:List Qba) (p4:List Int) (p5:List Qaa) (p6 p7:Int) (r:List Qaa) (h:Qfh N p0 p1 p2 p3 p4 p5 p6 p7=some r):Qrg prog 156 [(.dptr [(.dptr [(.dat 5 (p0.map Qap)),(Qfd p1),(Qez p2),(Qfe p3),(.dat 1 (p4.map Qab)),(Qey p5),(I p6)] 0)] 0),(.dptr [(I p7)] 0)] [] (fun x=>[(.agg #[(.int .i64 x.Mass),(.int .i64 x.Heat),(.int .i64 x.Silica),(.int .i64 x.Gas)])]) r:=by
  refine Qrx func156 rfl rfl (fun X φ0 w0 l J hq hy=>?_)
  unfold Qfh at h
  refine wsq ?_
  obtain⟨x1,hg2,h⟩:=bno h
  obtain⟨hi3,hj4⟩:=gsm hg2
  refine wxd tbk [(6,rp _ _)] ⟨aiq underlying37 Qj3 Qan hi3 hj4,tv⟩ ?_
  refine bfe h (fun hc5 h=>?_) fun hc5 h=>?_
  ·refine wft hc5 ?_
   obtain⟨x7,hf6,h⟩:=bno h
   obtain⟨x9,hf8,h⟩:=bno h
   obtain⟨x10,hg11,h⟩:=bno h
   obtain⟨hi12,hj13⟩:=gsm hg11
   obtain⟨q14,hy_,hq_⟩:=Qwd h
   clear h
   subst hq_
   have h:=hy_
   clear hy_
   refine Qvq 14 [mv 0 (.lit (.func (.yield l) #[] #[])),rp [(.tmp 1,(.dptr [(.dptr [(.dat 5 (p0.map Qap)),(Qfd p1),(Qez p2),(Qfe p3),(.dat 1 (p4.map Qab)),(Qey p5),I p6] 0)] 0))] (.dptr [(.dat 5 (p0.map Qap)),(Qfd p1),(Qez p2),(Qfe p3),(.dat 1 (p4.map Qab)),(Qey p5),I p6] 0),mv 17 (.dptr [(.dat 5 (p0.map Qap)),(Qfd p1),(Qez p2),(Qfe p3),(.dat 1 (p4.map Qab)),(Qey p5),I p6] 0),rp [(.tmp 18,(.dptr [(.dat 5 (p0.map Qap)),(Qfd p1),(Qez p2),(Qfe p3),(.dat 1 (p4.map Qab)),(Qey p5),I p6] 0))] (.dptr [(.dat 5 (p0.map Qap)),(Qfd p1),(Qez p2),(Qfe p3),(.dat 1 (p4.map Qab)),(Qey p5),I p6] 5),rp [(.tmp 19,(.dptr [(.dat 5 (p0.map Qap)),(Qfd p1),(Qez p2),(Qfe p3),(.dat 1 (p4.map Qab)),(Qey p5),I p6] 5))] (Qey p5),rp [(.tmp 1,(.dptr [(.dptr [(.dat 5 (p0.map Qap)),(Qfd p1),(Qez p2),(Qfe p3),(.dat 1 (p4.map Qab)),(Qey p5),I p6] 0)] 0))] (.dptr [(.dat 5 (p0.map Qap)),(Qfd p1),(Qez p2),(Qfe p3),(.dat 1 (p4.map Qab)),(Qey p5),I p6] 0),mv 21 (.dptr [(.dat 5 (p0.map Qap)),(Qfd p1),(Qez p2),(Qfe p3),(.dat 1 (p4.map Qab)),(Qey p5),I p6] 0),mv 22 (.dptr [(.dat 5 (p0.map Qap)),(Qfd p1),(Qez p2),(Qfe p3),(.dat 1 (p4.map Qab)),(Qey p5),I p6] 0),rp [(.tmp 23,(.dptr [(.dat 5 (p0.map Qap)),(Qfd p1),(Qez p2),(Qfe p3),(.dat 1 (p4.map Qab)),(Qey p5),I p6] 0))] (Q61 p0 p1),rp [fu 57,(.tmp 24,(Q61 p0 p1)),(.const (.int .u8 1),(K .u8 (1)))] (.dat 1 (x7.map Qab)),rp [(.tmp 2,(.dptr [I p7] 0))] (I p7),rp [fu 157,(.tmp 25,(.dat 1 (x7.map Qab))),(.tmp 26,I p7)] (I x9),rp [(.tmp 20,(Qey p5)),(.tmp 27,I x9)] (.dptr (Qac x10) 0),rp [(.tmp 28,(.dptr (Qac x10) 0))] (Q60 x10),⟨[(.tmp 16,(.lit (.func (.yield l) #[] #[]))),(.tmp 29,(Q60 x10))],[(0,(.far (J (some (x10::q14)))))],B true,[(0,(.far (J (some q14))))],false⟩] [mv 0 (.lit (.func (.yield l) #[] #[])),rp [(.tmp 1,(.dptr [(.dptr [(.dat 5 (p0.map Qap)),(Qfd p1),(Qez p2),(Qfe p3),(.dat 1 (p4.map Qab)),(Qey p5),I p6] 0)] 0))] (.dptr [(.dat 5 (p0.map Qap)),(Qfd p1),(Qez p2),(Qfe p3),(.dat 1 (p4.map Qab)),(Qey p5),I p6] 0),mv 17 (.dptr [(.dat 5 (p0.map Qap)),(Qfd p1),(Qez p2),(Qfe p3),(.dat 1 (p4.map Qab)),(Qey p5),I p6] 0),rp [(.tmp 18,(.dptr [(.dat 5 (p0.map Qap)),(Qfd p1),(Qez p2),(Qfe p3),(.dat 1 (p4.map Qab)),(Qey p5),I p6] 0))] (.dptr [(.dat 5 (p0.map Qap)),(Qfd p1),(Qez p2),(Qfe p3),(.dat 1 (p4.map Qab)),(Qey p5),I p6] 5),rp [(.tmp 19,(.dptr [(.dat 5 (p0.map Qap)),(Qfd p1),(Qez p2),(Qfe p3),(.dat 1 (p4.map Qab)),(Qey p5),I p6] 5))] (Qey p5),rp [(.tmp 1,(.dptr [(.dptr [(.dat 5 (p0.map Qap)),(Qfd p1),(Qez p2),(Qfe p3),(.dat 1 (p4.map Qab)),(Qey p5),I p6] 0)] 0))] (.dptr [(.dat 5 (p0.map Qap)),(Qfd p1),(Qez p2),(Qfe p3),(.dat 1 (p4.map Qab)),(Qey p5),I p6] 0),mv 21 (.dptr [(.dat 5 (p0.map Qap)),(Qfd p1),(Qez p2),(Qfe p3),(.dat 1 (p4.map Qab)),(Qey p5),I p6] 0),mv 22 (.dptr [(.dat 5 (p0.map Qap)),(Qfd p1),(Qez p2),(Qfe p3),(.dat 1 (p4.map Qab)),(Qey p5),I p6] 0),rp [(.tmp 23,(.dptr [(.dat 5 (p0.map Qap)),(Qfd p1),(Qez p2),(Qfe p3),(.dat 1 (p4.map Qab)),(Qey p5),I p6] 0))] (Q61 p0 p1),rp [fu 57,(.tmp 24,(Q61 p0 p1)),(.const (.int .u8 1),(K .u8 (1)))] (.dat 1 (x7.map Qab)),rp [(.tmp 2,(.dptr [I p7] 0))] (I p7),rp [fu 157,(.tmp 25,(.dat 1 (x7.map Qab))),(.tmp 26,I p7)] (I x9),rp [(.tmp 20,(Qey p5)),(.tmp 27,I x9)] (.dptr (Qac x10) 0),rp [(.tmp 28,(.dptr (Qac x10) 0))] (Q60 x10),⟨[(.tmp 16,(.lit (.func (.yield l) #[] #[]))),(.tmp 29,(Q60 x10))],[(0,(.far (J (some (x10::q14)))))],B false,[(0,(.far (J none)))],false⟩] (by exact⟨by kernel_rfl,by kernel_rfl⟩) (by exact⟨by kernel_rfl,by kernel_rfl⟩) rfl rfl rfl rfl (Qmn (rd':=(.tmp 16,.lit (.func (.yield l) #[] #[]))::[(.tmp 29,.lit (.agg #[(.int .i64 x10.Mass),(.int .i64 x10.Heat),(.int .i64 x10.Silica),(.int .i64 x10.Gas)]))]) ⟨rfl,lrf,rfl,(Less.lits [(.int .i64 x10.Mass),(.int .i64 x10.Heat),(.int .i64 x10.Silica),(.int .i64 x10.Gas)]),tv⟩ (Qlj (x:=x10) (rest:=q14) rfl rfl hy rfl)) (⟨fun _ _=>amv rfl,fun _ _=>ald_ rfl Qrj (by decide) (nle rfl) rfl,fun _ _=>anc rfl rfl,fun _ _=>afd rfl underlying119 rfl rfl ti51 (by decide) rfl,fun _ _=>ald_ rfl ti51 (by decide) (nle rfl) rfl,fun _ _=>ald_ rfl Qrj (by decide) (nle rfl) rfl,fun _ _=>anc rfl rfl,fun _ _=>afd rfl underlying119 rfl rfl ti39 (by decide) rfl,fun _ _=>ald_ rfl ti39 (by decide) (nle rfl) rfl,fun _ _=>apw Qxc (Qi6 N (⟨p0,p1⟩:GNet) 1 _ hf6),fun _ _=>ald_ rfl ti3 (by decide) (nle rfl) rfl,fun _ _=>apw Qzn (Qgw N x7 p7 _ hf8),fun _ _=>aiq underlying51 ti49 Qac hi12 hj13,fun _ _=>ald_ rfl ti49 (by decide) (nle rfl) rfl,fun _ h=>absurd rfl h,tv⟩) (⟨fun _ _=>amv rfl,fun _ _=>ald_ rfl Qrj (by decide) (nle rfl) rfl,fun _ _=>anc rfl rfl,fun _ _=>afd rfl underlying119 rfl rfl ti51 (by decide) rfl,fun _ _=>ald_ rfl ti51 (by decide) (nle rfl) rfl,fun _ _=>ald_ rfl Qrj (by decide) (nle rfl) rfl,fun _ _=>anc rfl rfl,fun _ _=>afd rfl underlying119 rfl rfl ti39 (by decide) rfl,fun _ _=>ald_ rfl ti39 (by decide) (nle rfl) rfl,fun _ _=>apw Qxc (Qi6 N (⟨p0,p1⟩:GNet) 1 _ hf6),fun _ _=>ald_ rfl ti3 (by decide) (nle rfl) rfl,fun _ _=>apw Qzn (Qgw N x7 p7 _ hf8),fun _ _=>aiq underlying51 ti49 Qac hi12 hj13,fun _ _=>ald_ rfl ti49 (by decide) (nle rfl) rfl,fun _ h=>absurd rfl h,tv⟩) ?_ ?_
   ·skip
    refine Qad<|Qae ?_
    obtain rfl:=osi h
    exact Or.inl rfl
   ·clear h
    exact Qad<|Qae<|Or.inr (by kernel_rfl)
  ·refine wfn hc5<|Qam<|thn ?_
   refine wxd tbk [(6,rp _ _),(9,rp _ _)] ⟨aiq underlying37 Qj3 Qan hi3 hj4,alq 2 Qfo x1.From underlying108,tv⟩<|Qaq ?_
   refine wmr (mto (n:=62) (l':=[(0,(.lit (.func (.yield l) #[] #[]))),(1,(.dptr [(.dptr [(.dat 5 (p0.map Qap)),(Qfd p1),(Qez p2),(Qfe p3),(.dat 1 (p4.map Qab)),(Qey p5),I p6] 0)] 0)),(39,(Q6z x1)),(40,(I ((x1.From.length:Int)))),(41,I 0)]) (own':=[(.far (J (some r)))]) [(0,(.lit (.func (.yield l) #[] #[]))),(1,(.dptr [(.dptr [(.dat 5 (p0.map Qap)),(Qfd p1),(Qez p2),(Qfe p3),(.dat 1 (p4.map Qab)),(Qey p5),I p6] 0)] 0)),(39,(Q6z x1)),(40,(I ((x1.From.length:Int)))),(41,I 0)] [0] [(.far (J (some r)))] hq (pw (pc (.rn (.plain _ (NLt.dptr _ _ (nlc (NLt.dptr _ _ (nlc (nld Qaw _) (nlc (nld Qah _) (nlc (nld Qar _) (nlc (nld Qa3 _) (nlc (nld Qaf _) (nlc (nld Qai _) (nlc nll nl0)))))))) nl0)))) (pc (rnd Qfa) (pw (pw pn))))) (qc (.far _) qn)) ?_
   refine Qcz (τ:=(Int)×List Qaa) (fun n t=>Qcu N x1 p2 n t.1=some t.2) (fun ⟨y15,q16⟩=>⟨mk 62 [(0,(.lit (.func (.yield l) #[] #[]))),(1,(.dptr [(.dptr [(.dat 5 (p0.map Qap)),(Qfd p1),(Qez p2),(Qfe p3),(.dat 1 (p4.map Qab)),(Qey p5),I p6] 0)] 0)),(39,(Q6z x1)),(40,(I ((x1.From.length:Int)))),(41,I y15)],[(.far (J (some q16)))]⟩) (fun t h=>by rw[Qcu] at h;cases h) (fun n19 ih t h=>?_) N ((0),r) h
   obtain⟨y15,q16⟩:=t
   rw[Qcu] at h
   try dsimp only at h
   refine wxz<|wsq ?_
   refine bfe h (fun hc20 h=>?_) fun hc20 h=>?_
   ·refine wft hc20<|Qam<|thn<|wsq<|Qaq ?_
    obtain⟨x21,hg22,h⟩:=bno h
    obtain⟨hi23,hj24⟩:=gsm hg22
    refine wx tbk [(0,rp _ _)] ⟨aiq underlying108 Q3x Qfo hi23 hj24,tv⟩ ?_
    obtain⟨x25,hg26,h⟩:=bno h
    obtain⟨hi27,hj28⟩:=gsm hg26
    obtain⟨x29,hg30,h⟩:=bno h
    obtain⟨hi31,hj32⟩:=gsm hg30
    obtain⟨q33,hy_,hq_⟩:=Qwd h
    clear h
    subst hq_
    have h:=hy_
    clear hy_
    refine Qvq 14 [mv 0 (.lit (.func (.yield l) #[] #[])),rp [(.tmp 1,(.dptr [(.dptr [(.dat 5 (p0.map Qap)),(Qfd p1),(Qez p2),(Qfe p3),(.dat 1 (p4.map Qab)),(Qey p5),I p6] 0)] 0))] (.dptr [(.dat 5 (p0.map Qap)),(Qfd p1),(Qez p2),(Qfe p3),(.dat 1 (p4.map Qab)),(Qey p5),I p6] 0),mv 46 (.dptr [(.dat 5 (p0.map Qap)),(Qfd p1),(Qez p2),(Qfe p3),(.dat 1 (p4.map Qab)),(Qey p5),I p6] 0),rp [(.tmp 47,(.dptr [(.dat 5 (p0.map Qap)),(Qfd p1),(Qez p2),(Qfe p3),(.dat 1 (p4.map Qab)),(Qey p5),I p6] 0))] (.dptr [(.dat 5 (p0.map Qap)),(Qfd p1),(Qez p2),(Qfe p3),(.dat 1 (p4.map Qab)),(Qey p5),I p6] 2),mv 48 (.dptr [(.dat 5 (p0.map Qap)),(Qfd p1),(Qez p2),(Qfe p3),(.dat 1 (p4.map Qab)),(Qey p5),I p6] 2),rp [(.tmp 49,(.dptr [(.dat 5 (p0.map Qap)),(Qfd p1),(Qez p2),(Qfe p3),(.dat 1 (p4.map Qab)),(Qey p5),I p6] 2))] (Qez p2),rb [(.tmp 5,.ref 1 2 0 0)] [(1,(Qow x21))] (.ref 1 2 0 0),rb [(.tmp 51,.ref 1 2 0 0)] [(1,(Qow x21))] (I x21.Element),rp [(.tmp 50,(Qez p2)),(.tmp 52,I x21.Element)] (.dptr (Qag x25) 0),rp [(.tmp 53,(.dptr (Qag x25) 0))] (.dat 4 (x25.map Qac)),rb [(.tmp 5,.ref 1 2 0 0)] [(1,(Qow x21))] (.ref 1 2 0 1),rb [(.tmp 55,.ref 1 2 0 1)] [(1,(Qow x21))] (I x21.Outlet),rp [(.tmp 54,(.dat 4 (x25.map Qac))),(.tmp 56,I x21.Outlet)] (.dptr (Qac x29) 0),rp [(.tmp 57,(.dptr (Qac x29) 0))] (Qyd x29),⟨[(.tmp 45,(.lit (.func (.yield l) #[] #[]))),(.tmp 58,(Qyd x29))],[(0,(.far (J (some (x29::q33)))))],B true,[(0,(.far (J (some q33))))],false⟩,rp [(.tmp 59,B true)] (B false)] [mv 0 (.lit (.func (.yield l) #[] #[])),rp [(.tmp 1,(.dptr [(.dptr [(.dat 5 (p0.map Qap)),(Qfd p1),(Qez p2),(Qfe p3),(.dat 1 (p4.map Qab)),(Qey p5),I p6] 0)] 0))] (.dptr [(.dat 5 (p0.map Qap)),(Qfd p1),(Qez p2),(Qfe p3),(.dat 1 (p4.map Qab)),(Qey p5),I p6] 0),mv 46 (.dptr [(.dat 5 (p0.map Qap)),(Qfd p1),(Qez p2),(Qfe p3),(.dat 1 (p4.map Qab)),(Qey p5),I p6] 0),rp [(.tmp 47,(.dptr [(.dat 5 (p0.map Qap)),(Qfd p1),(Qez p2),(Qfe p3),(.dat 1 (p4.map Qab)),(Qey p5),I p6] 0))] (.dptr [(.dat 5 (p0.map Qap)),(Qfd p1),(Qez p2),(Qfe p3),(.dat 1 (p4.map Qab)),(Qey p5),I p6] 2),mv 48 (.dptr [(.dat 5 (p0.map Qap)),(Qfd p1),(Qez p2),(Qfe p3),(.dat 1 (p4.map Qab)),(Qey p5),I p6] 2),rp [(.tmp 49,(.dptr [(.dat 5 (p0.map Qap)),(Qfd p1),(Qez p2),(Qfe p3),(.dat 1 (p4.map Qab)),(Qey p5),I p6] 2))] (Qez p2),rb [(.tmp 5,.ref 1 2 0 0)] [(1,(Qow x21))] (.ref 1 2 0 0),rb [(.tmp 51,.ref 1 2 0 0)] [(1,(Qow x21))] (I x21.Element),rp [(.tmp 50,(Qez p2)),(.tmp 52,I x21.Element)] (.dptr (Qag x25) 0),rp [(.tmp 53,(.dptr (Qag x25) 0))] (.dat 4 (x25.map Qac)),rb [(.tmp 5,.ref 1 2 0 0)] [(1,(Qow x21))] (.ref 1 2 0 1),rb [(.tmp 55,.ref 1 2 0 1)] [(1,(Qow x21))] (I x21.Outlet),rp [(.tmp 54,(.dat 4 (x25.map Qac))),(.tmp 56,I x21.Outlet)] (.dptr (Qac x29) 0),rp [(.tmp 57,(.dptr (Qac x29) 0))] (Qyd x29),⟨[(.tmp 45,(.lit (.func (.yield l) #[] #[]))),(.tmp 58,(Qyd x29))],[(0,(.far (J (some (x29::q33)))))],B false,[(0,(.far (J none)))],false⟩,rp [(.tmp 59,B false)] (B true)] (by exact⟨by kernel_rfl,by kernel_rfl⟩) (by exact⟨by kernel_rfl,by kernel_rfl⟩) rfl rfl rfl rfl (Qmn (rd':=(.tmp 45,.lit (.func (.yield l) #[] #[]))::[(.tmp 58,.lit (.agg #[(.int .i64 x29.Mass),(.int .i64 x29.Heat),(.int .i64 x29.Silica),(.int .i64 x29.Gas)]))]) ⟨rfl,lrf,rfl,(Less.lits [(.int .i64 x29.Mass),(.int .i64 x29.Heat),(.int .i64 x29.Silica),(.int .i64 x29.Gas)]),tv⟩ (Qlj (x:=x29) (rest:=q33) rfl rfl hy rfl)) (⟨fun _ _=>amv rfl,fun _ _=>ald_ rfl Qrj (by decide) (nle rfl) rfl,fun _ _=>anc rfl rfl,fun _ _=>afd rfl underlying119 rfl rfl ti45 (by decide) rfl,fun _ _=>afd rfl underlying45 rfl rfl ti42 (by decide) rfl,fun _ _=>ald_ rfl ti42 (by decide) (nle rfl) rfl,fun _ _=>afa rfl underlying112 rfl rfl ti3 (by decide) rfl,fun _ _=>ald rfl ti3 (by decide) rfl (nle rfl) rfl,fun _ _=>aiq underlying42 ti51 Qag hi27 hj28,fun _ _=>ald_ rfl ti51 (by decide) (nle rfl) rfl,fun _ _=>afa rfl underlying112 rfl rfl ti3 (by decide) rfl,fun _ _=>ald rfl ti3 (by decide) rfl (nle rfl) rfl,fun _ _=>aiq underlying51 ti49 Qac hi31 hj32,fun _ _=>ald_ rfl ti49 (by decide) (nle rfl) rfl,fun _ h=>absurd rfl h,fun _ _=>Qlk rfl,tv⟩) (⟨fun _ _=>amv rfl,fun _ _=>ald_ rfl Qrj (by decide) (nle rfl) rfl,fun _ _=>anc rfl rfl,fun _ _=>afd rfl underlying119 rfl rfl ti45 (by decide) rfl,fun _ _=>afd rfl underlying45 rfl rfl ti42 (by decide) rfl,fun _ _=>ald_ rfl ti42 (by decide) (nle rfl) rfl,fun _ _=>afa rfl underlying112 rfl rfl ti3 (by decide) rfl,fun _ _=>ald rfl ti3 (by decide) rfl (nle rfl) rfl,fun _ _=>aiq underlying42 ti51 Qag hi27 hj28,fun _ _=>ald_ rfl ti51 (by decide) (nle rfl) rfl,fun _ _=>afa rfl underlying112 rfl rfl ti3 (by decide) rfl,fun _ _=>ald rfl ti3 (by decide) rfl (nle rfl) rfl,fun _ _=>aiq underlying51 ti49 Qac hi31 hj32,fun _ _=>ald_ rfl ti49 (by decide) (nle rfl) rfl,fun _ h=>absurd rfl h,fun _ _=>Qlk rfl,tv⟩) ?_ ?_
    ·skip
     exact wfa<|Qam<|bln<|thn<|wxz1<|thn<|arm (mto (n:=62) [(0,(.lit (.func (.yield l) #[] #[]))),(1,(.dptr [(.dptr [(.dat 5 (p0.map Qap)),(Qfd p1),(Qez p2),(Qfe p3),(.dat 1 (p4.map Qab)),(Qey p5),I p6] 0)] 0)),(39,(Q6z x1)),(40,(I ((x1.From.length:Int)))),(41,(I (w64 (y15+1))))] [0] [(.far (J (some q33)))] hq (pw (pc (.rn (.plain _ (NLt.dptr _ _ (nlc (NLt.dptr _ _ (nlc (nld Qaw _) (nlc (nld Qah _) (nlc (nld Qar _) (nlc (nld Qa3 _) (nlc (nld Qaf _) (nlc (nld Qai _) (nlc nll nl0)))))))) nl0)))) (pc (rnd Qfa) (pw (pw pn))))) (qc (.far _) qn)) (ih ((w64 (y15+1)),q33) h)
    ·clear h
     exact wtr<|Qad<|Qal<|Qae<|Qae<|Qal<|Or.inr (by kernel_rfl)
   ·refine wfn hc20<|Qb4<|Qa4<|Qa4<|Qb3 rfl ?_
    obtain rfl:=osi h
    exact Or.inl rfl
def Qas (N:Nat) (k3:(List Qaa)→Option (List Qaa)):(List Qaa)→(List Qaa)→Option (List Qaa)
  |[],y6=>
    k3 (y6)
  |x9::q10,y6=>
    chk (decide ((y6.length+([x9]).length)*32≤140737488355328))<|
    Qas N k3 q10 (y6++([x9]))
def Qbz (N:Nat) (p0:List GRow) (p1:List Qaj) (p2:List (List Qaa)) (p3:List Qba) (p4:List Int) (p5:List Qaa) (p6 p7:Int):Option (List Qaa):=
  Qb7 (fun y2=>
    some y2) fun k3:(List Qaa)→Option (List Qaa)=>
  (Qfh N p0 p1 p2 p3 p4 p5 p6 p7).bind fun q4=>
  Qas N k3 q4 ([])
abbrev Zbo (p0:List GRow) (p1:List Qaj) (p2:List (List Qaa)) (p3:List Qba) (p4:List Int) (p5:List Qaa) (p6 p7:Int):AV:=.fn (.func 156) [] [(.dptr [(.dptr [(.dat 5 (p0.map Qap)),(.dat 7 (p1.map Qan)),(.dat 1 (p2.map Qag)),(.dat 4 (p3.map Qau)),(.dat 1 (p4.map Qab)),(.dat 4 (p5.map Qac)),(I p6)] 0)] 0),(.dptr [(I p7)] 0)]
def Zai (x9:Qaa):AV:=.agg [(I x9.Mass),(I x9.Heat),(I x9.Silica),(I x9.Gas)]
theorem Qe6 (N:Nat) (p0:List GRow) (p1:List Qaj) (p2:List (List Qaa)) (p3:List Qba) (p4:List Int) (p5:List Qaa) (p6 p7:Int) (r:List Qaa) (h:Qbz N p0 p1 p2 p3 p4 p5 p6 p7=some r):Spec prog 155 [nilS,(Zbo p0 p1 p2 p3 p4 p5 p6 p7)] [] (.acc 0 49 4 (r.map Qac)) [.tok]:=by
  refine sF func155 1 fun _ _ _ hq hd0=>?_
  unfold Qbz at h
  refine wxz ?_
  obtain⟨k3,hk_k3,h⟩:=jko h
  refine wjn (τ:=(List Qaa)) (fun t=>k3 t=some r) (fun y2=>⟨mk 13 [(2,.ref 0 1 0 0)],[(.own 1 [[(.acc 1 49 4 (y2.map Qac))]]),.tok]⟩) (fun y2 h=>?_) ?_
  ·subst hk_k3
   refine wxz<|wmr (mto (n:=13) (l':=[(4,(.acc 0 49 4 (y2.map Qac)))]) (own':=[.tok]) [(4,(.acc 1 49 4 (y2.map Qac)))] [1] [.tok] hq (pc (.rn (Qgc rfl (Qek Qai _))) pn) (qc .tok qn))<|Qad ?_
   obtain rfl:=osi h
   exact⟨_,Mor.rfl,fio [(.acc 0 49 4 (y2.map Qac))] ⟨rot,tv⟩⟩
  ·skip
   refine wxz<|Qaq ?_
   obtain⟨q4,hL5,h⟩:=bno h
   refine wmr (mto (n:=13) (l':=[(2,.ref 0 1 0 0),(6,(Zbo p0 p1 p2 p3 p4 p5 p6 p7))]) (own':=[(.own 1 [[nilS]])]) [(2,.ref 0 1 0 0),(6,(Zbo p0 p1 p2 p3 p4 p5 p6 p7))] [0] [(.own 1 [[nilS]])] hq (prr (pc (.rn (Qbc rn0 (rnc (.plain _ (NLt.dptr _ _ (nlc (NLt.dptr _ _ (nlc (nld Qaw _) (nlc (nld Qah _) (nlc (nld Qar _) (nlc (nld Qa3 _) (nlc (nld Qaf _) (nlc (nld Qai _) (nlc nll nl0)))))))) nl0))) (rnc (.plain _ (NLt.dptr _ _ (nlc nll nl0))) rn0)))) pn)) (qb (lc rwl ln) qn)) ?_
   refine wmr (Q76 (n:=1) (ty:=49) (m:=4) (q:=0) (mq:=1) (c:=[nilS]) 0 (by kernel_rfl) (by kernel_rfl) (by kernel_rfl) (by decide)) ?_
   refine Qsd (τ:=((List Qaa))) (kb:=1) (caps:=[(.dptr [(.dptr [(.dat 5 (p0.map Qap)),(.dat 7 (p1.map Qan)),(.dat 1 (p2.map Qag)),(.dat 4 (p3.map Qau)),(.dat 1 (p4.map Qab)),(.dat 4 (p5.map Qac)),I p6] 0)] 0),(.dptr [I p7] 0)]) (σr:=[]) (encs:=fun x=>[(.agg #[(.int .i64 x.Mass),(.int .i64 x.Heat),(.int .i64 x.Silica),(.int .i64 x.Gas)])]) (fun x=>[(.agg [I x.Mass,I x.Heat,I x.Silica,I x.Gas])]) [] (fun n hn=>hq n (Nat.le_trans (nle rfl) hn)) hd0 (Qlw N p0 p1 p2 p3 p4 p5 p6 p7 _ hL5) Q8z (by kernel_rfl) (by kernel_rfl) (Qbm (rnc (.plain _ (NLt.dptr _ _ (nlc (NLt.dptr _ _ (nlc (nld Qaw _) (nlc (nld Qah _) (nlc (nld Qar _) (nlc (nld Qa3 _) (nlc (nld Qaf _) (nlc (nld Qai _) (nlc nll nl0)))))))) nl0))) (rnc (.plain _ (NLt.dptr _ _ (nlc nll nl0))) rn0))) Qao (by kernel_rfl) (fun _=>rfl) (fun x=>⟨(Less.unlits [(.int .i64 x.Mass),(.int .i64 x.Heat),(.int .i64 x.Silica),(.int .i64 x.Gas)]),tv⟩) (Za1 (Qnl (NLt.ref _ _ _ _ (by decide)) (Qnl (NLt.of0 (NLt.fn _ _ _ nl0 (nlc (NLt.dptr _ _ (nlc (NLt.dptr _ _ (nlc (nld Qaw _) (nlc (nld Qah _) (nlc (nld Qar _) (nlc (nld Qa3 _) (nlc (nld Qaf _) (nlc (nld Qai _) (nlc nll nl0)))))))) nl0)) (nlc (NLt.dptr _ _ (nlc nll nl0)) nl0)))) Q4u))) (fun y6=>[(.own 1 [[(.acc 1 49 4 (y6.map Qac))]]),.tok]) (fun _=>rfl) (fun _=>rfl) (fun l t=>Qas N k3 l t=some r) ([]) h (by kernel_rfl) ?_ ?_
   ·intro l11 o12 X15 φ16 w17 hφ14 x9 q10 y6 h
    rw[Qas] at h
    refine wxz1 ?_
    refine⟨by kernel_rfl,fun o13=>?_⟩
    refine Qaq ?_
    obtain⟨ha18,h⟩:=cko h
    refine wx1 tbk [(2,rp [(.tmp 9,(Zai x9))] (.dat 4 (([x9]:List Qaa).map Qac))),(3,⟨[(.tmp 8,(.acc 1 49 4 (y6.map Qac))),(.tmp 10,(.dat 4 (([x9]:List Qaa).map Qac)))],[(1,.tok),(4,.unused)],(.acc 4 49 4 ((y6++([x9]):List Qaa).map Qac)),[(1,.dead),(4,.tok)],false⟩)] ⟨Qcg (vs:=[(Zai x9)]) rfl underlying51 ti49 tz49 rfl (by decide) rfl (by decide) (by rfl) (by rfl) (by rfl) rfl,Qkj rfl underlying51 te49 (Base.acc _ _) rfl rfl (by rfl) (Qot Qac ha18) (Qos Qac ha18 (by decide)) (Qor Qac) rfl rfl,tv⟩<|bln ?_
    exact⟨(y6++([x9])),h,Zaw (own':=[(.own 1 [[(.acc 1 49 4 (((y6++([x9])):List Qaa).map Qac))]]),.tok,(.far (farL l11 o13))]) [0,4,2] [(.own 1 [[(.acc 4 49 4 ((y6++([x9]):List Qaa).map Qac))]]),.tok,(.far (farL l11 o13))] (by kernel_rfl) (by kernel_rfl) ⟨(spb (lc (.rn (Qgc rfl (Qek Qai _))) ln)),.tok,.far _,tv⟩⟩
   ·intro y6 h
    rw[Qas] at h
    exact bln<|thn<|⟨(y6),h,(mto (n:=13) [(2,.ref 0 1 0 0)] [0,1] [(.own 1 [[(.acc 1 49 4 (y6.map Qac))]]),.tok] hq (prr pn) (qb (lc (.rn (Qgc rfl (Qek Qai _))) ln) (qc .tok qn)))⟩
def Qbp (N:Nat) (p0:List GRow) (p1:List Qaj) (p2:List (List Qaa)) (p3:List Qba) (p4:List Int) (p5:List Qaa) (p6 p7:Int):Option (List Qaa):=
  (Qbz N p0 p1 p2 p3 p4 p5 p6 p7).bind fun x3=>
  some x3
abbrev Zeq (p0:List GRow) (p1:List Qaj) (p2:List (List Qaa)) (p3:List Qba) (p4:List Int) (p5:List Qaa) (p6 p7:Int):AV:=.fn (.func 156) [] [(.dptr [(.dptr [(.dat 5 (p0.map Qap)),(.dat 7 (p1.map Qan)),(.dat 1 (p2.map Qag)),(.dat 4 (p3.map Qau)),(.dat 1 (p4.map Qab)),(.dat 4 (p5.map Qac)),(I p6)] 0)] 0),(.dptr [(I p7)] 0)]
def Q62 (x3:List Qaa):AV:=.acc 0 49 4 (x3.map Qac)
theorem Qhc (N:Nat) (p0:List GRow) (p1:List Qaj) (p2:List (List Qaa)) (p3:List Qba) (p4:List Int) (p5:List Qaa) (p6 p7:Int) (r:List Qaa) (h:Qbp N p0 p1 p2 p3 p4 p5 p6 p7=some r):Spec prog 127 [(Zeq p0 p1 p2 p3 p4 p5 p6 p7)] [] (.acc 0 49 4 (r.map Qac)) [.tok]:=by
  refine sF func127 1 fun _ _ _ hq hd0=>?_
  unfold Qbp at h
  refine wxz ?_
  obtain⟨x3,hf2,h⟩:=bno h
  refine wx tbk [(1,⟨_,_,_,_,false⟩)] ⟨acq [nilS,(Zeq p0 p1 p2 p3 p4 p5 p6 p7)] [] [.tok] (Q62 x3) [0] Q80 (Qe6 N p0 p1 p2 p3 p4 p5 p6 p7 _ hf2) (Qbm (rnc (.plain _ nll) (rnc (.plain _ (NLt.fn _ _ _ nl0 (nlc (NLt.dptr _ _ (nlc (NLt.dptr _ _ (nlc (nld Qaw _) (nlc (nld Qah _) (nlc (nld Qar _) (nlc (nld Qa3 _) (nlc (nld Qaf _) (nlc (nld Qai _) (nlc nll nl0)))))))) nl0)) (nlc (NLt.dptr _ _ (nlc nll nl0)) nl0)))) rn0))) Qao (slc .tok Qao) (Q39 rfl (Qek Qai _)),tv⟩ ?_
  refine wmr (mto (n:=5) (l':=[(2,(Q62 x3))]) (own':=[.tok]) [(2,(Q62 x3))] [0] [.tok] hq (pc (.rn (Qgc rfl (Qek Qai _))) pn) (qc .tok qn))<|Qad ?_
  obtain rfl:=osi h
  exact⟨_,Mor.rfl,fio [(Q62 x3)] ⟨rot,tv⟩⟩
def Qen (_N:Nat) (_p0:Int) (p1:Qaa) (_p2:List GRow) (_p3:List Qaj) (_p4 _p5 _p6:Nat) (_p7:List Qaa) (_p8:Int) (_p9:List (List Qaa)) (_p10:List Qba) (_p11:List Int):Option (List Qaa):=
  some ([p1])
abbrev Zbn (p1:Qaa):AV:=.agg [(I p1.Mass),(I p1.Heat),(I p1.Silica),(I p1.Gas)]
abbrev Q6x (p2:List GRow) (p3:List Qaj) (p4 p5 p6:Nat) (p7:List Qaa) (p8:Int):Slot:=.own 7 [[(.dat 5 (p2.map Qap)),(.dat 7 (p3.map Qan)),(.own 1 1 (0) p4),(.own 2 4 (0) p5),(.own 3 1 (0) p6),(.dat 4 (p7.map Qac)),(I p8)]]
def Q6y (p1:Qaa):AV:=.dat 4 (([p1]:List Qaa).map Qac)
theorem Qgm (N:Nat) (p0:Int) (p1:Qaa) (p2:List GRow) (p3:List Qaj) (p4 p5 p6:Nat) (p7:List Qaa) (p8:Int) (p9:List (List Qaa)) (p10:List Qba) (p11:List Int) (r:List Qaa) (h:Qen N p0 p1 p2 p3 p4 p5 p6 p7 p8 p9 p10 p11=some r):Spec prog 129 [(.ref 0 7 (0) 0),(I p0),(Zbn p1)] [(Q6x p2 p3 p4 p5 p6 p7 p8),(.own 1 (p9.map Qag)),(.own 4 (p10.map Qau)),(.own 1 (p11.map Qab))] (.dat 4 (r.map Qac)) [(Q6x p2 p3 p4 p5 p6 p7 p8),(.own 1 (p9.map Qag)),(.own 4 (p10.map Qau)),(.own 1 (p11.map Qab))]:=by
  refine sF func129 4 fun _ _ _ hq hd0=>?_
  unfold Qen at h
  refine wxz<|wx tbk [(1,rp [(.tmp 7,(Zbn p1))] (Q6y p1))] ⟨Qcg (vs:=[(Zbn p1)]) rfl underlying51 ti49 tz49 rfl (by decide) rfl (by decide) (by rfl) (by rfl) (by rfl) rfl,tv⟩ ?_
  refine wmr (mto (n:=9) (l':=[(6,(Q6y p1))]) (own':=[(Q6x p2 p3 p4 p5 p6 p7 p8),(.own 1 (p9.map Qag)),(.own 4 (p10.map Qau)),(.own 1 (p11.map Qab))]) [(6,(Q6y p1))] [0,1,2,3] [(Q6x p2 p3 p4 p5 p6 p7 p8),(.own 1 (p9.map Qag)),(.own 4 (p10.map Qau)),(.own 1 (p11.map Qab))] hq (pc (rnd Qai) pn) (qb (lc (rnd Qaw) (lc (rnd Qah) (lc (.rn (Qa2 rfl)) (lc (.rn (Qa2 rfl)) (lc (.rn (Qa2 rfl)) (lc (rnd Qai) (lc rwl ln))))))) (qc (spr Qar) (qc (spr Qa3) (qc (spr Qaf) qn)))))<|Qad ?_
  obtain rfl:=osi h
  exact⟨_,Mor.rfl,fio [(Q6y p1)] ⟨rot,tv⟩⟩
def Qgk (_N:Nat) (p0:Int) (p1:Qaa) (_p2:List GRow) (p3:List Qaj) (_p4 p5 _p6:Nat) (_p7:List Qaa) (_p8:Int) (_p9:List (List Qaa)) (p10:List Qba) (_p11:List Int):Option ((List Qaa)×(List Qba)):=
  (getI p3 p0).bind fun x3=>
  (some (if p1.Heat<x3.Amount then p1.Heat else x3.Amount)).bind fun x7=>
  chk (decide (0≤p0)&&decide (p0.toNat<p5))<|
  (p10[p0.toNat]?).bind fun x10=>
  some ([(⟨p1.Mass,w64 (p1.Heat-x7),p1.Silica,p1.Gas⟩:Qaa)],p10.set p0.toNat (⟨x7,x10.Silica,x10.Gas,x10.Scale⟩:Qba))
abbrev Qz6 (p2:List GRow) (p3:List Qaj) (p4 p5 p6:Nat) (p7:List Qaa) (p8:Int):Slot:=.own 7 [[(.dat 5 (p2.map Qap)),(.dat 7 (p3.map Qan)),(.own 1 1 (0) p4),(.own 2 4 (0) p5),(.own 3 1 (0) p6),(.dat 4 (p7.map Qac)),(I p8)]]
def Zah (p1:Qaa) (x7:Int):AV:=.agg [(I p1.Mass),(I (w64 (p1.Heat-x7))),(I p1.Silica),(I p1.Gas)]
def Qyc (p1:Qaa) (x7:Int):AV:=.dat 4 (([(⟨p1.Mass,w64 (p1.Heat-x7),p1.Silica,p1.Gas⟩:Qaa)]:List Qaa).map Qac)
theorem Qly (N:Nat) (p0:Int) (p1:Qaa) (p2:List GRow) (p3:List Qaj) (p4 p5 p6:Nat) (p7:List Qaa) (p8:Int) (p9:List (List Qaa)) (p10:List Qba) (p11:List Int) (r:((List Qaa)×(List Qba))) (h:Qgk N p0 p1 p2 p3 p4 p5 p6 p7 p8 p9 p10 p11=some r):Spec prog 130 [(.ref 0 7 (0) 0),(I p0),(.agg [(I p1.Mass),(I p1.Heat),(I p1.Silica),(I p1.Gas)])] [(Qz6 p2 p3 p4 p5 p6 p7 p8),(.own 1 (p9.map Qag)),(.own 4 (p10.map Qau)),(.own 1 (p11.map Qab))] (.dat 4 (r.1.map Qac)) [(Qz6 p2 p3 p4 p5 p6 p7 p8),(.own 1 (p9.map Qag)),(.own 4 (r.2.map Qau)),(.own 1 (p11.map Qab))]:=by
  refine sF func130 4 fun _ _ _ hq hd0=>?_
  unfold Qgk at h
  refine wxz ?_
  obtain⟨x3,hg4,h⟩:=bno h
  obtain⟨hi5,hj6⟩:=gsm hg4
  obtain⟨x7,hl8,h⟩:=bno h
  refine wxd tbk [(1,rb [(.tmp 8,.ref 0 7 0 0)] [(0,(Qz6 p2 p3 p4 p5 p6 p7 p8))] (.ref 0 7 0 0)),(6,rp _ _),(11,rp [(.tmp 16,I x3.Amount),(.tmp 18,I p1.Heat)] (I ((if p1.Heat<x3.Amount then p1.Heat else x3.Amount)))),(12,rp [(.tmp 19,(I ((if p1.Heat<x3.Amount then p1.Heat else x3.Amount))))] (I x7))] ⟨Qa9 rfl,aiq underlying37 Qj3 Qan hi5 hj6,Qn2 rfl,Qgu hl8 (aas rfl),tv⟩ ?_
  obtain⟨hi9,h⟩:=cko h
  obtain⟨hi9a,hi9b⟩:=Qdw hi9
  obtain⟨x10,hg11,h⟩:=bno h
  refine wx tbk [(1,rb [(.tmp 20,.ref 0 7 0 0)] [(0,(Qz6 p2 p3 p4 p5 p6 p7 p8))] (.ref 0 7 0 0)),(7,rb [(.tmp 24,(.own 2 4 (0) p5)),(.tmp 25,I p0)] [(2,(.own 4 (p10.map Qau)))] (.ref 2 4 p0.toNat 0)),(9,⟨[(.tmp 28,(.ref 2 4 p0.toNat 0)),(.tmp 26,I x7)],[(2,(.own 4 (p10.map Qau)))],.any,[(2,(.own 4 ((p10.set p0.toNat (⟨x7,x10.Silica,x10.Gas,x10.Scale⟩:Qba):List Qba).map Qau)))],false⟩)] ⟨Qa9 rfl,aio rfl underlying43 ti64 (odt hi9a) (odt hi9b) (Nat.zero_add _),ast rfl ti3 (by rfl) (mgt Qau hg11) (nle rfl) (Qf6 Qau rfl),tv⟩<|wxz ?_
  refine wx tbk [(1,rp [(.tmp 34,(Zah p1 x7))] (Qyc p1 x7))] ⟨Qcg (vs:=[(Zah p1 x7)]) rfl underlying51 ti49 tz49 rfl (by decide) rfl (by decide) (by rfl) (by rfl) (by rfl) rfl,tv⟩ ?_
  refine wmr (mto (n:=36) (l':=[(6,(Qyc p1 x7))]) (own':=[(Qz6 p2 p3 p4 p5 p6 p7 p8),(.own 1 (p9.map Qag)),(.own 4 (((p10.set p0.toNat (⟨x7,x10.Silica,x10.Gas,x10.Scale⟩:Qba)):List Qba).map Qau)),(.own 1 (p11.map Qab))]) [(6,(Qyc p1 x7))] [0,1,2,3] [(Qz6 p2 p3 p4 p5 p6 p7 p8),(.own 1 (p9.map Qag)),(.own 4 ((p10.set p0.toNat (⟨x7,x10.Silica,x10.Gas,x10.Scale⟩:Qba):List Qba).map Qau)),(.own 1 (p11.map Qab))] hq (pc (rnd Qai) pn) (qb (lc (rnd Qaw) (lc (rnd Qah) (lc (.rn (Qa2 rfl)) (lc (.rn (Qa2 rfl)) (lc (.rn (Qa2 rfl)) (lc (rnd Qai) (lc rwl ln))))))) (qc (spr Qar) (qc (spr Qa3) (qc (spr Qaf) qn)))))<|Qad ?_
  obtain rfl:=osi h
  exact⟨_,Mor.rfl,fio [(Qyc p1 x7)] ⟨rot,tv⟩⟩
def Qgp (N:Nat) (p0:List GRow) (p1:Int):Option Bool:=
  (Qct N p1 0 (w64 ((p0.length:Int)-1))).bind fun x2=>
  some x2
theorem Qmc (N:Nat) (p0:List GRow) (p1:Int) (r:Bool) (h:Qgp N p0 p1=some r):Spec prog 165 [(.dat 5 (p0.map Qap)),(I p1)] [] (B r) []:=by
  refine sA func165 0 fun _ _ _ hq hd0=>?_
  unfold Qgp at h
  refine wxz ?_
  obtain⟨x2,hf1,h⟩:=bno h
  exact wx tbk [(2,rp _ _),(4,rp _ _)] ⟨alq 5 Qap p0 underlying36,apw Qja (Qcw N p1 0 (w64 ((p0.length:Int)-1)) _ hf1),tv⟩<|Qad<|frb h
def Qg4 (_N:Nat) (p0:List GRow) (p1:Int):Option Qjo:=
  (getI p0 p1).bind fun x1=>
  some (⟨x1⟩:Qjo)
def Zbl (x1:GRow):AV:=.agg [(I x1.T),(I x1.P),(I x1.Liquid),(I x1.Vapour),(I x1.Silica)]
theorem Qm9 (N:Nat) (p0:List GRow) (p1:Int) (r:Qjo) (h:Qg4 N p0 p1=some r):Spec prog 52 [(.dat 5 (p0.map Qap)),(I p1)] [] (.agg (Qnx r)) []:=by
  refine sA func52 0 fun _ _ _ hq hd0=>?_
  unfold Qg4 at h
  refine wxz ?_
  obtain⟨x1,hg2,h⟩:=bno h
  obtain⟨hi3,hj4⟩:=gsm hg2
  refine wx tbk [(2,rp _ _),(4,mv 8 (Zbl x1))] ⟨aiq underlying36 Qsv Qap hi3 hj4,Qa6 (vs:=[(Zbl x1)]) rfl Zhr Zfx rfl (by rfl) rfl,tv⟩<|Qad ?_
  obtain rfl:=osi h
  exact fie [(Zbl x1)] ⟨Qbk (n:=0) (m:=5) (j:=0) (i:=0) (xs:=[[I x1.T,I x1.P,I x1.Liquid,I x1.Vapour,I x1.Silica]]) (by kernel_rfl) (by kernel_rfl) Zf3 (by decide) rfl (nle rfl) rfl,tv⟩
def Qe2 (_N:Nat) (p0:Qjo) (p1:Qaa):Option Int:=
  (some (w64 (p1.Heat-(w64 (p1.Mass*p0.Row.Liquid))))).bind fun x1=>
  bif (decide (x1≤0)) then
   some 0
  else
   bif (decide (p1.Heat≥(w64 (p1.Mass*p0.Row.Vapour)))) then
    some p1.Mass
   else
    chk ((w64 (p0.Row.Vapour-p0.Row.Liquid)) != 0)<|
    (some (w64 (x1.tdiv (w64 (p0.Row.Vapour-p0.Row.Liquid))))).bind fun x6=>
    some x6
theorem Qk9 (N:Nat) (p0:Qjo) (p1:Qaa) (r:Int) (h:Qe2 N p0 p1=some r):Spec prog 96 [(.agg (Qnx p0)),(.agg (Qac p1))] [] (I r) []:=by
  refine sA func96 0 fun _ _ _ hq hd0=>?_
  unfold Qe2 at h
  refine wxz ?_
  obtain⟨x1,hl2,h⟩:=bno h
  refine wx tbk [(9,rp [(.tmp 14,(I (w64 (p1.Heat-(w64 (p1.Mass*p0.Row.Liquid))))))] (I x1))] ⟨Qgu hl2 (aas rfl),tv⟩<|wsq<|Qaq<|wxz ?_
  refine bfe h (fun hc3 h=>?_) fun hc3 h=>?_
  ·refine wft hc3<|wxz<|Qad<|Qal<|Qae ?_
   obtain rfl:=osi h
   exact fend ⟨[I 0],⟨rot,tv⟩,rfl⟩ nll
  ·refine wfn hc3<|wxz ?_
   refine bfe h (fun hc4 h=>?_) fun hc4 h=>?_
   ·refine wft hc4<|wxz<|Qad<|Qal<|Qae ?_
    obtain rfl:=osi h
    exact fend ⟨[I p1.Mass],⟨rot,tv⟩,rfl⟩ nll
   ·refine wfn hc4<|Qam<|bln<|thn ?_
    obtain⟨hz5,h⟩:=cko h
    obtain⟨x6,hl7,h⟩:=bno h
    refine wx tbk [(8,rp [(.tmp 30,I x1),(.tmp 37,(I (w64 (p0.Row.Vapour-p0.Row.Liquid))))] (I (w64 (x1.tdiv (w64 (p0.Row.Vapour-p0.Row.Liquid)))))),(9,rp [(.tmp 38,(I (w64 (x1.tdiv (w64 (p0.Row.Vapour-p0.Row.Liquid))))))] (I x6))] ⟨Qn1 rfl (Qoo hz5),Qgu hl7 (aas rfl),tv⟩<|Qad ?_
    obtain rfl:=osi h
    exact fend ⟨[I x6],⟨rot,tv⟩,rfl⟩ nll
def Qff (N:Nat) (p0:Qjo) (p1:Qaa):Option Qf1:=
  (Qe2 N (⟨(⟨p0.Row.T,p0.Row.P,p0.Row.Liquid,p0.Row.Vapour,p0.Row.Silica⟩:GRow)⟩:Qjo) p1).bind fun x2=>
  Qb7 (fun ⟨y3,y4,y5,y6,y7,_,y9⟩=>
    (some (if (w64 (y6*p0.Row.Silica))<p1.Silica then w64 (y6*p0.Row.Silica) else p1.Silica)).bind fun x11=>
    bif (decide (y6>0)) then
     (some (if (w64 (y7-(w64 (y6*p0.Row.Liquid))))>0 then w64 (y7-(w64 (y6*p0.Row.Liquid))) else 0)).bind fun x14=>
     some (⟨(⟨y3,y4,0,y5⟩:Qaa),(⟨y6,y7,x11,y9⟩:Qaa),x14,w64 (p1.Silica-x11)⟩:Qf1)
    else
     some (⟨(⟨y3,y4,0,y5⟩:Qaa),(⟨y6,y7,x11,y9⟩:Qaa),0,w64 (p1.Silica-x11)⟩:Qf1)) fun k10:Int×Int×Int×Int×Int×Int×Int→Option Qf1=>
  bif (x2==0) then
   k10 (0,0,0,p1.Mass,p1.Heat,p1.Silica,p1.Gas)
  else
   bif (x2==p1.Mass) then
    k10 (x2,p1.Heat,p1.Gas,0,0,0,0)
   else
    k10 (x2,w64 (x2*p0.Row.Vapour),p1.Gas,w64 (p1.Mass-x2),w64 (p1.Heat-(w64 (x2*p0.Row.Vapour))),0,0)
def Q6w (p0:Qjo):Slot:=.own 5 [[(I p0.Row.T),(I p0.Row.P),(I p0.Row.Liquid),(I p0.Row.Vapour),(I p0.Row.Silica)]]
def Q6v (p1:Qaa):Slot:=.own 4 [[(I p1.Mass),(I p1.Heat),(I p1.Silica),(I p1.Gas)]]
theorem Qm8 (N:Nat) (p0:Qjo) (p1:Qaa) (r:Qf1) (h:Qff N p0 p1=some r):Spec prog 53 [(.agg (Qnx p0)),(.agg (Qac p1))] [] (.agg (Qpr r)) []:=by
  refine sA func53 0 fun _ _ _ hq hd0=>?_
  unfold Qff at h
  refine wxz ?_
  obtain⟨x2,hf1,h⟩:=bno h
  refine wx tbk [(2,rp _ _)] ⟨apw Zc7 (Qk9 N (⟨(⟨p0.Row.T,p0.Row.P,p0.Row.Liquid,p0.Row.Vapour,p0.Row.Silica⟩:GRow)⟩:Qjo) p1 _ hf1),tv⟩ ?_
  obtain⟨k10,hk_k10,h⟩:=jko h
  refine wjn (τ:=Int×Int×Int×Int×Int×Int×Int) (fun t=>k10 t=some r) (fun ⟨y3,y4,y5,y6,y7,y8,y9⟩=>⟨mk 87 [(2,.ref 0 5 0 0),(3,.ref 1 4 0 0),(4,.ref 2 10 0 0)],[(Q6w p0),(Q6v p1),(.own 10 [[I y3,I y4,I 0,I y5,I y6,I y7,I y8,I y9,I 0,I 0]])]⟩) (fun t h=>?_) ?_
  ·subst hk_k10
   obtain⟨y3,y4,y5,y6,y7,y8,y9⟩:=t
   obtain⟨x11,hl12,h⟩:=bno h
   refine wx tbk [(9,rp [(.tmp 52,I p1.Silica),(.tmp 59,(I (w64 (y6*p0.Row.Silica))))] (I x11))] ⟨Qgu hl12 (Qn2 rfl),tv⟩<|wxe<|wsq<|wxz ?_
   refine bfe h (fun hc13 h=>?_) fun hc13 h=>?_
   ·refine wft hc13 ?_
    obtain⟨x14,hl15,h⟩:=bno h
    refine wx1 tbk [(11,rp [ci 0,(.tmp 83,(I (w64 (y7-(w64 (y6*p0.Row.Liquid))))))] (I x14))] ⟨Qgu hl15 (Qki rfl),tv⟩<|thn<|wxz<|Qad ?_
    obtain rfl:=osi h
    exact fie [(.agg [I y3,I y4,I 0,I y5,I y6,I y7,I x11,I y9,I x14,(I (w64 (p1.Silica-x11)))])] ⟨Qbk (n:=2) (m:=10) (j:=0) (i:=0) (xs:=[[I y3,I y4,I 0,I y5,I y6,I y7,I x11,I y9,I x14,(I (w64 (p1.Silica-x11)))]]) (by kernel_rfl) (by kernel_rfl) Qwm (by decide) rfl (nle rfl) rfl,tv⟩
   ·refine wfn hc13<|Qam<|thn<|wxz<|Qad ?_
    obtain rfl:=osi h
    exact fie [(.agg [I y3,I y4,I 0,I y5,I y6,I y7,I x11,I y9,I 0,(I (w64 (p1.Silica-x11)))])] ⟨Qbk (n:=2) (m:=10) (j:=0) (i:=0) (xs:=[[I y3,I y4,I 0,I y5,I y6,I y7,I x11,I y9,I 0,(I (w64 (p1.Silica-x11)))]]) (by kernel_rfl) (by kernel_rfl) Qwm (by decide) rfl (nle rfl) rfl,tv⟩
  ·skip
   refine Qaq<|wxz ?_
   refine bfe h (fun hc16 h=>?_) fun hc16 h=>?_
   ·exact wft hc16<|wxz1<|bln<|thn<|⟨(0,0,0,p1.Mass,p1.Heat,p1.Silica,p1.Gas),h,(mto (n:=87) [(2,.ref 0 5 0 0),(3,.ref 1 4 0 0),(4,.ref 2 10 0 0)] [0,1,2] [(Q6w p0),(Q6v p1),(.own 10 [[I 0,I 0,I 0,I 0,I p1.Mass,I p1.Heat,I p1.Silica,I p1.Gas,I 0,I 0]])] hq (prr (prr (prr pn))) (qb (lcc (lcc (lc rwl ln))) (qb (lcc (lcc ln)) (qb (lcc (lcc (lcc (lcc (lcc ln))))) qn))))⟩
   ·refine wfn hc16<|wxz ?_
    refine bfe h (fun hc17 h=>?_) fun hc17 h=>?_
    ·exact wft hc17<|wx1 tbk [(5,rp _ _)] ⟨Qa6 (vs:=[I x2,I p1.Heat,I p1.Gas]) rfl ts49 tz49 rfl (by rfl) rfl,tv⟩<|bln<|thn<|⟨(x2,p1.Heat,p1.Gas,0,0,0,0),h,(mto (n:=87) [(2,.ref 0 5 0 0),(3,.ref 1 4 0 0),(4,.ref 2 10 0 0)] [0,1,2] [(Q6w p0),(Q6v p1),(.own 10 [[I x2,I p1.Heat,I 0,I p1.Gas,I 0,I 0,I 0,I 0,I 0,I 0]])] hq (prr (prr (prr pn))) (qb (lcc (lcc (lc rwl ln))) (qb (lcc (lcc ln)) (qb (lcc (lcc (lcc (lcc (lcc ln))))) qn))))⟩
    ·refine wfn hc17<|wx tbk [(8,rp _ _)] ⟨Qa6 (vs:=[I x2,(I (w64 (x2*p0.Row.Vapour))),I p1.Gas]) rfl ts49 tz49 rfl (by rfl) rfl,tv⟩ ?_
     exact wx1 tbk [(12,rp _ _)] ⟨Qa6 (vs:=[(I (w64 (p1.Mass-x2))),(I (w64 (p1.Heat-(w64 (x2*p0.Row.Vapour)))))]) rfl ts49 tz49 rfl (by rfl) rfl,tv⟩<|bln<|thn<|⟨(x2,w64 (x2*p0.Row.Vapour),p1.Gas,w64 (p1.Mass-x2),w64 (p1.Heat-(w64 (x2*p0.Row.Vapour))),0,0),h,(mto (n:=87) [(2,.ref 0 5 0 0),(3,.ref 1 4 0 0),(4,.ref 2 10 0 0)] [0,1,2] [(Q6w p0),(Q6v p1),(.own 10 [[I x2,(I (w64 (x2*p0.Row.Vapour))),I 0,I p1.Gas,(I (w64 (p1.Mass-x2))),(I (w64 (p1.Heat-(w64 (x2*p0.Row.Vapour))))),I 0,I 0,I 0,I 0]])] hq (prr (prr (prr pn))) (qb (lcc (lcc (lc rwl ln))) (qb (lcc (lcc ln)) (qb (lcc (lcc (lcc (lcc (lcc ln))))) qn))))⟩
def Qh1 (N:Nat) (p0:List GRow) (p1:Int) (p2:Qaa):Option (Qf1×Int):=
  (Qeb N p0).bind fun x2=>
  bif (!x2) then
   some ((⟨(⟨0,0,0,0⟩:Qaa),(⟨0,0,0,0⟩:Qaa),0,0⟩:Qf1),1)
  else
   (Qgp N p0 p1).bind fun x5=>
   bif (!x5) then
    some ((⟨(⟨0,0,0,0⟩:Qaa),(⟨0,0,0,0⟩:Qaa),0,0⟩:Qf1),2)
   else
    (Qc2 N p2).bind fun x8=>
    bif (!x8) then
     some ((⟨(⟨0,0,0,0⟩:Qaa),(⟨0,0,0,0⟩:Qaa),0,0⟩:Qf1),1)
    else
     (Qg4 N p0 p1).bind fun x11=>
     (Qff N (⟨(⟨x11.Row.T,x11.Row.P,x11.Row.Liquid,x11.Row.Vapour,x11.Row.Silica⟩:GRow)⟩:Qjo) p2).bind fun x13=>
     some ((⟨(⟨x13.Steam.Mass,x13.Steam.Heat,x13.Steam.Silica,x13.Steam.Gas⟩:Qaa),(⟨x13.Water.Mass,x13.Water.Heat,x13.Water.Silica,x13.Water.Gas⟩:Qaa),x13.Rest,x13.Scale⟩:Qf1),0)
def Zbm:AV:=.agg [(I (0)),(I (0)),(I (0)),(I (0)),(I (0)),(I (0)),(I (0)),(I (0)),(I (0)),(I (0))]
def Zhc (x13:Qf1):AV:=.agg [(I x13.Steam.Mass),(I x13.Steam.Heat),(I x13.Steam.Silica),(I x13.Steam.Gas),(I x13.Water.Mass),(I x13.Water.Heat),(I x13.Water.Silica),(I x13.Water.Gas),(I x13.Rest),(I x13.Scale)]
theorem Qp6 (N:Nat) (p0:List GRow) (p1:Int) (p2:Qaa) (r:(Qf1×Int)) (h:Qh1 N p0 p1 p2=some r):Spec prog 158 [(.dat 5 (p0.map Qap)),(I p1),(.agg (Qac p2))] [] (.tup [(.agg (Qpr r.1)),(I r.2)]) []:=by
  refine sA func158 0 fun _ _ _ hq hd0=>?_
  unfold Qh1 at h
  refine wxz<|wsq<|Qaq ?_
  obtain⟨x2,hf1,h⟩:=bno h
  refine wx tbk [(1,rp _ _)] ⟨apw Q5r (Qhz N p0 _ hf1),tv⟩ ?_
  refine bfe h (fun hc3 h=>?_) fun hc3 h=>?_
  ·refine wft hc3<|wx tbk [(0,rp _ _)] ⟨Qa6 (vs:=[]) rfl Zca Q7m rfl (by rfl) rfl,tv⟩<|Qad<|Qal<|Qae ?_
   obtain rfl:=osi h
   exact fie [Zbm,I 1] ⟨Qbk (n:=1) (m:=10) (j:=0) (i:=0) (xs:=[[I 0,I 0,I 0,I 0,I 0,I 0,I 0,I 0,I 0,I 0]]) (by kernel_rfl) (by kernel_rfl) Qwm (by decide) rfl (nle rfl) rfl,rot,tv⟩
  ·refine wfn hc3 ?_
   obtain⟨x5,hf4,h⟩:=bno h
   refine wx tbk [(2,rp _ _)] ⟨apw Q8v (Qmc N p0 p1 _ hf4),tv⟩ ?_
   refine bfe h (fun hc6 h=>?_) fun hc6 h=>?_
   ·refine wft hc6<|wx tbk [(0,rp _ _)] ⟨Qa6 (vs:=[]) rfl Zca Q7m rfl (by rfl) rfl,tv⟩<|Qad<|Qal<|Qae ?_
    obtain rfl:=osi h
    exact fie [Zbm,I 2] ⟨Qbk (n:=1) (m:=10) (j:=0) (i:=0) (xs:=[[I 0,I 0,I 0,I 0,I 0,I 0,I 0,I 0,I 0,I 0]]) (by kernel_rfl) (by kernel_rfl) Qwm (by decide) rfl (nle rfl) rfl,rot,tv⟩
   ·refine wfn hc6 ?_
    obtain⟨x8,hf7,h⟩:=bno h
    refine wx tbk [(1,rp _ _)] ⟨apw Qtj (Qev N p2 _ hf7),tv⟩ ?_
    refine bfe h (fun hc9 h=>?_) fun hc9 h=>?_
    ·refine wft hc9<|wx tbk [(0,rp _ _)] ⟨Qa6 (vs:=[]) rfl Zca Q7m rfl (by rfl) rfl,tv⟩<|Qad<|Qal<|Qae ?_
     obtain rfl:=osi h
     exact fie [Zbm,I 1] ⟨Qbk (n:=1) (m:=10) (j:=0) (i:=0) (xs:=[[I 0,I 0,I 0,I 0,I 0,I 0,I 0,I 0,I 0,I 0]]) (by kernel_rfl) (by kernel_rfl) Qwm (by decide) rfl (nle rfl) rfl,rot,tv⟩
    ·refine wfn hc9<|Qam<|bln<|thn ?_
     obtain⟨x11,hf10,h⟩:=bno h
     obtain⟨x13,hf12,h⟩:=bno h
     refine wxd tbk [(2,rp _ _),(4,rp _ _)] ⟨apw Zdk (Qm9 N p0 p1 _ hf10),apw Zdj (Qm8 N (⟨(⟨x11.Row.T,x11.Row.P,x11.Row.Liquid,x11.Row.Vapour,x11.Row.Silica⟩:GRow)⟩:Qjo) p2 _ hf12),tv⟩<|Qad ?_
     obtain rfl:=osi h
     exact fie [(Zhc x13),I 0] ⟨Qbk (n:=1) (m:=10) (j:=0) (i:=0) (xs:=[[I x13.Steam.Mass,I x13.Steam.Heat,I x13.Steam.Silica,I x13.Steam.Gas,I x13.Water.Mass,I x13.Water.Heat,I x13.Water.Silica,I x13.Water.Gas,I x13.Rest,I x13.Scale]]) (by kernel_rfl) (by kernel_rfl) Qwm (by decide) rfl (nle rfl) rfl,rot,tv⟩
def Qed (N:Nat) (p0:Int) (p1:Qaa) (p2:List Int) (_p3:List GRow) (_p4:List Qaj) (_p5 p6 _p7:Nat) (_p8:List Qaa) (_p9:Int) (_p10:List (List Qaa)) (p11:List Qba) (_p12:List Int):Option ((List Qaa)×(List Qba)):=
  (Qh0 N p1 p2).bind fun x4=>
  chk (decide (0≤p0)&&decide (p0.toNat<p6))<|
  (p11[p0.toNat]?).bind fun x6=>
  chk (decide (0≤p0)&&decide (p0.toNat<p6))<|
  ((p11.set p0.toNat (⟨x4.2.1.Heat,x6.Silica,x6.Gas,x6.Scale⟩:Qba))[p0.toNat]?).bind fun x9=>
  chk (decide (0≤p0)&&decide (p0.toNat<p6))<|
  (((p11.set p0.toNat (⟨x4.2.1.Heat,x6.Silica,x6.Gas,x6.Scale⟩:Qba)).set p0.toNat (⟨x9.Heat,x4.2.1.Silica,x9.Gas,x9.Scale⟩:Qba))[p0.toNat]?).bind fun x12=>
  some (x4.1,((p11.set p0.toNat (⟨x4.2.1.Heat,x6.Silica,x6.Gas,x6.Scale⟩:Qba)).set p0.toNat (⟨x9.Heat,x4.2.1.Silica,x9.Gas,x9.Scale⟩:Qba)).set p0.toNat (⟨x12.Heat,x12.Silica,x4.2.1.Gas,x12.Scale⟩:Qba))
abbrev Zhb (p1:Qaa):AV:=.agg [(I p1.Mass),(I p1.Heat),(I p1.Silica),(I p1.Gas)]
abbrev Qv2 (p3:List GRow) (p4:List Qaj) (p5 p6 p7:Nat) (p8:List Qaa) (p9:Int):Slot:=.own 7 [[(.dat 5 (p3.map Qap)),(.dat 7 (p4.map Qan)),(.own 1 1 (0) p5),(.own 2 4 (0) p6),(.own 3 1 (0) p7),(.dat 4 (p8.map Qac)),(I p9)]]
def Q2e (p11:List Qba) (p0:Int) (x4:((List Qaa)×Qk3×Int)) (x6:Qba):Slot:=.own 4 ((p11.set p0.toNat (⟨x4.2.1.Heat,x6.Silica,x6.Gas,x6.Scale⟩:Qba):List Qba).map Qau)
def Q2d (p11:List Qba) (p0:Int) (x4:((List Qaa)×Qk3×Int)) (x6 x9:Qba):Slot:=.own 4 (((p11.set p0.toNat (⟨x4.2.1.Heat,x6.Silica,x6.Gas,x6.Scale⟩:Qba)).set p0.toNat (⟨x9.Heat,x4.2.1.Silica,x9.Gas,x9.Scale⟩:Qba):List Qba).map Qau)
def Zab (p11:List Qba) (p0:Int) (x4:((List Qaa)×Qk3×Int)) (x6 x9 x12:Qba):Slot:=.own 4 ((((p11.set p0.toNat (⟨x4.2.1.Heat,x6.Silica,x6.Gas,x6.Scale⟩:Qba)).set p0.toNat (⟨x9.Heat,x4.2.1.Silica,x9.Gas,x9.Scale⟩:Qba)).set p0.toNat (⟨x12.Heat,x12.Silica,x4.2.1.Gas,x12.Scale⟩:Qba):List Qba).map Qau)
theorem Qic (N:Nat) (p0:Int) (p1:Qaa) (p2:List Int) (p3:List GRow) (p4:List Qaj) (p5 p6 p7:Nat) (p8:List Qaa) (p9:Int) (p10:List (List Qaa)) (p11:List Qba) (p12:List Int) (r:((List Qaa)×(List Qba))) (h:Qed N p0 p1 p2 p3 p4 p5 p6 p7 p8 p9 p10 p11 p12=some r):Spec prog 159 [(.ref 0 7 (0) 0),(I p0),(Zhb p1),(.dat 1 (p2.map Qab))] [(Qv2 p3 p4 p5 p6 p7 p8 p9),(.own 1 (p10.map Qag)),(.own 4 (p11.map Qau)),(.own 1 (p12.map Qab))] (.dat 4 (r.1.map Qac)) [(Qv2 p3 p4 p5 p6 p7 p8 p9),(.own 1 (p10.map Qag)),(.own 4 (r.2.map Qau)),(.own 1 (p12.map Qab))]:=by
  refine sF func159 4 fun _ _ _ hq hd0=>?_
  unfold Qed at h
  refine wxz ?_
  obtain⟨x4,hf3,h⟩:=bno h
  refine wx tbk [(2,rp _ _)] ⟨apw Q8u (Qp5 N p1 p2 _ hf3),tv⟩ ?_
  obtain⟨hi5,h⟩:=cko h
  obtain⟨hi5a,hi5b⟩:=Qdw hi5
  obtain⟨x6,hg7,h⟩:=bno h
  obtain⟨hi8,h⟩:=cko h
  obtain⟨hi8a,hi8b⟩:=Qdw hi8
  obtain⟨x9,hg10,h⟩:=bno h
  obtain⟨hi11,h⟩:=cko h
  obtain⟨hi11a,hi11b⟩:=Qdw hi11
  obtain⟨x12,hg13,h⟩:=bno h
  refine wxd tbk [(1,rb [(.tmp 19,.ref 0 7 0 0)] [(0,(Qv2 p3 p4 p5 p6 p7 p8 p9))] (.ref 0 7 0 0)),(7,rb [(.tmp 25,.ref 0 7 0 0)] [(0,(Qv2 p3 p4 p5 p6 p7 p8 p9))] (.ref 0 7 0 0)),(13,rb [(.tmp 31,.ref 0 7 0 0)] [(0,(Qv2 p3 p4 p5 p6 p7 p8 p9))] (.ref 0 7 0 0)),(24,rb [(.tmp 23,(.own 2 4 (0) p6)),(.tmp 24,I p0)] [(2,(.own 4 (p11.map Qau)))] (.ref 2 4 p0.toNat 0)),(26,⟨[(.tmp 44,(.ref 2 4 p0.toNat 0)),(.tmp 38,I x4.2.1.Heat)],[(2,(.own 4 (p11.map Qau)))],.any,[(2,(Q2e p11 p0 x4 x6))],false⟩),(27,rb [(.tmp 29,(.own 2 4 (0) p6)),(.tmp 30,I p0)] [(2,(Q2e p11 p0 x4 x6))] (.ref 2 4 p0.toNat 0)),(29,⟨[(.tmp 46,(.ref 2 4 p0.toNat 1)),(.tmp 40,I x4.2.1.Silica)],[(2,(Q2e p11 p0 x4 x6))],.any,[(2,(Q2d p11 p0 x4 x6 x9))],false⟩),(30,rb [(.tmp 35,(.own 2 4 (0) p6)),(.tmp 36,I p0)] [(2,(Q2d p11 p0 x4 x6 x9))] (.ref 2 4 p0.toNat 0)),(32,⟨[(.tmp 48,(.ref 2 4 p0.toNat 2)),(.tmp 42,I x4.2.1.Gas)],[(2,(Q2d p11 p0 x4 x6 x9))],.any,[(2,(Zab p11 p0 x4 x6 x9 x12))],false⟩)] ⟨Qa9 rfl,Qa9 rfl,Qa9 rfl,aio rfl underlying43 ti64 (odt hi5a) (odt hi5b) (Nat.zero_add _),ast rfl ti3 (by rfl) (mgt Qau hg7) (nle rfl) (Qf6 Qau rfl),aio rfl underlying43 ti64 (odt hi8a) (odt hi8b) (Nat.zero_add _),ast rfl ti3 (by rfl) (mgt Qau hg10) (nle rfl) (Qf6 Qau rfl),aio rfl underlying43 ti64 (odt hi11a) (odt hi11b) (Nat.zero_add _),ast rfl ti3 (by rfl) (mgt Qau hg13) (nle rfl) (Qf6 Qau rfl),tv⟩<|wxz ?_
  refine wmr (mto (n:=50) (l':=[(8,(.dat 4 (x4.1.map Qac)))]) (own':=[(Qv2 p3 p4 p5 p6 p7 p8 p9),(.own 1 (p10.map Qag)),(.own 4 (((((p11.set p0.toNat (⟨x4.2.1.Heat,x6.Silica,x6.Gas,x6.Scale⟩:Qba)).set p0.toNat (⟨x9.Heat,x4.2.1.Silica,x9.Gas,x9.Scale⟩:Qba)).set p0.toNat (⟨x12.Heat,x12.Silica,x4.2.1.Gas,x12.Scale⟩:Qba)):List Qba).map Qau)),(.own 1 (p12.map Qab))]) [(8,(.dat 4 (x4.1.map Qac)))] [0,1,2,3] [(Qv2 p3 p4 p5 p6 p7 p8 p9),(.own 1 (p10.map Qag)),(Zab p11 p0 x4 x6 x9 x12),(.own 1 (p12.map Qab))] hq (pc (rnd Qai) pn) (qb (lc (rnd Qaw) (lc (rnd Qah) (lc (.rn (Qa2 rfl)) (lc (.rn (Qa2 rfl)) (lc (.rn (Qa2 rfl)) (lc (rnd Qai) (lc rwl ln))))))) (qc (spr Qar) (qc (spr Qa3) (qc (spr Qaf) qn)))))<|Qad ?_
  obtain rfl:=osi h
  exact⟨_,Mor.rfl,fio [(.dat 4 (x4.1.map Qac))] ⟨rot,tv⟩⟩
def Qd8 (N:Nat) (p0:Int) (p1:Qaa) (p2:List GRow) (p3:List Qaj) (p4 p5 p6:Nat) (p7:List Qaa) (p8:Int) (p9:List (List Qaa)) (p10:List Qba) (p11:List Int):Option ((List Qaa)×Int×(List Qba)×(List Int)):=
  (getI p3 p0).bind fun x5=>
  (Qh1 N p2 x5.Level p1).bind fun x10=>
  chk (decide (0≤p0)&&decide (p0.toNat<p5))<|
  (p10[p0.toNat]?).bind fun x12=>
  chk (decide (0≤p0)&&decide (p0.toNat<p6))<|
  (p11[p0.toNat]?).bind fun x15=>
  chk (decide (0≤p0)&&decide (p0.toNat<p6))<|
  (p11[p0.toNat]?).bind fun _=>
  bif (x5.Amount==0) then
   some ([(⟨x10.1.Steam.Mass,x10.1.Steam.Heat,x10.1.Steam.Silica,x10.1.Steam.Gas⟩:Qaa),(⟨x10.1.Water.Mass,x10.1.Water.Heat,x10.1.Water.Silica,x10.1.Water.Gas⟩:Qaa)],w64 (p8+x10.1.Steam.Mass),p10.set p0.toNat (⟨x12.Heat,x12.Silica,x12.Gas,x10.1.Scale⟩:Qba),p11.set p0.toNat (w64 (x15+x10.1.Scale)))
  else
   (Qed N p0 (⟨x10.1.Water.Mass,x10.1.Water.Heat,x10.1.Water.Silica,x10.1.Water.Gas⟩:Qaa) ([w64 (1000-x5.Amount),x5.Amount]) p2 p3 p4 p5 p6 p7 (w64 (p8+x10.1.Steam.Mass)) p9 (p10.set p0.toNat (⟨x12.Heat,x12.Silica,x12.Gas,x10.1.Scale⟩:Qba)) (p11.set p0.toNat (w64 (x15+x10.1.Scale)))).bind fun x22=>
   (getI x22.1 1).bind fun x23=>
   (Qes N ([(⟨x10.1.Steam.Mass,x10.1.Steam.Heat,x10.1.Steam.Silica,x10.1.Steam.Gas⟩:Qaa),x23])).bind fun x28=>
   (getI x22.1 0).bind fun x29=>
   some ([x28,x29],w64 (p8+x10.1.Steam.Mass),x22.2,p11.set p0.toNat (w64 (x15+x10.1.Scale)))
abbrev Zhd (p1:Qaa):AV:=.agg [(I p1.Mass),(I p1.Heat),(I p1.Silica),(I p1.Gas)]
abbrev Q2h (p3:List Qaj):AV:=.dat 7 (p3.map Qan)
abbrev Q2g (p7:List Qaa):AV:=.dat 4 (p7.map Qac)
abbrev Qv3 (p2:List GRow) (p3:List Qaj) (p4 p5 p6:Nat) (p7:List Qaa) (p8:Int):Slot:=.own 7 [[(.dat 5 (p2.map Qap)),(Q2h p3),(.own 1 1 (0) p4),(.own 2 4 (0) p5),(.own 3 1 (0) p6),(Q2g p7),(I p8)]]
abbrev Qov (p9:List (List Qaa)):Slot:=.own 1 (p9.map Qag)
def Q2f (p10:List Qba) (p0:Int) (x12:Qba) (x10:(Qf1×Int)):Slot:=.own 4 ((p10.set p0.toNat (⟨x12.Heat,x12.Silica,x12.Gas,x10.1.Scale⟩:Qba):List Qba).map Qau)
def Qt4 (p11:List Int) (p0 x15:Int) (x10:(Qf1×Int)):Slot:=.own 1 ((p11.set p0.toNat (w64 (x15+x10.1.Scale)):List Int).map Qab)
def Qya (x10:(Qf1×Int)):AV:=.agg [(I x10.1.Steam.Mass),(I x10.1.Steam.Heat),(I x10.1.Steam.Silica),(I x10.1.Steam.Gas)]
def Zag (x10:(Qf1×Int)):AV:=.agg [(I x10.1.Water.Mass),(I x10.1.Water.Heat),(I x10.1.Water.Silica),(I x10.1.Water.Gas)]
def Qx9 (x10:(Qf1×Int)):AV:=.dat 4 (([(⟨x10.1.Steam.Mass,x10.1.Steam.Heat,x10.1.Steam.Silica,x10.1.Steam.Gas⟩:Qaa),(⟨x10.1.Water.Mass,x10.1.Water.Heat,x10.1.Water.Silica,x10.1.Water.Gas⟩:Qaa)]:List Qaa).map Qac)
def Qyb (p2:List GRow) (p3:List Qaj) (p4 p5 p6:Nat) (p7:List Qaa) (p8:Int) (x10:(Qf1×Int)):Slot:=.own 7 [[(.dat 5 (p2.map Qap)),(Q2h p3),(.own 1 1 (0) p4),(.own 2 4 (0) p5),(.own 3 1 (0) p6),(Q2g p7),(I (w64 (p8+x10.1.Steam.Mass)))]]
def Zaf (x5:Qaj):AV:=.dat 1 (([w64 (1000-x5.Amount),x5.Amount]:List Int).map Qab)
def Zae (x23:Qaa):AV:=.agg [(I x23.Mass),(I x23.Heat),(I x23.Silica),(I x23.Gas)]
def Zep (x10:(Qf1×Int)) (x23:Qaa):AV:=.dat 4 (([(⟨x10.1.Steam.Mass,x10.1.Steam.Heat,x10.1.Steam.Silica,x10.1.Steam.Gas⟩:Qaa),x23]:List Qaa).map Qac)
def Zad (x28:Qaa):AV:=.agg [(I x28.Mass),(I x28.Heat),(I x28.Silica),(I x28.Gas)]
def Zac (x29:Qaa):AV:=.agg [(I x29.Mass),(I x29.Heat),(I x29.Silica),(I x29.Gas)]
def Qx8 (x28 x29:Qaa):AV:=.dat 4 (([x28,x29]:List Qaa).map Qac)
theorem Qj5 (N:Nat) (p0:Int) (p1:Qaa) (p2:List GRow) (p3:List Qaj) (p4 p5 p6:Nat) (p7:List Qaa) (p8:Int) (p9:List (List Qaa)) (p10:List Qba) (p11:List Int) (r:((List Qaa)×Int×(List Qba)×(List Int))) (h:Qd8 N p0 p1 p2 p3 p4 p5 p6 p7 p8 p9 p10 p11=some r):Spec prog 131 [(.ref 0 7 (0) 0),(I p0),(Zhd p1)] [(Qv3 p2 p3 p4 p5 p6 p7 p8),(Qov p9),(.own 4 (p10.map Qau)),(.own 1 (p11.map Qab))] (.dat 4 (r.1.map Qac)) [(.own 7 [[(.dat 5 (p2.map Qap)),(Q2h p3),(.own 1 1 (0) p4),(.own 2 4 (0) p5),(.own 3 1 (0) p6),(Q2g p7),(I r.2.1)]]),(Qov p9),(.own 4 (r.2.2.1.map Qau)),(.own 1 (r.2.2.2.map Qab))]:=by
  refine sF func131 4 fun _ _ _ hq hd0=>?_
  unfold Qd8 at h
  refine wxz ?_
  obtain⟨x5,hg6,h⟩:=bno h
  obtain⟨hi7,hj8⟩:=gsm hg6
  refine wx tbk [(1,rb [(.tmp 11,.ref 0 7 0 0)] [(0,(Qv3 p2 p3 p4 p5 p6 p7 p8))] (.ref 0 7 0 0)),(6,rp _ _)] ⟨Qa9 rfl,aiq underlying37 Qj3 Qan hi7 hj8,tv⟩ ?_
  obtain⟨x10,hf9,h⟩:=bno h
  refine wxd tbk [(1,rb [(.tmp 20,.ref 0 7 0 0)] [(0,(Qv3 p2 p3 p4 p5 p6 p7 p8))] (.ref 0 7 0 0)),(8,rp _ _)] ⟨Qa9 rfl,apw Q8y (Qp6 N p2 x5.Level p1 _ hf9),tv⟩ ?_
  obtain⟨hi11,h⟩:=cko h
  obtain⟨hi11a,hi11b⟩:=Qdw hi11
  obtain⟨x12,hg13,h⟩:=bno h
  refine wxd tbk [(1,rb [(.tmp 31,.ref 0 7 0 0)] [(0,(Qv3 p2 p3 p4 p5 p6 p7 p8))] (.ref 0 7 0 0)),(8,rb [(.tmp 35,(.own 2 4 (0) p5)),(.tmp 36,I p0)] [(2,(.own 4 (p10.map Qau)))] (.ref 2 4 p0.toNat 0)),(10,⟨[(.tmp 40,(.ref 2 4 p0.toNat 3)),(.tmp 38,I x10.1.Scale)],[(2,(.own 4 (p10.map Qau)))],.any,[(2,(Q2f p10 p0 x12 x10))],false⟩)] ⟨Qa9 rfl,aio rfl underlying43 ti64 (odt hi11a) (odt hi11b) (Nat.zero_add _),ast rfl ti3 (by rfl) (mgt Qau hg13) (nle rfl) (Qf6 Qau rfl),tv⟩ ?_
  obtain⟨hi14,h⟩:=cko h
  obtain⟨hi14a,hi14b⟩:=Qdw hi14
  obtain⟨x15,hg16,h⟩:=bno h
  obtain⟨hi17,h⟩:=cko h
  obtain⟨hi17a,hi17b⟩:=Qdw hi17
  obtain⟨x18,hg19,h⟩:=bno h
  refine wxd tbk [(1,rb [(.tmp 41,.ref 0 7 0 0)] [(0,(Qv3 p2 p3 p4 p5 p6 p7 p8))] (.ref 0 7 0 0)),(6,rb [(.tmp 45,(.own 3 1 (0) p6)),(.tmp 46,I p0)] [(3,(.own 1 (p11.map Qab)))] (.ref 3 1 p0.toNat 0)),(7,rb [(.tmp 47,(.ref 3 1 p0.toNat 0))] [(3,(.own 1 (p11.map Qab)))] (I x15)),(11,rb [(.tmp 45,(.own 3 1 (0) p6)),(.tmp 46,I p0)] [(3,(.own 1 (p11.map Qab)))] (.ref 3 1 p0.toNat 0)),(12,⟨[(.tmp 52,(.ref 3 1 p0.toNat 0)),(.tmp 51,(I (w64 (x15+x10.1.Scale))))],[(3,(.own 1 (p11.map Qab)))],.any,[(3,(Qt4 p11 p0 x15 x10))],false⟩)] ⟨Qa9 rfl,aio rfl underlying29 ti3 (odt hi14a) (odt hi14b) (Nat.zero_add _),ald rfl ti3 (by decide) (mgt Qab hg16) (nle rfl) rfl,aio rfl underlying29 ti3 (odt hi17a) (odt hi17b) (Nat.zero_add _),ast rfl ti3 (by rfl) (mgt Qab hg19) (nle rfl) (Qf6 Qab rfl),tv⟩ ?_
  refine wxd tbk [(1,rb [(.tmp 53,.ref 0 7 0 0)] [(0,(Qv3 p2 p3 p4 p5 p6 p7 p8))] (.ref 0 7 0 0)),(8,rb [(.tmp 53,.ref 0 7 0 0)] [(0,(Qv3 p2 p3 p4 p5 p6 p7 p8))] (.ref 0 7 0 0))] ⟨Qa9 rfl,Qa9 rfl,tv⟩<|wsq<|wxz ?_
  refine bfe h (fun hc20 h=>?_) fun hc20 h=>?_
  ·refine wft hc20<|wx tbk [(4,rp [(.tmp 67,(Qya x10)),(.tmp 69,(Zag x10))] (Qx9 x10))] ⟨Qcg (vs:=[(Qya x10),(Zag x10)]) rfl underlying51 ti49 tz49 rfl (by decide) rfl (by decide) (by rfl) (by rfl) (by rfl) rfl,tv⟩ ?_
   refine wmr (mto (n:=93) (l':=[(6,(Qx9 x10))]) (own':=[(.own 7 [[(.dat 5 (p2.map Qap)),(Q2h p3),(.own 1 1 (0) p4),(.own 2 4 (0) p5),(.own 3 1 (0) p6),(Q2g p7),(I ((w64 (p8+x10.1.Steam.Mass))))]]),(Qov p9),(.own 4 (((p10.set p0.toNat (⟨x12.Heat,x12.Silica,x12.Gas,x10.1.Scale⟩:Qba)):List Qba).map Qau)),(.own 1 (((p11.set p0.toNat (w64 (x15+x10.1.Scale))):List Int).map Qab))]) [(6,(Qx9 x10))] [0,1,2,3] [(Qyb p2 p3 p4 p5 p6 p7 p8 x10),(Qov p9),(Q2f p10 p0 x12 x10),(Qt4 p11 p0 x15 x10)] hq (pc (rnd Qai) pn) (qb (lc (rnd Qaw) (lc (rnd Qah) (lc (.rn (Qa2 rfl)) (lc (.rn (Qa2 rfl)) (lc (.rn (Qa2 rfl)) (lc (rnd Qai) (lc rwl ln))))))) (qc (spr Qar) (qc (spr Qa3) (qc (spr Qaf) qn)))))<|Qad<|Qae ?_
   obtain rfl:=osi h
   exact⟨_,Mor.rfl,fio [(Qx9 x10)] ⟨rot,tv⟩⟩
  ·refine wfn hc20<|Qam<|thn ?_
   obtain⟨x22,hf21,h⟩:=bno h
   refine wx tbk [(9,rp [(.tmp 77,(I (w64 (1000-x5.Amount)))),(.tmp 79,I x5.Amount)] (Zaf x5)),(10,⟨_,_,_,_,false⟩)] ⟨Qcg (vs:=[(I (w64 (1000-x5.Amount))),I x5.Amount]) rfl underlying29 ti3 tz3 rfl (by decide) rfl (by decide) (by rfl) (by rfl) (by rfl) rfl,acq [.ref 0 7 0 0,I p0,(.agg [(I ((⟨x10.1.Water.Mass,x10.1.Water.Heat,x10.1.Water.Silica,x10.1.Water.Gas⟩:Qaa).Mass)),(I ((⟨x10.1.Water.Mass,x10.1.Water.Heat,x10.1.Water.Silica,x10.1.Water.Gas⟩:Qaa).Heat)),(I ((⟨x10.1.Water.Mass,x10.1.Water.Heat,x10.1.Water.Silica,x10.1.Water.Gas⟩:Qaa).Silica)),(I ((⟨x10.1.Water.Mass,x10.1.Water.Heat,x10.1.Water.Silica,x10.1.Water.Gas⟩:Qaa).Gas))]),(Zaf x5)] [(Qyb p2 p3 p4 p5 p6 p7 p8 x10),(Qov p9),(Q2f p10 p0 x12 x10),(Qt4 p11 p0 x15 x10)] [(Qyb p2 p3 p4 p5 p6 p7 p8 x10),(Qov p9),(.own 4 (x22.2.map Qau)),(Qt4 p11 p0 x15 x10)] (.dat 4 (x22.1.map Qac)) [0,1,2,3] Qzm (Qic N p0 (⟨x10.1.Water.Mass,x10.1.Water.Heat,x10.1.Water.Silica,x10.1.Water.Gas⟩:Qaa) ([w64 (1000-x5.Amount),x5.Amount]) p2 p3 p4 p5 p6 p7 (w64 (p8+x10.1.Steam.Mass)) p9 (p10.set p0.toNat (⟨x12.Heat,x12.Silica,x12.Gas,x10.1.Scale⟩:Qba)) (p11.set p0.toNat (w64 (x15+x10.1.Scale))) _ hf21) (Qbm (rnc (Qbh rfl) (rnc (.plain _ nll) (rnc (.plain _ (NLt.agg _ (nlcc (nlcc nl0)))) (rnc (pld Qaf) rn0))))) (slc (Qak (rnc (pld Qaw) (rnc (pld Qah) (rnc (Qcx rfl) (rnc (Qcx rfl) (rnc (Qcx rfl) (rnc (pld Qai) (rnc (.plain _ nll) rn0)))))))) (slc (Qa5 Qar) (slc (Qa5 Qa3) (slc (Qa5 Qaf) Qao)))) (slc (Qak (rnc (pld Qaw) (rnc (pld Qah) (rnc (Qc1 rfl) (rnc (Qc1 rfl) (rnc (Qc1 rfl) (rnc (pld Qai) (rnc (.plain _ nll) rn0)))))))) (slc (Qa5 Qar) (slc (Qa5 Qa3) (slc (Qa5 Qaf) Qao)))) (pld Qai),tv⟩ ?_
   obtain⟨x23,hg24,h⟩:=bno h
   obtain⟨hi25,hj26⟩:=gsm hg24
   obtain⟨x28,hf27,h⟩:=bno h
   obtain⟨x29,hg30,h⟩:=bno h
   obtain⟨hi31,hj32⟩:=gsm hg30
   refine wxd tbk [(3,rp _ _),(5,rp [(.tmp 83,(Qya x10)),(.tmp 86,(Zae x23))] (Zep x10 x23)),(6,rp _ _),(8,rp _ _),(10,rp [(.tmp 88,(Zad x28)),(.tmp 91,(Zac x29))] (Qx8 x28 x29))] ⟨aiq underlying51 ti49 Qac hi25 hj26,Qcg (vs:=[(Qya x10),(Zae x23)]) rfl underlying51 ti49 tz49 rfl (by decide) rfl (by decide) (by rfl) (by rfl) (by rfl) rfl,apw Qxb (Qjt N ([(⟨x10.1.Steam.Mass,x10.1.Steam.Heat,x10.1.Steam.Silica,x10.1.Steam.Gas⟩:Qaa),x23]) _ hf27),aiq underlying51 ti49 Qac hi31 hj32,Qcg (vs:=[(Zad x28),(Zac x29)]) rfl underlying51 ti49 tz49 rfl (by decide) rfl (by decide) (by rfl) (by rfl) (by rfl) rfl,tv⟩ ?_
   refine wmr (mto (n:=93) (l':=[(6,(Qx8 x28 x29))]) (own':=[(.own 7 [[(.dat 5 (p2.map Qap)),(Q2h p3),(.own 1 1 (0) p4),(.own 2 4 (0) p5),(.own 3 1 (0) p6),(Q2g p7),(I ((w64 (p8+x10.1.Steam.Mass))))]]),(Qov p9),(.own 4 (x22.2.map Qau)),(.own 1 (((p11.set p0.toNat (w64 (x15+x10.1.Scale))):List Int).map Qab))]) [(6,(Qx8 x28 x29))] [0,1,2,3] [(Qyb p2 p3 p4 p5 p6 p7 p8 x10),(Qov p9),(.own 4 (x22.2.map Qau)),(Qt4 p11 p0 x15 x10)] hq (pc (rnd Qai) pn) (qb (lc (rnd Qaw) (lc (rnd Qah) (lc (.rn (Qa2 rfl)) (lc (.rn (Qa2 rfl)) (lc (.rn (Qa2 rfl)) (lc (rnd Qai) (lc rwl ln))))))) (qc (spr Qar) (qc (spr Qa3) (qc (spr Qaf) qn)))))<|Qad ?_
   obtain rfl:=osi h
   exact⟨_,Mor.rfl,fio [(Qx8 x28 x29)] ⟨rot,tv⟩⟩
def Qf8 (N:Nat) (p0:Int) (p1:Qaa) (p2:List GRow) (p3:List Qaj) (p4 p5 p6:Nat) (p7:List Qaa) (p8:Int) (p9:List (List Qaa)) (p10:List Qba) (p11:List Int):Option ((List Qaa)×(List Qba)):=
  (getI p3 p0).bind fun x3=>
  (Qed N p0 p1 x3.Weights p2 p3 p4 p5 p6 p7 p8 p9 p10 p11).bind fun x8=>
  some (x8.1,x8.2)
abbrev Zeo (p1:Qaa):AV:=.agg [(I p1.Mass),(I p1.Heat),(I p1.Silica),(I p1.Gas)]
abbrev Qv1 (p2:List GRow) (p3:List Qaj) (p4 p5 p6:Nat) (p7:List Qaa) (p8:Int):Slot:=.own 7 [[(.dat 5 (p2.map Qap)),(.dat 7 (p3.map Qan)),(.own 1 1 (0) p4),(.own 2 4 (0) p5),(.own 3 1 (0) p6),(.dat 4 (p7.map Qac)),(I p8)]]
abbrev Qz5 (p9:List (List Qaa)):Slot:=.own 1 (p9.map Qag)
def Qx7 (x8:((List Qaa)×(List Qba))):AV:=.dat 4 (x8.1.map Qac)
theorem Qld (N:Nat) (p0:Int) (p1:Qaa) (p2:List GRow) (p3:List Qaj) (p4 p5 p6:Nat) (p7:List Qaa) (p8:Int) (p9:List (List Qaa)) (p10:List Qba) (p11:List Int) (r:((List Qaa)×(List Qba))) (h:Qf8 N p0 p1 p2 p3 p4 p5 p6 p7 p8 p9 p10 p11=some r):Spec prog 132 [(.ref 0 7 (0) 0),(I p0),(Zeo p1)] [(Qv1 p2 p3 p4 p5 p6 p7 p8),(Qz5 p9),(.own 4 (p10.map Qau)),(.own 1 (p11.map Qab))] (.dat 4 (r.1.map Qac)) [(Qv1 p2 p3 p4 p5 p6 p7 p8),(Qz5 p9),(.own 4 (r.2.map Qau)),(.own 1 (p11.map Qab))]:=by
  refine sF func132 4 fun _ _ _ hq hd0=>?_
  unfold Qf8 at h
  refine wxz ?_
  obtain⟨x3,hg4,h⟩:=bno h
  obtain⟨hi5,hj6⟩:=gsm hg4
  obtain⟨x8,hf7,h⟩:=bno h
  refine wxd tbk [(4,rb [(.tmp 10,.ref 0 7 0 0)] [(0,(Qv1 p2 p3 p4 p5 p6 p7 p8))] (.ref 0 7 0 0)),(9,rp _ _),(12,⟨_,_,_,_,false⟩)] ⟨Qa9 rfl,aiq underlying37 Qj3 Qan hi5 hj6,acq [.ref 0 7 0 0,I p0,(Zeo p1),(.dat 1 (x3.Weights.map Qab))] [(Qv1 p2 p3 p4 p5 p6 p7 p8),(Qz5 p9),(.own 4 (p10.map Qau)),(.own 1 (p11.map Qab))] [(Qv1 p2 p3 p4 p5 p6 p7 p8),(Qz5 p9),(.own 4 (x8.2.map Qau)),(.own 1 (p11.map Qab))] (Qx7 x8) [0,1,2,3] Qzm (Qic N p0 p1 x3.Weights p2 p3 p4 p5 p6 p7 p8 p9 p10 p11 _ hf7) (Qbm (rnc (Qbh rfl) (rnc (.plain _ nll) (rnc (.plain _ (NLt.agg _ (nlcc (nlcc nl0)))) (rnc (pld Qaf) rn0))))) (slc (Qak (rnc (pld Qaw) (rnc (pld Qah) (rnc (Qcx rfl) (rnc (Qcx rfl) (rnc (Qcx rfl) (rnc (pld Qai) (rnc (.plain _ nll) rn0)))))))) (slc (Qa5 Qar) (slc (Qa5 Qa3) (slc (Qa5 Qaf) Qao)))) (slc (Qak (rnc (pld Qaw) (rnc (pld Qah) (rnc (Qc1 rfl) (rnc (Qc1 rfl) (rnc (Qc1 rfl) (rnc (pld Qai) (rnc (.plain _ nll) rn0)))))))) (slc (Qa5 Qar) (slc (Qa5 Qa3) (slc (Qa5 Qaf) Qao)))) (pld Qai),tv⟩ ?_
  refine wmr (mto (n:=20) (l':=[(6,(Qx7 x8))]) (own':=[(Qv1 p2 p3 p4 p5 p6 p7 p8),(Qz5 p9),(.own 4 (x8.2.map Qau)),(.own 1 (p11.map Qab))]) [(6,(Qx7 x8))] [0,1,2,3] [(Qv1 p2 p3 p4 p5 p6 p7 p8),(Qz5 p9),(.own 4 (x8.2.map Qau)),(.own 1 (p11.map Qab))] hq (pc (rnd Qai) pn) (qb (lc (rnd Qaw) (lc (rnd Qah) (lc (.rn (Qa2 rfl)) (lc (.rn (Qa2 rfl)) (lc (.rn (Qa2 rfl)) (lc (rnd Qai) (lc rwl ln))))))) (qc (spr Qar) (qc (spr Qa3) (qc (spr Qaf) qn)))))<|Qad ?_
  obtain rfl:=osi h
  exact⟨_,Mor.rfl,fio [(Qx7 x8)] ⟨rot,tv⟩⟩
def Qcl (N:Nat) (p0 p1:Int) (p2:List GRow) (p3:List Qaj) (p4 p5 p6:Nat) (p7:List Qaa) (p8:Int) (p9:List (List Qaa)) (p10:List Qba) (p11:List Int):Option ((Int×(List (List Qaa))×(List Qba)×(List Int))⊕Int):=
  (Qfi N p0 p2 p3 p4 p5 p6 p7 p8 p9 p10 p11).bind fun _=>
  chk (decide (p4≤p9.length))<|
  chk (decide (p5≤p10.length))<|
  chk (decide (p6≤p11.length))<|
  (Qbp N p2 p3 (p9.take p4) (p10.take p5) (p11.take p6) p7 p8 p0).bind fun x12=>
  (Qes N x12).bind fun x14=>
  Qb7 (fun _=>
    (getI p3 p0).bind fun x16=>
    bif (x16.Kind==0) then
     none
    else
     bif (x16.Kind==1) then
      (Qen N p0 x14 p2 p3 p4 p5 p6 p7 p8 p9 p10 p11).bind fun x23=>
      chk (decide (0≤p0)&&decide (p0.toNat<p4))<|
      (p9[p0.toNat]?).bind fun _=>
      some (.inl (p8,p9.set p0.toNat x23,p10,p11))
     else
      bif (x16.Kind==2) then
       (Qen N p0 x14 p2 p3 p4 p5 p6 p7 p8 p9 p10 p11).bind fun x29=>
       chk (decide (0≤p0)&&decide (p0.toNat<p4))<|
       (p9[p0.toNat]?).bind fun _=>
       some (.inl (p8,p9.set p0.toNat x29,p10,p11))
      else
       bif (x16.Kind==3) then
        (Qgk N p0 x14 p2 p3 p4 p5 p6 p7 p8 p9 p10 p11).bind fun x35=>
        chk (decide (0≤p0)&&decide (p0.toNat<p4))<|
        (p9[p0.toNat]?).bind fun _=>
        some (.inl (p8,p9.set p0.toNat x35.1,x35.2,p11))
       else
        bif (x16.Kind==4) then
         (Qd8 N p0 x14 p2 p3 p4 p5 p6 p7 p8 p9 p10 p11).bind fun x41=>
         chk (decide (0≤p0)&&decide (p0.toNat<p4))<|
         (p9[p0.toNat]?).bind fun _=>
         some (.inl (x41.2.1,p9.set p0.toNat x41.1,x41.2.2.1,x41.2.2.2))
        else
         bif (x16.Kind==5) then
          (Qf8 N p0 x14 p2 p3 p4 p5 p6 p7 p8 p9 p10 p11).bind fun x47=>
          chk (decide (0≤p0)&&decide (p0.toNat<p4))<|
          (p9[p0.toNat]?).bind fun _=>
          some (.inl (p8,p9.set p0.toNat x47.1,x47.2,p11))
         else
          bif (x16.Kind==6) then
           (Qen N p0 x14 p2 p3 p4 p5 p6 p7 p8 p9 p10 p11).bind fun x53=>
           chk (decide (0≤p0)&&decide (p0.toNat<p4))<|
           (p9[p0.toNat]?).bind fun _=>
           some (.inl (p8,p9.set p0.toNat x53,p10,p11))
          else
           none) fun k15:Unit→Option ((Int×(List (List Qaa))×(List Qba)×(List Int))⊕Int)=>
  bif (decide (x14.Mass>p1)) then
   some (.inr p0)
  else
   k15 ()
abbrev Qiw (p3:List Qaj):AV:=.dat 7 (p3.map Qan)
abbrev Qpw (p7:List Qaa):AV:=.dat 4 (p7.map Qac)
abbrev Qfp (p2:List GRow) (p3:List Qaj) (p4 p5 p6:Nat) (p7:List Qaa) (p8:Int):Slot:=.own 7 [[(.dat 5 (p2.map Qap)),(Qiw p3),(.own 1 1 (0) p4),(.own 2 4 (0) p5),(.own 3 1 (0) p6),(Qpw p7),(I p8)]]
abbrev Qe1 (p9:List (List Qaa)):Slot:=.own 1 (p9.map Qag)
abbrev Qgo (p10:List Qba):Slot:=.own 4 (p10.map Qau)
def Zer:AV:=.fn (.func 156) [] [(.ref 4 1 (0) 0),(.ref 5 1 (0) 0)]
def Zes:Slot:=.own 1 [[(.ref 0 7 (0) 0)]]
def Qg0 (x14:Qaa):AV:=.agg [(I x14.Mass),(I x14.Heat),(I x14.Silica),(I x14.Gas)]
def Qox (x14:Qaa):Slot:=.own 4 [[(I x14.Mass),(I x14.Heat),(I x14.Silica),(I x14.Gas)]]
def Qkw:Slot:=.own 7 [[(.lit .nilFunc),(.fn (.func 129) [] []),(.fn (.func 129) [] []),(.fn (.func 130) [] []),(.fn (.func 131) [] []),(.fn (.func 132) [] []),(.fn (.func 129) [] [])]]
def Qye (p2:List GRow) (p3:List Qaj) (p4 p5 p6:Nat) (p7:List Qaa) (x41:((List Qaa)×Int×(List Qba)×(List Int))):Slot:=.own 7 [[(.dat 5 (p2.map Qap)),(Qiw p3),(.own 1 1 (0) p4),(.own 2 4 (0) p5),(.own 3 1 (0) p6),(Qpw p7),(I x41.2.1)]]
theorem Qhd (N:Nat) (p0 p1:Int) (p2:List GRow) (p3:List Qaj) (p4 p5 p6:Nat) (p7:List Qaa) (p8:Int) (p9:List (List Qaa)) (p10:List Qba) (p11:List Int) (r:((Int×(List (List Qaa))×(List Qba)×(List Int))⊕Int)) (h:Qcl N p0 p1 p2 p3 p4 p5 p6 p7 p8 p9 p10 p11=some r):Zg5 prog 83 [(.ref 0 7 (0) 0),(I p0),(I p1)] [(Qfp p2 p3 p4 p5 p6 p7 p8),(Qe1 p9),(Qgo p10),(.own 1 (p11.map Qab))]  ((Sum.elim (fun r=>.ret (.tup []) [(.own 7 [[(.dat 5 (p2.map Qap)),(.dat 7 (p3.map Qan)),(.own 1 1 (0) p4),(.own 2 4 (0) p5),(.own 3 1 (0) p6),(.dat 4 (p7.map Qac)),(I r.1)]]),(.own 1 (r.2.1.map Qag)),(.own 4 (r.2.2.1.map Qau)),(.own 1 (r.2.2.2.map Qab))]) (fun r=>.pan (.iface 194 (.agg #[(.int .i64 r)]))):((Int×(List (List Qaa))×(List Qba)×(List Int))⊕Int)→Out) r):=by
  refine Quf func83 rfl 4 (nle rfl) (fun _ _ _ hq hd0=>?_)
  unfold Qcl at h
  obtain⟨x7,hf6,h⟩:=bno h
  obtain⟨hz8,h⟩:=cko h
  obtain⟨hz9,h⟩:=cko h
  obtain⟨hz10,h⟩:=cko h
  obtain⟨x12,hf11,h⟩:=bno h
  obtain⟨x14,hf13,h⟩:=bno h
  refine wx tbk [(2,⟨_,_,_,_,false⟩),(3,⟨[fu 127,(.tmp 10,Zer)],[(4,Zes),(0,(Qfp p2 p3 p4 p5 p6 p7 p8)),(1,(Qe1 p9)),(2,(Qgo p10)),(3,(.own 1 (p11.map Qab))),(5,.own 1 [[I p0]]),(6,.unused)],(.acc 6 49 4 (x12.map Qac)),[(6,.tok)],false⟩),(4,rp [fu 68,(.tmp 11,(.acc 6 49 4 (x12.map Qac)))] (Qg0 x14))] ⟨acq [.ref 0 7 0 0,I p0] [(Qfp p2 p3 p4 p5 p6 p7 p8),(Qe1 p9),(Qgo p10),(.own 1 (p11.map Qab))] [(Qfp p2 p3 p4 p5 p6 p7 p8),(Qe1 p9),(Qgo p10),(.own 1 (p11.map Qab)),Zes,(.own 1 [[I p0]])] Zer [0,1,2,3,4,5] Q9e (Qlx N p0 p2 p3 p4 p5 p6 p7 p8 p9 p10 p11 _ hf6) (Qbm (rnc (Qbh rfl) (rnc (.plain _ nll) rn0))) (slc (Qak (rnc (pld Qaw) (rnc (pld Qah) (rnc (Qcx rfl) (rnc (Qcx rfl) (rnc (Qcx rfl) (rnc (pld Qai) (rnc (.plain _ nll) rn0)))))))) (slc (Qa5 Qar) (slc (Qa5 Qa3) (slc (Qa5 Qaf) Qao)))) (slc (Qak (rnc (pld Qaw) (rnc (pld Qah) (rnc (Qc1 rfl) (rnc (Qc1 rfl) (rnc (Qc1 rfl) (rnc (pld Qai) (rnc (.plain _ nll) rn0)))))))) (slc (Qa5 Qar) (slc (Qa5 Qa3) (slc (Qa5 Qaf) (slc (Qak (rnc (Qbl rfl) rn0)) (slc (Qak (rnc (.plain _ nll) rn0)) Qao)))))) (Qbc rn0 (rnc (Qbl rfl) (rnc (Qbl rfl) rn0))),Qir (rd':=[fu 127,(.tmp 10,(.fn (.func 156) [] [(.dptr [(.dptr [(.dat 5 (p2.map Qap)),(Qiw p3),(.dat 1 ((p9.take p4:List (List Qaa)).map Qag)),(.dat 4 ((p10.take p5:List Qba).map Qau)),(.dat 1 ((p11.take p6:List Int).map Qab)),(Qpw p7),I p8] 0)] 0),(.dptr [I p0] 0)]))]) [(4,1,[[.ref 0 7 0 0]]),(0,7,[[(.dat 5 (p2.map Qap)),(Qiw p3),(.own 1 1 (0) p4),(.own 2 4 (0) p5),(.own 3 1 (0) p6),(Qpw p7),I p8]]),(1,1,p9.map Qag),(2,4,p10.map Qau),(3,1,p11.map Qab),(5,1,[[I p0]])] ⟨rfl,.same _,rfl,(Q9n tv ⟨(Qnt 0 rfl (lc (Qnt 1 rfl (lc (.same _) (lc (.same _) (lc (Qxe 2 rfl hz8) (lc (Qxe 3 rfl hz9) (lc (Qxe 4 rfl hz10) (lc (.same _) (lc (.same _) ln)))))))) ln)),(Qnt 5 rfl (lc (.same _) ln)),tv⟩),tv⟩ (by rfl) (.acc _ _ _ _ (nin rfl) (by simp) (Q79 Qw7 _)) (Q7w .tok Qsz) (acq [(.fn (.func 156) [] [(.dptr [(.dptr [(.dat 5 (p2.map Qap)),(Qiw p3),(.dat 1 ((p9.take p4:List (List Qaa)).map Qag)),(.dat 4 ((p10.take p5:List Qba).map Qau)),(.dat 1 ((p11.take p6:List Int).map Qab)),(Qpw p7),I p8] 0)] 0),(.dptr [I p0] 0)])] [] [.tok] (.acc 6 49 4 (x12.map Qac)) [6] Q9f (Qhc N p2 p3 (p9.take p4) (p10.take p5) (p11.take p6) p7 p8 p0 _ hf11) (Qbm (rnc (.plain _ (NLt.fn _ _ _ nl0 (nlc (NLt.dptr _ _ (nlc (NLt.dptr _ _ (nlc (nld Qaw _) (nlc (nld Qah _) (nlc (nld Qar _) (nlc (nld Qa3 _) (nlc (nld Qaf _) (nlc (nld Qai _) (nlc nll nl0)))))))) nl0)) (nlc (NLt.dptr _ _ (nlc nll nl0)) nl0)))) rn0)) Qao (slc .tok Qao) (Q39 rfl (Qek Qai _))),awk (rd':=(.func 68,(.fn (.func 68) [] []))::[(.tmp 11,(.dat 4 (x12.map Qac)))]) ⟨rfl,lrf,rfl,Less.acc,tv⟩ (apv Qxb (Qjt N x12 _ hf13) (nlc (nld Qai _) nl0) (NLt.agg _ (nlcc (nlcc nl0)))),tv⟩ ?_
  obtain⟨k15,hk_k15,h⟩:=jko h
  refine wjn (τ:=Unit) (fun t=>k15 t=some r) (fun _=>⟨mk 43 [(0,.ref 0 7 0 0),(1,I p0),(6,.ref 4 4 0 0)],[(Qfp p2 p3 p4 p5 p6 p7 p8),(Qe1 p9),(Qgo p10),(.own 1 (p11.map Qab)),(Qox x14)]⟩) (fun t h=>?_) ?_
  ·subst hk_k15
   refine wx tbk [(0,rp [fu 129,fu 129,fu 130,fu 131,fu 132,fu 129] (.agg [(.lit .nilFunc),(.fn (.func 129) [] []),(.fn (.func 129) [] []),(.fn (.func 130) [] []),(.fn (.func 131) [] []),(.fn (.func 132) [] []),(.fn (.func 129) [] [])]))] ⟨Qo7 (vs:=[(.fn (.func 129) [] []),(.fn (.func 129) [] []),(.fn (.func 130) [] []),(.fn (.func 131) [] []),(.fn (.func 132) [] []),(.fn (.func 129) [] [])]) rfl underlying232 Qm5 Zfv rfl (by rfl) rfl,tv⟩ ?_
   obtain⟨x16,hg17,h⟩:=bno h
   obtain⟨hi18,hj19⟩:=gsm hg17
   refine bfe h (fun hb20 h=>?_) fun hb20 h=>?_
   ·cases h
   ·refine bfe h (fun hb21 h=>?_) fun hb21 h=>?_
    ·obtain⟨x23,hf22,h⟩:=bno h
     obtain⟨hi24,h⟩:=cko h
     obtain⟨hi24a,hi24b⟩:=Qdw hi24
     obtain⟨x25,hg26,h⟩:=bno h
     refine Qkh 0 (.own 7 [[(.dat 5 (p2.map Qap)),(Qiw p3),(.own 1 1 (0) p4),(.own 2 4 (0) p5),(.own 3 1 (0) p6),(Qpw p7),I p8]]) [mv 0 (.ref 0 7 0 0),rp [(.tmp 21,.ref 0 7 0 0)] (.ref 0 7 0 0),rp [(.tmp 22,.ref 0 7 0 0)] (.ref 0 7 0 2),rp [(.tmp 23,.ref 0 7 0 2)] (.ref 0 7 0 2),rp [(.tmp 24,.ref 0 7 0 2)] (.own 1 1 (0) p4),mv 1 (I p0),mv 0 (.ref 0 7 0 0),rp [(.tmp 27,.ref 0 7 0 0)] (.ref 0 7 0 0),rp [(.tmp 28,.ref 0 7 0 0)] (.ref 0 7 0 0),rp [(.tmp 29,.ref 0 7 0 0)] (.ref 0 7 0 1),rp [(.tmp 30,.ref 0 7 0 1)] (Qiw p3),mv 1 (I p0),rp [(.tmp 31,(Qiw p3)),(.tmp 32,I p0)] (.dptr (Qan x16) 0),mv 33 (.dptr (Qan x16) 0),rp [(.tmp 34,(.dptr (Qan x16) 0))] (K .u8 x16.Kind),rb [(.tmp 7,.ref 5 7 0 0),(.tmp 35,(K .u8 x16.Kind))] [(5,Qkw)] (.ref 5 7 0 1),rb [(.tmp 36,.ref 5 7 0 1)] [(5,Qkw)] (.fn (.func 129) [] []),mv 0 (.ref 0 7 0 0),mv 1 (I p0),rb [(.tmp 6,.ref 4 4 0 0)] [(4,(Qox x14))] (Qg0 x14),⟨[(.tmp 37,(.fn (.func 129) [] [])),(.tmp 38,.ref 0 7 0 0),(.tmp 39,I p0),(.tmp 40,(Qg0 x14))],[(0,(Qfp p2 p3 p4 p5 p6 p7 p8)),(1,(Qe1 p9)),(2,(Qgo p10)),(3,(.own 1 (p11.map Qab)))],(.dat 4 (x23.map Qac)),[(0,(Qfp p2 p3 p4 p5 p6 p7 p8)),(1,(Qe1 p9)),(2,(Qgo p10)),(3,(.own 1 (p11.map Qab)))],false⟩,rb [(.tmp 25,(.own 1 1 (0) p4)),(.tmp 26,I p0)] [(1,(Qe1 p9))] (.ref 1 1 p0.toNat 0),⟨[(.tmp 42,(.ref 1 1 p0.toNat 0)),(.tmp 41,(.dat 4 (x23.map Qac)))],[(1,(Qe1 p9))],.any,[(1,(.own 1 ((p9.set p0.toNat x23:List (List Qaa)).map Qag)))],false⟩] (SImp.box ⟨lrf,lrf,lrf,lrf,lrf,lrf,lrf,tv⟩) ⟨tv,tv,tv,tv,tv,tv,tv,tv,tv,tv,tv,tv,tv,tv,tv,tv,tv,tv,tv,tv,⟨(SImp.box ⟨lrf,lrf,lrf,lrf,lrf,lrf,lrf,tv⟩),tv,tv,tv,tv⟩,tv,⟨tv,tv⟩,tv⟩ ?_ ?_
     ·exact⟨hr_ (amv rfl),sf_ (Qa9 rfl),sf_ (afa rfl underlying119 rfl rfl ti45 (by decide) rfl),sf_ (afa rfl underlying45 rfl rfl ti42 (by decide) rfl),sf_ (ald rfl ti42 (by decide) rfl (nle rfl) rfl),hr_ (amv rfl),hr_ (amv rfl),sf_ (Qa9 rfl),sf_ (afa rfl underlying119 rfl rfl ti39 (by decide) rfl),sf_ (afa rfl underlying39 rfl rfl ti37 (by decide) rfl),sf_ (ald rfl ti37 (by decide) rfl (nle rfl) rfl),hr_ (amv rfl),hr_ (aiq underlying37 Qj3 Qan hi18 hj19),hr_ (afd rfl underlying110 rfl rfl ti5 (by decide) rfl),hr_ (ald_ rfl ti5 (by decide) (nle rfl) rfl),hr_ (Qiu hb21 (Qiv rfl underlying232 Qm5 (by decide) (by decide) rfl)),hr_ (ald rfl Qm5 (by decide) rfl (nle rfl) rfl),hr_ (amv rfl),hr_ (amv rfl),hr_ (ald rfl ti49 (by decide) rfl (nle rfl) rfl),hr_ (acq [.ref 0 7 0 0,I p0,(Qg0 x14)] [(Qfp p2 p3 p4 p5 p6 p7 p8),(Qe1 p9),(Qgo p10),(.own 1 (p11.map Qab))] [(Qfp p2 p3 p4 p5 p6 p7 p8),(Qe1 p9),(Qgo p10),(.own 1 (p11.map Qab))] (.dat 4 (x23.map Qac)) [0,1,2,3] Qtl (Qgm N p0 x14 p2 p3 p4 p5 p6 p7 p8 p9 p10 p11 _ hf22) (Qbm (rnc (Qbh rfl) (rnc (.plain _ nll) (rnc (.plain _ (NLt.agg _ (nlcc (nlcc nl0)))) rn0)))) (slc (Qak (rnc (pld Qaw) (rnc (pld Qah) (rnc (Qcx rfl) (rnc (Qcx rfl) (rnc (Qcx rfl) (rnc (pld Qai) (rnc (.plain _ nll) rn0)))))))) (slc (Qa5 Qar) (slc (Qa5 Qa3) (slc (Qa5 Qaf) Qao)))) (slc (Qak (rnc (pld Qaw) (rnc (pld Qah) (rnc (Qc1 rfl) (rnc (Qc1 rfl) (rnc (Qc1 rfl) (rnc (pld Qai) (rnc (.plain _ nll) rn0)))))))) (slc (Qa5 Qar) (slc (Qa5 Qa3) (slc (Qa5 Qaf) Qao)))) (pld Qai)),hr_ (aio rfl underlying42 ti51 (odt hi24a) (odt hi24b) (Nat.zero_add _)),hr_ (ast rfl ti51 (by rfl) (mgt Qag hg26) (nle rfl) (Qf6 Qag rfl)),tv⟩
     obtain rfl:=osi h
     exact⟨_,(mto (n:=43) (l':=[]) (own':=[(Qfp p2 p3 p4 p5 p6 p7 p8),(.own 1 (((p9.set p0.toNat x23):List (List Qaa)).map Qag)),(Qgo p10),(.own 1 (p11.map Qab))]) [] [0,1,2,3] [(Qfp p2 p3 p4 p5 p6 p7 p8),(.own 1 ((p9.set p0.toNat x23:List (List Qaa)).map Qag)),(Qgo p10),(.own 1 (p11.map Qab))] hq pn (qb (lc (rnd Qaw) (lc (rnd Qah) (lc (.rn (Qa2 rfl)) (lc (.rn (Qa2 rfl)) (lc (.rn (Qa2 rfl)) (lc (rnd Qai) (lc rwl ln))))))) (qc (spr Qar) (qc (spr Qa3) (qc (spr Qaf) qn))))),Qjn (vs:=[]) tv rfl (NLt.tup _ nl0) (by kernel_rfl) (Qce (Qg5 (nlc (NLt.of0 (nld Qaw _)) (nlc (NLt.of0 (nld Qah _)) (nlc (NLt.own _ _ _ _ (by decide)) (nlc (NLt.own _ _ _ _ (by decide)) (nlc (NLt.own _ _ _ _ (by decide)) (nlc (NLt.of0 (nld Qai _)) (nlc (NLt.of0 nll) nl0)))))))) (Qce (Qe0 Qar _) (Qce (Qe0 Qa3 _) (Qce (Qe0 Qaf _) Qjs))))⟩
    ·refine bfe h (fun hb27 h=>?_) fun hb27 h=>?_
     ·obtain⟨x29,hf28,h⟩:=bno h
      obtain⟨hi30,h⟩:=cko h
      obtain⟨hi30a,hi30b⟩:=Qdw hi30
      obtain⟨x31,hg32,h⟩:=bno h
      refine Qkh 0 (.own 7 [[(.dat 5 (p2.map Qap)),(Qiw p3),(.own 1 1 (0) p4),(.own 2 4 (0) p5),(.own 3 1 (0) p6),(Qpw p7),I p8]]) [mv 0 (.ref 0 7 0 0),rp [(.tmp 21,.ref 0 7 0 0)] (.ref 0 7 0 0),rp [(.tmp 22,.ref 0 7 0 0)] (.ref 0 7 0 2),rp [(.tmp 23,.ref 0 7 0 2)] (.ref 0 7 0 2),rp [(.tmp 24,.ref 0 7 0 2)] (.own 1 1 (0) p4),mv 1 (I p0),mv 0 (.ref 0 7 0 0),rp [(.tmp 27,.ref 0 7 0 0)] (.ref 0 7 0 0),rp [(.tmp 28,.ref 0 7 0 0)] (.ref 0 7 0 0),rp [(.tmp 29,.ref 0 7 0 0)] (.ref 0 7 0 1),rp [(.tmp 30,.ref 0 7 0 1)] (Qiw p3),mv 1 (I p0),rp [(.tmp 31,(Qiw p3)),(.tmp 32,I p0)] (.dptr (Qan x16) 0),mv 33 (.dptr (Qan x16) 0),rp [(.tmp 34,(.dptr (Qan x16) 0))] (K .u8 x16.Kind),rb [(.tmp 7,.ref 5 7 0 0),(.tmp 35,(K .u8 x16.Kind))] [(5,Qkw)] (.ref 5 7 0 2),rb [(.tmp 36,.ref 5 7 0 2)] [(5,Qkw)] (.fn (.func 129) [] []),mv 0 (.ref 0 7 0 0),mv 1 (I p0),rb [(.tmp 6,.ref 4 4 0 0)] [(4,(Qox x14))] (Qg0 x14),⟨[(.tmp 37,(.fn (.func 129) [] [])),(.tmp 38,.ref 0 7 0 0),(.tmp 39,I p0),(.tmp 40,(Qg0 x14))],[(0,(Qfp p2 p3 p4 p5 p6 p7 p8)),(1,(Qe1 p9)),(2,(Qgo p10)),(3,(.own 1 (p11.map Qab)))],(.dat 4 (x29.map Qac)),[(0,(Qfp p2 p3 p4 p5 p6 p7 p8)),(1,(Qe1 p9)),(2,(Qgo p10)),(3,(.own 1 (p11.map Qab)))],false⟩,rb [(.tmp 25,(.own 1 1 (0) p4)),(.tmp 26,I p0)] [(1,(Qe1 p9))] (.ref 1 1 p0.toNat 0),⟨[(.tmp 42,(.ref 1 1 p0.toNat 0)),(.tmp 41,(.dat 4 (x29.map Qac)))],[(1,(Qe1 p9))],.any,[(1,(.own 1 ((p9.set p0.toNat x29:List (List Qaa)).map Qag)))],false⟩] (SImp.box ⟨lrf,lrf,lrf,lrf,lrf,lrf,lrf,tv⟩) ⟨tv,tv,tv,tv,tv,tv,tv,tv,tv,tv,tv,tv,tv,tv,tv,tv,tv,tv,tv,tv,⟨(SImp.box ⟨lrf,lrf,lrf,lrf,lrf,lrf,lrf,tv⟩),tv,tv,tv,tv⟩,tv,⟨tv,tv⟩,tv⟩ ?_ ?_
      ·exact⟨hr_ (amv rfl),sf_ (Qa9 rfl),sf_ (afa rfl underlying119 rfl rfl ti45 (by decide) rfl),sf_ (afa rfl underlying45 rfl rfl ti42 (by decide) rfl),sf_ (ald rfl ti42 (by decide) rfl (nle rfl) rfl),hr_ (amv rfl),hr_ (amv rfl),sf_ (Qa9 rfl),sf_ (afa rfl underlying119 rfl rfl ti39 (by decide) rfl),sf_ (afa rfl underlying39 rfl rfl ti37 (by decide) rfl),sf_ (ald rfl ti37 (by decide) rfl (nle rfl) rfl),hr_ (amv rfl),hr_ (aiq underlying37 Qj3 Qan hi18 hj19),hr_ (afd rfl underlying110 rfl rfl ti5 (by decide) rfl),hr_ (ald_ rfl ti5 (by decide) (nle rfl) rfl),hr_ (Qiu hb27 (Qiv rfl underlying232 Qm5 (by decide) (by decide) rfl)),hr_ (ald rfl Qm5 (by decide) rfl (nle rfl) rfl),hr_ (amv rfl),hr_ (amv rfl),hr_ (ald rfl ti49 (by decide) rfl (nle rfl) rfl),hr_ (acq [.ref 0 7 0 0,I p0,(Qg0 x14)] [(Qfp p2 p3 p4 p5 p6 p7 p8),(Qe1 p9),(Qgo p10),(.own 1 (p11.map Qab))] [(Qfp p2 p3 p4 p5 p6 p7 p8),(Qe1 p9),(Qgo p10),(.own 1 (p11.map Qab))] (.dat 4 (x29.map Qac)) [0,1,2,3] Qtl (Qgm N p0 x14 p2 p3 p4 p5 p6 p7 p8 p9 p10 p11 _ hf28) (Qbm (rnc (Qbh rfl) (rnc (.plain _ nll) (rnc (.plain _ (NLt.agg _ (nlcc (nlcc nl0)))) rn0)))) (slc (Qak (rnc (pld Qaw) (rnc (pld Qah) (rnc (Qcx rfl) (rnc (Qcx rfl) (rnc (Qcx rfl) (rnc (pld Qai) (rnc (.plain _ nll) rn0)))))))) (slc (Qa5 Qar) (slc (Qa5 Qa3) (slc (Qa5 Qaf) Qao)))) (slc (Qak (rnc (pld Qaw) (rnc (pld Qah) (rnc (Qc1 rfl) (rnc (Qc1 rfl) (rnc (Qc1 rfl) (rnc (pld Qai) (rnc (.plain _ nll) rn0)))))))) (slc (Qa5 Qar) (slc (Qa5 Qa3) (slc (Qa5 Qaf) Qao)))) (pld Qai)),hr_ (aio rfl underlying42 ti51 (odt hi30a) (odt hi30b) (Nat.zero_add _)),hr_ (ast rfl ti51 (by rfl) (mgt Qag hg32) (nle rfl) (Qf6 Qag rfl)),tv⟩
      obtain rfl:=osi h
      exact⟨_,(mto (n:=43) (l':=[]) (own':=[(Qfp p2 p3 p4 p5 p6 p7 p8),(.own 1 (((p9.set p0.toNat x29):List (List Qaa)).map Qag)),(Qgo p10),(.own 1 (p11.map Qab))]) [] [0,1,2,3] [(Qfp p2 p3 p4 p5 p6 p7 p8),(.own 1 ((p9.set p0.toNat x29:List (List Qaa)).map Qag)),(Qgo p10),(.own 1 (p11.map Qab))] hq pn (qb (lc (rnd Qaw) (lc (rnd Qah) (lc (.rn (Qa2 rfl)) (lc (.rn (Qa2 rfl)) (lc (.rn (Qa2 rfl)) (lc (rnd Qai) (lc rwl ln))))))) (qc (spr Qar) (qc (spr Qa3) (qc (spr Qaf) qn))))),Qjn (vs:=[]) tv rfl (NLt.tup _ nl0) (by kernel_rfl) (Qce (Qg5 (nlc (NLt.of0 (nld Qaw _)) (nlc (NLt.of0 (nld Qah _)) (nlc (NLt.own _ _ _ _ (by decide)) (nlc (NLt.own _ _ _ _ (by decide)) (nlc (NLt.own _ _ _ _ (by decide)) (nlc (NLt.of0 (nld Qai _)) (nlc (NLt.of0 nll) nl0)))))))) (Qce (Qe0 Qar _) (Qce (Qe0 Qa3 _) (Qce (Qe0 Qaf _) Qjs))))⟩
     ·refine bfe h (fun hb33 h=>?_) fun hb33 h=>?_
      ·obtain⟨x35,hf34,h⟩:=bno h
       obtain⟨hi36,h⟩:=cko h
       obtain⟨hi36a,hi36b⟩:=Qdw hi36
       obtain⟨x37,hg38,h⟩:=bno h
       refine Qkh 0 (.own 7 [[(.dat 5 (p2.map Qap)),(Qiw p3),(.own 1 1 (0) p4),(.own 2 4 (0) p5),(.own 3 1 (0) p6),(Qpw p7),I p8]]) [mv 0 (.ref 0 7 0 0),rp [(.tmp 21,.ref 0 7 0 0)] (.ref 0 7 0 0),rp [(.tmp 22,.ref 0 7 0 0)] (.ref 0 7 0 2),rp [(.tmp 23,.ref 0 7 0 2)] (.ref 0 7 0 2),rp [(.tmp 24,.ref 0 7 0 2)] (.own 1 1 (0) p4),mv 1 (I p0),mv 0 (.ref 0 7 0 0),rp [(.tmp 27,.ref 0 7 0 0)] (.ref 0 7 0 0),rp [(.tmp 28,.ref 0 7 0 0)] (.ref 0 7 0 0),rp [(.tmp 29,.ref 0 7 0 0)] (.ref 0 7 0 1),rp [(.tmp 30,.ref 0 7 0 1)] (Qiw p3),mv 1 (I p0),rp [(.tmp 31,(Qiw p3)),(.tmp 32,I p0)] (.dptr (Qan x16) 0),mv 33 (.dptr (Qan x16) 0),rp [(.tmp 34,(.dptr (Qan x16) 0))] (K .u8 x16.Kind),rb [(.tmp 7,.ref 5 7 0 0),(.tmp 35,(K .u8 x16.Kind))] [(5,Qkw)] (.ref 5 7 0 3),rb [(.tmp 36,.ref 5 7 0 3)] [(5,Qkw)] (.fn (.func 130) [] []),mv 0 (.ref 0 7 0 0),mv 1 (I p0),rb [(.tmp 6,.ref 4 4 0 0)] [(4,(Qox x14))] (Qg0 x14),⟨[(.tmp 37,(.fn (.func 130) [] [])),(.tmp 38,.ref 0 7 0 0),(.tmp 39,I p0),(.tmp 40,(Qg0 x14))],[(0,(Qfp p2 p3 p4 p5 p6 p7 p8)),(1,(Qe1 p9)),(2,(Qgo p10)),(3,(.own 1 (p11.map Qab)))],(.dat 4 (x35.1.map Qac)),[(0,(Qfp p2 p3 p4 p5 p6 p7 p8)),(1,(Qe1 p9)),(2,(.own 4 (x35.2.map Qau))),(3,(.own 1 (p11.map Qab)))],false⟩,rb [(.tmp 25,(.own 1 1 (0) p4)),(.tmp 26,I p0)] [(1,(Qe1 p9))] (.ref 1 1 p0.toNat 0),⟨[(.tmp 42,(.ref 1 1 p0.toNat 0)),(.tmp 41,(.dat 4 (x35.1.map Qac)))],[(1,(Qe1 p9))],.any,[(1,(.own 1 ((p9.set p0.toNat x35.1:List (List Qaa)).map Qag)))],false⟩] (SImp.box ⟨lrf,lrf,lrf,lrf,lrf,lrf,lrf,tv⟩) ⟨tv,tv,tv,tv,tv,tv,tv,tv,tv,tv,tv,tv,tv,tv,tv,tv,tv,tv,tv,tv,⟨(SImp.box ⟨lrf,lrf,lrf,lrf,lrf,lrf,lrf,tv⟩),tv,tv,tv,tv⟩,tv,⟨tv,tv⟩,tv⟩ ?_ ?_
       ·exact⟨hr_ (amv rfl),sf_ (Qa9 rfl),sf_ (afa rfl underlying119 rfl rfl ti45 (by decide) rfl),sf_ (afa rfl underlying45 rfl rfl ti42 (by decide) rfl),sf_ (ald rfl ti42 (by decide) rfl (nle rfl) rfl),hr_ (amv rfl),hr_ (amv rfl),sf_ (Qa9 rfl),sf_ (afa rfl underlying119 rfl rfl ti39 (by decide) rfl),sf_ (afa rfl underlying39 rfl rfl ti37 (by decide) rfl),sf_ (ald rfl ti37 (by decide) rfl (nle rfl) rfl),hr_ (amv rfl),hr_ (aiq underlying37 Qj3 Qan hi18 hj19),hr_ (afd rfl underlying110 rfl rfl ti5 (by decide) rfl),hr_ (ald_ rfl ti5 (by decide) (nle rfl) rfl),hr_ (Qiu hb33 (Qiv rfl underlying232 Qm5 (by decide) (by decide) rfl)),hr_ (ald rfl Qm5 (by decide) rfl (nle rfl) rfl),hr_ (amv rfl),hr_ (amv rfl),hr_ (ald rfl ti49 (by decide) rfl (nle rfl) rfl),hr_ (acq [.ref 0 7 0 0,I p0,(Qg0 x14)] [(Qfp p2 p3 p4 p5 p6 p7 p8),(Qe1 p9),(Qgo p10),(.own 1 (p11.map Qab))] [(Qfp p2 p3 p4 p5 p6 p7 p8),(Qe1 p9),(.own 4 (x35.2.map Qau)),(.own 1 (p11.map Qab))] (.dat 4 (x35.1.map Qac)) [0,1,2,3] Q9d (Qly N p0 x14 p2 p3 p4 p5 p6 p7 p8 p9 p10 p11 _ hf34) (Qbm (rnc (Qbh rfl) (rnc (.plain _ nll) (rnc (.plain _ (NLt.agg _ (nlcc (nlcc nl0)))) rn0)))) (slc (Qak (rnc (pld Qaw) (rnc (pld Qah) (rnc (Qcx rfl) (rnc (Qcx rfl) (rnc (Qcx rfl) (rnc (pld Qai) (rnc (.plain _ nll) rn0)))))))) (slc (Qa5 Qar) (slc (Qa5 Qa3) (slc (Qa5 Qaf) Qao)))) (slc (Qak (rnc (pld Qaw) (rnc (pld Qah) (rnc (Qc1 rfl) (rnc (Qc1 rfl) (rnc (Qc1 rfl) (rnc (pld Qai) (rnc (.plain _ nll) rn0)))))))) (slc (Qa5 Qar) (slc (Qa5 Qa3) (slc (Qa5 Qaf) Qao)))) (pld Qai)),hr_ (aio rfl underlying42 ti51 (odt hi36a) (odt hi36b) (Nat.zero_add _)),hr_ (ast rfl ti51 (by rfl) (mgt Qag hg38) (nle rfl) (Qf6 Qag rfl)),tv⟩
       obtain rfl:=osi h
       exact⟨_,(mto (n:=43) (l':=[]) (own':=[(Qfp p2 p3 p4 p5 p6 p7 p8),(.own 1 (((p9.set p0.toNat x35.1):List (List Qaa)).map Qag)),(.own 4 (x35.2.map Qau)),(.own 1 (p11.map Qab))]) [] [0,1,2,3] [(Qfp p2 p3 p4 p5 p6 p7 p8),(.own 1 ((p9.set p0.toNat x35.1:List (List Qaa)).map Qag)),(.own 4 (x35.2.map Qau)),(.own 1 (p11.map Qab))] hq pn (qb (lc (rnd Qaw) (lc (rnd Qah) (lc (.rn (Qa2 rfl)) (lc (.rn (Qa2 rfl)) (lc (.rn (Qa2 rfl)) (lc (rnd Qai) (lc rwl ln))))))) (qc (spr Qar) (qc (spr Qa3) (qc (spr Qaf) qn))))),Qjn (vs:=[]) tv rfl (NLt.tup _ nl0) (by kernel_rfl) (Qce (Qg5 (nlc (NLt.of0 (nld Qaw _)) (nlc (NLt.of0 (nld Qah _)) (nlc (NLt.own _ _ _ _ (by decide)) (nlc (NLt.own _ _ _ _ (by decide)) (nlc (NLt.own _ _ _ _ (by decide)) (nlc (NLt.of0 (nld Qai _)) (nlc (NLt.of0 nll) nl0)))))))) (Qce (Qe0 Qar _) (Qce (Qe0 Qa3 _) (Qce (Qe0 Qaf _) Qjs))))⟩
      ·refine bfe h (fun hb39 h=>?_) fun hb39 h=>?_
       ·obtain⟨x41,hf40,h⟩:=bno h
        obtain⟨hi42,h⟩:=cko h
        obtain⟨hi42a,hi42b⟩:=Qdw hi42
        obtain⟨x43,hg44,h⟩:=bno h
        refine Qkh 0 (.own 7 [[(.dat 5 (p2.map Qap)),(Qiw p3),(.own 1 1 (0) p4),(.own 2 4 (0) p5),(.own 3 1 (0) p6),(Qpw p7),.any]]) [mv 0 (.ref 0 7 0 0),rp [(.tmp 21,.ref 0 7 0 0)] (.ref 0 7 0 0),rp [(.tmp 22,.ref 0 7 0 0)] (.ref 0 7 0 2),rp [(.tmp 23,.ref 0 7 0 2)] (.ref 0 7 0 2),rp [(.tmp 24,.ref 0 7 0 2)] (.own 1 1 (0) p4),mv 1 (I p0),mv 0 (.ref 0 7 0 0),rp [(.tmp 27,.ref 0 7 0 0)] (.ref 0 7 0 0),rp [(.tmp 28,.ref 0 7 0 0)] (.ref 0 7 0 0),rp [(.tmp 29,.ref 0 7 0 0)] (.ref 0 7 0 1),rp [(.tmp 30,.ref 0 7 0 1)] (Qiw p3),mv 1 (I p0),rp [(.tmp 31,(Qiw p3)),(.tmp 32,I p0)] (.dptr (Qan x16) 0),mv 33 (.dptr (Qan x16) 0),rp [(.tmp 34,(.dptr (Qan x16) 0))] (K .u8 x16.Kind),rb [(.tmp 7,.ref 5 7 0 0),(.tmp 35,(K .u8 x16.Kind))] [(5,Qkw)] (.ref 5 7 0 4),rb [(.tmp 36,.ref 5 7 0 4)] [(5,Qkw)] (.fn (.func 131) [] []),mv 0 (.ref 0 7 0 0),mv 1 (I p0),rb [(.tmp 6,.ref 4 4 0 0)] [(4,(Qox x14))] (Qg0 x14),⟨[(.tmp 37,(.fn (.func 131) [] [])),(.tmp 38,.ref 0 7 0 0),(.tmp 39,I p0),(.tmp 40,(Qg0 x14))],[(0,(Qfp p2 p3 p4 p5 p6 p7 p8)),(1,(Qe1 p9)),(2,(Qgo p10)),(3,(.own 1 (p11.map Qab)))],(.dat 4 (x41.1.map Qac)),[(0,(Qye p2 p3 p4 p5 p6 p7 x41)),(1,(Qe1 p9)),(2,(.own 4 (x41.2.2.1.map Qau))),(3,(.own 1 (x41.2.2.2.map Qab)))],false⟩,rb [(.tmp 25,(.own 1 1 (0) p4)),(.tmp 26,I p0)] [(1,(Qe1 p9))] (.ref 1 1 p0.toNat 0),⟨[(.tmp 42,(.ref 1 1 p0.toNat 0)),(.tmp 41,(.dat 4 (x41.1.map Qac)))],[(1,(Qe1 p9))],.any,[(1,(.own 1 ((p9.set p0.toNat x41.1:List (List Qaa)).map Qag)))],false⟩] (SImp.box ⟨lrf,lrf,lrf,lrf,lrf,lrf,Less.any,tv⟩) ⟨tv,tv,tv,tv,tv,tv,tv,tv,tv,tv,tv,tv,tv,tv,tv,tv,tv,tv,tv,tv,⟨(SImp.box ⟨lrf,lrf,lrf,lrf,lrf,lrf,Less.any,tv⟩),tv,tv,tv,tv⟩,tv,⟨tv,tv⟩,tv⟩ ?_ ?_
        ·exact⟨hr_ (amv rfl),sf_ (Qa9 rfl),sf_ (afa rfl underlying119 rfl rfl ti45 (by decide) rfl),sf_ (afa rfl underlying45 rfl rfl ti42 (by decide) rfl),sf_ (ald rfl ti42 (by decide) rfl (nle rfl) rfl),hr_ (amv rfl),hr_ (amv rfl),sf_ (Qa9 rfl),sf_ (afa rfl underlying119 rfl rfl ti39 (by decide) rfl),sf_ (afa rfl underlying39 rfl rfl ti37 (by decide) rfl),sf_ (ald rfl ti37 (by decide) rfl (nle rfl) rfl),hr_ (amv rfl),hr_ (aiq underlying37 Qj3 Qan hi18 hj19),hr_ (afd rfl underlying110 rfl rfl ti5 (by decide) rfl),hr_ (ald_ rfl ti5 (by decide) (nle rfl) rfl),hr_ (Qiu hb39 (Qiv rfl underlying232 Qm5 (by decide) (by decide) rfl)),hr_ (ald rfl Qm5 (by decide) rfl (nle rfl) rfl),hr_ (amv rfl),hr_ (amv rfl),hr_ (ald rfl ti49 (by decide) rfl (nle rfl) rfl),hr_ (acq [.ref 0 7 0 0,I p0,(Qg0 x14)] [(Qfp p2 p3 p4 p5 p6 p7 p8),(Qe1 p9),(Qgo p10),(.own 1 (p11.map Qab))] [(Qye p2 p3 p4 p5 p6 p7 x41),(Qe1 p9),(.own 4 (x41.2.2.1.map Qau)),(.own 1 (x41.2.2.2.map Qab))] (.dat 4 (x41.1.map Qac)) [0,1,2,3] Q9c (Qj5 N p0 x14 p2 p3 p4 p5 p6 p7 p8 p9 p10 p11 _ hf40) (Qbm (rnc (Qbh rfl) (rnc (.plain _ nll) (rnc (.plain _ (NLt.agg _ (nlcc (nlcc nl0)))) rn0)))) (slc (Qak (rnc (pld Qaw) (rnc (pld Qah) (rnc (Qcx rfl) (rnc (Qcx rfl) (rnc (Qcx rfl) (rnc (pld Qai) (rnc (.plain _ nll) rn0)))))))) (slc (Qa5 Qar) (slc (Qa5 Qa3) (slc (Qa5 Qaf) Qao)))) (slc (Qak (rnc (pld Qaw) (rnc (pld Qah) (rnc (Qc1 rfl) (rnc (Qc1 rfl) (rnc (Qc1 rfl) (rnc (pld Qai) (rnc (.plain _ nll) rn0)))))))) (slc (Qa5 Qar) (slc (Qa5 Qa3) (slc (Qa5 Qaf) Qao)))) (pld Qai)),hr_ (aio rfl underlying42 ti51 (odt hi42a) (odt hi42b) (Nat.zero_add _)),hr_ (ast rfl ti51 (by rfl) (mgt Qag hg44) (nle rfl) (Qf6 Qag rfl)),tv⟩
        obtain rfl:=osi h
        exact⟨_,(mto (n:=43) (l':=[]) (own':=[(Qye p2 p3 p4 p5 p6 p7 x41),(.own 1 (((p9.set p0.toNat x41.1):List (List Qaa)).map Qag)),(.own 4 (x41.2.2.1.map Qau)),(.own 1 (x41.2.2.2.map Qab))]) [] [0,1,2,3] [(Qye p2 p3 p4 p5 p6 p7 x41),(.own 1 ((p9.set p0.toNat x41.1:List (List Qaa)).map Qag)),(.own 4 (x41.2.2.1.map Qau)),(.own 1 (x41.2.2.2.map Qab))] hq pn (qb (lc (rnd Qaw) (lc (rnd Qah) (lc (.rn (Qa2 rfl)) (lc (.rn (Qa2 rfl)) (lc (.rn (Qa2 rfl)) (lc (rnd Qai) (lc rwl ln))))))) (qc (spr Qar) (qc (spr Qa3) (qc (spr Qaf) qn))))),Qjn (vs:=[]) tv rfl (NLt.tup _ nl0) (by kernel_rfl) (Qce (Qg5 (nlc (NLt.of0 (nld Qaw _)) (nlc (NLt.of0 (nld Qah _)) (nlc (NLt.own _ _ _ _ (by decide)) (nlc (NLt.own _ _ _ _ (by decide)) (nlc (NLt.own _ _ _ _ (by decide)) (nlc (NLt.of0 (nld Qai _)) (nlc (NLt.of0 nll) nl0)))))))) (Qce (Qe0 Qar _) (Qce (Qe0 Qa3 _) (Qce (Qe0 Qaf _) Qjs))))⟩
       ·refine bfe h (fun hb45 h=>?_) fun hb45 h=>?_
        ·obtain⟨x47,hf46,h⟩:=bno h
         obtain⟨hi48,h⟩:=cko h
         obtain⟨hi48a,hi48b⟩:=Qdw hi48
         obtain⟨x49,hg50,h⟩:=bno h
         refine Qkh 0 (.own 7 [[(.dat 5 (p2.map Qap)),(Qiw p3),(.own 1 1 (0) p4),(.own 2 4 (0) p5),(.own 3 1 (0) p6),(Qpw p7),I p8]]) [mv 0 (.ref 0 7 0 0),rp [(.tmp 21,.ref 0 7 0 0)] (.ref 0 7 0 0),rp [(.tmp 22,.ref 0 7 0 0)] (.ref 0 7 0 2),rp [(.tmp 23,.ref 0 7 0 2)] (.ref 0 7 0 2),rp [(.tmp 24,.ref 0 7 0 2)] (.own 1 1 (0) p4),mv 1 (I p0),mv 0 (.ref 0 7 0 0),rp [(.tmp 27,.ref 0 7 0 0)] (.ref 0 7 0 0),rp [(.tmp 28,.ref 0 7 0 0)] (.ref 0 7 0 0),rp [(.tmp 29,.ref 0 7 0 0)] (.ref 0 7 0 1),rp [(.tmp 30,.ref 0 7 0 1)] (Qiw p3),mv 1 (I p0),rp [(.tmp 31,(Qiw p3)),(.tmp 32,I p0)] (.dptr (Qan x16) 0),mv 33 (.dptr (Qan x16) 0),rp [(.tmp 34,(.dptr (Qan x16) 0))] (K .u8 x16.Kind),rb [(.tmp 7,.ref 5 7 0 0),(.tmp 35,(K .u8 x16.Kind))] [(5,Qkw)] (.ref 5 7 0 5),rb [(.tmp 36,.ref 5 7 0 5)] [(5,Qkw)] (.fn (.func 132) [] []),mv 0 (.ref 0 7 0 0),mv 1 (I p0),rb [(.tmp 6,.ref 4 4 0 0)] [(4,(Qox x14))] (Qg0 x14),⟨[(.tmp 37,(.fn (.func 132) [] [])),(.tmp 38,.ref 0 7 0 0),(.tmp 39,I p0),(.tmp 40,(Qg0 x14))],[(0,(Qfp p2 p3 p4 p5 p6 p7 p8)),(1,(Qe1 p9)),(2,(Qgo p10)),(3,(.own 1 (p11.map Qab)))],(.dat 4 (x47.1.map Qac)),[(0,(Qfp p2 p3 p4 p5 p6 p7 p8)),(1,(Qe1 p9)),(2,(.own 4 (x47.2.map Qau))),(3,(.own 1 (p11.map Qab)))],false⟩,rb [(.tmp 25,(.own 1 1 (0) p4)),(.tmp 26,I p0)] [(1,(Qe1 p9))] (.ref 1 1 p0.toNat 0),⟨[(.tmp 42,(.ref 1 1 p0.toNat 0)),(.tmp 41,(.dat 4 (x47.1.map Qac)))],[(1,(Qe1 p9))],.any,[(1,(.own 1 ((p9.set p0.toNat x47.1:List (List Qaa)).map Qag)))],false⟩] (SImp.box ⟨lrf,lrf,lrf,lrf,lrf,lrf,lrf,tv⟩) ⟨tv,tv,tv,tv,tv,tv,tv,tv,tv,tv,tv,tv,tv,tv,tv,tv,tv,tv,tv,tv,⟨(SImp.box ⟨lrf,lrf,lrf,lrf,lrf,lrf,lrf,tv⟩),tv,tv,tv,tv⟩,tv,⟨tv,tv⟩,tv⟩ ?_ ?_
         ·exact⟨hr_ (amv rfl),sf_ (Qa9 rfl),sf_ (afa rfl underlying119 rfl rfl ti45 (by decide) rfl),sf_ (afa rfl underlying45 rfl rfl ti42 (by decide) rfl),sf_ (ald rfl ti42 (by decide) rfl (nle rfl) rfl),hr_ (amv rfl),hr_ (amv rfl),sf_ (Qa9 rfl),sf_ (afa rfl underlying119 rfl rfl ti39 (by decide) rfl),sf_ (afa rfl underlying39 rfl rfl ti37 (by decide) rfl),sf_ (ald rfl ti37 (by decide) rfl (nle rfl) rfl),hr_ (amv rfl),hr_ (aiq underlying37 Qj3 Qan hi18 hj19),hr_ (afd rfl underlying110 rfl rfl ti5 (by decide) rfl),hr_ (ald_ rfl ti5 (by decide) (nle rfl) rfl),hr_ (Qiu hb45 (Qiv rfl underlying232 Qm5 (by decide) (by decide) rfl)),hr_ (ald rfl Qm5 (by decide) rfl (nle rfl) rfl),hr_ (amv rfl),hr_ (amv rfl),hr_ (ald rfl ti49 (by decide) rfl (nle rfl) rfl),hr_ (acq [.ref 0 7 0 0,I p0,(Qg0 x14)] [(Qfp p2 p3 p4 p5 p6 p7 p8),(Qe1 p9),(Qgo p10),(.own 1 (p11.map Qab))] [(Qfp p2 p3 p4 p5 p6 p7 p8),(Qe1 p9),(.own 4 (x47.2.map Qau)),(.own 1 (p11.map Qab))] (.dat 4 (x47.1.map Qac)) [0,1,2,3] Q9b (Qld N p0 x14 p2 p3 p4 p5 p6 p7 p8 p9 p10 p11 _ hf46) (Qbm (rnc (Qbh rfl) (rnc (.plain _ nll) (rnc (.plain _ (NLt.agg _ (nlcc (nlcc nl0)))) rn0)))) (slc (Qak (rnc (pld Qaw) (rnc (pld Qah) (rnc (Qcx rfl) (rnc (Qcx rfl) (rnc (Qcx rfl) (rnc (pld Qai) (rnc (.plain _ nll) rn0)))))))) (slc (Qa5 Qar) (slc (Qa5 Qa3) (slc (Qa5 Qaf) Qao)))) (slc (Qak (rnc (pld Qaw) (rnc (pld Qah) (rnc (Qc1 rfl) (rnc (Qc1 rfl) (rnc (Qc1 rfl) (rnc (pld Qai) (rnc (.plain _ nll) rn0)))))))) (slc (Qa5 Qar) (slc (Qa5 Qa3) (slc (Qa5 Qaf) Qao)))) (pld Qai)),hr_ (aio rfl underlying42 ti51 (odt hi48a) (odt hi48b) (Nat.zero_add _)),hr_ (ast rfl ti51 (by rfl) (mgt Qag hg50) (nle rfl) (Qf6 Qag rfl)),tv⟩
         obtain rfl:=osi h
         exact⟨_,(mto (n:=43) (l':=[]) (own':=[(Qfp p2 p3 p4 p5 p6 p7 p8),(.own 1 (((p9.set p0.toNat x47.1):List (List Qaa)).map Qag)),(.own 4 (x47.2.map Qau)),(.own 1 (p11.map Qab))]) [] [0,1,2,3] [(Qfp p2 p3 p4 p5 p6 p7 p8),(.own 1 ((p9.set p0.toNat x47.1:List (List Qaa)).map Qag)),(.own 4 (x47.2.map Qau)),(.own 1 (p11.map Qab))] hq pn (qb (lc (rnd Qaw) (lc (rnd Qah) (lc (.rn (Qa2 rfl)) (lc (.rn (Qa2 rfl)) (lc (.rn (Qa2 rfl)) (lc (rnd Qai) (lc rwl ln))))))) (qc (spr Qar) (qc (spr Qa3) (qc (spr Qaf) qn))))),Qjn (vs:=[]) tv rfl (NLt.tup _ nl0) (by kernel_rfl) (Qce (Qg5 (nlc (NLt.of0 (nld Qaw _)) (nlc (NLt.of0 (nld Qah _)) (nlc (NLt.own _ _ _ _ (by decide)) (nlc (NLt.own _ _ _ _ (by decide)) (nlc (NLt.own _ _ _ _ (by decide)) (nlc (NLt.of0 (nld Qai _)) (nlc (NLt.of0 nll) nl0)))))))) (Qce (Qe0 Qar _) (Qce (Qe0 Qa3 _) (Qce (Qe0 Qaf _) Qjs))))⟩
        ·refine bfe h (fun hb51 h=>?_) fun hb51 h=>?_
         ·obtain⟨x53,hf52,h⟩:=bno h
          obtain⟨hi54,h⟩:=cko h
          obtain⟨hi54a,hi54b⟩:=Qdw hi54
          obtain⟨x55,hg56,h⟩:=bno h
          refine Qkh 0 (.own 7 [[(.dat 5 (p2.map Qap)),(Qiw p3),(.own 1 1 (0) p4),(.own 2 4 (0) p5),(.own 3 1 (0) p6),(Qpw p7),I p8]]) [mv 0 (.ref 0 7 0 0),rp [(.tmp 21,.ref 0 7 0 0)] (.ref 0 7 0 0),rp [(.tmp 22,.ref 0 7 0 0)] (.ref 0 7 0 2),rp [(.tmp 23,.ref 0 7 0 2)] (.ref 0 7 0 2),rp [(.tmp 24,.ref 0 7 0 2)] (.own 1 1 (0) p4),mv 1 (I p0),mv 0 (.ref 0 7 0 0),rp [(.tmp 27,.ref 0 7 0 0)] (.ref 0 7 0 0),rp [(.tmp 28,.ref 0 7 0 0)] (.ref 0 7 0 0),rp [(.tmp 29,.ref 0 7 0 0)] (.ref 0 7 0 1),rp [(.tmp 30,.ref 0 7 0 1)] (Qiw p3),mv 1 (I p0),rp [(.tmp 31,(Qiw p3)),(.tmp 32,I p0)] (.dptr (Qan x16) 0),mv 33 (.dptr (Qan x16) 0),rp [(.tmp 34,(.dptr (Qan x16) 0))] (K .u8 x16.Kind),rb [(.tmp 7,.ref 5 7 0 0),(.tmp 35,(K .u8 x16.Kind))] [(5,Qkw)] (.ref 5 7 0 6),rb [(.tmp 36,.ref 5 7 0 6)] [(5,Qkw)] (.fn (.func 129) [] []),mv 0 (.ref 0 7 0 0),mv 1 (I p0),rb [(.tmp 6,.ref 4 4 0 0)] [(4,(Qox x14))] (Qg0 x14),⟨[(.tmp 37,(.fn (.func 129) [] [])),(.tmp 38,.ref 0 7 0 0),(.tmp 39,I p0),(.tmp 40,(Qg0 x14))],[(0,(Qfp p2 p3 p4 p5 p6 p7 p8)),(1,(Qe1 p9)),(2,(Qgo p10)),(3,(.own 1 (p11.map Qab)))],(.dat 4 (x53.map Qac)),[(0,(Qfp p2 p3 p4 p5 p6 p7 p8)),(1,(Qe1 p9)),(2,(Qgo p10)),(3,(.own 1 (p11.map Qab)))],false⟩,rb [(.tmp 25,(.own 1 1 (0) p4)),(.tmp 26,I p0)] [(1,(Qe1 p9))] (.ref 1 1 p0.toNat 0),⟨[(.tmp 42,(.ref 1 1 p0.toNat 0)),(.tmp 41,(.dat 4 (x53.map Qac)))],[(1,(Qe1 p9))],.any,[(1,(.own 1 ((p9.set p0.toNat x53:List (List Qaa)).map Qag)))],false⟩] (SImp.box ⟨lrf,lrf,lrf,lrf,lrf,lrf,lrf,tv⟩) ⟨tv,tv,tv,tv,tv,tv,tv,tv,tv,tv,tv,tv,tv,tv,tv,tv,tv,tv,tv,tv,⟨(SImp.box ⟨lrf,lrf,lrf,lrf,lrf,lrf,lrf,tv⟩),tv,tv,tv,tv⟩,tv,⟨tv,tv⟩,tv⟩ ?_ ?_
          ·exact⟨hr_ (amv rfl),sf_ (Qa9 rfl),sf_ (afa rfl underlying119 rfl rfl ti45 (by decide) rfl),sf_ (afa rfl underlying45 rfl rfl ti42 (by decide) rfl),sf_ (ald rfl ti42 (by decide) rfl (nle rfl) rfl),hr_ (amv rfl),hr_ (amv rfl),sf_ (Qa9 rfl),sf_ (afa rfl underlying119 rfl rfl ti39 (by decide) rfl),sf_ (afa rfl underlying39 rfl rfl ti37 (by decide) rfl),sf_ (ald rfl ti37 (by decide) rfl (nle rfl) rfl),hr_ (amv rfl),hr_ (aiq underlying37 Qj3 Qan hi18 hj19),hr_ (afd rfl underlying110 rfl rfl ti5 (by decide) rfl),hr_ (ald_ rfl ti5 (by decide) (nle rfl) rfl),hr_ (Qiu hb51 (Qiv rfl underlying232 Qm5 (by decide) (by decide) rfl)),hr_ (ald rfl Qm5 (by decide) rfl (nle rfl) rfl),hr_ (amv rfl),hr_ (amv rfl),hr_ (ald rfl ti49 (by decide) rfl (nle rfl) rfl),hr_ (acq [.ref 0 7 0 0,I p0,(Qg0 x14)] [(Qfp p2 p3 p4 p5 p6 p7 p8),(Qe1 p9),(Qgo p10),(.own 1 (p11.map Qab))] [(Qfp p2 p3 p4 p5 p6 p7 p8),(Qe1 p9),(Qgo p10),(.own 1 (p11.map Qab))] (.dat 4 (x53.map Qac)) [0,1,2,3] Qtl (Qgm N p0 x14 p2 p3 p4 p5 p6 p7 p8 p9 p10 p11 _ hf52) (Qbm (rnc (Qbh rfl) (rnc (.plain _ nll) (rnc (.plain _ (NLt.agg _ (nlcc (nlcc nl0)))) rn0)))) (slc (Qak (rnc (pld Qaw) (rnc (pld Qah) (rnc (Qcx rfl) (rnc (Qcx rfl) (rnc (Qcx rfl) (rnc (pld Qai) (rnc (.plain _ nll) rn0)))))))) (slc (Qa5 Qar) (slc (Qa5 Qa3) (slc (Qa5 Qaf) Qao)))) (slc (Qak (rnc (pld Qaw) (rnc (pld Qah) (rnc (Qc1 rfl) (rnc (Qc1 rfl) (rnc (Qc1 rfl) (rnc (pld Qai) (rnc (.plain _ nll) rn0)))))))) (slc (Qa5 Qar) (slc (Qa5 Qa3) (slc (Qa5 Qaf) Qao)))) (pld Qai)),hr_ (aio rfl underlying42 ti51 (odt hi54a) (odt hi54b) (Nat.zero_add _)),hr_ (ast rfl ti51 (by rfl) (mgt Qag hg56) (nle rfl) (Qf6 Qag rfl)),tv⟩
          obtain rfl:=osi h
          exact⟨_,(mto (n:=43) (l':=[]) (own':=[(Qfp p2 p3 p4 p5 p6 p7 p8),(.own 1 (((p9.set p0.toNat x53):List (List Qaa)).map Qag)),(Qgo p10),(.own 1 (p11.map Qab))]) [] [0,1,2,3] [(Qfp p2 p3 p4 p5 p6 p7 p8),(.own 1 ((p9.set p0.toNat x53:List (List Qaa)).map Qag)),(Qgo p10),(.own 1 (p11.map Qab))] hq pn (qb (lc (rnd Qaw) (lc (rnd Qah) (lc (.rn (Qa2 rfl)) (lc (.rn (Qa2 rfl)) (lc (.rn (Qa2 rfl)) (lc (rnd Qai) (lc rwl ln))))))) (qc (spr Qar) (qc (spr Qa3) (qc (spr Qaf) qn))))),Qjn (vs:=[]) tv rfl (NLt.tup _ nl0) (by kernel_rfl) (Qce (Qg5 (nlc (NLt.of0 (nld Qaw _)) (nlc (NLt.of0 (nld Qah _)) (nlc (NLt.own _ _ _ _ (by decide)) (nlc (NLt.own _ _ _ _ (by decide)) (nlc (NLt.own _ _ _ _ (by decide)) (nlc (NLt.of0 (nld Qai _)) (nlc (NLt.of0 nll) nl0)))))))) (Qce (Qe0 Qar _) (Qce (Qe0 Qa3 _) (Qce (Qe0 Qaf _) Qjs))))⟩
         ·cases h
  ·skip
   refine wxz ?_
   refine bfe h (fun hc57 h=>?_) fun hc57 h=>?_
   ·refine wft hc57<|Q9s 3 [mv 1 (I p0),rp [(.tmp 17,I p0)] (.agg [I p0]),rp [(.tmp 18,(.agg [I p0]))] (.lit (.iface 194 (.agg #[(.int .i64 p0)]))),⟨[(.tmp 19,(.lit (.iface 194 (.agg #[(.int .i64 p0)]))))],[],.any,[],false⟩] (by exact⟨by kernel_rfl,by kernel_rfl⟩) rfl (by kernel_rfl) rfl (Qwv rfl) (⟨fun _ _=>amv rfl,fun _ _=>Qa6 (vs:=[I p0]) rfl Zhq Zfw rfl (by rfl) rfl,fun _ _=>awk (rd':=[(.tmp 18,.lit (.agg #[(.int .i64 p0)]))]) ⟨rfl,(Less.lits [(.int .i64 p0)]),tv⟩ (Qxu rfl underlying194),fun _ h=>absurd rfl h,tv⟩) ?_
    obtain rfl:=osi h
    exact rfl
   ·exact wfn hc57<|Qam<|thn<|⟨(),h,(mto (n:=43) [(0,.ref 0 7 0 0),(1,I p0),(6,.ref 7 4 0 0)] [0,1,2,3,7] [(Qfp p2 p3 p4 p5 p6 p7 p8),(Qe1 p9),(Qgo p10),(.own 1 (p11.map Qab)),(Qox x14)] hq (prr (pw (prr pn))) (qb (lc (rnd Qaw) (lc (rnd Qah) (lc (.rn (Qa2 rfl)) (lc (.rn (Qa2 rfl)) (lc (.rn (Qa2 rfl)) (lc (rnd Qai) (lc rwl ln))))))) (qc (spr Qar) (qc (spr Qa3) (qc (spr Qaf) (qb (lcc (lcc ln)) qn))))))⟩
theorem Qj7 (N:Nat) (p0 p1:Int) (p2:List GRow) (p3:List Qaj) (p4 p5 p6:Nat) (p7:List Qaa) (p8:Int) (p9:List (List Qaa)) (p10:List Qba) (p11:List Int) (r:(Int×(List (List Qaa))×(List Qba)×(List Int))) (h:Qcl N p0 p1 p2 p3 p4 p5 p6 p7 p8 p9 p10 p11=some (.inl r)):Spec prog 83 [.ref 0 7 0 0,I p0,I p1] [(Qfp p2 p3 p4 p5 p6 p7 p8),(Qe1 p9),(Qgo p10),(.own 1 (p11.map Qab))] (.tup []) [(.own 7 [[(.dat 5 (p2.map Qap)),(.dat 7 (p3.map Qan)),(.own 1 1 (0) p4),(.own 2 4 (0) p5),(.own 3 1 (0) p6),(.dat 4 (p7.map Qac)),I r.1]]),(.own 1 (r.2.1.map Qag)),(.own 4 (r.2.2.1.map Qau)),(.own 1 (r.2.2.2.map Qab))]:=Qhd N p0 p1 p2 p3 p4 p5 p6 p7 p8 p9 p10 p11 _ h
theorem Qj6 (N:Nat) (p0 p1:Int) (p2:List GRow) (p3:List Qaj) (p4 p5 p6:Nat) (p7:List Qaa) (p8:Int) (p9:List (List Qaa)) (p10:List Qba) (p11:List Int) (r:Int) (h:Qcl N p0 p1 p2 p3 p4 p5 p6 p7 p8 p9 p10 p11=some (.inr r)):Q94 prog 83 [.ref 0 7 0 0,I p0,I p1] [(Qfp p2 p3 p4 p5 p6 p7 p8),(Qe1 p9),(Qgo p10),(.own 1 (p11.map Qab))] (.iface 194 (.agg #[(.int .i64 r)])):=Qhd N p0 p1 p2 p3 p4 p5 p6 p7 p8 p9 p10 p11 _ h
def Zen:Slot:=.own 1 [[(.lit (.pointer none))]]
theorem Qnh (v0:Int):DPan prog 82 [1,1] (.iface 194 (.agg #[(.int .i64 v0)])) [[(.lit (.pointer none))],[(I v0)]]:=by
  refine Qo4 (t:=5) (args:=[.ref 0 1 0 0,.ref 1 1 0 0]) func82 rfl (fun _ _=>rfl) (by kernel_rfl) Zcm 2 (nle rfl) (fun X φ0 w0 hq=>?_)
  refine Qtv<|Qaq ?_
  refine wx tbk [(0,rp [(.tmp 5,(.lit (.iface 194 (.agg #[(.int .i64 v0)])))),(.const .nilIface,(.lit .nilIface))] (B false))] ⟨Qxt rfl underlying20,tv⟩<|wfa ?_
  exact wx tbk [(0,rp [(.tmp 5,(.lit (.iface 194 (.agg #[(.int .i64 v0)]))))] (.tup [(.agg [I v0]),B true]))] ⟨Qxn (r:=.lit (.tuple #[(.agg #[(.int .i64 v0)]),(.bool true)])) (Less.trans Q48 (Less.tup ⟨Q49 (l:=[(.int .i64 v0)]),lrf,tv⟩)) (Qtx rfl underlying194),tv⟩<|wtr<|wxz<|wxe1<|bln<|⟨_,(mto (n:=13) (l':=[]) (own':=[Zen,(.own 1 [[I v0]])]) [] [0,1] [Zen,(.own 1 [[I v0]])] hq pn (qb (lc rwl ln) (qb (lc rwl ln) qn))),Za5 (vs:=[]) tv rfl (NLt.tup _ nl0) (by kernel_rfl) (Qce (Qg5 (nlt0 (nlc nll nl0))) (Qce (Qg5 (nlt0 (nlc nll nl0))) Qjs))⟩
end
section
def Qc9 (N:Nat) (p0:GNet) (p1:List Int) (p2:List Qaa) (k16:(List (List Qaa))×(List Qba)×(List Int)×Int→Option (Int⊕(Int×Int×(List (List Qaa))×(List Qba)×(List Int)))):Nat→Int→(List (List Qaa))→(List Qba)→(List Int)→Int→Option (Int⊕(Int×Int×(List (List Qaa))×(List Qba)×(List Int)))
  |0,_,_,_,_,_=>none
  |n27+1,y17,y18,y19,y20,y21=>
    bif (decide (y17<(p0.Elements.length:Int))) then
     (getI p0.Elements y17).bind fun x29=>
     (getI p1 y17).bind fun x33=>
     (Qet N x29 x33).bind fun x38=>
     (Qcl N y17 x38 p0.Table p0.Elements ((p0.Elements.length:Int).toNat) ((p0.Elements.length:Int).toNat) p1.length p2 y21 y18 y19 y20).bind (
      Sum.elim (fun x41=>
        Qc9 N p0 p1 p2 k16 n27 (w64 (y17+1)) x41.2.1 x41.2.2.1 x41.2.2.2 x41.1)
      (fun x42=>
        some (.inl x42)))
    else
     k16 (y18,y19,y20,y21)
def Qfb (N:Nat) (p0:GNet) (p1:List Int) (p2:List Qaa):Option (Int⊕(Int×Int×(List (List Qaa))×(List Qba)×(List Int))):=
  chk (decide (0≤(p0.Elements.length:Int))&&decide (24*(p0.Elements.length:Int)≤281474976710656)&&decide ((p0.Elements.length:Int)≤9223372036854775807))<|
  chk (decide (0≤(p0.Elements.length:Int))&&decide (32*(p0.Elements.length:Int)≤281474976710656)&&decide ((p0.Elements.length:Int)≤9223372036854775807))<|
  (Qc5 N p1).bind fun _=>
  Qb7 (fun ⟨y12,y13,y14,y15⟩=>
    some (.inr ((-1),y15,y12,y13,y14))) fun k16:(List (List Qaa))×(List Qba)×(List Int)×Int→Option (Int⊕(Int×Int×(List (List Qaa))×(List Qba)×(List Int)))=>
  Qc9 N p0 p1 p2 k16 N 0 (List.replicate (p0.Elements.length:Int).toNat ([])) (List.replicate (p0.Elements.length:Int).toNat (⟨0,0,0,0⟩:Qba)) p1 0
abbrev Qz4 (p0:GNet):AV:=.dat 5 (p0.Table.map Qap)
abbrev Qrh (p0:GNet):AV:=.dat 7 (p0.Elements.map Qan)
abbrev Q6t (p0:GNet):AV:=.agg [(Qz4 p0),(Qrh p0)]
abbrev Qt2 (p2:List Qaa):AV:=.dat 4 (p2.map Qac)
def Zek (p0:GNet):Slot:=.own 1 ((List.replicate (p0.Elements.length:Int).toNat ([]):List (List Qaa)).map Qag)
def Zej (p0:GNet):Slot:=.own 4 ((List.replicate (p0.Elements.length:Int).toNat (⟨0,0,0,0⟩:Qba):List Qba).map Qau)
def Zg9 (p0:GNet) (p1:List Int):AV:=.agg [(.own 3 1 (0) ((p0.Elements.length:Int).toNat)),(.own 4 4 (0) ((p0.Elements.length:Int).toNat)),(.own 5 1 (0) p1.length)]
def Qz3 (p0:GNet):Slot:=.own 2 [[(Qz4 p0),(Qrh p0)]]
def Qou:Slot:=.own 1 [[(.ref 6 7 (0) 0)]]
def Q19 (p0:GNet) (p1:List Int) (p2:List Qaa) (y15:Int):Slot:=.own 7 [[(Qz4 p0),(Qrh p0),(.own 3 1 (0) ((p0.Elements.length:Int).toNat)),(.own 4 4 (0) ((p0.Elements.length:Int).toNat)),(.own 5 1 (0) p1.length),(Qt2 p2),(I y15)]]
def Q97 (p0:GNet) (p1:List Int) (p2:List Qaa):Slot:=.own 7 [[(Qz4 p0),(Qrh p0),(.own 3 1 (0) ((p0.Elements.length:Int).toNat)),(.own 4 4 (0) ((p0.Elements.length:Int).toNat)),(.own 5 1 (0) p1.length),(Qt2 p2),(I (0))]]
def Qpu (y18:List (List Qaa)):Slot:=.own 1 (y18.map Qag)
def Qpt (y19:List Qba):Slot:=.own 4 (y19.map Qau)
def Qpv (p0:GNet) (p1:List Int) (p2:List Qaa) (y21:Int):Slot:=.own 7 [[(Qz4 p0),(Qrh p0),(.own 3 1 (0) ((p0.Elements.length:Int).toNat)),(.own 4 4 (0) ((p0.Elements.length:Int).toNat)),(.own 5 1 (0) p1.length),(Qt2 p2),(I y21)]]
def Qsn (x29:Qaj):AV:=.agg [(K .u8 x29.Kind),(.dat 2 (x29.From.map Qfo)),(I x29.Level),(I x29.Amount),(I x29.Wide),(I x29.Narrow),(.dat 1 (x29.Weights.map Qab))]
def Q2a (p0:GNet) (p1:List Int) (p2:List Qaa) (x41:(Int×(List (List Qaa))×(List Qba)×(List Int))):Slot:=.own 7 [[(Qz4 p0),(Qrh p0),(.own 3 1 (0) (((p0.Elements.length:Int).toNat))),(.own 4 4 (0) (((p0.Elements.length:Int).toNat))),(.own 5 1 (0) p1.length),(Qt2 p2),(I x41.1)]]
def Zel:Slot:=.own 1 [[(.lit (.pointer none))]]
theorem Qj8 (N:Nat) (p0:GNet) (p1:List Int) (p2:List Qaa) (r:(Int⊕(Int×Int×(List (List Qaa))×(List Qba)×(List Int)))) (h:Qfb N p0 p1 p2=some r):Spec prog 40 [(Q6t p0),(.dat 1 (p1.map Qab)),(Qt2 p2)] [] (((Sum.elim (fun r=>(.tup [(.lit (.pointer none)),(I r)])) (fun r=>(.tup [(.ref 2 7 (0) 0),(I r.1)]))):(Int⊕(Int×Int×(List (List Qaa))×(List Qba)×(List Int)))→AV) r) (((Sum.elim (fun r=>[(.own 1 [[(.lit (.pointer none))]]),(.own 1 [[(I r)]])]) (fun r=>[(.own 1 [[(.ref 2 7 (0) 0)]]),(.own 1 [[(I r.1)]]),(.own 7 [[(.dat 5 (p0.Table.map Qap)),(.dat 7 (p0.Elements.map Qan)),(.own 3 1 (0) ((p0.Elements.length:Int).toNat)),(.own 4 4 (0) ((p0.Elements.length:Int).toNat)),(.own 5 1 (0) p1.length),(.dat 4 (p2.map Qac)),(I r.2.1)]]),(.own 1 (r.2.2.1.map Qag)),(.own 4 (r.2.2.2.1.map Qau)),(.own 1 (r.2.2.2.2.map Qab))])):(Int⊕(Int×Int×(List (List Qaa))×(List Qba)×(List Int)))→List Slot) r):=by
  refine Qug func40 rfl (fun _ _ _ hq hd0=>?_)
  unfold Qfb at h
  refine Qzw (k:=6) hd0 (fun n hn=>hq n (Nat.le_trans (nle rfl) hn))<|wxz1<|thn ?_
  refine Qzw (k:=6) hd0 (fun n hn=>hq n (Nat.le_trans (nle rfl) hn)) ?_
  obtain⟨hm8,h⟩:=cko h
  obtain⟨hm9,h⟩:=cko h
  obtain⟨x11,hf10,h⟩:=bno h
  refine wy1 tbk [(3,rp _ _),(4,⟨[(.tmp 13,(I ((p0.Elements.length:Int)))),(.tmp 13,(I ((p0.Elements.length:Int))))],[(3,.unused)],(.own 3 1 (0) ((p0.Elements.length:Int).toNat)),[(3,(Zek p0))],false⟩),(7,rp _ _),(8,⟨[(.tmp 17,(I ((p0.Elements.length:Int)))),(.tmp 17,(I ((p0.Elements.length:Int))))],[(4,.unused)],(.own 4 4 (0) ((p0.Elements.length:Int).toNat)),[(4,(Zej p0))],false⟩),(10,⟨_,_,_,_,false⟩),(11,rp _ _),(13,rp _ _)] ⟨alq 7 Qan p0.Elements underlying37,Q6c (c:=Qag) (v:=([])) (z:=[nilS]) (k:=(p0.Elements.length:Int).toNat) ⟨Less.nil,tv⟩ (Qop rfl underlying42 te51 tz51 rfl (Q6m hm8) rfl (Q6l hm8) (Q6k hm8) rfl),alq 7 Qan p0.Elements underlying37,Qop rfl underlying43 te64 tz64 rfl (Q6m hm9) rfl (Q6l hm9) (Q6k hm9) (Q4f Qau rfl),acq [(.dat 1 (p1.map Qab))] [] [(.own 1 (p1.map Qab))] (.own 5 1 (0) p1.length) [5] Q5q (Qgl N p1 _ hf10) (Qbm (rnc (pld Qaf) rn0)) Qao (slc (Qa5 Qaf) Qao) (Qc1 rfl),Qa6 (vs:=[(.own 3 1 (0) ((p0.Elements.length:Int).toNat)),(.own 4 4 (0) ((p0.Elements.length:Int).toNat)),(.own 5 1 (0) p1.length)]) rfl ts45 tz45 rfl (by rfl) rfl,Qa6 (vs:=[(Q6t p0),(Zg9 p0 p1),(Qt2 p2)]) rfl Zhs Zfy rfl (by rfl) rfl,tv⟩<|thn ?_
  refine Q08 (k:=6) [(1,1),(2,1)] hd0 (fun n hn=>hq n (Nat.le_trans (nle rfl) hn)) Zdf rfl rfl (by kernel_rfl) (by kernel_rfl) (by kernel_rfl) Qoh (fun φ1 w1 hφ1 hd1=>?_)
  obtain⟨k16,hk_k16,h⟩:=jko h
  refine wjn (τ:=(List (List Qaa))×(List Qba)×(List Int)×Int) (fun t=>k16 t=some r) (fun ⟨y12,y13,y14,y15⟩=>⟨mk 45 [(6,.ref 1 1 0 0),(7,.ref 2 1 0 0)],[(Qz3 p0),Qou,(.own 1 [[I 0]]),(.own 1 (y12.map Qag)),(.own 4 (y13.map Qau)),(.own 1 (y14.map Qab)),(Q19 p0 p1 p2 y15)]⟩) (fun t h=>?_) ?_
  ·subst hk_k16
   obtain⟨y12,y13,y14,y15⟩:=t
   refine wxz<|Qad ?_
   obtain rfl:=osi h
   exact⟨_,(mto (n:=45) (l':=[(6,.ref 0 1 0 0),(7,.ref 1 1 0 0)]) (own':=[(.own 1 [[.ref 2 7 0 0]]),(.own 1 [[(I ((-1)))]]),(Q19 p0 p1 p2 y15),(.own 1 (y12.map Qag)),(.own 4 (y13.map Qau)),(.own 1 (y14.map Qab))]) [(6,.ref 1 1 0 0),(7,.ref 2 1 0 0)] [1,2,6,3,4,5] [Qou,(.own 1 [[(I ((-1)))]]),(Q19 p0 p1 p2 y15),(.own 1 (y12.map Qag)),(.own 4 (y13.map Qau)),(.own 1 (y14.map Qab))] hq (prr (prr pn)) (qb (lc (.rn (rqr rfl)) ln) (qb (lc rwl ln) (qb (lc (rnd Qaw) (lc (rnd Qah) (lc (.rn (Qa2 rfl)) (lc (.rn (Qa2 rfl)) (lc (.rn (Qa2 rfl)) (lc (rnd Qai) (lc rwl ln))))))) (qc (spr Qar) (qc (spr Qa3) (qc (spr Qaf) qn))))))),Qjn (vs:=[.ref 2 7 0 0,I (-1)]) ⟨Qbk (n:=0) (m:=1) (j:=0) (i:=0) (xs:=[[.ref 2 7 0 0]]) (by kernel_rfl) (by kernel_rfl) Qrj (by decide) rfl (nle rfl) rfl,Qbk (n:=1) (m:=1) (j:=0) (i:=0) (xs:=[[I (-1)]]) (by kernel_rfl) (by kernel_rfl) ti3 (by decide) rfl (nle rfl) rfl,tv⟩ rfl (NLt.tup _ (nlc (NLt.ref _ _ _ _ (by decide)) (nlc (NLt.of0 nll) nl0))) (by kernel_rfl) (Qce (Qg5 (nlc (NLt.ref _ _ _ _ (by decide)) nl0)) (Qce (Qg5 (nlc (NLt.of0 nll) nl0)) (Qce (Qg5 (nlc (NLt.of0 (nld Qaw _)) (nlc (NLt.of0 (nld Qah _)) (nlc (NLt.own _ _ _ _ (by decide)) (nlc (NLt.own _ _ _ _ (by decide)) (nlc (NLt.own _ _ _ _ (by decide)) (nlc (NLt.of0 (nld Qai _)) (nlc (NLt.of0 nll) nl0)))))))) (Qce (Qe0 Qar _) (Qce (Qe0 Qa3 _) (Qce (Qe0 Qaf _) Qjs))))))⟩
  ·skip
   refine wx tbk [(2,rp _ _)] ⟨alq 7 Qan p0.Elements underlying37,tv⟩<|Qaq ?_
   refine wmr (mto (n:=45) (l':=[(1,(.dat 1 (p1.map Qab))),(6,.ref 1 1 0 0),(7,.ref 2 1 0 0),(27,(Qrh p0)),(28,(I ((p0.Elements.length:Int)))),(29,I 0)]) (own':=[(Qz3 p0),Qou,(.own 1 [[I 0]]),(.own 1 (((List.replicate (p0.Elements.length:Int).toNat ([])):List (List Qaa)).map Qag)),(.own 4 (((List.replicate (p0.Elements.length:Int).toNat (⟨0,0,0,0⟩:Qba)):List Qba).map Qau)),(.own 1 (p1.map Qab)),(Q97 p0 p1 p2)]) [(1,(.dat 1 (p1.map Qab))),(6,.ref 1 1 0 0),(7,.ref 2 1 0 0),(27,(Qrh p0)),(28,(I ((p0.Elements.length:Int)))),(29,I 0)] [0,1,2,3,4,5,6] [(Qz3 p0),Qou,(.own 1 [[I 0]]),(Zek p0),(Zej p0),(.own 1 (p1.map Qab)),(Q97 p0 p1 p2)] hφ1 (pc (rnd Qaf) (prr (prr (pc (rnd Qah) (pw (pw pn)))))) (qb (lc (rnd Qaw) (lc (rnd Qah) ln)) (qb (lc (.rn (rqr rfl)) ln) (qb (lc rwl ln) (qc (spr Qar) (qc (spr Qa3) (qc (spr Qaf) (qb (lc (rnd Qaw) (lc (rnd Qah) (lc (.rn (Qa2 rfl)) (lc (.rn (Qa2 rfl)) (lc (.rn (Qa2 rfl)) (lc (rnd Qai) (lc rwl ln))))))) qn)))))))) ?_
   refine Qcz (τ:=Int×(List (List Qaa))×(List Qba)×(List Int)×Int) (fun n t=>Qc9 N p0 p1 p2 k16 n t.1 t.2.1 t.2.2.1 t.2.2.2.1 t.2.2.2.2=some r) (fun ⟨y17,y18,y19,y20,y21⟩=>⟨mk 45 [(1,(.dat 1 (p1.map Qab))),(6,.ref 1 1 0 0),(7,.ref 2 1 0 0),(27,(Qrh p0)),(28,(I ((p0.Elements.length:Int)))),(29,I y17)],[(Qz3 p0),Qou,(.own 1 [[I 0]]),(Qpu y18),(Qpt y19),(.own 1 (y20.map Qab)),(Qpv p0 p1 p2 y21)]⟩) (fun t h=>by rw[Qc9] at h;cases h) (fun n27 ih t h=>?_) N (0,List.replicate (p0.Elements.length:Int).toNat ([]),List.replicate (p0.Elements.length:Int).toNat (⟨0,0,0,0⟩:Qba),p1,0) h
   obtain⟨y17,y18,y19,y20,y21⟩:=t
   rw[Qc9] at h
   skip
   refine wxz<|wsq ?_
   refine bfe h (fun hc28 h=>?_) fun hc28 h=>?_
   ·refine wft hc28<|Qam<|thn<|wsq<|Qaq ?_
    obtain⟨x29,hg30,h⟩:=bno h
    obtain⟨hi31,hj32⟩:=gsm hg30
    refine wx tbk [(1,rp _ _)] ⟨aiq underlying37 Qj3 Qan hi31 hj32,tv⟩ ?_
    obtain⟨x33,hg34,h⟩:=bno h
    obtain⟨hi35,hj36⟩:=gsm hg34
    obtain⟨x38,hf37,h⟩:=bno h
    obtain⟨x40,hf39,h⟩:=bno h
    rcases x40 with x41 |x42
    ·replace h:=Zf5 h
     refine wy1 tbk [(5,rp _ _),(7,rp _ _),(8,⟨_,_,_,_,false⟩)] ⟨aiq underlying29 ti3 Qab hi35 hj36,apw Q5o (Qhm N x29 x33 _ hf37),acq [.ref 6 7 0 0,I y17,I x38] [(Qpv p0 p1 p2 y21),(Qpu y18),(Qpt y19),(.own 1 (y20.map Qab))] [(Q2a p0 p1 p2 x41),(.own 1 (x41.2.1.map Qag)),(.own 4 (x41.2.2.1.map Qau)),(.own 1 (x41.2.2.2.map Qab))] (.tup []) [6,3,4,5] Q5p (Qj7 N y17 x38 p0.Table p0.Elements ((p0.Elements.length:Int).toNat) ((p0.Elements.length:Int).toNat) p1.length p2 y21 y18 y19 y20 _ hf39) (Qbm (rnc (Qbh rfl) (rncc rn0))) (slc (Qak (rnc (pld Qaw) (rnc (pld Qah) (rnc (Qcx rfl) (rnc (Qcx rfl) (rnc (Qcx rfl) (rnc (pld Qai) (rnc (.plain _ nll) rn0)))))))) (slc (Qa5 Qar) (slc (Qa5 Qa3) (slc (Qa5 Qaf) Qao)))) (slc (Qak (rnc (pld Qaw) (rnc (pld Qah) (rnc (Qc1 rfl) (rnc (Qc1 rfl) (rnc (Qc1 rfl) (rnc (pld Qai) (rnc (.plain _ nll) rn0)))))))) (slc (Qa5 Qar) (slc (Qa5 Qa3) (slc (Qa5 Qaf) Qao)))) (.plain _ (NLt.tup _ nl0)),tv⟩<|bln<|thn<|wxz1<|thn ?_
     exact arm (mto (n:=45) [(1,(.dat 1 (p1.map Qab))),(6,.ref 1 1 0 0),(7,.ref 2 1 0 0),(27,(Qrh p0)),(28,(I ((p0.Elements.length:Int)))),(29,(I (w64 (y17+1))))] [0,1,2,3,4,5,6] [(Qz3 p0),Qou,(.own 1 [[I 0]]),(.own 1 (x41.2.1.map Qag)),(.own 4 (x41.2.2.1.map Qau)),(.own 1 (x41.2.2.2.map Qab)),(Q2a p0 p1 p2 x41)] hφ1 (pc (rnd Qaf) (prr (prr (pc (rnd Qah) (pw (pw pn)))))) (qb (lc (rnd Qaw) (lc (rnd Qah) ln)) (qb (lc (.rn (rqr rfl)) ln) (qb (lc rwl ln) (qc (spr Qar) (qc (spr Qa3) (qc (spr Qaf) (qb (lc (rnd Qaw) (lc (rnd Qah) (lc (.rn (Qa2 rfl)) (lc (.rn (Qa2 rfl)) (lc (.rn (Qa2 rfl)) (lc (rnd Qai) (lc rwl ln))))))) qn)))))))) (ih (w64 (y17+1),x41.2.1,x41.2.2.1,x41.2.2.2,x41.1) h)
    ·replace h:=Zf4 h
     refine Q56 8 [rb [(.tmp 6,.ref 1 1 0 0)] [(1,Qou)] (.ref 6 7 0 0),mv 8 (I y17),rb [(.tmp 9,.ref 7 7 0 0)] [(7,(.own 7 [[(K .u8 x29.Kind),(.dat 2 (x29.From.map Qfo)),I x29.Level,I x29.Amount,I x29.Wide,I x29.Narrow,(.dat 1 (x29.Weights.map Qab))]]))] (Qsn x29),mv 1 (.dat 1 (p1.map Qab)),mv 8 (I y17),rp [(.tmp 37,(.dat 1 (p1.map Qab))),(.tmp 38,I y17)] (.dptr (Qab x33) 0),rp [(.tmp 39,(.dptr (Qab x33) 0))] (I x33),rp [fu 84,(.tmp 36,(Qsn x29)),(.tmp 40,I x33)] (I x38),⟨[fu 83,(.tmp 34,.ref 6 7 0 0),(.tmp 35,I y17),(.tmp 41,I x38),(.tmp 36,(Qsn x29)),(.tmp 37,(.dat 1 (p1.map Qab))),(.tmp 38,I y17),(.tmp 39,(.dptr (Qab x33) 0)),(.tmp 40,I x33)],[(6,(Qpv p0 p1 p2 y21)),(3,(Qpu y18)),(4,(Qpt y19)),(5,(.own 1 (y20.map Qab)))],.any,[(6,.dead),(3,.dead),(4,.dead),(5,.dead)],false⟩] (by exact⟨by kernel_rfl,by kernel_rfl⟩) rfl (by kernel_rfl) rfl (PStep.to (by rfl) (PStep.more (rd':=[(.tmp 36,(Qsn x29)),(.tmp 37,(.dat 1 (p1.map Qab))),(.tmp 38,I y17),(.tmp 39,(.dptr (Qab x33) 0)),(.tmp 40,I x33)]) (Qww (first:=[]) (cap:=[]) (vs:=[.ref 6 7 0 0,I y17,I x38]) (σr:=[(Qpv p0 p1 p2 y21),(Qpu y18),(Qpt y19),(.own 1 (y20.map Qab))]) [6,3,4,5] rfl Q5p (Qj6 N y17 x38 p0.Table p0.Elements ((p0.Elements.length:Int).toNat) ((p0.Elements.length:Int).toNat) p1.length p2 y21 y18 y19 y20 _ hf39) rfl (Qbm (rnc (Qbh rfl) (rncc rn0))) (slc (Qak (rnc (pld Qaw) (rnc (pld Qah) (rnc (Qcx rfl) (rnc (Qcx rfl) (rnc (Qcx rfl) (rnc (pld Qai) (rnc (.plain _ nll) rn0)))))))) (slc (Qa5 Qar) (slc (Qa5 Qa3) (slc (Qa5 Qaf) Qao)))) rfl rfl rfl))) (⟨fun _ _=>ald rfl Qrj (by decide) rfl (nle rfl) rfl,fun _ _=>amv rfl,fun _ _=>ald rfl Qj3 (by decide) rfl (nle rfl) rfl,fun _ _=>amv rfl,fun _ _=>amv rfl,fun _ _=>aiq underlying29 ti3 Qab hi35 hj36,fun _ _=>ald_ rfl ti3 (by decide) (nle rfl) rfl,fun _ _=>apw Q5o (Qhm N x29 x33 _ hf37),fun _ h=>absurd rfl h,tv⟩) ?_ (by kernel_rfl) (by kernel_rfl) (by kernel_rfl)
     obtain rfl:=osi h
     exact⟨_,[[(.lit (.pointer none))],[I x42]],rfl,(Qnh x42),(Qy0 (nlc nll nl0) (Qy0 (nlc nll nl0) Zcn)),by kernel_rfl,_,(mto (n:=45) (l':=[(6,.ref 0 1 0 0),(7,.ref 1 1 0 0)]) (own':=[Zel,(.own 1 [[I x42]])]) [(6,.ref 1 1 0 0),(7,.ref 2 1 0 0)] [1,2] [Zel,(.own 1 [[I x42]])] hq (prr (prr pn)) (qb (lc rwl ln) (qb (lc rwl ln) qn))),Qjn (vs:=[(.lit (.pointer none)),I x42]) ⟨Qbk (n:=0) (m:=1) (j:=0) (i:=0) (xs:=[[(.lit (.pointer none))]]) (by kernel_rfl) (by kernel_rfl) Qrj (by decide) rfl (nle rfl) rfl,Qbk (n:=1) (m:=1) (j:=0) (i:=0) (xs:=[[I x42]]) (by kernel_rfl) (by kernel_rfl) ti3 (by decide) rfl (nle rfl) rfl,tv⟩ rfl (NLt.tup _ (nlc (NLt.of0 nll) (nlc (NLt.of0 nll) nl0))) (by kernel_rfl) (Qce (Qg5 (nlc (NLt.of0 nll) nl0)) (Qce (Qg5 (nlc (NLt.of0 nll) nl0)) Qjs))⟩
   ·exact wfn hc28<|Qb4<|Qa4<|Qa4<|Qb3 rfl<|thn<|⟨(y18,y19,y20,y21),h,(mto (n:=45) [(6,.ref 1 1 0 0),(7,.ref 2 1 0 0)] [0,1,2,3,4,5,6] [(Qz3 p0),Qou,(.own 1 [[I 0]]),(Qpu y18),(Qpt y19),(.own 1 (y20.map Qab)),(Qpv p0 p1 p2 y21)] hφ1 (prr (prr pn)) (qb (lc (rnd Qaw) (lc (rnd Qah) ln)) (qb (lc (.rn (rqr rfl)) ln) (qb (lc rwl ln) (qc (spr Qar) (qc (spr Qa3) (qc (spr Qaf) (qb (lc (rnd Qaw) (lc (rnd Qah) (lc (.rn (Qa2 rfl)) (lc (.rn (Qa2 rfl)) (lc (.rn (Qa2 rfl)) (lc (rnd Qai) (lc rwl ln))))))) qn))))))))⟩
theorem Qnj (N:Nat) (p0:GNet) (p1:List Int) (p2:List Qaa) (r:Int) (h:Qfb N p0 p1 p2=some (.inl r)):Spec prog 40 [(Q6t p0),(.dat 1 (p1.map Qab)),(Qt2 p2)] [] (.tup [(.lit (.pointer none)),I r]) [(.own 1 [[(.lit (.pointer none))]]),(.own 1 [[I r]])]:=Qj8 N p0 p1 p2 _ h
theorem Qni (N:Nat) (p0:GNet) (p1:List Int) (p2:List Qaa) (r:(Int×Int×(List (List Qaa))×(List Qba)×(List Int))) (h:Qfb N p0 p1 p2=some (.inr r)):Spec prog 40 [(Q6t p0),(.dat 1 (p1.map Qab)),(Qt2 p2)] [] (.tup [.ref 2 7 0 0,I r.1]) [(.own 1 [[.ref 2 7 0 0]]),(.own 1 [[I r.1]]),(.own 7 [[(.dat 5 (p0.Table.map Qap)),(.dat 7 (p0.Elements.map Qan)),(.own 3 1 (0) ((p0.Elements.length:Int).toNat)),(.own 4 4 (0) ((p0.Elements.length:Int).toNat)),(.own 5 1 (0) p1.length),(.dat 4 (p2.map Qac)),I r.2.1]]),(.own 1 (r.2.2.1.map Qag)),(.own 4 (r.2.2.2.1.map Qau)),(.own 1 (r.2.2.2.2.map Qab))]:=Qj8 N p0 p1 p2 _ h
def Qnk (N:Nat) (p0:GNet) (p1:List Int) (p2:List Qaa):Option (Qih×Int×Int):=
  (Qi3 N p0 p1 p2).bind fun x11=>
  bif (x11 != 0) then
   some ((⟨[],[],[]⟩:Qih),0,x11)
  else
   (Qfb N p0 p1 p2).bind (
    Sum.elim (fun x15=>
      bif (decide (x15≥0)) then
       some ((⟨[],[],[]⟩:Qih),x15,11)
      else
       none)
    (fun x17=>
      bif (decide (x17.1≥0)) then
       some ((⟨[],[],[]⟩:Qih),x17.1,11)
      else
       chk (decide ((p0.Elements.length:Int).toNat≤x17.2.2.1.length))<|
       chk (decide ((p0.Elements.length:Int).toNat≤x17.2.2.2.1.length))<|
       chk (decide (p1.length≤x17.2.2.2.2.length))<|
       some ((⟨x17.2.2.1.take ((p0.Elements.length:Int).toNat),x17.2.2.2.1.take ((p0.Elements.length:Int).toNat),x17.2.2.2.2.take p1.length⟩:Qih),0,0)))
def Zbk (p0:GNet):AV:=.dat 5 (p0.Table.map Qap)
def Zbj (p0:GNet):AV:=.dat 7 (p0.Elements.map Qan)
def Zem (p0:GNet):AV:=.agg [(Zbk p0),(Zbj p0)]
def Zbg (p2:List Qaa):AV:=.dat 4 (p2.map Qac)
def Q2c:Slot:=.own 3 [[(.dat 1 ((((⟨[],[],[]⟩:Qih).Out):List (List Qaa)).map Qag)),(.dat 4 ((((⟨[],[],[]⟩:Qih).Lost):List Qba).map Qau)),(.dat 1 ((((⟨[],[],[]⟩:Qih).State):List Int).map Qab))]]
def Zbh:Slot:=.own 3 [[nilS,nilS,nilS]]
def Qx6:AV:=.dat 1 (((⟨[],[],[]⟩:Qih).Out:List (List Qaa)).map Qag)
def Qx5:AV:=.dat 4 (((⟨[],[],[]⟩:Qih).Lost:List Qba).map Qau)
def Qx4:AV:=.dat 1 (((⟨[],[],[]⟩:Qih).State:List Int).map Qab)
def Q2b:AV:=.agg [Qx6,Qx5,Qx4]
def Zha:Slot:=.own 1 [[(.lit (.pointer none))]]
def Q6u:Slot:=.own 1 [[(.ref 4 7 (0) 0)]]
def Qt3 (p0:GNet) (p1:List Int) (p2:List Qaa) (x17:(Int×Int×(List (List Qaa))×(List Qba)×(List Int))):Slot:=.own 7 [[(Zbk p0),(Zbj p0),(.own 5 1 (0) ((p0.Elements.length:Int).toNat)),(.own 6 4 (0) ((p0.Elements.length:Int).toNat)),(.own 7 1 (0) p1.length),(Zbg p2),(I x17.2.1)]]
def Qmr (x17:(Int×Int×(List (List Qaa))×(List Qba)×(List Int))) (p0:GNet):AV:=.dat 1 ((x17.2.2.1.take ((p0.Elements.length:Int).toNat):List (List Qaa)).map Qag)
def Zbi (p0:GNet):Slot:=.own 2 [[(Zbk p0),(Zbj p0)]]
def Qrs (x17:(Int×Int×(List (List Qaa))×(List Qba)×(List Int))) (p0:GNet):AV:=.dat 4 ((x17.2.2.2.1.take ((p0.Elements.length:Int).toNat):List Qba).map Qau)
def Zaa (x17:(Int×Int×(List (List Qaa))×(List Qba)×(List Int))) (p0:GNet) (p1:List Int):AV:=.dat 1 (((⟨x17.2.2.1.take ((p0.Elements.length:Int).toNat),x17.2.2.2.1.take ((p0.Elements.length:Int).toNat),x17.2.2.2.2.take p1.length⟩:Qih).Out:List (List Qaa)).map Qag)
def Q99 (x17:(Int×Int×(List (List Qaa))×(List Qba)×(List Int))) (p0:GNet) (p1:List Int):AV:=.dat 4 (((⟨x17.2.2.1.take ((p0.Elements.length:Int).toNat),x17.2.2.2.1.take ((p0.Elements.length:Int).toNat),x17.2.2.2.2.take p1.length⟩:Qih).Lost:List Qba).map Qau)
def Q98 (x17:(Int×Int×(List (List Qaa))×(List Qba)×(List Int))) (p0:GNet) (p1:List Int):AV:=.dat 1 (((⟨x17.2.2.1.take ((p0.Elements.length:Int).toNat),x17.2.2.2.1.take ((p0.Elements.length:Int).toNat),x17.2.2.2.2.take p1.length⟩:Qih).State:List Int).map Qab)
theorem Qwx (N:Nat) (p0:GNet) (p1:List Int) (p2:List Qaa) (r:(Qih×Int×Int)) (h:Qnk N p0 p1 p2=some r):Spec prog 13 [(.agg (Qnw p0)),(.dat 1 (p1.map Qab)),(.dat 4 (p2.map Qac))] [] (.tup [(.agg [(.dat 1 (r.1.Out.map Qag)),(.dat 4 (r.1.Lost.map Qau)),(.dat 1 (r.1.State.map Qab))]),(I r.2.1),(I r.2.2)]) []:=by
  refine sF func13 0 fun _ _ _ hq hd0=>?_
  unfold Qnk at h
  refine wxz<|wsq ?_
  obtain⟨x11,hf10,h⟩:=bno h
  refine wx tbk [(3,rp _ _)] ⟨apw Zdp (Qrn N p0 p1 p2 _ hf10),tv⟩<|wxz ?_
  refine bfe h (fun hc12 h=>?_) fun hc12 h=>?_
  ·refine wft hc12<|wx tbk [(0,rp _ _)] ⟨Qa6 (vs:=[]) rfl ts45 tz45 rfl (by rfl) rfl,tv⟩ ?_
   refine wmr (mto (n:=35) (l':=[(6,.ref 0 3 0 0),(7,I 0),(8,I x11)]) (own':=[Q2c]) [(6,.ref 1 3 0 0),(7,I 0),(8,I x11)] [1] [Zbh] hq (prr (pw (pw pn))) (qb (lc (.nil _) (lc (.nil _) (lc (.nil _) ln))) qn))<|Qad<|Qae ?_
   obtain rfl:=osi h
   exact⟨_,Mor.rfl,fie [Q2b,I 0,I x11] ⟨Qbk (n:=0) (m:=3) (j:=0) (i:=0) (xs:=[[Qx6,Qx5,Qx4]]) (by kernel_rfl) (by kernel_rfl) ti45 (by decide) rfl (nle rfl) rfl,rot,rot,tv⟩⟩
  ·refine wfn hc12<|Qam<|thn ?_
   obtain⟨x14,hf13,h⟩:=bno h
   rcases x14 with x15 |x17
   ·replace h:=Zf5 h
    refine wx tbk [(3,⟨_,_,_,_,false⟩)] ⟨acq [(Zem p0),(.dat 1 (p1.map Qab)),(Zbg p2)] [] [Zha,(.own 1 [[I x15]])] (.tup [(.lit (.pointer none)),I x15]) [2,3] Q5t (Qnj N p0 p1 p2 _ hf13) (Qbm (rnc (.plain _ (NLt.agg _ (nlc (nld Qaw _) (nlc (nld Qah _) nl0)))) (rnc (pld Qaf) (rnc (pld Qai) rn0)))) Qao (slc (Qak (rnc (.plain _ nll) rn0)) (slc (Qak (rnc (.plain _ nll) rn0)) Qao)) (.plain _ (NLt.tup _ (nlcc nl0))),tv⟩<|wsq<|wxz ?_
    refine bfe h (fun hc16 h=>?_) fun hc16 h=>?_
    ·refine wft hc16<|wx tbk [(0,rp _ _)] ⟨Qa6 (vs:=[]) rfl ts45 tz45 rfl (by rfl) rfl,tv⟩ ?_
     refine wmr (mto (n:=35) (l':=[(6,.ref 0 3 0 0),(7,I x15),(8,I 11)]) (own':=[Q2c]) [(6,.ref 1 3 0 0),(7,I x15),(8,I 11)] [1] [Zbh] hq (prr (pw (pw pn))) (qb (lc (.nil _) (lc (.nil _) (lc (.nil _) ln))) qn))<|Qad<|Qae ?_
     obtain rfl:=osi h
     exact⟨_,Mor.rfl,fie [Q2b,I x15,I 11] ⟨Qbk (n:=0) (m:=3) (j:=0) (i:=0) (xs:=[[Qx6,Qx5,Qx4]]) (by kernel_rfl) (by kernel_rfl) ti45 (by decide) rfl (nle rfl) rfl,rot,rot,tv⟩⟩
    ·refine wfn hc16<|Qam<|thn ?_
     cases h
   ·replace h:=Zf4 h
    refine wx tbk [(3,⟨_,_,_,_,false⟩)] ⟨acq [(Zem p0),(.dat 1 (p1.map Qab)),(Zbg p2)] [] [Q6u,(.own 1 [[I x17.1]]),(Qt3 p0 p1 p2 x17),(.own 1 (x17.2.2.1.map Qag)),(.own 4 (x17.2.2.2.1.map Qau)),(.own 1 (x17.2.2.2.2.map Qab))] (.tup [.ref 4 7 0 0,I x17.1]) [2,3,4,5,6,7] Q5t (Qni N p0 p1 p2 _ hf13) (Qbm (rnc (.plain _ (NLt.agg _ (nlc (nld Qaw _) (nlc (nld Qah _) nl0)))) (rnc (pld Qaf) (rnc (pld Qai) rn0)))) Qao (slc (Qak (rnc (Qbl rfl) rn0)) (slc (Qak (rnc (.plain _ nll) rn0)) (slc (Qak (rnc (pld Qaw) (rnc (pld Qah) (rnc (Qc1 rfl) (rnc (Qc1 rfl) (rnc (Qc1 rfl) (rnc (pld Qai) (rnc (.plain _ nll) rn0)))))))) (slc (Qa5 Qar) (slc (Qa5 Qa3) (slc (Qa5 Qaf) Qao)))))) (Zf9 (rnc (Qbl rfl) (rnc (.plain _ nll) rn0))),tv⟩<|wsq<|wxz ?_
    refine bfe h (fun hc18 h=>?_) fun hc18 h=>?_
    ·refine wft hc18<|wx tbk [(0,rp _ _)] ⟨Qa6 (vs:=[]) rfl ts45 tz45 rfl (by rfl) rfl,tv⟩ ?_
     refine wmr (mto (n:=35) (l':=[(6,.ref 0 3 0 0),(7,I x17.1),(8,I 11)]) (own':=[Q2c]) [(6,.ref 1 3 0 0),(7,I x17.1),(8,I 11)] [1] [Zbh] hq (prr (pw (pw pn))) (qb (lc (.nil _) (lc (.nil _) (lc (.nil _) ln))) qn))<|Qad<|Qae ?_
     obtain rfl:=osi h
     exact⟨_,Mor.rfl,fie [Q2b,I x17.1,I 11] ⟨Qbk (n:=0) (m:=3) (j:=0) (i:=0) (xs:=[[Qx6,Qx5,Qx4]]) (by kernel_rfl) (by kernel_rfl) ti45 (by decide) rfl (nle rfl) rfl,rot,rot,tv⟩⟩
    ·refine wfn hc18<|Qam<|thn ?_
     refine wx tbk [(1,rb [(.tmp 31,.ref 4 7 0 0)] [(4,(Qt3 p0 p1 p2 x17))] (.ref 4 7 0 0))] ⟨Qa9 rfl,tv⟩ ?_
     obtain⟨hz19,h⟩:=cko h
     refine wmr (Qw2 (n:=35) (mp:=3) (m:=1) (xs:=x17.2.2.1.map Qag) (c:=[(.own 5 1 (0) ((p0.Elements.length:Int).toNat)),(.own 6 4 (0) ((p0.Elements.length:Int).toNat)),(.own 7 1 (0) p1.length)]) (l':=[(6,.ref 1 3 0 0),(7,I 0),(8,I 0)]) (c':=[(Qmr x17 p0),(.own 6 4 (0) ((p0.Elements.length:Int).toNat)),(.own 7 1 (0) p1.length)]) (own':=[(Zbi p0),(.own 3 [[(Qmr x17 p0),(.own 6 4 (0) ((p0.Elements.length:Int).toNat)),(.own 7 1 (0) p1.length)]]),Q6u,(.own 1 [[I x17.1]]),(Qt3 p0 p1 p2 x17),.dead,(.own 4 (x17.2.2.2.1.map Qau)),(.own 1 (x17.2.2.2.2.map Qab))]) 5 1 [(6,.ref 1 3 0 0),(7,I 0),(8,I 0)] (by kernel_rfl) (by kernel_rfl) (by kernel_rfl) (by kernel_rfl) ⟨(Qok hz19),(.same _),(.same _),tv⟩ ⟨rfl,(.same _),rfl,(.same _),rfl,(.same _),tv⟩ (by kernel_rfl)) ?_
     obtain⟨hz20,h⟩:=cko h
     refine wmr (Qw2 (n:=35) (mp:=3) (m:=4) (xs:=x17.2.2.2.1.map Qau) (c:=[(Qmr x17 p0),(.own 6 4 (0) ((p0.Elements.length:Int).toNat)),(.own 7 1 (0) p1.length)]) (l':=[(6,.ref 1 3 0 0),(7,I 0),(8,I 0)]) (c':=[(Qmr x17 p0),(Qrs x17 p0),(.own 7 1 (0) p1.length)]) (own':=[(Zbi p0),(.own 3 [[(Qmr x17 p0),(Qrs x17 p0),(.own 7 1 (0) p1.length)]]),Q6u,(.own 1 [[I x17.1]]),(Qt3 p0 p1 p2 x17),.dead,.dead,(.own 1 (x17.2.2.2.2.map Qab))]) 6 1 [(6,.ref 1 3 0 0),(7,I 0),(8,I 0)] (by kernel_rfl) (by kernel_rfl) (by kernel_rfl) (by kernel_rfl) ⟨(.same _),(Qok hz20),(.same _),tv⟩ ⟨rfl,(.same _),rfl,(.same _),rfl,(.same _),tv⟩ (by kernel_rfl)) ?_
     obtain⟨hz21,h⟩:=cko h
     refine wmr (Qw2 (n:=35) (mp:=3) (m:=1) (xs:=x17.2.2.2.2.map Qab) (c:=[(Qmr x17 p0),(Qrs x17 p0),(.own 7 1 (0) p1.length)]) (l':=[(6,.ref 1 3 0 0),(7,I 0),(8,I 0)]) (c':=[(Qmr x17 p0),(Qrs x17 p0),(.dat 1 ((x17.2.2.2.2.take p1.length:List Int).map Qab))]) (own':=[(Zbi p0),(.own 3 [[(Qmr x17 p0),(Qrs x17 p0),(.dat 1 ((x17.2.2.2.2.take p1.length:List Int).map Qab))]]),Q6u,(.own 1 [[I x17.1]]),(Qt3 p0 p1 p2 x17),.dead,.dead,.dead]) 7 1 [(6,.ref 1 3 0 0),(7,I 0),(8,I 0)] (by kernel_rfl) (by kernel_rfl) (by kernel_rfl) (by kernel_rfl) ⟨(.same _),(.same _),(Qok hz21),tv⟩ ⟨rfl,(.same _),rfl,(.same _),rfl,(.same _),tv⟩ (by kernel_rfl)) ?_
     refine wmr (mto (n:=35) (l':=[(6,.ref 0 3 0 0),(7,I 0),(8,I 0)]) (own':=[(.own 3 [[(.dat 1 ((((⟨x17.2.2.1.take ((p0.Elements.length:Int).toNat),x17.2.2.2.1.take ((p0.Elements.length:Int).toNat),x17.2.2.2.2.take p1.length⟩:Qih).Out):List (List Qaa)).map Qag)),(.dat 4 ((((⟨x17.2.2.1.take ((p0.Elements.length:Int).toNat),x17.2.2.2.1.take ((p0.Elements.length:Int).toNat),x17.2.2.2.2.take p1.length⟩:Qih).Lost):List Qba).map Qau)),(.dat 1 ((((⟨x17.2.2.1.take ((p0.Elements.length:Int).toNat),x17.2.2.2.1.take ((p0.Elements.length:Int).toNat),x17.2.2.2.2.take p1.length⟩:Qih).State):List Int).map Qab))]])]) [(6,.ref 1 3 0 0),(7,I 0),(8,I 0)] [1] [(.own 3 [[(Qmr x17 p0),(Qrs x17 p0),(.dat 1 ((x17.2.2.2.2.take p1.length:List Int).map Qab))]])] hq (prr (pw (pw pn))) (qb (lc (rnd Qar) (lc (rnd Qa3) (lc (rnd Qaf) ln))) qn))<|Qad ?_
     obtain rfl:=osi h
     exact⟨_,Mor.rfl,fie [(.agg [(Zaa x17 p0 p1),(Q99 x17 p0 p1),(Q98 x17 p0 p1)]),I 0,I 0] ⟨Qbk (n:=0) (m:=3) (j:=0) (i:=0) (xs:=[[(Zaa x17 p0 p1),(Q99 x17 p0 p1),(Q98 x17 p0 p1)]]) (by kernel_rfl) (by kernel_rfl) ti45 (by decide) rfl (nle rfl) rfl,rot,rot,tv⟩⟩
end
section
def Qfz (_N:Nat) (p0 p1 p2:Int):Option Bool:=
  bif (decide (p0≥p1)) then
   some (decide (p0≤p2))
  else
   some false
theorem Qfs (N:Nat) (p0 p1 p2:Int) (r:Bool) (h:Qfz N p0 p1 p2=some r):Spec prog 37 [(I p0),(I p1),(I p2)] [] (B r) []:=by
  refine sA func37 0 fun _ _ _ hq hd0=>?_
  unfold Qfz at h
  refine wxz ?_
  refine bfe h (fun hb1 h=>?_) fun hb1 h=>?_
  ·refine wx tbk [(3,rp [(.tmp 9,(B ((decide (p0≥p1)))))] (B true))] ⟨asb hb1 (amv rfl),tv⟩<|Qad ?_
   obtain rfl:=osi h
   exact fend ⟨[(B ((decide (p0≤p2))))],⟨rot,tv⟩,rfl⟩ nll
  ·exact wx tbk [(3,rp [(.tmp 9,(B ((decide (p0≥p1)))))] (B false))] ⟨asb hb1 (amv rfl),tv⟩<|Qad<|frb h
def Qdd (N:Nat) (p0:List GRow) (k1:Unit→Option Bool):Nat→Int→Option Bool
  |0,_=>none
  |n5+1,y3=>
    bif (decide (y3<(p0.length:Int))) then
     (getI p0 y3).bind fun x7=>
     Qb7 (fun _=>
       bif (decide (y3>0)) then
        (getI p0 (w64 (y3-1))).bind fun x13=>
        bif (decide (x7.T≤x13.T)) then
         some false
        else
         bif (decide (x7.P≤x13.P)) then
          some false
         else
          bif (decide (x7.Liquid≤x13.Liquid)) then
           some false
          else
           bif (decide (x7.Silica<x13.Silica)) then
            some false
           else
            Qdd N p0 k1 n5 (w64 (y3+1))
       else
        Qdd N p0 k1 n5 (w64 (y3+1))) fun k11:Unit→Option Bool=>
     (Qfz N x7.T 0 400).bind fun x22=>
     bif (!x22) then
      some false
     else
      (Qfz N x7.P 1 10000).bind fun x25=>
      bif (!x25) then
       some false
      else
       (Qfz N x7.Liquid 0 4000).bind fun x28=>
       bif (!x28) then
        some false
       else
        (Qfz N x7.Silica 0 2000).bind fun x31=>
        bif (!x31) then
         some false
        else
         bif (decide (x7.Vapour≤x7.Liquid)) then
          some false
         else
          bif (decide (x7.Vapour>4000)) then
           some false
          else
           k11 ()
    else
     k1 ()
def Qib (N:Nat) (p0:List GRow):Option Bool:=
  Qb7 (fun _=>
    bif (decide ((p0.length:Int)≥2)) then
     some (decide ((p0.length:Int)≤20))
    else
     some false) fun k1:Unit→Option Bool=>
  Qdd N p0 k1 N 0
def Q96 (x7:GRow):Slot:=.own 5 [[(I x7.T),(I x7.P),(I x7.Liquid),(I x7.Vapour),(I x7.Silica)]]
def Q18 (y3:Int) (p0:List GRow) (x13:GRow):List (Nat×Rec):=[(2,rp [((.tmp 50),(B ((decide (y3>0)))))] (B true)),(8,rp [((.tmp 51),(B true)),((.tmp 54),(.dat 5 (p0.map Qap))),((.tmp 56),(I (w64 (y3-1))))] (.dptr (Qap x13) 0))]
def Q17 y3 p0 x13 (x7:GRow):=hcat (Q18 y3 p0 x13) [(12,rp [((.tmp 51),(B true)),((.tmp 60),(B ((decide (x7.T≤x13.T)))))] (B false)),(18,rp [((.tmp 61),(B false)),((.tmp 64),(.dat 5 (p0.map Qap))),((.tmp 66),(I (w64 (y3-1))))] (.dptr (Qap x13) 0))]
def Q16 y3 p0 x13 x7:=hcat (Q17 y3 p0 x13 x7) [(23,rp [((.tmp 51),(B true)),((.tmp 71),(B ((decide (x7.P≤x13.P)))))] (B false)),(29,rp [((.tmp 72),(B false)),((.tmp 75),(.dat 5 (p0.map Qap))),((.tmp 77),(I (w64 (y3-1))))] (.dptr (Qap x13) 0))]
def Q15 (x7:GRow) (x22:Bool):List (Nat×Rec):=[(2,rp [fu 37,((.tmp 16),(I x7.T)),ci 0,ci 400] (B x22))]
def Q14 x7 x22 (x25:Bool):=hcat (Q15 x7 x22) [(4,rp [((.tmp 18),(B ((!x22))))] (B false)),(7,rp [((.tmp 19),(B false)),fu 37,((.tmp 21),(I x7.P)),ci 1,ci 10000] (B x25))]
def Q13 x7 x22 x25 (x28:Bool):=hcat (Q14 x7 x22 x25) [(10,rp [((.tmp 24),(B ((!x25))))] (B false)),(13,rp [((.tmp 25),(B false)),fu 37,((.tmp 27),(I x7.Liquid)),ci 0,ci 4000] (B x28))]
def Qx3 x7 x22 x25 x28 (x31:Bool):=hcat (Q13 x7 x22 x25 x28) [(16,rp [((.tmp 30),(B ((!x28))))] (B false)),(19,rp [((.tmp 31),(B false)),fu 37,((.tmp 33),(I x7.Silica)),ci 0,ci 2000] (B x31))]
theorem Qqb (N:Nat) (p0:List GRow) (r:Bool) (h:Qib N p0=some r):Spec prog 6 [(.dat 5 (p0.map Qap))] [] (B r) []:=by
  refine sA func6 0 fun _ _ _ hq hd0=>?_
  unfold Qib at h
  refine wxz ?_
  obtain⟨k1,hk_k1,h⟩:=jko h
  refine wjn (τ:=Unit) (fun t=>k1 t=some r) (fun _=>⟨mk 103 [(0,(.dat 5 (p0.map Qap)))],[]⟩) (fun t h=>?_) ?_
  ·subst hk_k1
   refine bfe h (fun hb2 h=>?_) fun hb2 h=>?_
   ·refine wx tbk [(1,rp _ _),(3,rp [(.tmp 97,(B ((decide ((p0.length:Int)≥2)))))] (B true)),(5,rp [(.tmp 98,B true),(.tmp 99,(.dat 5 (p0.map Qap)))] (I ((p0.length:Int))))] ⟨alq 5 Qap p0 underlying23,asb hb2 (amv rfl),ag_ (alq 5 Qap p0 underlying23),tv⟩<|Qad ?_
    obtain rfl:=osi h
    exact fend ⟨[(B ((decide ((p0.length:Int)≤20))))],⟨rot,tv⟩,rfl⟩ nll
   ·exact wx tbk [(1,rp _ _),(3,rp [(.tmp 97,(B ((decide ((p0.length:Int)≥2)))))] (B false))] ⟨alq 5 Qap p0 underlying23,asb hb2 (amv rfl),tv⟩<|Qad<|frb h
  ·skip
   refine wxz<|Qaq ?_
   refine wmr (mto (n:=103) (l':=[(0,(.dat 5 (p0.map Qap))),(3,I 0)]) (own':=[]) [(0,(.dat 5 (p0.map Qap))),(3,I 0)] [] [] hq (pc (rnd Qaw) (pw pn)) qn) ?_
   refine Qcz (τ:=Int) (fun n t=>Qdd N p0 k1 n t=some r) (fun y3=>⟨mk 103 [(0,(.dat 5 (p0.map Qap))),(3,I y3)],[]⟩) (fun t h=>by rw[Qdd] at h;cases h) (fun n5 ih y3 h=>?_) N (0) h
   rw[Qdd] at h
   skip
   refine wsq<|wx tbk [(2,rp _ _)] ⟨alq 5 Qap p0 underlying23,tv⟩ ?_
   refine bfe h (fun hc6 h=>?_) fun hc6 h=>?_
   ·refine wft hc6<|Qam<|thn<|wsq<|Qaq ?_
    obtain⟨x7,hg8,h⟩:=bno h
    obtain⟨hi9,hj10⟩:=gsm hg8
    refine wx tbk [(2,rp _ _)] ⟨aiq underlying23 Qp2 Qap hi9 hj10,tv⟩ ?_
    obtain⟨k11,hk_k11,h⟩:=jko h
    refine wjn (τ:=Unit) (fun t=>k11 t=some r) (fun _=>⟨mk 103 [(0,(.dat 5 (p0.map Qap))),(3,I y3),(4,.ref 0 5 0 0)],[(Q96 x7)]⟩) (fun t h=>?_) ?_
    ·subst hk_k11
     refine bfe h (fun hb12 h=>?_) fun hb12 h=>?_
     ·obtain⟨x13,hg14,h⟩:=bno h
      obtain⟨hi15,hj16⟩:=gsm hg14
      refine hpre (A:=(Q18 y3 p0 x13)) ⟨asb hb12 (amv rfl),ag_ (aiq underlying23 Qp2 Qap hi15 hj16),tv⟩ fun q1_=>?_
      refine bfe h (fun hb17 h=>?_) fun hb17 h=>?_
      ·exact wxd tbk (hcat (Q18 y3 p0 x13) [(12,rp [(.tmp 51,B true),(.tmp 60,(B ((decide (x7.T≤x13.T)))))] (B true))]) (hap q1_ ⟨asb hb17 (ag_ (amv rfl)),tv⟩)<|wtr<|wxz<|Qad<|Qal<|Qae<|Qae<|Qal<|Qae<|frb h
      ·refine hpre (A:=(Q17 y3 p0 x13 x7)) (hap q1_ ⟨asb hb17 (ag_ (amv rfl)),ag_ (aiq underlying23 Qp2 Qap hi15 hj16),tv⟩) fun q2_=>?_
       refine bfe h (fun hb18 h=>?_) fun hb18 h=>?_
       ·exact wxd tbk (hcat (Q17 y3 p0 x13 x7) [(23,rp [(.tmp 51,B true),(.tmp 71,(B ((decide (x7.P≤x13.P)))))] (B true))]) (hap q2_ ⟨asb hb18 (ag_ (amv rfl)),tv⟩)<|wtr<|wxz<|Qad<|Qal<|Qae<|Qae<|Qal<|Qae<|frb h
       ·refine hpre (A:=(Q16 y3 p0 x13 x7)) (hap q2_ ⟨asb hb18 (ag_ (amv rfl)),ag_ (aiq underlying23 Qp2 Qap hi15 hj16),tv⟩) fun q3_=>?_
        refine bfe h (fun hb19 h=>?_) fun hb19 h=>?_
        ·exact wxd tbk (hcat (Q16 y3 p0 x13 x7) [(34,rp [(.tmp 51,B true),(.tmp 82,(B ((decide (x7.Liquid≤x13.Liquid)))))] (B true))]) (hap q3_ ⟨asb hb19 (ag_ (amv rfl)),tv⟩)<|wtr<|wxz<|Qad<|Qal<|Qae<|Qae<|Qal<|Qae<|frb h
        ·refine wxd tbk (hcat (Q16 y3 p0 x13 x7) [(34,rp [(.tmp 51,B true),(.tmp 82,(B ((decide (x7.Liquid≤x13.Liquid)))))] (B false)),(40,rp [(.tmp 83,B false),(.tmp 86,(.dat 5 (p0.map Qap))),(.tmp 88,(I (w64 (y3-1))))] (.dptr (Qap x13) 0))]) (hap q3_ ⟨asb hb19 (ag_ (amv rfl)),ag_ (aiq underlying23 Qp2 Qap hi15 hj16),tv⟩) ?_
         refine bfe h (fun hc20 h=>?_) fun hc20 h=>?_
         ·exact wft hc20<|wxz<|Qad<|Qal<|Qae<|Qae<|Qal<|Qae<|frb h
         ·exact wfn hc20<|Qam<|bln<|thn<|wxz1<|thn<|arm (mto (n:=103) [(0,(.dat 5 (p0.map Qap))),(3,(I (w64 (y3+1))))] [] [] hq (pc (rnd Qaw) (pw pn)) qn) (ih (w64 (y3+1)) h)
     ·exact wxd tbk [(2,rp [(.tmp 50,(B ((decide (y3>0)))))] (B false))] ⟨asb hb12 (amv rfl),tv⟩<|wfa<|Qam<|bln<|thn<|wxz1<|thn<|arm (mto (n:=103) [(0,(.dat 5 (p0.map Qap))),(3,(I (w64 (y3+1))))] [] [] hq (pc (rnd Qaw) (pw pn)) qn) (ih (w64 (y3+1)) h)
    ·skip
     obtain⟨x22,hf21,h⟩:=bno h
     refine hpre (A:=(Q15 x7 x22)) ⟨apv Qlg (Qfs N x7.T 0 400 _ hf21) (nlcc (nlc nll nl0)) nll,tv⟩ fun q4_=>?_
     refine bfe h (fun hb23 h=>?_) fun hb23 h=>?_
     ·refine wx tbk (hcat (Q15 x7 x22) [(4,rp [(.tmp 18,(B ((!x22))))] (B true))]) (hap q4_ ⟨asb hb23 (amv rfl),tv⟩)<|wtr<|wxz<|Qad<|Qae<|Qal<|Qae<|Qae<|Qal<|Qae ?_
      exact frb h
     ·obtain⟨x25,hf24,h⟩:=bno h
      refine hpre (A:=(Q14 x7 x22 x25)) (hap q4_ ⟨asb hb23 (amv rfl),ag_ (apv Qlg (Qfs N x7.P 1 10000 _ hf24) (nlcc (nlc nll nl0)) nll),tv⟩) fun q5_=>?_
      refine bfe h (fun hb26 h=>?_) fun hb26 h=>?_
      ·refine wx tbk (hcat (Q14 x7 x22 x25) [(10,rp [(.tmp 24,(B ((!x25))))] (B true))]) (hap q5_ ⟨asb hb26 (amv rfl),tv⟩)<|wtr<|wxz<|Qad<|Qae<|Qal<|Qae<|Qae<|Qal<|Qae ?_
       exact frb h
      ·obtain⟨x28,hf27,h⟩:=bno h
       refine hpre (A:=(Q13 x7 x22 x25 x28)) (hap q5_ ⟨asb hb26 (amv rfl),ag_ (apv Qlg (Qfs N x7.Liquid 0 4000 _ hf27) (nlcc (nlc nll nl0)) nll),tv⟩) fun q6_=>?_
       refine bfe h (fun hb29 h=>?_) fun hb29 h=>?_
       ·refine wx tbk (hcat (Q13 x7 x22 x25 x28) [(16,rp [(.tmp 30,(B ((!x28))))] (B true))]) (hap q6_ ⟨asb hb29 (amv rfl),tv⟩)<|wtr<|wxz<|Qad<|Qae<|Qal<|Qae<|Qae<|Qal<|Qae ?_
        exact frb h
       ·obtain⟨x31,hf30,h⟩:=bno h
        refine hpre (A:=(Qx3 x7 x22 x25 x28 x31)) (hap q6_ ⟨asb hb29 (amv rfl),ag_ (apv Qlg (Qfs N x7.Silica 0 2000 _ hf30) (nlcc (nlc nll nl0)) nll),tv⟩) fun q7_=>?_
        refine bfe h (fun hb32 h=>?_) fun hb32 h=>?_
        ·refine wx tbk (hcat (Qx3 x7 x22 x25 x28 x31) [(22,rp [(.tmp 36,(B ((!x31))))] (B true))]) (hap q7_ ⟨asb hb32 (amv rfl),tv⟩)<|wtr<|wxz<|Qad<|Qae<|Qal<|Qae<|Qae<|Qal<|Qae ?_
         exact frb h
        ·refine bfe h (fun hb33 h=>?_) fun hb33 h=>?_
         ·refine wx tbk (hcat (Qx3 x7 x22 x25 x28 x31) [(22,rp [(.tmp 36,(B ((!x31))))] (B false)),(29,rp [(.tmp 43,(B ((decide (x7.Vapour≤x7.Liquid)))))] (B true))]) (hap q7_ ⟨asb hb32 (amv rfl),asb hb33 (amv rfl),tv⟩)<|wtr<|wxz<|Qad<|Qae<|Qal<|Qae<|Qae<|Qal<|Qae ?_
          exact frb h
         ·refine wx tbk (hcat (Qx3 x7 x22 x25 x28 x31) [(22,rp [(.tmp 36,(B ((!x31))))] (B false)),(29,rp [(.tmp 43,(B ((decide (x7.Vapour≤x7.Liquid)))))] (B false))]) (hap q7_ ⟨asb hb32 (amv rfl),asb hb33 (amv rfl),tv⟩) ?_
          refine bfe h (fun hc34 h=>?_) fun hc34 h=>?_
          ·exact wft hc34<|wxz<|Qad<|Qae<|Qal<|Qae<|Qae<|Qal<|Qae<|frb h
          ·exact wfn hc34<|Qam<|thn<|⟨(),h,(mto (n:=103) [(0,(.dat 5 (p0.map Qap))),(3,I y3),(4,.ref 0 5 0 0)] [0] [(Q96 x7)] hq (pc (rnd Qaw) (pw (prr pn))) (qb (lcc (lcc (lc rwl ln))) qn))⟩
   ·exact wfn hc6<|Qb4<|Qa4<|Qa4<|Qb3 rfl<|thn<|⟨(),h,(mto (n:=103) [(0,(.dat 5 (p0.map Qap)))] [] [] hq (pc (rnd Qaw) pn) qn)⟩
def Qdu (N:Nat) (p0:List GRow) (k2:(List GRow)→Option (List GRow)):Nat→(List GRow)→Int→Option (List GRow)
  |0,_,_=>none
  |n7+1,y3,y4=>
    bif (decide (y4<(p0.length:Int))) then
     (getI p0 y4).bind fun x9=>
     chk (decide ((y3.length+([x9]).length)*40≤140737488355328))<|
     Qdu N p0 k2 n7 (y3++([x9])) (w64 (y4+1))
    else
     k2 (y3)
def Qie (N:Nat) (p0:List GRow):Option (List GRow):=
  Qb7 (fun y1=>
    some y1) fun k2:(List GRow)→Option (List GRow)=>
  Qdu N p0 k2 N ([]) 0
def Q95 (x9:GRow):AV:=.agg [(I x9.T),(I x9.P),(I x9.Liquid),(I x9.Vapour),(I x9.Silica)]
theorem Qqr (N:Nat) (p0 r:List GRow) (h:Qie N p0=some r):Spec prog 12 [(.dat 5 (p0.map Qap))] [] (.dat 5 (r.map Qap)) []:=by
  refine sA func12 0 fun _ _ _ hq hd0=>?_
  unfold Qie at h
  refine wxz<|wxz ?_
  obtain⟨k2,hk_k2,h⟩:=jko h
  refine wjn (τ:=(List GRow)) (fun t=>k2 t=some r) (fun y1=>⟨mk 41 [(3,(.acc 0 113 5 (y1.map Qap)))],[.tok]⟩) (fun y1 h=>?_) ?_
  ·subst hk_k2
   refine wxz<|Qad ?_
   obtain rfl:=osi h
   exact fie [(.dat 5 (y1.map Qap))] ⟨Qf2 (v:=(.acc 0 113 5 (y1.map Qap))) rot Less.acc,tv⟩
  ·skip
   refine wxz<|Qaq ?_
   refine wmr (Mor.trans (Qs9 0 113 5 3 (by kernel_rfl) (by kernel_rfl)) (mto (n:=41) (l':=[(0,(.dat 5 (p0.map Qap))),(3,(.acc 0 113 5 ((([]):List GRow).map Qap))),(4,I 0)]) (own':=[.tok]) [(0,(.dat 5 (p0.map Qap))),(3,(.acc 0 113 5 (([]:List GRow).map Qap))),(4,I 0)] [0] [.tok] hq (pc (rnd Qaw) (pc (.rn (Qgc rfl (Qek Qaw _))) (pw pn))) (qc .tok qn))) ?_
   refine Qcz (τ:=(List GRow)×Int) (fun n t=>Qdu N p0 k2 n t.1 t.2=some r) (fun ⟨y3,y4⟩=>⟨mk 41 [(0,(.dat 5 (p0.map Qap))),(3,(.acc 0 113 5 (y3.map Qap))),(4,I y4)],[.tok]⟩) (fun t h=>by rw[Qdu] at h;cases h) (fun n7 ih t h=>?_) N ([],0) h
   obtain⟨y3,y4⟩:=t
   rw[Qdu] at h
   skip
   refine wsq<|wx tbk [(2,rp _ _)] ⟨alq 5 Qap p0 underlying23,tv⟩ ?_
   refine bfe h (fun hc8 h=>?_) fun hc8 h=>?_
   ·refine wft hc8<|Qam<|thn<|wsq<|Qaq ?_
    obtain⟨x9,hg10,h⟩:=bno h
    obtain⟨hi11,hj12⟩:=gsm hg10
    obtain⟨ha13,h⟩:=cko h
    refine wy1 tbk [(3,rp _ _),(8,rp _ _),(13,rp _ _),(18,rp _ _),(23,rp _ _),(26,rp _ _),(27,rp [(.tmp 37,(Q95 x9))] (.dat 5 (([x9]:List GRow).map Qap))),(28,⟨[(.tmp 11,(.acc 0 113 5 (y3.map Qap))),(.tmp 38,(.dat 5 (([x9]:List GRow).map Qap)))],[(0,.tok),(1,.unused)],(.acc 1 113 5 ((y3++([x9]):List GRow).map Qap)),[(0,.dead),(1,.tok)],false⟩)] ⟨aiq underlying23 Qp2 Qap hi11 hj12,aiq underlying23 Qp2 Qap hi11 hj12,aiq underlying23 Qp2 Qap hi11 hj12,aiq underlying23 Qp2 Qap hi11 hj12,aiq underlying23 Qp2 Qap hi11 hj12,Qa6 (vs:=[I x9.T,I x9.P,I x9.Liquid,I x9.Vapour,I x9.Silica]) rfl Zht Zb9 rfl (by rfl) rfl,Qcg (vs:=[(Q95 x9)]) rfl underlying36 Qsv Zb9 rfl (by decide) rfl (by decide) (by rfl) (by rfl) (by rfl) rfl,Qkj rfl underlying36 Zh3 (Base.acc _ _) rfl rfl (by rfl) (Qot Qap ha13) (Qos Qap ha13 (by decide)) (Qor Qap) rfl rfl,tv⟩<|bln<|thn<|wxz1<|thn ?_
    exact arm (mto (n:=41) [(0,(.dat 5 (p0.map Qap))),(3,(.acc 1 113 5 ((y3++([x9]):List GRow).map Qap))),(4,(I (w64 (y4+1))))] [1] [.tok] hq (pc (rnd Qaw) (pc (.rn (Qgc rfl (Qek Qaw _))) (pw pn))) (qc .tok qn)) (ih (y3++([x9]),w64 (y4+1)) h)
   ·exact wfn hc8<|Qb4<|Qa4<|Qa4<|Qb3 rfl<|thn<|⟨(y3),h,(mto (n:=41) [(3,(.acc 0 113 5 (y3.map Qap)))] [0] [.tok] hq (pc (.rn (Qgc rfl (Qek Qaw _))) pn) (qc .tok qn))⟩
def Qe7 (N:Nat) (p0:Qaa):Option Bool:=
  (Qfz N p0.Mass 0 1000000).bind fun x2=>
  bif x2 then
   (Qfz N p0.Heat 0 (w64 (4000*p0.Mass))).bind fun x5=>
   bif x5 then
    (Qfz N p0.Silica 0 (w64 (10000*p0.Mass))).bind fun x8=>
    bif x8 then
     (Qfz N p0.Gas 0 1000000000).bind fun x11=>
     some x11
    else
     some false
   else
    some false
  else
   some false
def Zbf (p0:Qaa) (x2:Bool):List (Nat×Rec):=[(2,rp [fu 37,((.tmp 4),(I p0.Mass)),ci 0,ci 1000000] (B x2))]
def Zbe p0 x2 (x5:Bool):=hcat (Zbf p0 x2) [(3,rp [((.tmp 5),(B x2))] (B true)),(9,rp [((.tmp 6),(B true)),fu 37,((.tmp 8),(I p0.Heat)),ci 0,((.tmp 11),(I (w64 (4000*p0.Mass))))] (B x5))]
def Zbd p0 x2 x5 (x8:Bool):=hcat (Zbe p0 x2 x5) [(11,rp [((.tmp 13),(B x5))] (B true)),(17,rp [((.tmp 14),(B true)),fu 37,((.tmp 16),(I p0.Silica)),ci 0,((.tmp 19),(I (w64 (10000*p0.Mass))))] (B x8))]
theorem Qlc (N:Nat) (p0:Qaa) (r:Bool) (h:Qe7 N p0=some r):Spec prog 7 [(.agg (Qac p0))] [] (B r) []:=by
  refine sA func7 0 fun _ _ _ hq hd0=>?_
  unfold Qe7 at h
  refine wxz ?_
  obtain⟨x2,hf1,h⟩:=bno h
  refine hpre (A:=(Zbf p0 x2)) ⟨apv Qlg (Qfs N p0.Mass 0 1000000 _ hf1) (nlcc (nlc nll nl0)) nll,tv⟩ fun q1_=>?_
  refine bfe h (fun hb3 h=>?_) fun hb3 h=>?_
  ·obtain⟨x5,hf4,h⟩:=bno h
   refine hpre (A:=(Zbe p0 x2 x5)) (hap q1_ ⟨asb hb3 (amv rfl),ag_ (apv Qlg (Qfs N p0.Heat 0 (w64 (4000*p0.Mass)) _ hf4) (nlcc (nlc nll nl0)) nll),tv⟩) fun q2_=>?_
   refine bfe h (fun hb6 h=>?_) fun hb6 h=>?_
   ·obtain⟨x8,hf7,h⟩:=bno h
    refine hpre (A:=(Zbd p0 x2 x5 x8)) (hap q2_ ⟨asb hb6 (amv rfl),ag_ (apv Qlg (Qfs N p0.Silica 0 (w64 (10000*p0.Mass)) _ hf7) (nlcc (nlc nll nl0)) nll),tv⟩) fun q3_=>?_
    refine bfe h (fun hb9 h=>?_) fun hb9 h=>?_
    ·obtain⟨x11,hf10,h⟩:=bno h
     exact wx tbk (hcat (Zbd p0 x2 x5 x8) [(19,rp [(.tmp 21,B x8)] (B true)),(22,rp [(.tmp 22,B true),fu 37,(.tmp 24,I p0.Gas),ci 0,ci 1000000000] (B x11))]) (hap q3_ ⟨asb hb9 (amv rfl),ag_ (apv Qlg (Qfs N p0.Gas 0 1000000000 _ hf10) (nlcc (nlc nll nl0)) nll),tv⟩)<|Qad<|frb h
    ·exact wx tbk (hcat (Zbd p0 x2 x5 x8) [(19,rp [(.tmp 21,B x8)] (B false))]) (hap q3_ ⟨asb hb9 (amv rfl),tv⟩)<|Qad<|frb h
   ·exact wx tbk (hcat (Zbe p0 x2 x5) [(11,rp [(.tmp 13,B x5)] (B false))]) (hap q2_ ⟨asb hb6 (amv rfl),tv⟩)<|Qad<|frb h
  ·exact wx tbk (hcat (Zbf p0 x2) [(3,rp [(.tmp 5,B x2)] (B false))]) (hap q1_ ⟨asb hb3 (amv rfl),tv⟩)<|Qad<|frb h
def Qiq (_N:Nat) (p0:Qaa):Option Qaa:=
  some p0
def Zg8 (p0:Qaa):AV:=.agg [(I p0.Mass),(I p0.Heat),(I p0.Silica),(I p0.Gas)]
theorem Qpg (N:Nat) (p0 r:Qaa) (h:Qiq N p0=some r):Spec prog 14 [(.agg (Qac p0))] [] (.agg (Qac r)) []:=by
  refine sA func14 0 fun _ _ _ hq hd0=>?_
  unfold Qiq at h
  refine wxz<|wx tbk [(8,rp _ _)] ⟨Qa6 (vs:=[I p0.Mass,I p0.Heat,I p0.Silica,I p0.Gas]) rfl ts49 tz49 rfl (by rfl) rfl,tv⟩<|Qad ?_
  obtain rfl:=osi h
  exact fie [(Zg8 p0)] ⟨Qbk (n:=1) (m:=4) (j:=0) (i:=0) (xs:=[[I p0.Mass,I p0.Heat,I p0.Silica,I p0.Gas]]) (by kernel_rfl) (by kernel_rfl) ti49 (by decide) rfl (nle rfl) rfl,tv⟩
def Qd5 (_N:Nat) (p0 p1 p2:Int):Option Bool:=
  bif (decide (p1≤p0)) then
   some (decide (p0≤p2))
  else
   some false
theorem Qeo (N:Nat) (p0 p1 p2:Int) (r:Bool) (h:Qd5 N p0 p1 p2=some r):Spec prog 45 [(I p0),(I p1),(I p2)] [] (B r) []:=by
  refine sA func45 0 fun _ _ _ hq hd0=>?_
  unfold Qd5 at h
  refine wxz ?_
  refine bfe h (fun hb1 h=>?_) fun hb1 h=>?_
  ·refine wx tbk [(3,rp [(.tmp 9,(B ((decide (p1≤p0)))))] (B true))] ⟨asb hb1 (amv rfl),tv⟩<|Qad ?_
   obtain rfl:=osi h
   exact fend ⟨[(B ((decide (p0≤p2))))],⟨rot,tv⟩,rfl⟩ nll
  ·exact wx tbk [(3,rp [(.tmp 9,(B ((decide (p1≤p0)))))] (B false))] ⟨asb hb1 (amv rfl),tv⟩<|Qad<|frb h
def Qg2 (N:Nat) (p0:Int):Option Bool:=
  (Qd5 N p0 0 1000000000).bind fun x2=>
  some x2
theorem Qhx (N:Nat) (p0:Int) (r:Bool) (h:Qg2 N p0=some r):Spec prog 87 [(I p0)] [] (B r) []:=by
  refine sA func87 0 fun _ _ _ hq hd0=>?_
  unfold Qg2 at h
  refine wxz ?_
  obtain⟨x2,hf1,h⟩:=bno h
  exact wx tbk [(1,rp _ _)] ⟨apw Qmk (Qeo N p0 0 1000000000 _ hf1),tv⟩<|Qad<|frb h
def Qcj (N:Nat) (p0:List Qbg) (k2:Unit→Option Bool):Nat→Int→Option Bool
  |0,_=>none
  |n5+1,y3=>
    bif (decide (y3<(p0.length:Int))) then
     (getI p0 y3).bind fun x7=>
     bif (decide (y3>0)) then
      (Qd5 N x7.Parent 0 (w64 (y3-1))).bind fun x13=>
      bif (!x13) then
       some false
      else
       (Qg2 N x7.Loss).bind fun x16=>
       bif (!x16) then
        some false
       else
        (Qg2 N x7.Limit).bind fun x19=>
        bif (!x19) then
         some false
        else
         (Qd5 N x7.Rank 0 100).bind fun x22=>
         bif (!x22) then
          some false
         else
          Qcj N p0 k2 n5 (w64 (y3+1))
     else
      (Qg2 N x7.Loss).bind fun x25=>
      bif (!x25) then
       some false
      else
       (Qg2 N x7.Limit).bind fun x28=>
       bif (!x28) then
        some false
       else
        (Qd5 N x7.Rank 0 100).bind fun x31=>
        bif (!x31) then
         some false
        else
         Qcj N p0 k2 n5 (w64 (y3+1))
    else
     k2 ()
def Qft (N:Nat) (p0:List Qbg):Option Bool:=
  Qb7 (fun _=>
    Qb7 (fun _=>
      some true) fun k2:Unit→Option Bool=>
    Qcj N p0 k2 N 0) fun k1:Unit→Option Bool=>
  (Qd5 N (p0.length:Int) 1 30).bind fun x34=>
  bif (!x34) then
   some false
  else
   (getI p0 0).bind fun x36=>
   bif (x36.Parent != (-1)) then
    some false
   else
    bif (x36.Loss != 0) then
     some false
    else
     bif (x36.Limit != 0) then
      some false
     else
      k1 ()
def Qps (p0:List Qbg):AV:=.dat 4 (p0.map Qat)
def Q12 (y3:Int) (x7:Qbg) (x13:Bool):List (Nat×Rec):=[(2,rp [((.tmp 38),(B ((decide (y3>0)))))] (B true)),(7,rp [((.tmp 39),(B true)),fu 45,((.tmp 41),(I x7.Parent)),ci 0,((.tmp 43),(I (w64 (y3-1))))] (B x13))]
def Q11 y3 x7 x13 (x16:Bool):=hcat (Q12 y3 x7 x13) [(10,rp [((.tmp 46),(B ((!x13))))] (B false)),(13,rp [((.tmp 47),(B false)),fu 87,((.tmp 49),(I x7.Loss))] (B x16))]
def Q10 y3 x7 x13 x16 (x19:Bool):=hcat (Q11 y3 x7 x13 x16) [(16,rp [((.tmp 52),(B ((!x16))))] (B false)),(19,rp [((.tmp 53),(B false)),fu 87,((.tmp 55),(I x7.Limit))] (B x19))]
def Q1z (y3:Int) (x7:Qbg) (x25:Bool):List (Nat×Rec):=[(2,rp [((.tmp 38),(B ((decide (y3>0)))))] (B false)),(13,rp [((.tmp 47),(B false)),fu 87,((.tmp 49),(I x7.Loss))] (B x25))]
def Q1y y3 x7 x25 (x28:Bool):=hcat (Q1z y3 x7 x25) [(16,rp [((.tmp 52),(B ((!x25))))] (B false)),(19,rp [((.tmp 53),(B false)),fu 87,((.tmp 55),(I x7.Limit))] (B x28))]
def Q1x (p0:List Qbg) (x34:Bool):List (Nat×Rec):=[(1,rp [((.tmp 5),(Qps p0))] (I ((p0.length:Int)))),(2,rp [fu 45,((.tmp 6),(I ((p0.length:Int)))),ci 1,ci 30] (B x34))]
def Q1w p0 x34 (x36:Qbg):=hcat (Q1x p0 x34) [(4,rp [((.tmp 8),(B ((!x34))))] (B false)),(6,rp [((.tmp 9),(B false)),((.tmp 10),(Qps p0)),ci 0] (.dptr (Qat x36) 0))]
def Q1v p0 x34 x36:=hcat (Q1w p0 x34 x36) [(11,rp [((.tmp 15),(B ((x36.Parent != (-1)))))] (B false)),(13,rp [((.tmp 16),(B false)),((.tmp 17),(Qps p0)),ci 0] (.dptr (Qat x36) 0))]
theorem Ql9 (N:Nat) (p0:List Qbg) (r:Bool) (h:Qft N p0=some r):Spec prog 85 [(.dat 4 (p0.map Qat))] [] (B r) []:=by
  refine sA func85 0 fun _ _ _ hq hd0=>?_
  unfold Qft at h
  refine wxz ?_
  obtain⟨k1,hk_k1,h⟩:=jko h
  refine wjn (τ:=Unit) (fun t=>k1 t=some r) (fun _=>⟨mk 66 [(0,(Qps p0))],[]⟩) (fun t h=>?_) ?_
  ·subst hk_k1
   obtain⟨k2,hk_k2,h⟩:=jko h
   refine wjn (τ:=Unit) (fun t=>k2 t=some r) (fun _=>⟨mk 66 [],[]⟩) (fun t h=>?_) ?_
   ·subst hk_k2
    exact wxz<|Qad<|frb h
   ·skip
    refine wx tbk [(1,rp _ _)] ⟨alq 4 Qat p0 underlying55,tv⟩<|Qaq ?_
    refine wmr (mto (n:=66) (l':=[(30,(Qps p0)),(31,(I ((p0.length:Int)))),(32,I 0)]) (own':=[]) [(30,(Qps p0)),(31,(I ((p0.length:Int)))),(32,I 0)] [] [] hq (pc (rnd Qbo) (pw (pw pn))) qn) ?_
    refine Qcz (τ:=Int) (fun n t=>Qcj N p0 k2 n t=some r) (fun y3=>⟨mk 66 [(30,(Qps p0)),(31,(I ((p0.length:Int)))),(32,I y3)],[]⟩) (fun t h=>by rw[Qcj] at h;cases h) (fun n5 ih y3 h=>?_) N (0) h
    rw[Qcj] at h
    skip
    refine wxz<|wsq ?_
    refine bfe h (fun hc6 h=>?_) fun hc6 h=>?_
    ·refine wft hc6<|Qam<|thn<|wsq<|Qaq ?_
     obtain⟨x7,hg8,h⟩:=bno h
     obtain⟨hi9,hj10⟩:=gsm hg8
     refine wx tbk [(1,rp _ _)] ⟨aiq underlying55 Qm6 Qat hi9 hj10,tv⟩ ?_
     refine bfe h (fun hb11 h=>?_) fun hb11 h=>?_
     ·obtain⟨x13,hf12,h⟩:=bno h
      refine hpre (A:=(Q12 y3 x7 x13)) ⟨asb hb11 (amv rfl),ag_ (apv Qmk (Qeo N x7.Parent 0 (w64 (y3-1)) _ hf12) (nlcc (nlc nll nl0)) nll),tv⟩ fun q1_=>?_
      refine bfe h (fun hb14 h=>?_) fun hb14 h=>?_
      ·exact wx tbk (hcat (Q12 y3 x7 x13) [(10,rp [(.tmp 46,(B ((!x13))))] (B true))]) (hap q1_ ⟨asb hb14 (amv rfl),tv⟩)<|wtr<|wxz<|Qad<|Qal<|Qae<|Qae<|Qal<|Qae<|frb h
      ·obtain⟨x16,hf15,h⟩:=bno h
       refine hpre (A:=(Q11 y3 x7 x13 x16)) (hap q1_ ⟨asb hb14 (amv rfl),ag_ (apv Qqz (Qhx N x7.Loss _ hf15) (nlc nll nl0) nll),tv⟩) fun q2_=>?_
       refine bfe h (fun hb17 h=>?_) fun hb17 h=>?_
       ·exact wx tbk (hcat (Q11 y3 x7 x13 x16) [(16,rp [(.tmp 52,(B ((!x16))))] (B true))]) (hap q2_ ⟨asb hb17 (amv rfl),tv⟩)<|wtr<|wxz<|Qad<|Qal<|Qae<|Qae<|Qal<|Qae<|frb h
       ·obtain⟨x19,hf18,h⟩:=bno h
        refine hpre (A:=(Q10 y3 x7 x13 x16 x19)) (hap q2_ ⟨asb hb17 (amv rfl),ag_ (apv Qqz (Qhx N x7.Limit _ hf18) (nlc nll nl0) nll),tv⟩) fun q3_=>?_
        refine bfe h (fun hb20 h=>?_) fun hb20 h=>?_
        ·exact wx tbk (hcat (Q10 y3 x7 x13 x16 x19) [(22,rp [(.tmp 58,(B ((!x19))))] (B true))]) (hap q3_ ⟨asb hb20 (amv rfl),tv⟩)<|wtr<|wxz<|Qad<|Qal<|Qae<|Qae<|Qal<|Qae<|frb h
        ·obtain⟨x22,hf21,h⟩:=bno h
         refine wx tbk (hcat (Q10 y3 x7 x13 x16 x19) [(22,rp [(.tmp 58,(B ((!x19))))] (B false)),(25,rp [(.tmp 59,B false),fu 45,(.tmp 61,I x7.Rank),ci 0,ci 100] (B x22))]) (hap q3_ ⟨asb hb20 (amv rfl),ag_ (apv Qmk (Qeo N x7.Rank 0 100 _ hf21) (nlcc (nlc nll nl0)) nll),tv⟩) ?_
         refine bfe h (fun hc23 h=>?_) fun hc23 h=>?_
         ·exact wft hc23<|wxz<|Qad<|Qal<|Qae<|Qae<|Qal<|Qae<|frb h
         ·exact wfn hc23<|Qam<|bln<|thn<|wxz1<|thn<|arm (mto (n:=66) [(30,(Qps p0)),(31,(I ((p0.length:Int)))),(32,(I (w64 (y3+1))))] [] [] hq (pc (rnd Qbo) (pw (pw pn))) qn) (ih (w64 (y3+1)) h)
     ·obtain⟨x25,hf24,h⟩:=bno h
      refine hpre (A:=(Q1z y3 x7 x25)) ⟨asb hb11 (amv rfl),ag_ (apv Qqz (Qhx N x7.Loss _ hf24) (nlc nll nl0) nll),tv⟩ fun q4_=>?_
      refine bfe h (fun hb26 h=>?_) fun hb26 h=>?_
      ·exact wx tbk (hcat (Q1z y3 x7 x25) [(16,rp [(.tmp 52,(B ((!x25))))] (B true))]) (hap q4_ ⟨asb hb26 (amv rfl),tv⟩)<|wtr<|wxz<|Qad<|Qal<|Qae<|Qae<|Qal<|Qae<|frb h
      ·obtain⟨x28,hf27,h⟩:=bno h
       refine hpre (A:=(Q1y y3 x7 x25 x28)) (hap q4_ ⟨asb hb26 (amv rfl),ag_ (apv Qqz (Qhx N x7.Limit _ hf27) (nlc nll nl0) nll),tv⟩) fun q5_=>?_
       refine bfe h (fun hb29 h=>?_) fun hb29 h=>?_
       ·exact wx tbk (hcat (Q1y y3 x7 x25 x28) [(22,rp [(.tmp 58,(B ((!x28))))] (B true))]) (hap q5_ ⟨asb hb29 (amv rfl),tv⟩)<|wtr<|wxz<|Qad<|Qal<|Qae<|Qae<|Qal<|Qae<|frb h
       ·obtain⟨x31,hf30,h⟩:=bno h
        refine wx tbk (hcat (Q1y y3 x7 x25 x28) [(22,rp [(.tmp 58,(B ((!x28))))] (B false)),(25,rp [(.tmp 59,B false),fu 45,(.tmp 61,I x7.Rank),ci 0,ci 100] (B x31))]) (hap q5_ ⟨asb hb29 (amv rfl),ag_ (apv Qmk (Qeo N x7.Rank 0 100 _ hf30) (nlcc (nlc nll nl0)) nll),tv⟩) ?_
        refine bfe h (fun hc32 h=>?_) fun hc32 h=>?_
        ·exact wft hc32<|wxz<|Qad<|Qal<|Qae<|Qae<|Qal<|Qae<|frb h
        ·exact wfn hc32<|Qam<|bln<|thn<|wxz1<|thn<|arm (mto (n:=66) [(30,(Qps p0)),(31,(I ((p0.length:Int)))),(32,(I (w64 (y3+1))))] [] [] hq (pc (rnd Qbo) (pw (pw pn))) qn) (ih (w64 (y3+1)) h)
    ·exact wfn hc6<|Qb4<|Qa4<|Qa4<|Qb3 rfl<|thn<|⟨(),h,(mto (n:=66) [] [] [] hq pn qn)⟩
  ·skip
   obtain⟨x34,hf33,h⟩:=bno h
   refine hpre (A:=(Q1x p0 x34)) ⟨alq 4 Qat p0 underlying55,apv Qmk (Qeo N (p0.length:Int) 1 30 _ hf33) (nlcc (nlc nll nl0)) nll,tv⟩ fun q6_=>?_
   refine bfe h (fun hb35 h=>?_) fun hb35 h=>?_
   ·exact wx tbk (hcat (Q1x p0 x34) [(4,rp [(.tmp 8,(B ((!x34))))] (B true))]) (hap q6_ ⟨asb hb35 (amv rfl),tv⟩)<|wtr<|wxz<|Qad<|Qae<|frb h
   ·obtain⟨x36,hg37,h⟩:=bno h
    obtain⟨hi38,hj39⟩:=gsm hg37
    refine hpre (A:=(Q1w p0 x34 x36)) (hap q6_ ⟨asb hb35 (amv rfl),ag_ (aiq underlying55 Qm6 Qat hi38 hj39),tv⟩) fun q7_=>?_
    refine bfe h (fun hb40 h=>?_) fun hb40 h=>?_
    ·exact wx tbk (hcat (Q1w p0 x34 x36) [(11,rp [(.tmp 15,(B ((x36.Parent != (-1)))))] (B true))]) (hap q7_ ⟨asb hb40 (amv rfl),tv⟩)<|wtr<|wxz<|Qad<|Qae<|frb h
    ·refine hpre (A:=(Q1v p0 x34 x36)) (hap q7_ ⟨asb hb40 (amv rfl),ag_ (aiq underlying55 Qm6 Qat hi38 hj39),tv⟩) fun q8_=>?_
     refine bfe h (fun hb41 h=>?_) fun hb41 h=>?_
     ·exact wx tbk (hcat (Q1v p0 x34 x36) [(18,rp [(.tmp 22,(B ((x36.Loss != 0))))] (B true))]) (hap q8_ ⟨asb hb41 (amv rfl),tv⟩)<|wtr<|wxz<|Qad<|Qae<|frb h
     ·refine wx tbk (hcat (Q1v p0 x34 x36) [(18,rp [(.tmp 22,(B ((x36.Loss != 0))))] (B false)),(20,rp [(.tmp 23,B false),(.tmp 24,(Qps p0)),ci 0] (.dptr (Qat x36) 0))]) (hap q8_ ⟨asb hb41 (amv rfl),ag_ (aiq underlying55 Qm6 Qat hi38 hj39),tv⟩) ?_
      refine bfe h (fun hc42 h=>?_) fun hc42 h=>?_
      ·exact wft hc42<|wxz<|Qad<|Qae<|frb h
      ·exact wfn hc42<|Qam<|thn<|⟨(),h,(mto (n:=66) [(0,(Qps p0))] [] [] hq (pc (rnd Qbo) pn) qn)⟩
def Qgh (N:Nat) (p0:Int):Option Bool:=
  (Qg2 N p0).bind fun x3=>
  some (!x3)
abbrev Q6s:Slot:=.own 1 [[(.fn (.func 87) [] [])]]
theorem Qlu (N:Nat) (p0:Int) (r:Bool) (h:Qgh N p0=some r):Spec prog 133 [(I p0),(.ref 0 1 (0) 0)] [Q6s] (B r) [Q6s]:=by
  refine sF func133 1 fun _ _ _ hq hd0=>?_
  unfold Qgh at h
  refine wxz ?_
  obtain⟨x3,hf2,h⟩:=bno h
  refine wx tbk [(2,rp _ _)] ⟨apw Qqz (Qhx N p0 _ hf2),tv⟩ ?_
  refine wmr (mto (n:=8) (l':=[(3,(B ((!x3))))]) (own':=[Q6s]) [(3,(B ((!x3))))] [0] [Q6s] hq (pw pn) (qb (lc (.rn (Qbc rn0 rn0)) ln) qn))<|Qad ?_
  obtain rfl:=osi h
  exact⟨_,Mor.rfl,fio [(B ((!x3)))] ⟨rot,tv⟩⟩
def Qbj (N:Nat) (p0:List Int) (k2:Unit→Option Int):Nat→Int→Option Int
  |0,_=>none
  |n5+1,y3=>
    bif (decide (y3<(p0.length:Int))) then
     (getI p0 y3).bind fun x7=>
     (Qgh N x7).bind fun x12=>
     bif x12 then
      some y3
     else
      Qbj N p0 k2 n5 (w64 (y3+1))
    else
     k2 ()
def Qdo (N:Nat) (p0:List Int):Option Int:=
  Qb7 (fun _=>
    some (-1)) fun k2:Unit→Option Int=>
  Qbj N p0 k2 N 0
abbrev Q1u:AV:=.fn (.func 133) [] [(.ref 0 1 (0) 0)]
abbrev Qmq:Slot:=.own 1 [[(.fn (.func 87) [] [])]]
theorem Qh4 (N:Nat) (p0:List Int) (r:Int) (h:Qdo N p0=some r):Spec prog 151 [(.dat 1 (p0.map Qab)),Q1u] [Qmq] (I r) [Qmq]:=by
  refine sF func151 1 fun _ _ _ hq hd0=>?_
  unfold Qdo at h
  refine wxz ?_
  obtain⟨k2,hk_k2,h⟩:=jko h
  refine wjn (τ:=Unit) (fun t=>k2 t=some r) (fun _=>⟨mk 19 [],[Qmq]⟩) (fun t h=>?_) ?_
  ·subst hk_k2
   refine wxz<|wmr (mto (n:=19) (l':=[(4,(I ((-1))))]) (own':=[Qmq]) [(4,(I ((-1))))] [0] [Qmq] hq (pw pn) (qb (lc (.rn (Qbc rn0 rn0)) ln) qn))<|Qad ?_
   obtain rfl:=osi h
   exact⟨_,Mor.rfl,fio [(I ((-1)))] ⟨rot,tv⟩⟩
  ·skip
   refine wx tbk [(1,rp _ _)] ⟨alq 1 Qab p0 underlying29,tv⟩<|Qaq ?_
   refine wmr (mto (n:=19) (l':=[(0,(.dat 1 (p0.map Qab))),(1,Q1u),(7,(I ((p0.length:Int)))),(8,I 0)]) (own':=[Qmq]) [(0,(.dat 1 (p0.map Qab))),(1,Q1u),(7,(I ((p0.length:Int)))),(8,I 0)] [0] [Qmq] hq (pc (rnd Qaf) (pc (.rn (Qbc rn0 (rnc (rqr rfl) rn0))) (pw (pw pn)))) (qb (lc (.rn (Qbc rn0 rn0)) ln) qn)) ?_
   refine Qcz (τ:=Int) (fun n t=>Qbj N p0 k2 n t=some r) (fun y3=>⟨mk 19 [(0,(.dat 1 (p0.map Qab))),(1,Q1u),(7,(I ((p0.length:Int)))),(8,I y3)],[Qmq]⟩) (fun t h=>by rw[Qbj] at h;cases h) (fun n5 ih y3 h=>?_) N (0) h
   rw[Qbj] at h
   skip
   refine wxz<|wsq ?_
   refine bfe h (fun hc6 h=>?_) fun hc6 h=>?_
   ·refine wft hc6<|Qam<|thn<|wsq<|Qaq<|wxz ?_
    obtain⟨x7,hg8,h⟩:=bno h
    obtain⟨hi9,hj10⟩:=gsm hg8
    obtain⟨x12,hf11,h⟩:=bno h
    refine wx tbk [(3,rp _ _),(5,⟨_,_,_,_,false⟩)] ⟨aiq underlying29 ti3 Qab hi9 hj10,Qda (first:=[]) (cap:=[.ref 0 1 0 0]) (vs:=[I x7]) (σr:=[Qmq]) (σr':=[Qmq]) (res':=(B x12)) [0] rfl Q9a (Qlu N x7 _ hf11) rfl (Qbm (rnc (.plain _ nll) (rnc (Qbh rfl) rn0))) (slc (Qak (rnc (.plain _ (NLt.fn _ _ _ nl0 nl0)) rn0)) Qao) (slc (Qak (rnc (.plain _ (NLt.fn _ _ _ nl0 nl0)) rn0)) Qao) (.plain _ nll) rfl rfl rfl,tv⟩ ?_
    refine bfe h (fun hc13 h=>?_) fun hc13 h=>?_
    ·refine wft hc13<|wxz ?_
     refine wmr (mto (n:=19) (l':=[(4,I y3)]) (own':=[Qmq]) [(4,I y3)] [0] [Qmq] hq (pw pn) (qb (lc (.rn (Qbc rn0 rn0)) ln) qn))<|Qad<|Qal<|Qae<|Qae<|Qal<|Qae ?_
     obtain rfl:=osi h
     exact⟨_,Mor.rfl,fio [I y3] ⟨rot,tv⟩⟩
    ·exact wfn hc13<|Qam<|bln<|thn<|wxz1<|thn<|arm (mto (n:=19) [(0,(.dat 1 (p0.map Qab))),(1,Q1u),(7,(I ((p0.length:Int)))),(8,(I (w64 (y3+1))))] [0] [Qmq] hq (pc (rnd Qaf) (pc (.rn (Qbc rn0 (rnc (rqr rfl) rn0))) (pw (pw pn)))) (qb (lc (.rn (Qbc rn0 rn0)) ln) qn)) (ih (w64 (y3+1)) h)
   ·exact wfn hc6<|Qb4<|Qa4<|Qa4<|Qb3 rfl<|thn<|⟨(),h,(mto (n:=19) [] [0] [Qmq] hq pn (qb (lc (.rn (Qbc rn0 rn0)) ln) qn))⟩
def Qdb (N:Nat) (p0:List Int):Option Bool:=
  (Qdo N p0).bind fun x3=>
  some (decide (x3≥0))
abbrev Zef:AV:=.fn (.func 133) [] [(.ref 0 1 (0) 0)]
abbrev Qz2:Slot:=.own 1 [[(.fn (.func 87) [] [])]]
theorem Qg6 (N:Nat) (p0:List Int) (r:Bool) (h:Qdb N p0=some r):Spec prog 117 [(.dat 1 (p0.map Qab)),Zef] [Qz2] (B r) [Qz2]:=by
  refine sF func117 1 fun _ _ _ hq hd0=>?_
  unfold Qdb at h
  refine wxz ?_
  obtain⟨x3,hf2,h⟩:=bno h
  refine wx tbk [(2,⟨_,_,_,_,false⟩)] ⟨acq [(.dat 1 (p0.map Qab)),Zef] [Qz2] [Qz2] (I x3) [0] Qlq (Qh4 N p0 _ hf2) (Qbm (rnc (pld Qaf) (rnc (Qbc rn0 (rnc (Qbh rfl) rn0)) rn0))) (slc (Qak (rnc (.plain _ (NLt.fn _ _ _ nl0 nl0)) rn0)) Qao) (slc (Qak (rnc (.plain _ (NLt.fn _ _ _ nl0 nl0)) rn0)) Qao) (.plain _ nll),tv⟩ ?_
  refine wmr (mto (n:=9) (l':=[(4,(B ((decide (x3≥0)))))]) (own':=[Qz2]) [(4,(B ((decide (x3≥0)))))] [0] [Qz2] hq (pw pn) (qb (lc (.rn (Qbc rn0 rn0)) ln) qn))<|Qad ?_
  obtain rfl:=osi h
  exact⟨_,Mor.rfl,fio [(B ((decide (x3≥0))))] ⟨rot,tv⟩⟩
def Qf9 (N:Nat) (p0:List Int):Option Bool:=
  (Qdb N p0).bind fun x2=>
  some (!x2)
def Zeg:AV:=.fn (.func 133) [] [(.ref 0 1 (0) 0)]
def Zeh:Slot:=.own 1 [[(.fn (.func 87) [] [])]]
theorem Qm2 (N:Nat) (p0:List Int) (r:Bool) (h:Qf9 N p0=some r):Spec prog 86 [(.dat 1 (p0.map Qab)),(.fn (.func 87) [] [])] [] (B r) []:=by
  refine sA func86 0 fun _ _ _ hq hd0=>?_
  unfold Qf9 at h
  refine wxz ?_
  obtain⟨x2,hf1,h⟩:=bno h
  refine wx tbk [(1,rp [(.tmp 3,.ref 0 1 0 0)] Zeg),(2,⟨_,_,_,_,false⟩)] ⟨Qef (fs:=[]) (cs:=[.ref 0 1 0 0]) rfl rfl rfl rfl,acq [(.dat 1 (p0.map Qab)),Zeg] [Zeh] [Zeh] (B x2) [0] Qlr (Qg6 N p0 _ hf1) (Qbm (rnc (pld Qaf) (rnc (Qbc rn0 (rnc (Qbh rfl) rn0)) rn0))) (slc (Qak (rnc (.plain _ (NLt.fn _ _ _ nl0 nl0)) rn0)) Qao) (slc (Qak (rnc (.plain _ (NLt.fn _ _ _ nl0 nl0)) rn0)) Qao) (.plain _ nll),tv⟩<|Qad ?_
  obtain rfl:=osi h
  exact fend ⟨[(B ((!x2)))],⟨rot,tv⟩,rfl⟩ nll
def Qj0 (N:Nat) (p0:List Qbg) (p1:List Int):Option Int:=
  (Qft N p0).bind fun x2=>
  bif (!x2) then
   some 1
  else
   bif ((p1.length:Int) != (p0.length:Int)) then
    some 2
   else
    (Qf9 N p1).bind fun x6=>
    bif (!x6) then
     some 2
    else
     some 0
def Zbc (p1:List Int) (p0:List Qbg):List (Nat×Rec):=[(1,rp [((.tmp 10),(.dat 1 (p1.map Qab)))] (I ((p1.length:Int)))),(3,rp [((.tmp 12),(.dat 4 (p0.map Qat)))] (I ((p0.length:Int))))]
theorem Qsr (N:Nat) (p0:List Qbg) (p1:List Int) (r:Int) (h:Qj0 N p0 p1=some r):Spec prog 41 [(.dat 4 (p0.map Qat)),(.dat 1 (p1.map Qab))] [] (I r) []:=by
  refine sA func41 0 fun _ _ _ hq hd0=>?_
  unfold Qj0 at h
  refine wxz<|wsq<|Qaq ?_
  obtain⟨x2,hf1,h⟩:=bno h
  refine wx tbk [(1,rp _ _)] ⟨apw Zde (Ql9 N p0 _ hf1),tv⟩ ?_
  refine bfe h (fun hc3 h=>?_) fun hc3 h=>?_
  ·refine wft hc3<|wxz<|Qad<|Qal<|Qae ?_
   obtain rfl:=osi h
   exact fend ⟨[I 1],⟨rot,tv⟩,rfl⟩ nll
  ·refine wfn hc3<|hpre (A:=(Zbc p1 p0)) ⟨alq 1 Qab p1 underlying29,alq 4 Qat p0 underlying55,tv⟩ fun q1_=>?_
   refine bfe h (fun hb4 h=>?_) fun hb4 h=>?_
   ·refine wx tbk (hcat (Zbc p1 p0) [(5,rp [(.tmp 14,(B (((p1.length:Int) != (p0.length:Int)))))] (B true))]) (hap q1_ ⟨asb hb4 (amv rfl),tv⟩)<|wtr<|wxz<|Qad<|Qal<|Qae ?_
    obtain rfl:=osi h
    exact fend ⟨[I 2],⟨rot,tv⟩,rfl⟩ nll
   ·obtain⟨x6,hf5,h⟩:=bno h
    refine wx tbk (hcat (Zbc p1 p0) [(5,rp [(.tmp 14,(B (((p1.length:Int) != (p0.length:Int)))))] (B false)),(7,rp [(.tmp 15,B false),fu 86,(.tmp 16,(.dat 1 (p1.map Qab))),fu 87] (B x6))]) (hap q1_ ⟨asb hb4 (amv rfl),ag_ (acq [(.dat 1 (p1.map Qab)),(.fn (.func 87) [] [])] [] [] (B x6) [] Zdd (Qm2 N p1 _ hf5) (Qbm (rnc (pld Qaf) (rnc (.plain _ (NLt.fn _ _ _ nl0 nl0)) rn0))) Qao Qao (.plain _ nll)),tv⟩) ?_
    refine bfe h (fun hc7 h=>?_) fun hc7 h=>?_
    ·refine wft hc7<|wxz<|Qad<|Qal<|Qae ?_
     obtain rfl:=osi h
     exact fend ⟨[I 2],⟨rot,tv⟩,rfl⟩ nll
    ·refine wfn hc7<|Qam<|bln<|thn<|wxz<|Qad ?_
     obtain rfl:=osi h
     exact fend ⟨[I 0],⟨rot,tv⟩,rfl⟩ nll
def Qci (_N:Nat) (_p0:List Qbg):Option Unit:=
  some ()
abbrev Qt9:AV:=.fn (.func 134) [] [(.ref 0 1 (0) 0)]
theorem Qf5 (N:Nat) (p0:List Qbg) (r:Unit) (h:Qci N p0=some r):Spec prog 89 [(.dat 4 (p0.map Qat))] [] Qt9 [(.own 1 [[(.dat 4 (p0.map Qat))]])]:=by
  refine sF func89 1 fun _ _ _ hq hd0=>?_
  unfold Qci at h
  refine wxz<|wx tbk [(0,rp [(.tmp 1,.ref 0 1 0 0)] Qt9)] ⟨Qef (fs:=[]) (cs:=[.ref 0 1 0 0]) rfl rfl rfl rfl,tv⟩ ?_
  refine wmr (mto (n:=4) (l':=[(2,Qt9)]) (own':=[(.own 1 [[(.dat 4 (p0.map Qat))]])]) [(2,Qt9)] [0] [(.own 1 [[(.dat 4 (p0.map Qat))]])] hq (pc (.rn (Qbc rn0 (rnc (rqr rfl) rn0))) pn) (qb (lc (rnd Qbo) ln) qn))<|Qad ?_
  obtain rfl:=osi h
  exact⟨_,Mor.rfl,fio [Qt9] ⟨rot,tv⟩⟩
def Qa1 (N:Nat) (p0:List Qbg):Nat→Int→Option (List (Int×Qbg))
  |0,_=>none
  |n7+1,y3=>
    bif (decide (y3≥0)) then
     (getI p0 y3).bind fun x9=>
     yld (y3,x9)<|
     Qa1 N p0 n7 (w64 (y3-1))
    else
     some ([])
def Qby (N:Nat) (p0:List Qbg):Option (List (Int×Qbg)):=
  (some (w64 ((p0.length:Int)-1))).bind fun x1=>
  Qa1 N p0 N x1
abbrev Qk5 (p0:List Qbg):AV:=.dat 4 (p0.map Qat)
def Qyn (x9:Qbg):AV:=.agg [(I x9.Parent),(I x9.Loss),(I x9.Limit),(I x9.Rank)]
theorem Qf4 (N:Nat) (p0:List Qbg) (r:(List (Int×Qbg))) (h:Qby N p0=some r):Qrg prog 134 [(.ref 0 1 (0) 0)] [(.own 1 [[(Qk5 p0)]])] (fun x=>[(.int .i64 x.1),(.agg #[(.int .i64 x.2.Parent),(.int .i64 x.2.Loss),(.int .i64 x.2.Limit),(.int .i64 x.2.Rank)])]) r:=by
  refine Qrx func134 rfl rfl (fun X φ0 w0 l J hq hy=>?_)
  unfold Qby at h
  obtain⟨x1,hl2,h⟩:=bno h
  refine wx tbk [(1,rp _ _),(3,rp [(.tmp 6,(I (w64 ((p0.length:Int)-1))))] (I x1))] ⟨alq 4 Qat p0 underlying55,Qgu hl2 (aas rfl),tv⟩<|Qaq ?_
  refine wmr (mto (n:=19) (l':=[(0,(.lit (.func (.yield l) #[] #[]))),(1,.ref 0 1 0 0),(3,I x1)]) (own':=[(.own 1 [[(Qk5 p0)]]),(.far (J (some r)))]) [(0,(.lit (.func (.yield l) #[] #[]))),(1,.ref 0 1 0 0),(3,I x1)] [0,1] [(.own 1 [[(Qk5 p0)]]),(.far (J (some r)))] hq (pw (prr (pw pn))) (qb (lc (rnd Qbo) ln) (qc (.far _) qn))) ?_
  refine Qcz (τ:=(Int)×List (Int×Qbg)) (fun n t=>Qa1 N p0 n t.1=some t.2) (fun ⟨y3,q4⟩=>⟨mk 19 [(0,(.lit (.func (.yield l) #[] #[]))),(1,.ref 0 1 0 0),(3,I y3)],[(.own 1 [[(Qk5 p0)]]),(.far (J (some q4)))]⟩) (fun t h=>by rw[Qa1] at h;cases h) (fun n7 ih t h=>?_) N ((x1),r) h
  obtain⟨y3,q4⟩:=t
  rw[Qa1] at h
  try dsimp only at h
  refine wsq<|wxz ?_
  refine bfe h (fun hc8 h=>?_) fun hc8 h=>?_
  ·refine wft hc8<|Qam<|thn<|wsq<|Qaq ?_
   obtain⟨x9,hg10,h⟩:=bno h
   obtain⟨hi11,hj12⟩:=gsm hg10
   obtain⟨q13,hy_,hq_⟩:=Qwd h
   clear h
   subst hq_
   have h:=hy_
   clear hy_
   refine Q9r 6 [mv 0 (.lit (.func (.yield l) #[] #[])),mv 3 (I y3),rb [(.tmp 1,.ref 0 1 0 0)] [(0,(.own 1 [[(Qk5 p0)]]))] (Qk5 p0),mv 3 (I y3),rp [(.tmp 13,(Qk5 p0)),(.tmp 14,I y3)] (.dptr (Qat x9) 0),rp [(.tmp 15,(.dptr (Qat x9) 0))] (Qyn x9),⟨[(.tmp 11,(.lit (.func (.yield l) #[] #[]))),(.tmp 12,I y3),(.tmp 16,(Qyn x9))],[(1,(.far (J (some ((y3,x9)::q13)))))],B true,[(1,(.far (J (some q13))))],false⟩,rp [(.tmp 17,B true)] (B false)] [mv 0 (.lit (.func (.yield l) #[] #[])),mv 3 (I y3),rb [(.tmp 1,.ref 0 1 0 0)] [(0,(.own 1 [[(Qk5 p0)]]))] (Qk5 p0),mv 3 (I y3),rp [(.tmp 13,(Qk5 p0)),(.tmp 14,I y3)] (.dptr (Qat x9) 0),rp [(.tmp 15,(.dptr (Qat x9) 0))] (Qyn x9),⟨[(.tmp 11,(.lit (.func (.yield l) #[] #[]))),(.tmp 12,I y3),(.tmp 16,(Qyn x9))],[(1,(.far (J (some ((y3,x9)::q13)))))],B false,[(1,(.far (J none)))],false⟩,rp [(.tmp 17,B false)] (B true)] (by exact⟨by kernel_rfl,by kernel_rfl⟩) (by exact⟨by kernel_rfl,by kernel_rfl⟩) rfl rfl rfl rfl (Qmn (rd':=(.tmp 11,.lit (.func (.yield l) #[] #[]))::[(.tmp 12,.lit (.int .i64 y3)),(.tmp 16,.lit (.agg #[(.int .i64 x9.Parent),(.int .i64 x9.Loss),(.int .i64 x9.Limit),(.int .i64 x9.Rank)]))]) ⟨rfl,lrf,rfl,lrf,rfl,(Less.lits [(.int .i64 x9.Parent),(.int .i64 x9.Loss),(.int .i64 x9.Limit),(.int .i64 x9.Rank)]),tv⟩ (Qlj (x:=(y3,x9)) (rest:=q13) rfl rfl hy rfl)) (⟨fun _ _=>amv rfl,fun _ _=>amv rfl,fun _ _=>ald rfl ti55 (by decide) rfl (nle rfl) rfl,fun _ _=>amv rfl,fun _ _=>aiq underlying55 Qm6 Qat hi11 hj12,fun _ _=>ald_ rfl Qm6 (by decide) (nle rfl) rfl,fun _ h=>absurd rfl h,fun _ _=>Qlk rfl,tv⟩) (⟨fun _ _=>amv rfl,fun _ _=>amv rfl,fun _ _=>ald rfl ti55 (by decide) rfl (nle rfl) rfl,fun _ _=>amv rfl,fun _ _=>aiq underlying55 Qm6 Qat hi11 hj12,fun _ _=>ald_ rfl Qm6 (by decide) (nle rfl) rfl,fun _ h=>absurd rfl h,fun _ _=>Qlk rfl,tv⟩) ?_ ?_
   ·skip
    exact wfa<|Qam<|bln<|thn<|wxz1<|thn<|arm (mto (n:=19) [(0,(.lit (.func (.yield l) #[] #[]))),(1,.ref 0 1 0 0),(3,(I (w64 (y3-1))))] [0,1] [(.own 1 [[(Qk5 p0)]]),(.far (J (some q13)))] hq (pw (prr (pw pn))) (qb (lc (rnd Qbo) ln) (qc (.far _) qn))) (ih ((w64 (y3-1)),q13) h)
   ·clear h
    exact wtr<|Qad<|Qal<|Qae<|Qae<|Qal<|Or.inr (by kernel_rfl)
  ·refine wfn hc8<|Qb4<|Qa4<|Qa4<|Qb3 rfl ?_
   obtain rfl:=osi h
   exact Or.inl rfl
def Qei (_N:Nat) (p0:Int) (p1:Nat) (p2:List Qbg) (p3:List Int):Option (List Int):=
  Qb7 (fun y2=>
    (getI p2 p0).bind fun x4=>
    bif (decide (x4.Parent≥0)) then
     chk (decide (0≤x4.Parent)&&decide (x4.Parent.toNat<p1))<|
     (y2[x4.Parent.toNat]?).bind fun x10=>
     chk (decide (0≤p0)&&decide (p0.toNat<p1))<|
     (y2[p0.toNat]?).bind fun x13=>
     chk (decide (0≤x4.Parent)&&decide (x4.Parent.toNat<p1))<|
     (y2[x4.Parent.toNat]?).bind fun _=>
     some (y2.set x4.Parent.toNat (w64 (x10+x13)))
    else
     some y2) fun k3:(List Int)→Option (List Int)=>
  chk (decide (0≤p0)&&decide (p0.toNat<p1))<|
  (p3[p0.toNat]?).bind fun x19=>
  bif (decide (x19>0)) then
   chk (decide (0≤p0)&&decide (p0.toNat<p1))<|
   (p3[p0.toNat]?).bind fun x23=>
   (getI p2 p0).bind fun x25=>
   chk (decide (0≤p0)&&decide (p0.toNat<p1))<|
   (p3[p0.toNat]?).bind fun _=>
   k3 (p3.set p0.toNat (w64 (x23+x25.Loss)))
  else
   k3 (p3)
abbrev Qmy (p1:Nat):Slot:=.own 1 [[(.own 2 1 (0) p1)]]
abbrev Qmx (p2:List Qbg):AV:=.dat 4 (p2.map Qat)
theorem Qkl (N:Nat) (p0:Int) (p1:Nat) (p2:List Qbg) (p3 r:List Int) (h:Qei N p0 p1 p2 p3=some r):Spec prog 88 [(I p0),(.ref 0 1 (0) 0),(.ref 1 1 (0) 0)] [(Qmy p1),(.own 1 [[(Qmx p2)]]),(.own 1 (p3.map Qab))] (.tup []) [(Qmy p1),(.own 1 [[(Qmx p2)]]),(.own 1 (r.map Qab))]:=by
  refine sF func88 3 fun _ _ _ hq hd0=>?_
  unfold Qei at h
  obtain⟨k3,hk_k3,h⟩:=jko h
  refine wjn (τ:=(List Int)) (fun t=>k3 t=some r) (fun y2=>⟨mk 38 [(0,I p0),(1,.ref 0 1 0 0),(2,.ref 1 1 0 0)],[(Qmy p1),(.own 1 [[(Qmx p2)]]),(.own 1 (y2.map Qab))]⟩) (fun y2 h=>?_) ?_
  ·subst hk_k3
   obtain⟨x4,hg5,h⟩:=bno h
   obtain⟨hi6,hj7⟩:=gsm hg5
   refine wx tbk [(2,rp _ _)] ⟨aiq underlying55 Qm6 Qat hi6 hj7,tv⟩<|wxz ?_
   refine bfe h (fun hc8 h=>?_) fun hc8 h=>?_
   ·refine wft hc8 ?_
    obtain⟨hi9,h⟩:=cko h
    obtain⟨hi9a,hi9b⟩:=Qdw hi9
    obtain⟨x10,hg11,h⟩:=bno h
    obtain⟨hi12,h⟩:=cko h
    obtain⟨hi12a,hi12b⟩:=Qdw hi12
    obtain⟨x13,hg14,h⟩:=bno h
    obtain⟨hi15,h⟩:=cko h
    obtain⟨hi15a,hi15b⟩:=Qdw hi15
    obtain⟨x16,hg17,h⟩:=bno h
    refine wy1 tbk [(2,rb [(.tmp 28,(.own 2 1 (0) p1)),(.tmp 29,I x4.Parent)] [(2,(.own 1 (y2.map Qab)))] (.ref 2 1 x4.Parent.toNat 0)),(3,rb [(.tmp 30,(.ref 2 1 x4.Parent.toNat 0))] [(2,(.own 1 (y2.map Qab)))] (I x10)),(6,rb [(.tmp 32,(.own 2 1 (0) p1)),(.tmp 33,I p0)] [(2,(.own 1 (y2.map Qab)))] (.ref 2 1 p0.toNat 0)),(7,rb [(.tmp 34,(.ref 2 1 p0.toNat 0))] [(2,(.own 1 (y2.map Qab)))] (I x13)),(9,rb [(.tmp 28,(.own 2 1 (0) p1)),(.tmp 29,I x4.Parent)] [(2,(.own 1 (y2.map Qab)))] (.ref 2 1 x4.Parent.toNat 0)),(10,⟨[(.tmp 37,(.ref 2 1 x4.Parent.toNat 0)),(.tmp 36,(I (w64 (x10+x13))))],[(2,(.own 1 (y2.map Qab)))],.any,[(2,(.own 1 ((y2.set x4.Parent.toNat (w64 (x10+x13)):List Int).map Qab)))],false⟩)] ⟨aio rfl underlying29 ti3 (odt hi9a) (odt hi9b) (Nat.zero_add _),ald rfl ti3 (by decide) (mgt Qab hg11) (nle rfl) rfl,aio rfl underlying29 ti3 (odt hi12a) (odt hi12b) (Nat.zero_add _),ald rfl ti3 (by decide) (mgt Qab hg14) (nle rfl) rfl,aio rfl underlying29 ti3 (odt hi15a) (odt hi15b) (Nat.zero_add _),ast rfl ti3 (by rfl) (mgt Qab hg17) (nle rfl) (Qf6 Qab rfl),tv⟩ ?_
    obtain rfl:=osi h
    exact⟨_,(mto (n:=38) (l':=[]) (own':=[(Qmy p1),(.own 1 [[(Qmx p2)]]),(.own 1 (((y2.set x4.Parent.toNat (w64 (x10+x13))):List Int).map Qab))]) [] [0,1,2] [(Qmy p1),(.own 1 [[(Qmx p2)]]),(.own 1 ((y2.set x4.Parent.toNat (w64 (x10+x13)):List Int).map Qab))] hq pn (qb (lc (.rn (Qa2 rfl)) ln) (qb (lc (rnd Qbo) ln) (qc (spr Qaf) qn)))),fio [] tv⟩
   ·refine wfn hc8<|Qam ?_
    obtain rfl:=osi h
    exact⟨_,(mto (n:=38) (l':=[]) (own':=[(Qmy p1),(.own 1 [[(Qmx p2)]]),(.own 1 (y2.map Qab))]) [] [0,1,2] [(Qmy p1),(.own 1 [[(Qmx p2)]]),(.own 1 (y2.map Qab))] hq pn (qb (lc (.rn (Qa2 rfl)) ln) (qb (lc (rnd Qbo) ln) (qc (spr Qaf) qn)))),fio [] tv⟩
  ·skip
   obtain⟨hi18,h⟩:=cko h
   obtain⟨hi18a,hi18b⟩:=Qdw hi18
   obtain⟨x19,hg20,h⟩:=bno h
   refine wx tbk [(2,rb [(.tmp 5,(.own 2 1 (0) p1)),(.tmp 6,I p0)] [(2,(.own 1 (p3.map Qab)))] (.ref 2 1 p0.toNat 0)),(3,rb [(.tmp 7,(.ref 2 1 p0.toNat 0))] [(2,(.own 1 (p3.map Qab)))] (I x19))] ⟨aio rfl underlying29 ti3 (odt hi18a) (odt hi18b) (Nat.zero_add _),ald rfl ti3 (by decide) (mgt Qab hg20) (nle rfl) rfl,tv⟩ ?_
   refine bfe h (fun hc21 h=>?_) fun hc21 h=>?_
   ·refine wft hc21 ?_
    obtain⟨hi22,h⟩:=cko h
    obtain⟨hi22a,hi22b⟩:=Qdw hi22
    obtain⟨x23,hg24,h⟩:=bno h
    obtain⟨x25,hg26,h⟩:=bno h
    obtain⟨hi27,hj28⟩:=gsm hg26
    obtain⟨hi29,h⟩:=cko h
    obtain⟨hi29a,hi29b⟩:=Qdw hi29
    obtain⟨x30,hg31,h⟩:=bno h
    refine wy1 tbk [(2,rb [(.tmp 10,(.own 2 1 (0) p1)),(.tmp 11,I p0)] [(2,(.own 1 (p3.map Qab)))] (.ref 2 1 p0.toNat 0)),(3,rb [(.tmp 12,(.ref 2 1 p0.toNat 0))] [(2,(.own 1 (p3.map Qab)))] (I x23)),(6,rp _ _),(10,rb [(.tmp 10,(.own 2 1 (0) p1)),(.tmp 11,I p0)] [(2,(.own 1 (p3.map Qab)))] (.ref 2 1 p0.toNat 0)),(11,⟨[(.tmp 20,(.ref 2 1 p0.toNat 0)),(.tmp 19,(I (w64 (x23+x25.Loss))))],[(2,(.own 1 (p3.map Qab)))],.any,[(2,(.own 1 ((p3.set p0.toNat (w64 (x23+x25.Loss)):List Int).map Qab)))],false⟩)] ⟨aio rfl underlying29 ti3 (odt hi22a) (odt hi22b) (Nat.zero_add _),ald rfl ti3 (by decide) (mgt Qab hg24) (nle rfl) rfl,aiq underlying55 Qm6 Qat hi27 hj28,aio rfl underlying29 ti3 (odt hi29a) (odt hi29b) (Nat.zero_add _),ast rfl ti3 (by rfl) (mgt Qab hg31) (nle rfl) (Qf6 Qab rfl),tv⟩<|thn ?_
    exact⟨(p3.set p0.toNat (w64 (x23+x25.Loss))),h,(mto (n:=38) [(0,I p0),(1,.ref 0 1 0 0),(2,.ref 1 1 0 0)] [0,1,2] [(Qmy p1),(.own 1 [[(Qmx p2)]]),(.own 1 ((p3.set p0.toNat (w64 (x23+x25.Loss)):List Int).map Qab))] hq (pw (prr (prr pn))) (qb (lc (.rn (Qa2 rfl)) ln) (qb (lc (rnd Qbo) ln) (qc (spr Qaf) qn))))⟩
   ·exact wfn hc21<|Qam<|thn<|⟨(p3),h,(mto (n:=38) [(0,I p0),(1,.ref 0 1 0 0),(2,.ref 1 1 0 0)] [0,1,2] [(Qmy p1),(.own 1 [[(Qmx p2)]]),(.own 1 (p3.map Qab))] hq (pw (prr (prr pn))) (qb (lc (.rn (Qa2 rfl)) ln) (qb (lc (rnd Qbo) ln) (qc (spr Qaf) qn))))⟩
def Qcc (N:Nat) (p0:List Qbg) (p1:List Int) (k6:(List Int)→Option (List Int)):(List (Int×Qbg))→(List Int)→Option (List Int)
  |[],y12=>
    k6 (y12)
  |x15::q16,y12=>
    (Qei N x15.1 p1.length p0 y12).bind fun x25=>
    Qcc N p0 p1 k6 q16 x25
def Qfu (N:Nat) (p0:List Qbg) (p1:List Int):Option (List Int):=
  (Qc5 N p1).bind fun _=>
  Qb7 (fun y5=>
    chk (decide (p1.length≤y5.length))<|
    some (y5.take p1.length)) fun k6:(List Int)→Option (List Int)=>
  (Qci N p0).bind fun _=>
  (Qby N p0).bind fun q10=>
  Qcc N p0 p1 k6 q10 p1
def Zee:AV:=.fn (.func 88) [] [(.ref 2 1 (0) 0),(.ref 0 1 (0) 0)]
def Qx2 (y5 p1:List Int):AV:=.dat 1 ((y5.take p1.length:List Int).map Qab)
def Qpb (p0:List Qbg):AV:=.dat 4 (p0.map Qat)
def Zed:AV:=.fn (.func 134) [] [(.ref 4 1 (0) 0)]
def Qv0 (p1:List Int):Slot:=.own 1 [[(.own 3 1 (0) p1.length)]]
def Q6r:AV:=.fn (.func 88) [] [(.ref 0 1 (0) 0),(.ref 4 1 (0) 0)]
theorem Qma (N:Nat) (p0:List Qbg) (p1 r:List Int) (h:Qfu N p0 p1=some r):Spec prog 42 [(.dat 4 (p0.map Qat)),(.dat 1 (p1.map Qab))] [] (.dat 1 (r.map Qab)) []:=by
  refine sF func42 0 fun _ _ _ hq hd0=>?_
  unfold Qfu at h
  refine wxz ?_
  obtain⟨x4,hf3,h⟩:=bno h
  refine wx tbk [(1,⟨_,_,_,_,false⟩)] ⟨acq [(.dat 1 (p1.map Qab))] [] [(.own 1 (p1.map Qab))] (.own 1 1 (0) p1.length) [1] Q5q (Qgl N p1 _ hf3) (Qbm (rnc (pld Qaf) rn0)) Qao (slc (Qa5 Qaf) Qao) (Qc1 rfl),tv⟩ ?_
  refine wx tbk [(0,rp [(.tmp 5,.ref 2 1 0 0),(.tmp 2,.ref 0 1 0 0)] Zee)] ⟨Qef (fs:=[]) (cs:=[.ref 2 1 0 0,.ref 0 1 0 0]) rfl rfl rfl rfl,tv⟩ ?_
  obtain⟨k6,hk_k6,h⟩:=jko h
  refine wjn (τ:=(List Int)) (fun t=>k6 t=some r) (fun y5=>⟨mk 19 [(5,.ref 0 1 0 0)],[(.own 1 [[(.own 1 1 (0) p1.length)]]),(.own 1 (y5.map Qab))]⟩) (fun y5 h=>?_) ?_
  ·subst hk_k6
   refine wxz ?_
   obtain⟨hz7,h⟩:=cko h
   refine wmr (Q40 (n:=19) (l':=[(4,(Qx2 y5 p1))]) 1 [(4,(.own 1 1 (0) p1.length))] (by kernel_rfl) (by kernel_rfl) (by kernel_rfl) ⟨rfl,(Qok hz7),tv⟩ rfl) ?_
   refine wmr (mto (n:=19) (l':=[(4,(Qx2 y5 p1))]) (own':=[]) [(4,(Qx2 y5 p1))] [] [] hq (pc (rnd Qaf) pn) qn)<|Qad ?_
   obtain rfl:=osi h
   exact⟨_,Mor.rfl,fio [(Qx2 y5 p1)] ⟨rot,tv⟩⟩
  ·skip
   obtain⟨x9,hf8,h⟩:=bno h
   refine wx tbk [(1,⟨_,_,_,_,false⟩)] ⟨acq [(Qpb p0)] [] [(.own 1 [[(Qpb p0)]])] Zed [4] Zdb (Qf5 N p0 _ hf8) (Qbm (rnc (pld Qbo) rn0)) Qao (slc (Qak (rnc (pld Qbo) rn0)) Qao) (Qbc rn0 (rnc (Qbl rfl) rn0)),tv⟩<|Qaq ?_
   obtain⟨q10,hL11,h⟩:=bno h
   refine wmr (mto (n:=19) (l':=[(5,.ref 0 1 0 0),(6,.ref 1 1 0 0),(12,(.fn (.func 134) [] [.ref 2 1 0 0]))]) (own':=[(Qv0 p1),(.own 1 [[Q6r]]),(.own 1 [[(Qpb p0)]]),(.own 1 (p1.map Qab)),(.own 1 [[(Qpb p0)]])]) [(5,.ref 2 1 0 0),(6,.ref 3 1 0 0),(12,Zed)] [2,3,4,1,0] [(.own 1 [[(.own 1 1 (0) p1.length)]]),(.own 1 [[Zee]]),(.own 1 [[(Qpb p0)]]),(.own 1 (p1.map Qab)),(.own 1 [[(Qpb p0)]])] hq (prr (prr (pc (.rn (Qbc rn0 (rnc (rqr rfl) rn0))) pn))) (qb (lc (.rn (Qa2 rfl)) ln) (qb (lc (.rn (Qbc rn0 (rnc (rqr rfl) (rnc (rqr rfl) rn0)))) ln) (qb (lc (rnd Qbo) ln) (qc (spr Qaf) (qb (lc (rnd Qbo) ln) qn)))))) ?_
   refine Qsd (τ:=((List Int))) (kb:=5) (caps:=[.ref 2 1 0 0]) (σr:=[(.own 1 [[(Qpb p0)]])]) (encs:=fun x=>[(.int .i64 x.1),(.agg #[(.int .i64 x.2.Parent),(.int .i64 x.2.Loss),(.int .i64 x.2.Limit),(.int .i64 x.2.Rank)])]) (fun x=>[I x.1,(.agg [I x.2.Parent,I x.2.Loss,I x.2.Limit,I x.2.Rank])]) [2] (fun n hn=>hq n (Nat.le_trans (nle rfl) hn)) hd0 (Qf4 N p0 _ hL11) Q89 (by kernel_rfl) (by kernel_rfl) (Qbm (rnc (Qbl rfl) rn0)) (slc (Qak (rnc (pld Qbo) rn0)) Qao) (by kernel_rfl) (fun _=>rfl) (fun x=>⟨lrf,(Less.unlits [(.int .i64 x.2.Parent),(.int .i64 x.2.Loss),(.int .i64 x.2.Limit),(.int .i64 x.2.Rank)]),tv⟩) (Za1 (Qnl (NLt.ref _ _ _ _ (by decide)) (Qnl (NLt.ref _ _ _ _ (by decide)) (Qnl (NLt.fn _ _ _ nl0 (nlc (NLt.ref _ _ _ _ (by decide)) nl0)) Q4u)))) (fun y12=>[(Qv0 p1),(.own 1 [[Q6r]]),.dead,(.own 1 (y12.map Qab)),(.own 1 [[(Qpb p0)]])]) (fun _=>rfl) (fun _=>rfl) (fun l t=>Qcc N p0 p1 k6 l t=some r) p1 h (by kernel_rfl) ?_ ?_
   ·intro l17 o18 X21 φ22 w23 hφ20 x15 q16 y12 h
    rw[Qcc] at h
    refine wxz1 ?_
    refine⟨by kernel_rfl,fun o19=>?_⟩
    refine Qaq ?_
    obtain⟨x25,hf24,h⟩:=bno h
    refine wx1 tbk [(2,⟨_,_,_,_,false⟩)] ⟨Qda (first:=[]) (cap:=[.ref 0 1 0 0,.ref 4 1 0 0]) (vs:=[I x15.1]) (σr:=[(Qv0 p1),(.own 1 [[(Qpb p0)]]),(.own 1 (y12.map Qab))]) (σr':=[(Qv0 p1),(.own 1 [[(Qpb p0)]]),(.own 1 (x25.map Qab))]) (res':=(.tup [])) [0,4,3] rfl Zdc (Qkl N x15.1 p1.length p0 y12 _ hf24) rfl (Qbm (rnc (.plain _ nll) (rnc (Qbh rfl) (rnc (Qbh rfl) rn0)))) (slc (Qak (rnc (Qcx rfl) rn0)) (slc (Qak (rnc (pld Qbo) rn0)) (slc (Qa5 Qaf) Qao))) (slc (Qak (rnc (Qc1 rfl) rn0)) (slc (Qak (rnc (pld Qbo) rn0)) (slc (Qa5 Qaf) Qao))) (.plain _ (NLt.tup _ nl0)) rfl rfl rfl,tv⟩<|bln ?_
    exact⟨(x25),h,Zaw (own':=[(Qv0 p1),(.own 1 [[Q6r]]),.dead,(.own 1 (x25.map Qab)),(.own 1 [[(Qpb p0)]]),(.far (farL l17 o19))]) [0,1,2,3,4,5] [(Qv0 p1),(.own 1 [[Q6r]]),.dead,(.own 1 (x25.map Qab)),(.own 1 [[(Qpb p0)]]),(.far (farL l17 o19))] (by kernel_rfl) (by kernel_rfl) ⟨(spb (lc (.rn (Qa2 rfl)) ln)),(spb (lc (.rn (Qbc rn0 (rnc (rqr rfl) (rnc (rqr rfl) rn0)))) ln)),.dead,(spr Qaf),(spb (lc (rnd Qbo) ln)),.far _,tv⟩⟩
   ·intro y12 h
    rw[Qcc] at h
    exact bln<|thn<|⟨(y12),h,(mto (n:=19) [(5,.ref 0 1 0 0)] [0,3] [(Qv0 p1),(.own 1 (y12.map Qab))] hq (prr pn) (qb (lc (.rn (Qa2 rfl)) ln) (qc (spr Qaf) qn)))⟩
def Qco (N:Nat) (p0:List Qbg) (k1:Unit→Option Int) (p1:List Int):Nat→Int→Option Int
  |0,_=>none
  |n4+1,y2=>
    bif (decide (y2<(p1.length:Int))) then
     (getI p1 y2).bind fun x6=>
     bif (decide (y2>0)) then
      (getI p0 y2).bind fun x11=>
      bif (decide (x6>x11.Limit)) then
       some y2
      else
       Qco N p0 k1 p1 n4 (w64 (y2+1))
     else
      Qco N p0 k1 p1 n4 (w64 (y2+1))
    else
     k1 ()
def Qga (N:Nat) (p0:List Qbg) (p1:List Int):Option Int:=
  Qb7 (fun _=>
    some (-1)) fun k1:Unit→Option Int=>
  Qco N p0 k1 p1 N 0
def Qru (p0:List Qbg):AV:=.dat 4 (p0.map Qat)
theorem Qm3 (N:Nat) (p0:List Qbg) (p1:List Int) (r:Int) (h:Qga N p0 p1=some r):Spec prog 43 [(.dat 4 (p0.map Qat)),(.dat 1 (p1.map Qab))] [] (I r) []:=by
  refine sA func43 0 fun _ _ _ hq hd0=>?_
  unfold Qga at h
  refine wxz ?_
  obtain⟨k1,hk_k1,h⟩:=jko h
  refine wjn (τ:=Unit) (fun t=>k1 t=some r) (fun _=>⟨mk 27 [],[]⟩) (fun t h=>?_) ?_
  ·subst hk_k1
   refine wxz<|Qad ?_
   obtain rfl:=osi h
   exact fend ⟨[(I ((-1)))],⟨rot,tv⟩,rfl⟩ nll
  ·skip
   refine wx tbk [(1,rp _ _)] ⟨alq 1 Qab p1 underlying29,tv⟩<|Qaq ?_
   refine wmr (mto (n:=27) (l':=[(0,(Qru p0)),(7,(.dat 1 (p1.map Qab))),(8,(I ((p1.length:Int)))),(9,I 0)]) (own':=[]) [(0,(Qru p0)),(7,(.dat 1 (p1.map Qab))),(8,(I ((p1.length:Int)))),(9,I 0)] [] [] hq (pc (rnd Qbo) (pc (rnd Qaf) (pw (pw pn)))) qn) ?_
   refine Qcz (τ:=Int) (fun n t=>Qco N p0 k1 p1 n t=some r) (fun y2=>⟨mk 27 [(0,(Qru p0)),(7,(.dat 1 (p1.map Qab))),(8,(I ((p1.length:Int)))),(9,I y2)],[]⟩) (fun t h=>by rw[Qco] at h;cases h) (fun n4 ih y2 h=>?_) N (0) h
   rw[Qco] at h
   skip
   refine wxz<|wsq ?_
   refine bfe h (fun hc5 h=>?_) fun hc5 h=>?_
   ·refine wft hc5<|Qam<|thn<|wsq<|Qaq ?_
    obtain⟨x6,hg7,h⟩:=bno h
    obtain⟨hi8,hj9⟩:=gsm hg7
    refine wx tbk [(1,rp _ _)] ⟨aiq underlying29 ti3 Qab hi8 hj9,tv⟩ ?_
    refine bfe h (fun hb10 h=>?_) fun hb10 h=>?_
    ·obtain⟨x11,hg12,h⟩:=bno h
     obtain⟨hi13,hj14⟩:=gsm hg12
     refine wx tbk [(2,rp [(.tmp 15,(B ((decide (y2>0)))))] (B true)),(6,rp [(.tmp 16,B true),(.tmp 18,(Qru p0)),(.tmp 19,I y2)] (.dptr (Qat x11) 0))] ⟨asb hb10 (amv rfl),ag_ (aiq underlying55 Qm6 Qat hi13 hj14),tv⟩ ?_
     refine bfe h (fun hc15 h=>?_) fun hc15 h=>?_
     ·refine wft hc15<|wxz<|Qad<|Qal<|Qae<|Qae<|Qal<|Qae ?_
      obtain rfl:=osi h
      exact fend ⟨[I y2],⟨rot,tv⟩,rfl⟩ nll
     ·exact wfn hc15<|Qam<|bln<|thn<|wxz1<|thn<|arm (mto (n:=27) [(0,(Qru p0)),(7,(.dat 1 (p1.map Qab))),(8,(I ((p1.length:Int)))),(9,(I (w64 (y2+1))))] [] [] hq (pc (rnd Qbo) (pc (rnd Qaf) (pw (pw pn)))) qn) (ih (w64 (y2+1)) h)
    ·exact wx tbk [(2,rp [(.tmp 15,(B ((decide (y2>0)))))] (B false))] ⟨asb hb10 (amv rfl),tv⟩<|wfa<|Qam<|bln<|thn<|wxz1<|thn<|arm (mto (n:=27) [(0,(Qru p0)),(7,(.dat 1 (p1.map Qab))),(8,(I ((p1.length:Int)))),(9,(I (w64 (y2+1))))] [] [] hq (pc (rnd Qbo) (pc (rnd Qaf) (pw (pw pn)))) qn) (ih (w64 (y2+1)) h)
   ·exact wfn hc5<|Qb4<|Qa4<|Qa4<|Qb3 rfl<|thn<|⟨(),h,(mto (n:=27) [] [] [] hq pn qn)⟩
def Qhn (N:Nat) (p0:List Qbg) (p1:List Int):Option ((List Int)×Int×Int):=
  (Qj0 N p0 p1).bind fun x2=>
  bif (x2 != 0) then
   some ([],0,x2)
  else
   (Qfu N p0 p1).bind fun x5=>
   (Qga N p0 x5).bind fun x7=>
   bif (decide (x7≥0)) then
    some ([],x7,11)
   else
    some (x5,0,0)
def Zei:AV:=.dat 1 (([]:List Int).map Qab)
theorem Ql1 (N:Nat) (p0:List Qbg) (p1:List Int) (r:((List Int)×Int×Int)) (h:Qhn N p0 p1=some r):Spec prog 15 [(.dat 4 (p0.map Qat)),(.dat 1 (p1.map Qab))] [] (.tup [(.dat 1 (r.1.map Qab)),(I r.2.1),(I r.2.2)]) []:=by
  refine sA func15 0 fun _ _ _ hq hd0=>?_
  unfold Qhn at h
  refine wxz<|wsq ?_
  obtain⟨x2,hf1,h⟩:=bno h
  refine wx tbk [(2,rp _ _)] ⟨apw Zdo (Qsr N p0 p1 _ hf1),tv⟩<|wxz ?_
  refine bfe h (fun hc3 h=>?_) fun hc3 h=>?_
  ·refine wft hc3<|wxz<|Qad<|Qae ?_
   obtain rfl:=osi h
   exact fie [Zei,I 0,I x2] ⟨Qf2 (v:=nilS) rot Less.nil,rot,rot,tv⟩
  ·refine wfn hc3<|Qam<|thn ?_
   obtain⟨x5,hf4,h⟩:=bno h
   refine wx tbk [(2,rp _ _)] ⟨apw Zdn (Qma N p0 p1 _ hf4),tv⟩<|wsq ?_
   obtain⟨x7,hf6,h⟩:=bno h
   refine wx tbk [(2,rp _ _)] ⟨apw Zdm (Qm3 N p0 x5 _ hf6),tv⟩<|wxz ?_
   refine bfe h (fun hc8 h=>?_) fun hc8 h=>?_
   ·refine wft hc8<|wxz<|Qad<|Qae ?_
    obtain rfl:=osi h
    exact fie [Zei,I x7,I 11] ⟨Qf2 (v:=nilS) rot Less.nil,rot,rot,tv⟩
   ·refine wfn hc8<|Qam<|thn<|wxz<|Qad ?_
    obtain rfl:=osi h
    exact fie [(.dat 1 (x5.map Qab)),I 0,I 0] ⟨rot,rot,rot,tv⟩
def Qip (N:Nat) (p0:Qaa) (p1:Int):Option (Qaa×Int):=
  (Qc2 N p0).bind fun x2=>
  bif (!x2) then
   some ((⟨0,0,0,0⟩:Qaa),1)
  else
   Qb7 (fun _=>
     some ((⟨p0.Mass,w64 (p0.Heat+p1),p0.Silica,p0.Gas⟩:Qaa),0)) fun k4:Unit→Option (Qaa×Int)=>
   bif (decide (p1<(w64 (0-p0.Heat)))) then
    some ((⟨0,0,0,0⟩:Qaa),2)
   else
    bif (decide (p1>(w64 ((w64 (4000*p0.Mass))-p0.Heat)))) then
     some ((⟨0,0,0,0⟩:Qaa),2)
    else
     k4 ()
def Q3h:AV:=.agg [(I (0)),(I (0)),(I (0)),(I (0))]
def Zar (p0:Qaa):Slot:=.own 4 [[(I p0.Mass),(I p0.Heat),(I p0.Silica),(I p0.Gas)]]
def Zaq:Slot:=.own 4 [[(I (0)),(I (0)),(I (0)),(I (0))]]
theorem Qpe (N:Nat) (p0:Qaa) (p1:Int) (r:(Qaa×Int)) (h:Qip N p0 p1=some r):Spec prog 46 [(.agg (Qac p0)),(I p1)] [] (.tup [(.agg (Qac r.1)),(I r.2)]) []:=by
  refine sA func46 0 fun _ _ _ hq hd0=>?_
  unfold Qip at h
  refine wxz<|wsq ?_
  obtain⟨x2,hf1,h⟩:=bno h
  refine wx tbk [(1,rp _ _)] ⟨apw Qtj (Qev N p0 _ hf1),tv⟩ ?_
  refine bfe h (fun hc3 h=>?_) fun hc3 h=>?_
  ·refine wft hc3<|wx tbk [(0,rp _ _)] ⟨Qa6 (vs:=[]) rfl ts49 tz49 rfl (by rfl) rfl,tv⟩<|Qad<|Qae ?_
   obtain rfl:=osi h
   exact fie [Q3h,I 1] ⟨Qbk (n:=1) (m:=4) (j:=0) (i:=0) (xs:=[[I 0,I 0,I 0,I 0]]) (by kernel_rfl) (by kernel_rfl) ti49 (by decide) rfl (nle rfl) rfl,rot,tv⟩
  ·refine wfn hc3<|Qam<|thn ?_
   obtain⟨k4,hk_k4,h⟩:=jko h
   refine wjn (τ:=Unit) (fun t=>k4 t=some r) (fun _=>⟨mk 32 [(1,I p1),(2,.ref 0 4 0 0),(4,.ref 1 4 0 0)],[(Zar p0),Zaq]⟩) (fun t h=>?_) ?_
   ·subst hk_k4
    refine wxz<|wxz<|Qad ?_
    obtain rfl:=osi h
    exact fie [(.agg [I p0.Mass,(I (w64 (p0.Heat+p1))),I p0.Silica,I p0.Gas]),I 0] ⟨Qbk (n:=1) (m:=4) (j:=0) (i:=0) (xs:=[[I p0.Mass,(I (w64 (p0.Heat+p1))),I p0.Silica,I p0.Gas]]) (by kernel_rfl) (by kernel_rfl) ti49 (by decide) rfl (nle rfl) rfl,rot,tv⟩
   ·skip
    refine bfe h (fun hb5 h=>?_) fun hb5 h=>?_
    ·refine wx tbk [(5,rp [(.tmp 14,(B ((decide (p1<(w64 (0-p0.Heat)))))))] (B true))] ⟨asb hb5 (amv rfl),tv⟩<|wtr ?_
     refine wx tbk [(0,rp _ _)] ⟨Qa6 (vs:=[]) rfl ts49 tz49 rfl (by rfl) rfl,tv⟩<|Qad<|Qae ?_
     obtain rfl:=osi h
     exact fie [Q3h,I 2] ⟨Qbk (n:=1) (m:=4) (j:=0) (i:=0) (xs:=[[I 0,I 0,I 0,I 0]]) (by kernel_rfl) (by kernel_rfl) ti49 (by decide) rfl (nle rfl) rfl,rot,tv⟩
    ·refine wx tbk [(5,rp [(.tmp 14,(B ((decide (p1<(w64 (0-p0.Heat)))))))] (B false))] ⟨asb hb5 (amv rfl),tv⟩ ?_
     refine bfe h (fun hc6 h=>?_) fun hc6 h=>?_
     ·refine wft hc6<|wx tbk [(0,rp _ _)] ⟨Qa6 (vs:=[]) rfl ts49 tz49 rfl (by rfl) rfl,tv⟩<|Qad<|Qae ?_
      obtain rfl:=osi h
      exact fie [Q3h,I 2] ⟨Qbk (n:=1) (m:=4) (j:=0) (i:=0) (xs:=[[I 0,I 0,I 0,I 0]]) (by kernel_rfl) (by kernel_rfl) ti49 (by decide) rfl (nle rfl) rfl,rot,tv⟩
     ·exact wfn hc6<|Qam<|thn<|⟨(),h,(mto (n:=32) [(1,I p1),(2,.ref 0 4 0 0),(4,.ref 1 4 0 0)] [0,1] [(Zar p0),Zaq] hq (pw (prr (prr pn))) (qb (lcc (lcc ln)) (qb (lcc (lcc ln)) qn)))⟩
def Qj1 (N:Nat) (p0:Qo9) (p1:Int):Option (Qaa×Int×Int):=
  Qb7 (fun _=>
    (Qd5 N p1 0 100000000000).bind fun x3=>
    bif (!x3) then
     some ((⟨0,0,0,0⟩:Qaa),0,2)
    else
     (some (if (w64 (p0.Stream.Heat-(w64 (p0.Floor*p0.Stream.Mass))))>0 then w64 (p0.Stream.Heat-(w64 (p0.Floor*p0.Stream.Mass))) else 0)).bind fun x5=>
     (some (if x5<p1 then x5 else p1)).bind fun x7=>
     (Qip N (⟨p0.Stream.Mass,p0.Stream.Heat,p0.Stream.Silica,p0.Stream.Gas⟩:Qaa) (w64 (0-x7))).bind fun x10=>
     some ((⟨x10.1.Mass,x10.1.Heat,x10.1.Silica,x10.1.Gas⟩:Qaa),x7,0)) fun k1:Unit→Option (Qaa×Int×Int)=>
  (Qec N (⟨p0.Stream.Mass,p0.Stream.Heat,p0.Stream.Silica,p0.Stream.Gas⟩:Qaa)).bind fun x12=>
  bif (x12 != 0) then
   some ((⟨0,0,0,0⟩:Qaa),0,1)
  else
   (Qd5 N p0.Floor 0 4000).bind fun x15=>
   bif (!x15) then
    some ((⟨0,0,0,0⟩:Qaa),0,1)
   else
    k1 ()
def Zat (p0:Qo9):Slot:=.own 5 [[(I p0.Stream.Mass),(I p0.Stream.Heat),(I p0.Stream.Silica),(I p0.Stream.Gas),(I p0.Floor)]]
def Zas:Slot:=.own 4 [[(I (0)),(I (0)),(I (0)),(I (0))]]
def Q3j:AV:=.agg [(I (0)),(I (0)),(I (0)),(I (0))]
def Zfs (p0:Qo9):AV:=.agg [(I p0.Stream.Mass),(I p0.Stream.Heat),(I p0.Stream.Silica),(I p0.Stream.Gas)]
def Zfr (x10:(Qaa×Int)):AV:=.agg [(I x10.1.Mass),(I x10.1.Heat),(I x10.1.Silica),(I x10.1.Gas)]
def Q3i (p0:Qo9) (x12:Int):List (Nat×Rec):=[(2,rp [fu 44,((.tmp 8),(Zfs p0))] (I x12))]
theorem Qss (N:Nat) (p0:Qo9) (p1:Int) (r:(Qaa×Int×Int)) (h:Qj1 N p0 p1=some r):Spec prog 17 [(.agg (Qts p0)),(I p1)] [] (.tup [(.agg (Qac r.1)),(I r.2.1),(I r.2.2)]) []:=by
  refine sA func17 0 fun _ _ _ hq hd0=>?_
  unfold Qj1 at h
  refine wxz ?_
  obtain⟨k1,hk_k1,h⟩:=jko h
  refine wjn (τ:=Unit) (fun t=>k1 t=some r) (fun _=>⟨mk 45 [(1,I p1),(2,.ref 0 5 0 0),(4,.ref 1 4 0 0)],[(Zat p0),Zas]⟩) (fun t h=>?_) ?_
  ·subst hk_k1
   refine wsq ?_
   obtain⟨x3,hf2,h⟩:=bno h
   refine wx tbk [(1,rp _ _)] ⟨apw Qmk (Qeo N p1 0 100000000000 _ hf2),tv⟩ ?_
   refine bfe h (fun hc4 h=>?_) fun hc4 h=>?_
   ·refine wft hc4<|wx tbk [(0,rp _ _)] ⟨Qa6 (vs:=[]) rfl ts49 tz49 rfl (by rfl) rfl,tv⟩<|Qad<|Qae ?_
    obtain rfl:=osi h
    exact fie [Q3j,I 0,I 2] ⟨Qbk (n:=1) (m:=4) (j:=0) (i:=0) (xs:=[[I 0,I 0,I 0,I 0]]) (by kernel_rfl) (by kernel_rfl) ti49 (by decide) rfl (nle rfl) rfl,rot,rot,tv⟩
   ·refine wfn hc4<|Qam<|thn ?_
    obtain⟨x5,hl6,h⟩:=bno h
    obtain⟨x7,hl8,h⟩:=bno h
    refine wx tbk [(11,rp [ci 0,(.tmp 32,(I (w64 (p0.Stream.Heat-(w64 (p0.Floor*p0.Stream.Mass))))))] (I x5)),(12,rp [(.tmp 22,I p1),(.tmp 33,I x5)] (I ((if x5<p1 then x5 else p1)))),(13,rp [(.tmp 34,(I ((if x5<p1 then x5 else p1))))] (I x7))] ⟨Qgu hl6 (Qki rfl),Qn2 rfl,Qgu hl8 (aas rfl),tv⟩ ?_
    obtain⟨x10,hf9,h⟩:=bno h
    refine wx tbk [(4,rp _ _)] ⟨apw Zdl (Qpe N (⟨p0.Stream.Mass,p0.Stream.Heat,p0.Stream.Silica,p0.Stream.Gas⟩:Qaa) (w64 (0-x7)) _ hf9),tv⟩<|wxz<|Qad ?_
    obtain rfl:=osi h
    exact fie [(Zfr x10),I x7,I 0] ⟨Qbk (n:=1) (m:=4) (j:=0) (i:=0) (xs:=[[I x10.1.Mass,I x10.1.Heat,I x10.1.Silica,I x10.1.Gas]]) (by kernel_rfl) (by kernel_rfl) ti49 (by decide) rfl (nle rfl) rfl,rot,rot,tv⟩
  ·skip
   obtain⟨x12,hf11,h⟩:=bno h
   refine hpre (A:=(Q3i p0 x12)) ⟨apv Q5s (Qh2 N (⟨p0.Stream.Mass,p0.Stream.Heat,p0.Stream.Silica,p0.Stream.Gas⟩:Qaa) _ hf11) (nlc (NLt.agg _ (nlcc (nlcc nl0))) nl0) nll,tv⟩ fun q1_=>?_
   refine bfe h (fun hb13 h=>?_) fun hb13 h=>?_
   ·refine wx tbk (hcat (Q3i p0 x12) [(4,rp [(.tmp 10,(B ((x12 != 0))))] (B true))]) (hap q1_ ⟨asb hb13 (amv rfl),tv⟩)<|wtr ?_
    refine wx tbk [(0,rp _ _)] ⟨Qa6 (vs:=[]) rfl ts49 tz49 rfl (by rfl) rfl,tv⟩<|Qad<|Qae ?_
    obtain rfl:=osi h
    exact fie [Q3j,I 0,I 1] ⟨Qbk (n:=1) (m:=4) (j:=0) (i:=0) (xs:=[[I 0,I 0,I 0,I 0]]) (by kernel_rfl) (by kernel_rfl) ti49 (by decide) rfl (nle rfl) rfl,rot,rot,tv⟩
   ·obtain⟨x15,hf14,h⟩:=bno h
    refine wx tbk (hcat (Q3i p0 x12) [(4,rp [(.tmp 10,(B ((x12 != 0))))] (B false)),(7,rp [(.tmp 11,B false),fu 45,(.tmp 13,I p0.Floor),ci 0,ci 4000] (B x15))]) (hap q1_ ⟨asb hb13 (amv rfl),ag_ (apv Qmk (Qeo N p0.Floor 0 4000 _ hf14) (nlcc (nlc nll nl0)) nll),tv⟩) ?_
    refine bfe h (fun hc16 h=>?_) fun hc16 h=>?_
    ·refine wft hc16<|wx tbk [(0,rp _ _)] ⟨Qa6 (vs:=[]) rfl ts49 tz49 rfl (by rfl) rfl,tv⟩<|Qad<|Qae ?_
     obtain rfl:=osi h
     exact fie [Q3j,I 0,I 1] ⟨Qbk (n:=1) (m:=4) (j:=0) (i:=0) (xs:=[[I 0,I 0,I 0,I 0]]) (by kernel_rfl) (by kernel_rfl) ti49 (by decide) rfl (nle rfl) rfl,rot,rot,tv⟩
    ·exact wfn hc16<|Qam<|thn<|⟨(),h,(mto (n:=45) [(1,I p1),(2,.ref 0 5 0 0),(4,.ref 1 4 0 0)] [0,1] [(Zat p0),Zas] hq (pw (prr (prr pn))) (qb (lcc (lcc (lc rwl ln))) (qb (lcc (lcc ln)) qn)))⟩
def Qfy (_N:Nat) (p0 p1 p2:Int):Option Bool:=
  bif (decide (p0≥p1)) then
   some (decide (p0≤p2))
  else
   some false
theorem Qfr (N:Nat) (p0 p1 p2:Int) (r:Bool) (h:Qfy N p0 p1 p2=some r):Spec prog 38 [(I p0),(I p1),(I p2)] [] (B r) []:=by
  refine sA func38 0 fun _ _ _ hq hd0=>?_
  unfold Qfy at h
  refine wxz ?_
  refine bfe h (fun hb1 h=>?_) fun hb1 h=>?_
  ·refine wx tbk [(3,rp [(.tmp 9,(B ((decide (p0≥p1)))))] (B true))] ⟨asb hb1 (amv rfl),tv⟩<|Qad ?_
   obtain rfl:=osi h
   exact fend ⟨[(B ((decide (p0≤p2))))],⟨rot,tv⟩,rfl⟩ nll
  ·exact wx tbk [(3,rp [(.tmp 9,(B ((decide (p0≥p1)))))] (B false))] ⟨asb hb1 (amv rfl),tv⟩<|Qad<|frb h
def Qdc (N:Nat) (p0:List Qbg) (k2:Unit→Option Bool):Nat→Int→Option Bool
  |0,_=>none
  |n5+1,y3=>
    bif (decide (y3<(p0.length:Int))) then
     bif (decide (y3>0)) then
      (getI p0 y3).bind fun x8=>
      (Qfy N x8.Parent 0 (w64 (y3-1))).bind fun x13=>
      bif (!x13) then
       some false
      else
       (Qfy N x8.Loss 0 1000000000).bind fun x16=>
       bif (!x16) then
        some false
       else
        (Qfy N x8.Limit 0 1000000000).bind fun x19=>
        bif (!x19) then
         some false
        else
         (Qfy N x8.Rank 0 100).bind fun x22=>
         bif (!x22) then
          some false
         else
          Qdc N p0 k2 n5 (w64 (y3+1))
     else
      (getI p0 y3).bind fun x24=>
      (Qfy N x24.Loss 0 1000000000).bind fun x29=>
      bif (!x29) then
       some false
      else
       (Qfy N x24.Limit 0 1000000000).bind fun x32=>
       bif (!x32) then
        some false
       else
        (Qfy N x24.Rank 0 100).bind fun x35=>
        bif (!x35) then
         some false
        else
         Qdc N p0 k2 n5 (w64 (y3+1))
    else
     k2 ()
def Qia (N:Nat) (p0:List Qbg):Option Bool:=
  Qb7 (fun _=>
    Qb7 (fun _=>
      some true) fun k2:Unit→Option Bool=>
    Qdc N p0 k2 N 0) fun k1:Unit→Option Bool=>
  bif (decide ((p0.length:Int)<1)) then
   some false
  else
   bif (decide ((p0.length:Int)>30)) then
    some false
   else
    (getI p0 0).bind fun x39=>
    bif (x39.Parent != (-1)) then
     some false
    else
     bif (x39.Loss != 0) then
      some false
     else
      bif (x39.Limit != 0) then
       some false
      else
       k1 ()
def Qg1 (p0:List Qbg):AV:=.dat 4 (p0.map Qat)
def Q3g (y3:Int) (p0:List Qbg) (x8:Qbg) (x13:Bool):List (Nat×Rec):=[(2,rp [((.tmp 40),(B ((decide (y3>0)))))] (B true)),(5,rp [((.tmp 41),(B true)),((.tmp 42),(Qg1 p0)),((.tmp 43),(I y3))] (.dptr (Qat x8) 0)),(10,rp [((.tmp 41),(B true)),fu 38,((.tmp 46),(I x8.Parent)),ci 0,((.tmp 48),(I (w64 (y3-1))))] (B x13))]
def Q3f y3 p0 x8 x13 (x16:Bool):=hcat (Q3g y3 p0 x8 x13) [(13,rp [((.tmp 51),(B ((!x13))))] (B false)),(16,rp [((.tmp 52),(B false)),((.tmp 53),(Qg1 p0)),((.tmp 54),(I y3))] (.dptr (Qat x8) 0)),(19,rp [((.tmp 52),(B false)),fu 38,((.tmp 57),(I x8.Loss)),ci 0,ci 1000000000] (B x16))]
def Q3e y3 p0 x8 x13 x16 (x19:Bool):=hcat (Q3f y3 p0 x8 x13 x16) [(22,rp [((.tmp 60),(B ((!x16))))] (B false)),(25,rp [((.tmp 61),(B false)),((.tmp 62),(Qg1 p0)),((.tmp 63),(I y3))] (.dptr (Qat x8) 0)),(28,rp [((.tmp 61),(B false)),fu 38,((.tmp 66),(I x8.Limit)),ci 0,ci 1000000000] (B x19))]
def Q3d (y3:Int) (p0:List Qbg) (x24:Qbg) (x29:Bool):List (Nat×Rec):=[(2,rp [((.tmp 40),(B ((decide (y3>0)))))] (B false)),(16,rp [((.tmp 52),(B false)),((.tmp 53),(Qg1 p0)),((.tmp 54),(I y3))] (.dptr (Qat x24) 0)),(19,rp [((.tmp 52),(B false)),fu 38,((.tmp 57),(I x24.Loss)),ci 0,ci 1000000000] (B x29))]
def Q3c y3 p0 x24 x29 (x32:Bool):=hcat (Q3d y3 p0 x24 x29) [(22,rp [((.tmp 60),(B ((!x29))))] (B false)),(25,rp [((.tmp 61),(B false)),((.tmp 62),(Qg1 p0)),((.tmp 63),(I y3))] (.dptr (Qat x24) 0)),(28,rp [((.tmp 61),(B false)),fu 38,((.tmp 66),(I x24.Limit)),ci 0,ci 1000000000] (B x32))]
def Q3b (p0:List Qbg):List (Nat×Rec):=[(1,rp [((.tmp 4),(Qg1 p0))] (I ((p0.length:Int))))]
def Q3a p0:=hcat (Q3b p0) [(3,rp [((.tmp 6),(B ((decide ((p0.length:Int)<1)))))] (B false)),(5,rp [((.tmp 7),(B false)),((.tmp 8),(Qg1 p0))] (I ((p0.length:Int))))]
def Q29 p0 (x39:Qbg):=hcat (Q3a p0) [(8,rp [((.tmp 11),(B ((decide ((p0.length:Int)>30)))))] (B false)),(10,rp [((.tmp 12),(B false)),((.tmp 13),(Qg1 p0)),ci 0] (.dptr (Qat x39) 0))]
def Q28 p0 x39:=hcat (Q29 p0 x39) [(15,rp [((.tmp 18),(B ((x39.Parent != (-1)))))] (B false)),(17,rp [((.tmp 19),(B false)),((.tmp 20),(Qg1 p0)),ci 0] (.dptr (Qat x39) 0))]
theorem Qqa (N:Nat) (p0:List Qbg) (r:Bool) (h:Qia N p0=some r):Spec prog 8 [(.dat 4 (p0.map Qat))] [] (B r) []:=by
  refine sA func8 0 fun _ _ _ hq hd0=>?_
  unfold Qia at h
  refine wxz ?_
  obtain⟨k1,hk_k1,h⟩:=jko h
  refine wjn (τ:=Unit) (fun t=>k1 t=some r) (fun _=>⟨mk 79 [(0,(Qg1 p0))],[]⟩) (fun t h=>?_) ?_
  ·subst hk_k1
   obtain⟨k2,hk_k2,h⟩:=jko h
   refine wjn (τ:=Unit) (fun t=>k2 t=some r) (fun _=>⟨mk 79 [],[]⟩) (fun t h=>?_) ?_
   ·subst hk_k2
    exact wxz<|Qad<|frb h
   ·skip
    refine wxz<|Qaq ?_
    refine wmr (mto (n:=79) (l':=[(0,(Qg1 p0)),(3,I 0)]) (own':=[]) [(0,(Qg1 p0)),(3,I 0)] [] [] hq (pc (rnd Qbo) (pw pn)) qn) ?_
    refine Qcz (τ:=Int) (fun n t=>Qdc N p0 k2 n t=some r) (fun y3=>⟨mk 79 [(0,(Qg1 p0)),(3,I y3)],[]⟩) (fun t h=>by rw[Qdc] at h;cases h) (fun n5 ih y3 h=>?_) N (0) h
    rw[Qdc] at h
    skip
    refine wsq<|wx tbk [(2,rp _ _)] ⟨alq 4 Qat p0 underlying28,tv⟩ ?_
    refine bfe h (fun hc6 h=>?_) fun hc6 h=>?_
    ·refine wft hc6<|Qam<|thn<|wsq<|Qaq ?_
     refine bfe h (fun hb7 h=>?_) fun hb7 h=>?_
     ·obtain⟨x8,hg9,h⟩:=bno h
      obtain⟨hi10,hj11⟩:=gsm hg9
      obtain⟨x13,hf12,h⟩:=bno h
      refine hpre (A:=(Q3g y3 p0 x8 x13)) ⟨asb hb7 (amv rfl),ag_ (aiq underlying28 ti58 Qat hi10 hj11),ag_ (apv Qlf (Qfr N x8.Parent 0 (w64 (y3-1)) _ hf12) (nlcc (nlc nll nl0)) nll),tv⟩ fun q1_=>?_
      refine bfe h (fun hb14 h=>?_) fun hb14 h=>?_
      ·exact wx tbk (hcat (Q3g y3 p0 x8 x13) [(13,rp [(.tmp 51,(B ((!x13))))] (B true))]) (hap q1_ ⟨asb hb14 (amv rfl),tv⟩)<|wtr<|wxz<|Qad<|Qal<|Qae<|Qae<|Qal<|Qae<|frb h
      ·obtain⟨x16,hf15,h⟩:=bno h
       refine hpre (A:=(Q3f y3 p0 x8 x13 x16)) (hap q1_ ⟨asb hb14 (amv rfl),ag_ (aiq underlying28 ti58 Qat hi10 hj11),ag_ (apv Qlf (Qfr N x8.Loss 0 1000000000 _ hf15) (nlcc (nlc nll nl0)) nll),tv⟩) fun q2_=>?_
       refine bfe h (fun hb17 h=>?_) fun hb17 h=>?_
       ·exact wx tbk (hcat (Q3f y3 p0 x8 x13 x16) [(22,rp [(.tmp 60,(B ((!x16))))] (B true))]) (hap q2_ ⟨asb hb17 (amv rfl),tv⟩)<|wtr<|wxz<|Qad<|Qal<|Qae<|Qae<|Qal<|Qae<|frb h
       ·obtain⟨x19,hf18,h⟩:=bno h
        refine hpre (A:=(Q3e y3 p0 x8 x13 x16 x19)) (hap q2_ ⟨asb hb17 (amv rfl),ag_ (aiq underlying28 ti58 Qat hi10 hj11),ag_ (apv Qlf (Qfr N x8.Limit 0 1000000000 _ hf18) (nlcc (nlc nll nl0)) nll),tv⟩) fun q3_=>?_
        refine bfe h (fun hb20 h=>?_) fun hb20 h=>?_
        ·exact wx tbk (hcat (Q3e y3 p0 x8 x13 x16 x19) [(31,rp [(.tmp 69,(B ((!x19))))] (B true))]) (hap q3_ ⟨asb hb20 (amv rfl),tv⟩)<|wtr<|wxz<|Qad<|Qal<|Qae<|Qae<|Qal<|Qae<|frb h
        ·obtain⟨x22,hf21,h⟩:=bno h
         refine wx tbk (hcat (Q3e y3 p0 x8 x13 x16 x19) [(31,rp [(.tmp 69,(B ((!x19))))] (B false)),(34,rp [(.tmp 70,B false),(.tmp 71,(Qg1 p0)),(.tmp 72,I y3)] (.dptr (Qat x8) 0)),(37,rp [(.tmp 70,B false),fu 38,(.tmp 75,I x8.Rank),ci 0,ci 100] (B x22))]) (hap q3_ ⟨asb hb20 (amv rfl),ag_ (aiq underlying28 ti58 Qat hi10 hj11),ag_ (apv Qlf (Qfr N x8.Rank 0 100 _ hf21) (nlcc (nlc nll nl0)) nll),tv⟩) ?_
         refine bfe h (fun hc23 h=>?_) fun hc23 h=>?_
         ·exact wft hc23<|wxz<|Qad<|Qal<|Qae<|Qae<|Qal<|Qae<|frb h
         ·exact wfn hc23<|Qam<|bln<|thn<|wxz1<|thn<|arm (mto (n:=79) [(0,(Qg1 p0)),(3,(I (w64 (y3+1))))] [] [] hq (pc (rnd Qbo) (pw pn)) qn) (ih (w64 (y3+1)) h)
     ·obtain⟨x24,hg25,h⟩:=bno h
      obtain⟨hi26,hj27⟩:=gsm hg25
      obtain⟨x29,hf28,h⟩:=bno h
      refine hpre (A:=(Q3d y3 p0 x24 x29)) ⟨asb hb7 (amv rfl),ag_ (aiq underlying28 ti58 Qat hi26 hj27),ag_ (apv Qlf (Qfr N x24.Loss 0 1000000000 _ hf28) (nlcc (nlc nll nl0)) nll),tv⟩ fun q4_=>?_
      refine bfe h (fun hb30 h=>?_) fun hb30 h=>?_
      ·exact wx tbk (hcat (Q3d y3 p0 x24 x29) [(22,rp [(.tmp 60,(B ((!x29))))] (B true))]) (hap q4_ ⟨asb hb30 (amv rfl),tv⟩)<|wtr<|wxz<|Qad<|Qal<|Qae<|Qae<|Qal<|Qae<|frb h
      ·obtain⟨x32,hf31,h⟩:=bno h
       refine hpre (A:=(Q3c y3 p0 x24 x29 x32)) (hap q4_ ⟨asb hb30 (amv rfl),ag_ (aiq underlying28 ti58 Qat hi26 hj27),ag_ (apv Qlf (Qfr N x24.Limit 0 1000000000 _ hf31) (nlcc (nlc nll nl0)) nll),tv⟩) fun q5_=>?_
       refine bfe h (fun hb33 h=>?_) fun hb33 h=>?_
       ·exact wx tbk (hcat (Q3c y3 p0 x24 x29 x32) [(31,rp [(.tmp 69,(B ((!x32))))] (B true))]) (hap q5_ ⟨asb hb33 (amv rfl),tv⟩)<|wtr<|wxz<|Qad<|Qal<|Qae<|Qae<|Qal<|Qae<|frb h
       ·obtain⟨x35,hf34,h⟩:=bno h
        refine wx tbk (hcat (Q3c y3 p0 x24 x29 x32) [(31,rp [(.tmp 69,(B ((!x32))))] (B false)),(34,rp [(.tmp 70,B false),(.tmp 71,(Qg1 p0)),(.tmp 72,I y3)] (.dptr (Qat x24) 0)),(37,rp [(.tmp 70,B false),fu 38,(.tmp 75,I x24.Rank),ci 0,ci 100] (B x35))]) (hap q5_ ⟨asb hb33 (amv rfl),ag_ (aiq underlying28 ti58 Qat hi26 hj27),ag_ (apv Qlf (Qfr N x24.Rank 0 100 _ hf34) (nlcc (nlc nll nl0)) nll),tv⟩) ?_
        refine bfe h (fun hc36 h=>?_) fun hc36 h=>?_
        ·exact wft hc36<|wxz<|Qad<|Qal<|Qae<|Qae<|Qal<|Qae<|frb h
        ·exact wfn hc36<|Qam<|bln<|thn<|wxz1<|thn<|arm (mto (n:=79) [(0,(Qg1 p0)),(3,(I (w64 (y3+1))))] [] [] hq (pc (rnd Qbo) (pw pn)) qn) (ih (w64 (y3+1)) h)
    ·exact wfn hc6<|Qb4<|Qa4<|Qa4<|Qb3 rfl<|thn<|⟨(),h,(mto (n:=79) [] [] [] hq pn qn)⟩
  ·skip
   refine hpre (A:=(Q3b p0)) ⟨alq 4 Qat p0 underlying28,tv⟩ fun q6_=>?_
   refine bfe h (fun hb37 h=>?_) fun hb37 h=>?_
   ·exact wx tbk (hcat (Q3b p0) [(3,rp [(.tmp 6,(B ((decide ((p0.length:Int)<1)))))] (B true))]) (hap q6_ ⟨asb hb37 (amv rfl),tv⟩)<|wtr<|wxz<|Qad<|Qae<|frb h
   ·refine hpre (A:=(Q3a p0)) (hap q6_ ⟨asb hb37 (amv rfl),ag_ (alq 4 Qat p0 underlying28),tv⟩) fun q7_=>?_
    refine bfe h (fun hb38 h=>?_) fun hb38 h=>?_
    ·exact wx tbk (hcat (Q3a p0) [(8,rp [(.tmp 11,(B ((decide ((p0.length:Int)>30)))))] (B true))]) (hap q7_ ⟨asb hb38 (amv rfl),tv⟩)<|wtr<|wxz<|Qad<|Qae<|frb h
    ·obtain⟨x39,hg40,h⟩:=bno h
     obtain⟨hi41,hj42⟩:=gsm hg40
     refine hpre (A:=(Q29 p0 x39)) (hap q7_ ⟨asb hb38 (amv rfl),ag_ (aiq underlying28 ti58 Qat hi41 hj42),tv⟩) fun q8_=>?_
     refine bfe h (fun hb43 h=>?_) fun hb43 h=>?_
     ·exact wx tbk (hcat (Q29 p0 x39) [(15,rp [(.tmp 18,(B ((x39.Parent != (-1)))))] (B true))]) (hap q8_ ⟨asb hb43 (amv rfl),tv⟩)<|wtr<|wxz<|Qad<|Qae<|frb h
     ·refine hpre (A:=(Q28 p0 x39)) (hap q8_ ⟨asb hb43 (amv rfl),ag_ (aiq underlying28 ti58 Qat hi41 hj42),tv⟩) fun q9_=>?_
      refine bfe h (fun hb44 h=>?_) fun hb44 h=>?_
      ·exact wx tbk (hcat (Q28 p0 x39) [(22,rp [(.tmp 25,(B ((x39.Loss != 0))))] (B true))]) (hap q9_ ⟨asb hb44 (amv rfl),tv⟩)<|wtr<|wxz<|Qad<|Qae<|frb h
      ·refine wx tbk (hcat (Q28 p0 x39) [(22,rp [(.tmp 25,(B ((x39.Loss != 0))))] (B false)),(24,rp [(.tmp 26,B false),(.tmp 27,(Qg1 p0)),ci 0] (.dptr (Qat x39) 0))]) (hap q9_ ⟨asb hb44 (amv rfl),ag_ (aiq underlying28 ti58 Qat hi41 hj42),tv⟩) ?_
       refine bfe h (fun hc45 h=>?_) fun hc45 h=>?_
       ·exact wft hc45<|wxz<|Qad<|Qae<|frb h
       ·exact wfn hc45<|Qam<|thn<|⟨(),h,(mto (n:=79) [(0,(Qg1 p0))] [] [] hq (pc (rnd Qbo) pn) qn)⟩
def Qd1 (N:Nat) (k1:Unit→Option Bool) (p1:List Int):Nat→Int→Option Bool
  |0,_=>none
  |n4+1,y2=>
    bif (decide (y2<(p1.length:Int))) then
     (getI p1 y2).bind fun x6=>
     (Qfy N x6 0 1000000000).bind fun x11=>
     bif (!x11) then
      some false
     else
      Qd1 N k1 p1 n4 (w64 (y2+1))
    else
     k1 ()
def Qi1 (N:Nat) (p0:List Qbg) (p1:List Int):Option Bool:=
  Qb7 (fun _=>
    some ((p1.length:Int)==(p0.length:Int))) fun k1:Unit→Option Bool=>
  Qd1 N k1 p1 N 0
def Qrt (p0:List Qbg):AV:=.dat 4 (p0.map Qat)
theorem Qrm (N:Nat) (p0:List Qbg) (p1:List Int) (r:Bool) (h:Qi1 N p0 p1=some r):Spec prog 9 [(.dat 4 (p0.map Qat)),(.dat 1 (p1.map Qab))] [] (B r) []:=by
  refine sA func9 0 fun _ _ _ hq hd0=>?_
  unfold Qi1 at h
  refine wxz ?_
  obtain⟨k1,hk_k1,h⟩:=jko h
  refine wjn (τ:=Unit) (fun t=>k1 t=some r) (fun _=>⟨mk 23 [(0,(Qrt p0)),(1,(.dat 1 (p1.map Qab)))],[]⟩) (fun t h=>?_) ?_
  ·subst hk_k1
   refine wx tbk [(1,rp _ _),(3,rp _ _)] ⟨alq 1 Qab p1 underlying29,alq 4 Qat p0 underlying28,tv⟩<|Qad ?_
   obtain rfl:=osi h
   exact fend ⟨[(B (((p1.length:Int)==(p0.length:Int))))],⟨rot,tv⟩,rfl⟩ nll
  ·skip
   refine wxz<|Qaq ?_
   refine wmr (mto (n:=23) (l':=[(0,(Qrt p0)),(1,(.dat 1 (p1.map Qab))),(5,I 0)]) (own':=[]) [(0,(Qrt p0)),(1,(.dat 1 (p1.map Qab))),(5,I 0)] [] [] hq (pc (rnd Qbo) (pc (rnd Qaf) (pw pn))) qn) ?_
   refine Qcz (τ:=Int) (fun n t=>Qd1 N k1 p1 n t=some r) (fun y2=>⟨mk 23 [(0,(Qrt p0)),(1,(.dat 1 (p1.map Qab))),(5,I y2)],[]⟩) (fun t h=>by rw[Qd1] at h;cases h) (fun n4 ih y2 h=>?_) N (0) h
   rw[Qd1] at h
   skip
   refine wsq<|wx tbk [(2,rp _ _)] ⟨alq 1 Qab p1 underlying29,tv⟩ ?_
   refine bfe h (fun hc5 h=>?_) fun hc5 h=>?_
   ·refine wft hc5<|Qam<|thn<|wsq<|Qaq ?_
    obtain⟨x6,hg7,h⟩:=bno h
    obtain⟨hi8,hj9⟩:=gsm hg7
    obtain⟨x11,hf10,h⟩:=bno h
    refine wx tbk [(2,rp _ _),(4,rp _ _)] ⟨aiq underlying29 ti3 Qab hi8 hj9,apw Qlf (Qfr N x6 0 1000000000 _ hf10),tv⟩ ?_
    refine bfe h (fun hc12 h=>?_) fun hc12 h=>?_
    ·exact wft hc12<|wxz<|Qad<|Qal<|Qae<|Qae<|Qal<|Qae<|frb h
    ·exact wfn hc12<|Qam<|bln<|thn<|wxz1<|thn<|arm (mto (n:=23) [(0,(Qrt p0)),(1,(.dat 1 (p1.map Qab))),(5,(I (w64 (y2+1))))] [] [] hq (pc (rnd Qbo) (pc (rnd Qaf) (pw pn))) qn) (ih (w64 (y2+1)) h)
   ·exact wfn hc5<|Qb4<|Qa4<|Qa4<|Qb3 rfl<|thn<|⟨(),h,(mto (n:=23) [(0,(Qrt p0)),(1,(.dat 1 (p1.map Qab)))] [] [] hq (pc (rnd Qbo) (pc (rnd Qaf) pn)) qn)⟩
def Qd3 (N:Nat) (p0:List Qbg) (k2:(List Qbg)→Option (List Qbg)):Nat→(List Qbg)→Int→Option (List Qbg)
  |0,_,_=>none
  |n7+1,y3,y4=>
    bif (decide (y4<(p0.length:Int))) then
     (getI p0 y4).bind fun x9=>
     chk (decide ((y3.length+([x9]).length)*32≤140737488355328))<|
     Qd3 N p0 k2 n7 (y3++([x9])) (w64 (y4+1))
    else
     k2 (y3)
def Qi7 (N:Nat) (p0:List Qbg):Option (List Qbg):=
  Qb7 (fun y1=>
    some y1) fun k2:(List Qbg)→Option (List Qbg)=>
  Qd3 N p0 k2 N ([]) 0
def Qym (p0:List Qbg):AV:=.dat 4 (p0.map Qat)
def Q27 (x9:Qbg):AV:=.agg [(I x9.Parent),(I x9.Loss),(I x9.Limit),(I x9.Rank)]
theorem Qro (N:Nat) (p0 r:List Qbg) (h:Qi7 N p0=some r):Spec prog 16 [(.dat 4 (p0.map Qat))] [] (.dat 4 (r.map Qat)) []:=by
  refine sA func16 0 fun _ _ _ hq hd0=>?_
  unfold Qi7 at h
  refine wxz<|wxz ?_
  obtain⟨k2,hk_k2,h⟩:=jko h
  refine wjn (τ:=(List Qbg)) (fun t=>k2 t=some r) (fun y1=>⟨mk 36 [(3,(.acc 0 107 4 (y1.map Qat)))],[.tok]⟩) (fun y1 h=>?_) ?_
  ·subst hk_k2
   refine wxz<|Qad ?_
   obtain rfl:=osi h
   exact fie [(.dat 4 (y1.map Qat))] ⟨Qf2 (v:=(.acc 0 107 4 (y1.map Qat))) rot Less.acc,tv⟩
  ·skip
   refine wxz<|Qaq ?_
   refine wmr (Mor.trans (Qs9 0 107 4 3 (by kernel_rfl) (by kernel_rfl)) (mto (n:=36) (l':=[(0,(Qym p0)),(3,(.acc 0 107 4 ((([]):List Qbg).map Qat))),(4,I 0)]) (own':=[.tok]) [(0,(Qym p0)),(3,(.acc 0 107 4 (([]:List Qbg).map Qat))),(4,I 0)] [0] [.tok] hq (pc (rnd Qbo) (pc (.rn (Qgc rfl (Qek Qbo _))) (pw pn))) (qc .tok qn))) ?_
   refine Qcz (τ:=(List Qbg)×Int) (fun n t=>Qd3 N p0 k2 n t.1 t.2=some r) (fun ⟨y3,y4⟩=>⟨mk 36 [(0,(Qym p0)),(3,(.acc 0 107 4 (y3.map Qat))),(4,I y4)],[.tok]⟩) (fun t h=>by rw[Qd3] at h;cases h) (fun n7 ih t h=>?_) N ([],0) h
   obtain⟨y3,y4⟩:=t
   rw[Qd3] at h
   skip
   refine wsq<|wx tbk [(2,rp _ _)] ⟨alq 4 Qat p0 underlying28,tv⟩ ?_
   refine bfe h (fun hc8 h=>?_) fun hc8 h=>?_
   ·refine wft hc8<|Qam<|thn<|wsq<|Qaq ?_
    obtain⟨x9,hg10,h⟩:=bno h
    obtain⟨hi11,hj12⟩:=gsm hg10
    obtain⟨ha13,h⟩:=cko h
    refine wy1 tbk [(3,rp _ _),(8,rp _ _),(13,rp _ _),(18,rp _ _),(21,rp _ _),(22,rp [(.tmp 32,(Q27 x9))] (.dat 4 (([x9]:List Qbg).map Qat))),(23,⟨[(.tmp 11,(.acc 0 107 4 (y3.map Qat))),(.tmp 33,(.dat 4 (([x9]:List Qbg).map Qat)))],[(0,.tok),(1,.unused)],(.acc 1 107 4 ((y3++([x9]):List Qbg).map Qat)),[(0,.dead),(1,.tok)],false⟩)] ⟨aiq underlying28 ti58 Qat hi11 hj12,aiq underlying28 ti58 Qat hi11 hj12,aiq underlying28 ti58 Qat hi11 hj12,aiq underlying28 ti58 Qat hi11 hj12,Qa6 (vs:=[I x9.Parent,I x9.Loss,I x9.Limit,I x9.Rank]) rfl Zf0 Q3t rfl (by rfl) rfl,Qcg (vs:=[(Q27 x9)]) rfl underlying55 Qm6 Q3t rfl (by decide) rfl (by decide) (by rfl) (by rfl) (by rfl) rfl,Qkj rfl underlying55 Zh4 (Base.acc _ _) rfl rfl (by rfl) (Qot Qat ha13) (Qos Qat ha13 (by decide)) (Qor Qat) rfl rfl,tv⟩<|bln<|thn<|wxz1<|thn ?_
    exact arm (mto (n:=36) [(0,(Qym p0)),(3,(.acc 1 107 4 ((y3++([x9]):List Qbg).map Qat))),(4,(I (w64 (y4+1))))] [1] [.tok] hq (pc (rnd Qbo) (pc (.rn (Qgc rfl (Qek Qbo _))) (pw pn))) (qc .tok qn)) (ih (y3++([x9]),w64 (y4+1)) h)
   ·exact wfn hc8<|Qb4<|Qa4<|Qa4<|Qb3 rfl<|thn<|⟨(y3),h,(mto (n:=36) [(3,(.acc 0 107 4 (y3.map Qat)))] [0] [.tok] hq (pc (.rn (Qgc rfl (Qek Qbo _))) pn) (qc .tok qn))⟩
def Qgb (N:Nat):Option Bool:=
  (Qhn N ([(⟨(-1),0,0,0⟩:Qbg)]) ([9])).bind fun x2=>
  bif (x2.2.2==0) then
   bif ((x2.1.length:Int)==1) then
    (getI x2.1 0).bind fun x5=>
    some (x5==9)
   else
    some false
  else
   some false
def Zap:AV:=.agg [(I ((-1))),(I (0)),(I (0)),(I (0))]
def Zfq:AV:=.dat 4 (([(⟨(-1),0,0,0⟩:Qbg)]:List Qbg).map Qat)
def Zfp:AV:=.dat 1 (([9]:List Int).map Qab)
def Q26 (x2:((List Int)×Int×Int)):List (Nat×Rec):=[(2,rp [((.tmp 13),(B ((x2.2.2==0))))] (B true)),(4,rp [((.tmp 14),(B true)),((.tmp 15),(.dat 1 (x2.1.map Qab)))] (I ((x2.1.length:Int))))]
theorem Qfq (N:Nat) (r:Bool) (h:Qgb N=some r):Spec prog 10 [] [] (B r) []:=by
  refine sA func10 0 fun _ _ _ hq hd0=>?_
  unfold Qgb at h
  refine wxz ?_
  obtain⟨x2,hf1,h⟩:=bno h
  refine wx tbk [(0,rp _ _),(1,rp [(.tmp 5,Zap)] Zfq),(2,rp [ci 9] Zfp),(3,rp _ _)] ⟨Qa6 (vs:=[(I ((-1)))]) rfl Zf0 Q3t rfl (by rfl) rfl,Qcg (vs:=[Zap]) rfl underlying55 Qm6 Q3t rfl (by decide) rfl (by decide) (by rfl) (by rfl) (by rfl) rfl,Qcg (vs:=[I 9]) rfl underlying29 ti3 tz3 rfl (by decide) rfl (by decide) (by rfl) (by rfl) (by rfl) rfl,apw Q5u (Ql1 N ([(⟨(-1),0,0,0⟩:Qbg)]) ([9]) _ hf1),tv⟩ ?_
  refine bfe h (fun hb3 h=>?_) fun hb3 h=>?_
  ·refine hpre (A:=(Q26 x2)) ⟨asb hb3 (amv rfl),ag_ (alq 1 Qab x2.1 underlying29),tv⟩ fun q1_=>?_
   refine bfe h (fun hb4 h=>?_) fun hb4 h=>?_
   ·obtain⟨x5,hg6,h⟩:=bno h
    obtain⟨hi7,hj8⟩:=gsm hg6
    refine wx tbk (hcat (Q26 x2) [(7,rp [(.tmp 18,(B (((x2.1.length:Int)==1))))] (B true)),(9,rp [(.tmp 19,B true),(.tmp 20,(.dat 1 (x2.1.map Qab))),ci 0] (.dptr (Qab x5) 0))]) (hap q1_ ⟨asb hb4 (amv rfl),ag_ (aiq underlying29 ti3 Qab hi7 hj8),tv⟩)<|Qad ?_
    obtain rfl:=osi h
    exact fend ⟨[(B ((x5==9)))],⟨rot,tv⟩,rfl⟩ nll
   ·exact wx tbk (hcat (Q26 x2) [(7,rp [(.tmp 18,(B (((x2.1.length:Int)==1))))] (B false))]) (hap q1_ ⟨asb hb4 (amv rfl),tv⟩)<|Qad<|frb h
  ·exact wx tbk [(2,rp [(.tmp 13,(B ((x2.2.2==0))))] (B false))] ⟨asb hb3 (amv rfl),tv⟩<|Qad<|frb h
def Qj2 (_N:Nat) (p0:List GRow) (p1 p2:Int):Option GNet:=
  some (⟨p0,[(⟨1,[],w64 ((p0.length:Int)-1),0,1000000,1,[]⟩:Qaj),(⟨4,[(⟨0,0⟩:Qkk)],p1,0,1000000,1,[]⟩:Qaj),(⟨3,[(⟨1,1⟩:Qkk)],0,p2,1000000,1,[]⟩:Qaj)]⟩:GNet)
def Zfo (p0:List GRow):AV:=.agg [(K .u8 (1)),nilS,(I (w64 ((p0.length:Int)-1))),(I (0)),(I (1000000)),(I (1)),nilS]
def Zao:AV:=.agg [(I (0)),(I (0))]
def Qyl:AV:=.dat 2 (([(⟨0,0⟩:Qkk)]:List Qkk).map Qfo)
def Zfn (p1:Int):AV:=.agg [(K .u8 (4)),Qyl,(I p1),(I (0)),(I (1000000)),(I (1)),nilS]
def Zan:AV:=.agg [(I (1)),(I (1))]
def Qyk:AV:=.dat 2 (([(⟨1,1⟩:Qkk)]:List Qkk).map Qfo)
def Zfm (p2:Int):AV:=.agg [(K .u8 (3)),Qyk,(I (0)),(I p2),(I (1000000)),(I (1)),nilS]
def Qsp (p0:List GRow) (p1 p2:Int):AV:=.dat 7 (([(⟨1,[],w64 ((p0.length:Int)-1),0,1000000,1,[]⟩:Qaj),(⟨4,[(⟨0,0⟩:Qkk)],p1,0,1000000,1,[]⟩:Qaj),(⟨3,[(⟨1,1⟩:Qkk)],0,p2,1000000,1,[]⟩:Qaj)]:List Qaj).map Qan)
def Q23:AV:=.dat 1 (([]:List Int).map Qab)
def Zam (p0:List GRow):AV:=.agg [(K .u8 (1)),(.dat 2 (([]:List Qkk).map Qfo)),(I (w64 ((p0.length:Int)-1))),(I (0)),(I (1000000)),(I (1)),Q23]
def Q25 (p1:Int):AV:=.agg [(K .u8 (4)),Qyl,(I p1),(I (0)),(I (1000000)),(I (1)),Q23]
def Q24 (p2:Int):AV:=.agg [(K .u8 (3)),Qyk,(I (0)),(I p2),(I (1000000)),(I (1)),Q23]
theorem Qsu (N:Nat) (p0:List GRow) (p1 p2:Int) (r:GNet) (h:Qj2 N p0 p1 p2=some r):Spec prog 11 [(.dat 5 (p0.map Qap)),(I p1),(I p2)] [] (.agg (Qnw r)) []:=by
  refine sA func11 0 fun _ _ _ hq hd0=>?_
  unfold Qj2 at h
  refine wxz<|wx tbk [(2,rp _ _),(4,rp _ _),(5,rp _ _),(6,rp [(.tmp 12,Zao)] Qyl),(8,rp _ _),(9,rp _ _),(10,rp [(.tmp 16,Zan)] Qyk),(12,rp _ _),(13,rp [(.tmp 11,(Zfo p0)),(.tmp 15,(Zfn p1)),(.tmp 19,(Zfm p2))] (Qsp p0 p1 p2)),(14,rp _ _)] ⟨alq 5 Qap p0 underlying36,Qa6 (vs:=[(K .u8 (1)),(I (w64 ((p0.length:Int)-1))),I 1000000,I 1]) rfl Zcb Q3s rfl (by rfl) rfl,Qa6 (vs:=[]) rfl Zfz Q3r rfl (by rfl) rfl,Qcg (vs:=[Zao]) rfl underlying108 Q3x Q3r rfl (by decide) rfl (by decide) (by rfl) (by rfl) (by rfl) rfl,Qa6 (vs:=[(K .u8 (4)),Qyl,I p1,I 1000000,I 1]) rfl Zcb Q3s rfl (by rfl) rfl,Qa6 (vs:=[I 1,I 1]) rfl Zfz Q3r rfl (by rfl) rfl,Qcg (vs:=[Zan]) rfl underlying108 Q3x Q3r rfl (by decide) rfl (by decide) (by rfl) (by rfl) (by rfl) rfl,Qa6 (vs:=[(K .u8 (3)),Qyk,I 0,I p2,I 1000000,I 1]) rfl Zcb Q3s rfl (by rfl) rfl,awk (rd':=[(.tmp 11,(Zam p0)),(.tmp 15,(Q25 p1)),(.tmp 19,(Q24 p2))]) ⟨rfl,(Less.agg ⟨lrf,Less.nil,lrf,lrf,lrf,lrf,Less.nil,tv⟩),rfl,(Less.agg ⟨lrf,lrf,lrf,lrf,lrf,lrf,Less.nil,tv⟩),rfl,(Less.agg ⟨lrf,lrf,lrf,lrf,lrf,lrf,Less.nil,tv⟩),tv⟩ (Qcg (vs:=[(Zam p0),(Q25 p1),(Q24 p2)]) rfl underlying37 Qj3 Q3s rfl (by decide) rfl (by decide) (by rfl) (by rfl) (by rfl) rfl),Qa6 (vs:=[(.dat 5 (p0.map Qap)),(Qsp p0 p1 p2)]) rfl ts39 tz39 rfl (by rfl) rfl,tv⟩<|Qad ?_
  obtain rfl:=osi h
  exact fie [(.agg [(.dat 5 (p0.map Qap)),(Qsp p0 p1 p2)])] ⟨Qbk (n:=0) (m:=2) (j:=0) (i:=0) (xs:=[[(.dat 5 (p0.map Qap)),(Qsp p0 p1 p2)]]) (by kernel_rfl) (by kernel_rfl) ti39 (by decide) rfl (nle rfl) rfl,tv⟩
end
section
theorem Qbb {x:Int}(h:-9223372036854775808≤x) (h':x≤9223372036854775807):w64 x=x:=by
 unfold w64
 rw[IntKind.wrap_i64]
 omega
theorem w64S {i:Nat}(h:(i:Int)+1≤9223372036854775807):w64 ((i:Int)+1)=((i+1:Nat):Int):=Qbb (by omega) h
theorem dlt {α:Type}{l q:List α}{x:α}{i m:Nat}(hd:l.drop i=x::q) (hd':l.drop (i+1)=q) (h:(l.drop i).length<m+1):(l.drop (i+1)).length<m:=by
 rw[hd']
 rw[hd] at h
 simp at h
 omega
theorem dlI {α:Type}{l:List α}{i:Nat}(h:i<l.length):decide ((i:Int)<(l.length:Int))=true:=by simpa using h
theorem Qcn {α:Type}{l:List α}{i:Nat}{x:α}(h:l[i]? = some x):getI l (i:Int)=some x:=by
 simp[getI,h]
def btw (a lo hi:Int):Bool:=decide (lo≤a)&&decide (a≤hi)
theorem Qc6 {a lo hi:Int}:btw a lo hi=true↔lo≤a∧a≤hi:=by simp[btw]
theorem Qoy (a b:Int):w64 (w64 a+b)=w64 (a+b):=by
 unfold w64
 rw[IntKind.wrap_i64,IntKind.wrap_i64,IntKind.wrap_i64]
 omega
theorem Q44:maxLen=9223372036854775807:=rfl
theorem Qnp {κ β:Type}(k:κ) (f:κ→Option β):Qb7 k f=f k:=by rw[Qb7]
def rowB (r:GRow):Bool:=btw r.T 0 400&&btw r.P 1 10000&&btw r.Liquid 0 4000&&btw r.Silica 0 2000&&decide (r.Liquid<r.Vapour)&&decide (r.Vapour≤4000)
def Q32 (o r:GRow):Bool:=decide (o.T<r.T)&&decide (o.P<r.P)&&decide (o.Liquid<r.Liquid)&&decide (o.Silica≤r.Silica)
def Qm7:List GRow→Bool
 |a::b::l=>Q32 a b&&Qm7 (b::l)
 |_=>true
def tabB (t:List GRow):Bool:=btw t.length 2 20&&t.all rowB&&Qm7 t
theorem Zgj (N:Nat) (a lo hi:Int):Qfz N a lo hi=some (btw a lo hi):=by
 unfold Qfz btw
 by_cases h:lo≤a<;>simp[h]
theorem Qjz (N:Nat) (a lo hi:Int):Qct N a lo hi=some (btw a lo hi):=by
 unfold Qct btw
 by_cases h:lo≤a<;>simp[h]
theorem Q93 (N:Nat) (r:GRow):Qfw N r=some (rowB r):=by
 unfold Qfw rowB
 simp only[Qjz,Option.bind_some]
 cases btw r.T 0 400<;>cases btw r.P 1 10000<;>cases btw r.Liquid 0 4000<;>cases btw r.Silica 0 2000<;>by_cases h:r.Liquid<r.Vapour<;>simp[h]
theorem Qc4 {α:Type}{t:List α}{i:Nat}{a:α}{l:List α}(h:t.drop i=a::l):t[i]? = some a∧t.drop (i+1)=l∧i<t.length:=by
 have hlt:i<t.length:=by
  rcases Nat.lt_or_ge i t.length with h' |h'
  ·exact h'
  ·rw[List.drop_eq_nil_of_le h'] at h;cases h
 rw[List.drop_eq_getElem_cons hlt] at h
 injection h with h1 h2
 exact⟨by rw[List.getElem?_eq_getElem hlt,h1],h2,hlt⟩
theorem Qdv {α:Type}{t:List α}{i:Nat}(h:t.drop i=[]):t.length≤i:=List.drop_eq_nil_iff.1 h
theorem Qxj (N:Nat) (t:List GRow) (k:Unit→Option Int) (hl:t.length≤1000):∀(n i:Nat),(t.drop i).length<n→i≤t.length →
  Qa0 N t k n i=bif (t.drop i).all rowB then k () else some ((i:Int)+((t.drop i).findIdx fun r=>!rowB r:Nat)):=by
 intro n
 induction n with
 |zero=>intro i h;omega
 |succ n ih=>
  intro i h hi
  unfold Qa0
  cases hd:t.drop i with
  |nil=>
   have:=Qdv hd
   rw[show(decide ((i:Int)<(t.length:Int)))=false by simp;omega]
   rfl
  |cons a l=>
   obtain⟨h1,h2,h3⟩:=Qc4 hd
   rw[show(decide ((i:Int)<(t.length:Int)))=true by simp;omega]
   simp only[cond_true,Qcn h1,Option.bind_some,Qea,Q93]
   cases hr:rowB a with
   |false=>simp[hr,List.findIdx_cons]
   |true=>
    have e:w64 ((i:Int)+1)=((i+1:Nat):Int):=by rw[Qbb]<;>omega
    rw[e]
    have:=ih (i+1) (by rw[h2];rw[hd] at h;simpa using h) (by omega)
    simp only[Bool.not_true,cond_false,this,h2,List.all_cons,hr,Bool.true_and,List.findIdx_cons]
    congr 2
    push_cast
    omega
theorem Q6o {N:Nat}{t:List GRow}(hl:t.length≤1000) (hN:1001≤N):Qd0 N t=some (t.all rowB):=by
 have:=Qxj N t (fun _=>some (-1)) hl N 0 (by simp;omega) (Nat.zero_le _)
 rw[show((0:Nat):Int)=0 from rfl,List.drop_zero] at this
 unfold Qd0 Qb5 Qcf Qb7
 dsimp only
 rw[this]
 cases h:t.all rowB with
 |true=>simp
 |false=>simp
theorem Q0o (N:Nat) (t:List GRow) (k:Unit→Option Bool) (hl:t.length≤1000):∀(n i:Nat),(t.drop i).length<n→i<t.length →
  Qcm N t k n i=bif Qm7 (t.drop i) then k () else some false:=by
 intro n
 induction n with
 |zero=>intro i h;omega
 |succ n ih=>
  intro i h hi
  unfold Qcm
  have hdr:∀x,(t.drop (1:Int).toNat)[i]? = some x↔t[i+1]? = some x:=fun x=>by
   rw[show(1:Int).toNat=1 from rfl,List.getElem?_drop,Nat.add_comm]
  have hlen:(t.drop (1:Int).toNat).length=t.length-1:=by simp
  cases hd:t.drop i with
  |nil=>have:=Qdv hd;omega
  |cons a l=>
   obtain⟨h1,h2,h3⟩:=Qc4 hd
   cases l with
   |nil=>
    have:=Qdv h2
    rw[show(decide ((i:Int)<((t.drop (1:Int).toNat).length:Int)))=false by rw[hlen];simp;omega]
    rfl
   |cons b l=>
    obtain⟨h4,h5,h6⟩:=Qc4 h2
    rw[show(decide ((i:Int)<((t.drop (1:Int).toNat).length:Int)))=true by rw[hlen];simp;omega]
    have e:w64 ((i:Int)+1)=((i+1:Nat):Int):=by rw[Qbb]<;>omega
    simp only[cond_true,Qcn ((hdr b).2 h4),Qcn h1,Option.bind_some,e]
    have:=ih (i+1) (by rw[h2];rw[hd] at h;simpa using h) (by omega)
    simp only[this,h2,Qm7,Q32]
    by_cases c1:b.T≤a.T
    ·simp[c1,Int.not_lt.2 c1]
    ·by_cases c2:b.P≤a.P
     ·simp[c1,c2,Int.not_lt.2 c2]
     ·by_cases c3:b.Liquid≤a.Liquid
      ·simp[c1,c2,c3,Int.not_lt.2 c3]
      ·by_cases c4:b.Silica<a.Silica
       ·simp[c1,c2,c3,c4,Int.not_le.2 c4]
       ·simp[c1,c2,c3,c4,Int.not_le.1 c1,Int.not_le.1 c2,Int.not_le.1 c3,Int.not_lt.1 c4]
theorem Qub {N:Nat}{t:List GRow}(hl:t.length≤1000) (hN:1001≤N):Qeb N t=some (tabB t):=by
 unfold Qeb tabB
 rw[Qjz,Q6o hl hN]
 cases hb:btw t.length 2 20 with
 |false=>rfl
 |true=>
  have h2:2≤t.length:=by simp[btw] at hb;omega
  cases ha:t.all rowB with
  |false=>rfl
  |true=>
   have:=Q0o N t (fun _=>some true) hl N 0 (by simp;omega) (by omega)
   rw[show((0:Nat):Int)=0 from rfl,List.drop_zero] at this
   simp only[Option.bind_some,Bool.not_true,cond_false,Qb7,Bool.true_and]
   rw[this]
   rw[show(decide ((1:Int)≤(t.length:Int)))=true by rw[decide_eq_true_eq];omega]
   cases Qm7 t<;>simp[chk]
def Qw5:Option GRow→List GRow→Bool
 |_,[]=>true
 |o,a::l=>rowB a&&(match o with |none=>true |some p=>Q32 p a)&&Qw5 (some a) l
theorem Qr4:∀(a:GRow) (l:List GRow),Qw5 (some a) l=(l.all rowB&&Qm7 (a::l))
 |_,[]=>rfl
 |a,b::l=>by
  rw[Qw5,Qr4 b l,List.all_cons,Qm7]
  cases rowB b<;>cases l.all rowB<;>cases Q32 a b<;>simp
theorem Q0w:∀(t:List GRow),Qw5 none t=(t.all rowB&&Qm7 t)
 |[]=>rfl
 |a::l=>by
  rw[Qw5,Qr4 a l,List.all_cons]
  cases rowB a<;>simp
theorem Qwr (N:Nat) (t:List GRow) (k:Unit→Option Bool) (hl:t.length≤9223372036854775807):∀(n i:Nat),(t.drop i).length<n→i≤t.length →
  Qdd N t k n i=bif Qw5 (if i=0 then none else t[i-1]?) (t.drop i) then k () else some false:=by
 intro n
 induction n with
 |zero=>intro i h;omega
 |succ n ih=>
  intro i h hi
  unfold Qdd
  cases hd:t.drop i with
  |nil=>
   have:=Qdv hd
   rw[show(decide ((i:Int)<(t.length:Int)))=false by simp;omega]
   rfl
  |cons a l=>
   obtain⟨h1,h2,h3⟩:=Qc4 hd
   rw[show(decide ((i:Int)<(t.length:Int)))=true by simp;omega]
   have e:w64 ((i:Int)+1)=((i+1:Nat):Int):=by rw[Qbb]<;>omega
   have:=ih (i+1) (by rw[h2];rw[hd] at h;simpa using h) (by omega)
   simp only[Nat.add_sub_cancel,Nat.succ_ne_zero,if_false,h1,h2] at this
   simp only[cond_true,Qcn h1,Option.bind_some,e,Zgj,this,Qw5,rowB,Qb7]
   cases btw a.T 0 400
   ·rfl
   cases btw a.P 1 10000
   ·rfl
   cases btw a.Liquid 0 4000
   ·rfl
   cases btw a.Silica 0 2000
   ·rfl
   by_cases c1:a.Vapour≤a.Liquid
   ·simp[c1,Int.not_lt.2 c1]
   by_cases c2:a.Vapour>4000
   ·simp[c1,c2,Int.not_le.2 c2]
   cases i with
   |zero=>simp[c1,c2,Int.not_le.1 c1,Int.not_lt.1 c2]
   |succ i=>
    have hp:t[i]? = some t[i]:=List.getElem?_eq_getElem (by omega)
    have e2:w64 (((i+1:Nat):Int)-1)=(i:Int):=by rw[Qbb]<;>omega
    have e3:(decide (((i+1:Nat):Int)>0))=true:=by rw[decide_eq_true_eq];omega
    generalize t[i]=b at hp
    simp only[Bool.not_true,cond_false,e3,cond_true,e2,Qcn hp,Option.bind_some,Nat.add_sub_cancel,hp,Q32,show ¬(i+1=0) by omega,if_false,decide_eq_false c1,decide_eq_false c2,decide_eq_true (Int.not_le.1 c1),decide_eq_true (Int.not_lt.1 c2),Bool.true_and]
    by_cases d1:a.T≤b.T
    ·simp[d1,Int.not_lt.2 d1]
    ·by_cases d2:a.P≤b.P
     ·simp[d1,d2,Int.not_lt.2 d2]
     ·by_cases d3:a.Liquid≤b.Liquid
      ·simp[d1,d2,d3,Int.not_lt.2 d3]
      ·by_cases d4:a.Silica<b.Silica
       ·simp[d1,d2,d3,d4,Int.not_le.2 d4]
       ·simp[d1,d2,d3,d4,Int.not_le.1 d1,Int.not_le.1 d2,Int.not_le.1 d3,Int.not_lt.1 d4]
theorem Q4b {N:Nat}{t:List GRow}(hl:t.length≤9223372036854775807) (hN:t.length<N):Qib N t=some (tabB t):=by
 have:=fun k=>Qwr N t k hl N 0 (by simp;omega) (Nat.zero_le _)
 unfold Qib Qb7 tabB
 rw[show((0:Nat):Int)=0 from rfl] at this
 dsimp only
 rw[this]
 simp only[List.drop_zero,if_true,Q0w,btw]
 by_cases h:(2:Int)≤t.length<;>cases t.all rowB<;>cases Qm7 t<;>simp[h]
theorem Q03 (N:Nat) (t:List GRow) (k:List GRow→Option (List GRow)) (hl:t.length≤1000):∀(n i:Nat) (acc:List GRow),(t.drop i).length<n→i≤t.length→acc.length=i →
  Qdu N t k n acc i=k (acc++t.drop i):=by
 intro n
 induction n with
 |zero=>intro i acc h;omega
 |succ n ih=>
  intro i acc h hi ha
  unfold Qdu
  cases hd:t.drop i with
  |nil=>
   have:=Qdv hd
   rw[show(decide ((i:Int)<(t.length:Int)))=false by simp;omega]
   simp
  |cons a l=>
   obtain⟨h1,h2,h3⟩:=Qc4 hd
   rw[show(decide ((i:Int)<(t.length:Int)))=true by simp;omega]
   have e:w64 ((i:Int)+1)=((i+1:Nat):Int):=by rw[Qbb]<;>omega
   have hc:decide ((acc.length+[a].length)*40≤140737488355328)=true:=by simp;omega
   simp only[cond_true,Qcn h1,Option.bind_some,e,hc,chk]
   rw[ih (i+1) _ (by rw[h2];rw[hd] at h;simpa using h) (by omega) (by simp[ha]),h2]
   simp
theorem Q7p {N:Nat}{t:List GRow}(hl:t.length≤1000) (hN:1001≤N):Qie N t=some t:=by
 have:=Q03 N t (fun y=>some y) hl N 0 [] (by simp;omega) (Nat.zero_le _) rfl
 rw[show((0:Nat):Int)=0 from rfl] at this
 unfold Qie Qb7
 dsimp only
 rw[this]
 simp
theorem Q0m (N:Nat) (s:Qaa):Qiq N s=some s:=rfl
def strB (s:Qaa):Bool:=btw s.Mass 0 1000000&&btw s.Heat 0 (4000*s.Mass)&&btw s.Silica 0 (10000*s.Mass)&&btw s.Gas 0 1000000000
theorem Qpl {s:Qaa}(h:btw s.Mass 0 1000000=true):w64 (4000*s.Mass)=4000*s.Mass∧w64 (10000*s.Mass)=10000*s.Mass:=by
 simp only[btw,Bool.and_eq_true,decide_eq_true_eq] at h
 exact⟨Qbb (by omega) (by omega),Qbb (by omega) (by omega)⟩
theorem Q4c (N:Nat) (s:Qaa):Qe7 N s=some (strB s):=by
 unfold Qe7 strB
 simp only[Zgj,Option.bind_some]
 cases h:btw s.Mass 0 1000000 with
 |false=>rfl
 |true=>
  rw[(Qpl h).1,(Qpl h).2]
  cases btw s.Heat 0 (4000*s.Mass)<;>cases btw s.Silica 0 (10000*s.Mass)<;>cases btw s.Gas 0 1000000000<;>rfl
theorem Qpi (N:Nat) (s:Qaa):Qc2 N s=some (strB s):=by
 unfold Qc2 strB
 simp only[Qjz,Option.bind_some]
 cases h:btw s.Mass 0 1000000 with
 |false=>rfl
 |true=>
  rw[(Qpl h).1,(Qpl h).2]
  cases btw s.Heat 0 (4000*s.Mass)<;>cases btw s.Silica 0 (10000*s.Mass)<;>cases btw s.Gas 0 1000000000<;>rfl
structure RowV (r:GRow):Prop where
 l0:0≤r.Liquid
 l1:r.Liquid≤4000
 lv:r.Liquid<r.Vapour
 v1:r.Vapour≤4000
 s0:0≤r.Silica
 s1:r.Silica≤2000
theorem Zci {r:GRow}(h:rowB r=true):RowV r:=by
 simp[rowB,btw] at h
 exact⟨by omega,by omega,by omega,by omega,by omega,by omega⟩
structure StrV (s:Qaa):Prop where
 m0:0≤s.Mass
 m1:s.Mass≤1000000
 h0:0≤s.Heat
 h1:s.Heat≤4000*s.Mass
 s0:0≤s.Silica
 s1:s.Silica≤10000*s.Mass
 g0:0≤s.Gas
 g1:s.Gas≤1000000000
theorem Qjk {s:Qaa}:strB s=true↔StrV s:=by
 simp only[strB,btw,Bool.and_eq_true,decide_eq_true_eq]
 exact⟨fun h=>⟨by omega,by omega,by omega,by omega,by omega,by omega,by omega,by omega⟩,fun h=>by obtain⟨_,_,_,_,_,_,_,_⟩:=h;omega⟩
theorem bdp {x y a b:Int}(hx:0≤x) (hx':x≤a) (hy:0≤y) (hy':y≤b) (ha:0≤a):0≤x*y∧x*y≤a*b:=
 ⟨Int.mul_nonneg hx hy,Int.mul_le_mul hx' hy' hy ha⟩
def stm (r:GRow) (s:Qaa):Int:=
 if s.Heat-s.Mass*r.Liquid≤0 then 0 else if s.Mass*r.Vapour≤s.Heat then s.Mass else(s.Heat-s.Mass*r.Liquid).tdiv (r.Vapour-r.Liquid)
def flG (r:GRow) (s:Qaa):Qf1:=
 if stm r s=0 then⟨⟨0,0,0,0⟩,⟨s.Mass,s.Heat,min (s.Mass*r.Silica) s.Silica,s.Gas⟩,if 0<s.Mass then max (s.Heat-s.Mass*r.Liquid) 0 else 0,s.Silica-min (s.Mass*r.Silica) s.Silica⟩
 else if stm r s=s.Mass then⟨⟨s.Mass,s.Heat,0,s.Gas⟩,⟨0,0,0,0⟩,0,s.Silica⟩
 else⟨⟨stm r s,stm r s*r.Vapour,0,s.Gas⟩,⟨s.Mass-stm r s,s.Heat-stm r s*r.Vapour,min ((s.Mass-stm r s)*r.Silica) s.Silica,0⟩,s.Heat-stm r s*r.Vapour-(s.Mass-stm r s)*r.Liquid,s.Silica-min ((s.Mass-stm r s)*r.Silica) s.Silica⟩
theorem Qp4 {r:GRow}{s:Qaa}(hr:RowV r) (hs:StrV s) :
  (s.Heat-s.Mass*r.Liquid≤0∧stm r s=0) ∨
  (0<s.Heat-s.Mass*r.Liquid∧s.Mass*r.Vapour≤s.Heat∧stm r s=s.Mass∧0<s.Mass) ∨
  (0<s.Heat-s.Mass*r.Liquid∧s.Heat<s.Mass*r.Vapour∧stm r s=(s.Heat-s.Mass*r.Liquid).tdiv (r.Vapour-r.Liquid)∧0≤stm r s∧stm r s<s.Mass∧stm r s*(r.Vapour-r.Liquid)≤s.Heat-s.Mass*r.Liquid∧s.Heat-s.Mass*r.Liquid<stm r s*(r.Vapour-r.Liquid)+(r.Vapour-r.Liquid)):=by
 obtain⟨l0,l1,lv,v1,s0,s1⟩:=hr
 obtain⟨m0,m1,h0,h1,_,_,_,_⟩:=hs
 by_cases c1:s.Heat-s.Mass*r.Liquid≤0
 ·exact .inl ⟨c1,by unfold stm;rw[if_pos c1]⟩
 ·by_cases c2:s.Mass*r.Vapour≤s.Heat
  ·refine .inr (.inl ⟨by omega,c2,by unfold stm;rw[if_neg c1,if_pos c2],?_⟩)
   rcases Int.lt_or_eq_of_le m0 with h |h
   ·exact h
   ·rw[←h] at h1 c1
    simp at h1 c1
    omega
  ·have e:stm r s=(s.Heat-s.Mass*r.Liquid).tdiv (r.Vapour-r.Liquid):=by unfold stm;rw[if_neg c1,if_neg c2]
   have e2:stm r s=(s.Heat-s.Mass*r.Liquid)/(r.Vapour-r.Liquid):=by rw[e,Int.tdiv_eq_ediv_of_nonneg (by omega)]
   have d0:0<r.Vapour-r.Liquid:=by omega
   have q1:=Int.ediv_mul_le (s.Heat-s.Mass*r.Liquid) (b:=r.Vapour-r.Liquid) (by omega)
   have q2:=Int.lt_mul_ediv_self_add (x:=s.Heat-s.Mass*r.Liquid) (k:=r.Vapour-r.Liquid) d0
   have q3:0≤stm r s:=by rw[e2];exact Int.ediv_nonneg (by omega) (by omega)
   rw[←e2] at q1 q2
   rw[Int.mul_comm (r.Vapour-r.Liquid)] at q2
   refine .inr (.inr ⟨by omega,by omega,e,q3,?_,q1,q2⟩)
   rw[e2]
   refine Int.ediv_lt_of_lt_mul d0 ?_
   rw[Int.mul_sub]
   omega
structure Zih (r:GRow) (s:Qaa):Prop where
 a:w64 (s.Mass*r.Liquid)=s.Mass*r.Liquid
 b:w64 (s.Heat-s.Mass*r.Liquid)=s.Heat-s.Mass*r.Liquid
 c:w64 (s.Mass*r.Vapour)=s.Mass*r.Vapour
 d:w64 (r.Vapour-r.Liquid)=r.Vapour-r.Liquid
theorem Zb6 {r:GRow}{s:Qaa}(hr:RowV r) (hs:StrV s):Zih r s:=by
 obtain⟨l0,l1,lv,v1,s0,s1⟩:=hr
 obtain⟨m0,m1,h0,h1,_,_,_,_⟩:=hs
 have p1:=bdp m0 m1 l0 l1 (by omega)
 have p2:=bdp (y:=r.Vapour) m0 m1 (by omega) v1 (by omega)
 exact⟨Qbb (by omega) (by omega),Qbb (by omega) (by omega),Qbb (by omega) (by omega),Qbb (by omega) (by omega)⟩
theorem Q7r (N:Nat) {r:GRow}{s:Qaa}(hr:RowV r) (hs:StrV s):Qe2 N ⟨r⟩ s=some (stm r s):=by
 obtain⟨wa,wb,wc,wd⟩:=Zb6 hr hs
 have hlv:=hr.lv
 have hd:((r.Vapour-r.Liquid) != 0)=true:=by simp;omega
 have hs':=hs
 obtain⟨m0,m1,h0,h1,_,_,_,_⟩:=hs'
 unfold Qe2
 simp only[wa,wb,wc,wd,Option.bind_some,hd,chk,cond_true]
 rcases Qp4 hr hs with ⟨a,b⟩ |⟨a,b,c,d⟩ |⟨a,b,c,d,e,_,_⟩
 ·rw[decide_eq_true a,b];rfl
 ·rw[decide_eq_false (show ¬s.Heat-s.Mass*r.Liquid≤0 by omega),decide_eq_true (show s.Heat≥s.Mass*r.Vapour from b),c];rfl
 ·rw[decide_eq_false (show ¬s.Heat-s.Mass*r.Liquid≤0 by omega),decide_eq_false (show ¬s.Heat≥s.Mass*r.Vapour by omega),←c,Qbb (by omega) (by omega)];rfl
theorem Zid (N:Nat) {r:GRow}{s:Qaa}(hr:RowV r) (hs:StrV s):Qff N ⟨r⟩ s=some (flG r s):=by
 have hw:=Zb6 hr hs
 have hc:=Qp4 hr hs
 have he:=Q7r N hr hs
 obtain⟨l0,l1,lv,v1,s0,s1⟩:=hr
 obtain⟨m0,m1,h0,h1,q0,q1,_,_⟩:=hs
 unfold Qff
 have:(⟨⟨r.T,r.P,r.Liquid,r.Vapour,r.Silica⟩⟩:Qjo)=⟨r⟩:=rfl
 dsimp only at this ⊢
 rw[he]
 have p1:=bdp m0 m1 s0 s1 (by omega)
 simp only[Option.bind_some,Qb7]
 unfold flG
 generalize hm:stm r s=m at *
 by_cases z:m=0
 ·subst z
  rw[if_pos rfl,hw.a,Qbb (x:=s.Mass*r.Silica) (by omega) (by omega),hw.b]
  simp only[beq_self_eq_true,cond_true]
  have:w64 (s.Silica-(if s.Mass*r.Silica<s.Silica then s.Mass*r.Silica else s.Silica))=s.Silica-min (s.Mass*r.Silica) s.Silica:=by
   rw[Qbb]<;>(repeat split)<;>omega
  rw[this]
  by_cases c:0<s.Mass
  ·rw[decide_eq_true (show s.Mass>0 from c),if_pos c]
   simp only[cond_true]
   congr 2
   ·congr 1;split<;>omega
   ·split<;>omega
  ·rw[decide_eq_false (show ¬s.Mass>0 from c),if_neg c]
   simp only[cond_false]
   congr 2
   congr 1;split<;>omega
 ·have z1:(m==0)=false:=by simpa using z
  rw[if_neg z,z1]
  by_cases f:m=s.Mass
  ·have f1:(m==s.Mass)=true:=by simpa using f
   rw[f1,if_pos f]
   have:w64 (0*r.Silica)=0:=by rw[Int.zero_mul];rfl
   simp only[cond_false,cond_true,this]
   have:w64 (s.Silica-(if 0<s.Silica then 0 else s.Silica))=s.Silica:=by rw[Qbb]<;>split<;>omega
   rw[this]
   simp only[show decide ((0:Int)>0)=false from rfl,cond_false]
   congr 2
   ·rw[f]
   ·congr 1;split<;>omega
  ·have f1:(m==s.Mass)=false:=by simpa using f
   rw[f1,if_neg f]
   rcases hc with ⟨a,b⟩ |⟨a,b,c,d⟩ |⟨a,b,c,d,e,g1,g2⟩
   ·exact absurd b z
   ·exact absurd c f
   ·have k1:=bdp d (show m≤1000000 by omega) (show 0≤r.Vapour by omega) v1 (by omega)
    have k2:=bdp (show 0≤s.Mass-m by omega) (show s.Mass-m≤1000000 by omega) s0 s1 (by omega)
    have k3:=bdp (show 0≤s.Mass-m by omega) (show s.Mass-m≤1000000 by omega) l0 l1 (by omega)
    rw[Int.mul_sub] at g1
    have k4:0≤s.Heat-m*r.Vapour-(s.Mass-m)*r.Liquid:=by rw[Int.sub_mul];omega
    simp only[cond_false]
    rw[Qbb (x:=s.Mass-m) (by omega) (by omega),Qbb (x:=m*r.Vapour) (by omega) (by omega),Qbb (x:=s.Heat-m*r.Vapour) (by omega) (by omega),Qbb (x:=(s.Mass-m)*r.Silica) (by omega) (by omega),Qbb (x:=(s.Mass-m)*r.Liquid) (by omega) (by omega),Qbb (x:=s.Heat-m*r.Vapour-(s.Mass-m)*r.Liquid) (by omega) (by omega),decide_eq_true (show s.Mass-m>0 by omega)]
    have:w64 (s.Silica-(if (s.Mass-m)*r.Silica<s.Silica then(s.Mass-m)*r.Silica else s.Silica))=s.Silica-min ((s.Mass-m)*r.Silica) s.Silica:=by
     rw[Qbb]<;>(repeat split)<;>omega
    rw[this]
    simp only[cond_true]
    congr 2
    ·congr 1;split<;>omega
    ·split<;>omega
structure Zg6 (s:Qaa) (p:Qf1):Prop where
 st:StrV p.Steam
 wa:StrV p.Water
 km:p.Steam.Mass+p.Water.Mass=s.Mass
 kh:p.Steam.Heat+p.Water.Heat=s.Heat
 ks:p.Water.Silica+p.Scale=s.Silica
 kg:p.Steam.Gas+p.Water.Gas=s.Gas
 z:p.Steam.Silica=0
 sc:0≤p.Scale
theorem Qth {r:GRow}{s:Qaa}(hr:RowV r) (hs:StrV s):Zg6 s (flG r s):=by
 have hc:=Qp4 hr hs
 obtain⟨l0,l1,lv,v1,s0,s1⟩:=hr
 obtain⟨m0,m1,h0,h1,q0,q1,y0,y1⟩:=hs
 have p1:=bdp m0 m1 s0 s1 (by omega)
 unfold flG
 by_cases z:stm r s=0
 ·rw[if_pos z]
  refine⟨⟨?_,?_,?_,?_,?_,?_,?_,?_⟩,⟨?_,?_,?_,?_,?_,?_,?_,?_⟩,?_,?_,?_,?_,?_,?_⟩<;>dsimp only<;>omega
 ·rw[if_neg z]
  by_cases f:stm r s=s.Mass
  ·rw[if_pos f]
   refine⟨⟨?_,?_,?_,?_,?_,?_,?_,?_⟩,⟨?_,?_,?_,?_,?_,?_,?_,?_⟩,?_,?_,?_,?_,?_,?_⟩<;>dsimp only<;>omega
  ·rw[if_neg f]
   rcases hc with ⟨a,b⟩ |⟨a,b,c,d⟩ |⟨a,b,c,d,e,g1,g2⟩
   ·exact absurd b z
   ·exact absurd c f
   ·generalize stm r s=m at *
    have k1:=bdp d (show m≤1000000 by omega) (show 0≤r.Vapour by omega) v1 (by omega)
    have k2:=bdp (show 0≤s.Mass-m by omega) (show s.Mass-m≤1000000 by omega) s0 s1 (by omega)
    have k5:m*r.Vapour≤m*4000:=Int.mul_le_mul_of_nonneg_left v1 d
    have k6:(s.Mass-m)*r.Silica≤(s.Mass-m)*2000:=Int.mul_le_mul_of_nonneg_left s1 (by omega)
    have k7:(s.Mass-m-1)*(r.Vapour-r.Liquid)≥0:=Int.mul_nonneg (by omega) (by omega)
    have k8:(s.Mass-m)*r.Vapour≤(s.Mass-m)*4000:=Int.mul_le_mul_of_nonneg_left v1 (by omega)
    have k9:0≤s.Mass*r.Liquid-m*r.Liquid:=by rw[←Int.sub_mul];exact Int.mul_nonneg (by omega) l0
    simp only[Int.mul_sub,Int.sub_mul,Int.one_mul] at g1 g2 k7 k8 k6 k2
    refine⟨⟨?_,?_,?_,?_,?_,?_,?_,?_⟩,⟨?_,?_,?_,?_,?_,?_,?_,?_⟩,?_,?_,?_,?_,?_,?_⟩<;>dsimp only<;>(try simp only[Int.sub_mul])<;>omega
theorem Qyy {t:List GRow}(ht:tabB t=true) {l:Int}(h:btw l 0 (t.length-1)=true):getI t l=some ((getI t l).getD ⟨0,0,0,0,0⟩)∧RowV ((getI t l).getD ⟨0,0,0,0,0⟩):=by
 simp only[btw,Bool.and_eq_true,decide_eq_true_eq] at h
 have hi:l.toNat<t.length:=by omega
 have e:getI t l=some t[l.toNat]:=by unfold getI;rw[if_pos h.1,List.getElem?_eq_getElem hi]
 rw[e]
 refine⟨rfl,?_⟩
 simp only[tabB,Bool.and_eq_true] at ht
 exact Zci (List.all_eq_true.1 ht.1.2 _ (List.getElem_mem hi))
def Zcp:Qf1:=⟨⟨0,0,0,0⟩,⟨0,0,0,0⟩,0,0⟩
def Qzi (t:List GRow) (l:Int) (s:Qaa):Qf1×Int:=
 bif !tabB t then(Zcp,1) else bif !btw l 0 (t.length-1) then(Zcp,2) else bif !strB s then(Zcp,1) else(flG ((getI t l).getD ⟨0,0,0,0,0⟩) s,0)
theorem Q8e {N:Nat}(hN:1001≤N) {t:List GRow}(ht:t.length≤1000) (l:Int) (s:Qaa):Qh1 N t l s=some (Qzi t l s):=by
 have e0:w64 ((t.length:Int)-1)=(t.length:Int)-1:=by rw[Qbb]<;>omega
 unfold Qh1 Qzi
 rw[Qub ht hN]
 cases hT:tabB t with
 |false=>rfl
 |true=>
  simp only[Option.bind_some,Bool.not_true,cond_false,Qgp,Qjz,e0,Qpi]
  cases h1:btw l 0 ((t.length:Int)-1) with
  |false=>rfl
  |true=>
   cases h2:strB s with
   |false=>rfl
   |true=>
    obtain⟨g1,g2⟩:=Qyy hT h1
    simp only[Bool.not_true,cond_false,Qg4]
    rw[g1]
    simp only[Option.getD_some,Option.bind_some]
    generalize (getI t l).getD ⟨0,0,0,0,0⟩=r at g2
    have ho:Qff N ⟨⟨r.T,r.P,r.Liquid,r.Vapour,r.Silica⟩⟩ s=some (flG r s):=Zid N g2 (Qjk.1 h2)
    rw[ho]
    rfl
end
section
theorem Qvf {α:Type}{F:Nat→Int→Option Int}{p:List α}{q:α→Option Bool}{b:α→Bool}{k:Unit→Option Int}
  (h:∀n y,F (n+1) y=bif decide (y<(p.length:Int)) then(getI p y).bind fun x=>(q x).bind fun c=>bif c then some y else F n (w64 (y+1)) else k ())
  (hq:∀x,q x=some (b x)) (hk:k ()=some (-1)) (hl:p.length≤1000000):∀(n i:Nat),(p.drop i).length<n→(F n i).bind (fun x=>some (decide (x≥0)))=some ((p.drop i).any b):=by
 intro n
 induction n with
 |zero=>intro i h;cases h
 |succ n ih=>
  intro i hn
  rw[h]
  cases hd:p.drop i with
  |nil=>
   have:=Qdv hd
   rw[show decide ((i:Int)<(p.length:Int))=false by simp;omega,cond_false,hk]
   rfl
  |cons a l=>
   obtain⟨h1,h2,h3⟩:=Qc4 hd
   rw[show decide ((i:Int)<(p.length:Int))=true by simp;omega,cond_true,Qcn h1,Option.bind_some,hq,Option.bind_some]
   cases hb:b a with
   |true=>simp[hb]
   |false=>
    rw[cond_false,show w64 ((i:Int)+1)=((i+1:Nat):Int) by rw[Qbb]<;>omega,ih (i+1) (by rw[h2];rw[hd] at hn;simp at hn;omega),h2]
    simp[hb]
theorem Qgy {α:Type}{F:Nat→Int→Option Int}{p:List α}{q:α→Option Bool}{b:α→Bool}{k:Unit→Option Int}{N:Nat}
  (h:∀n y,F (n+1) y=bif decide (y<(p.length:Int)) then(getI p y).bind fun x=>(q x).bind fun c=>bif c then some y else F n (w64 (y+1)) else k ())
  (hq:∀x,q x=some (b x)) (hk:k ()=some (-1)) (hl:p.length≤1000000) (hN:p.length<N):(F N 0).bind (fun x=>some (decide (x≥0)))=some (p.any b):=by
 have:=Qvf h hq hk hl N 0 (by simpa using hN)
 simpa using this
theorem Qis (N:Nat) (a lo hi:Int):Qck N a lo hi=some (btw a lo hi):=by
 unfold Qck btw
 by_cases h:lo≤a<;>simp[h]
theorem Qre {α:Type}(l:List α) (b:α→Bool):(!l.any fun x=>!b x)=l.all b:=by
 induction l with
 |nil=>rfl
 |cons a l ih=>simp only[List.any_cons,List.all_cons,Bool.not_or,Bool.not_not,ih]
def wtsB (w:List Int):Bool:=btw w.length 1 20&&(w.all (fun x=>btw x 0 1000)&&w.any fun x=>decide (x>0))
def outl (x:Qaj):Int:=if x.Kind=4 then 2 else if x.Kind=5 then x.Weights.length else 1
def Qgz (x:Qaj):Bool:=
 btw x.Kind 1 6&&btw x.Wide 0 1000000&&btw x.Narrow 1 1000000000&&btw x.From.length (if x.Kind=1 then 0 else 1) (if x.Kind=1 then 0 else if x.Kind=2 then 6 else 1) &&
 btw x.Amount 0 (if x.Kind=3 then 1000000000 else if x.Kind=4 then 1000 else 0)&&(if x.Kind=5 then wtsB x.Weights else decide (x.Weights.length=0))
theorem Zd9 {N:Nat}{w:List Int}(hl:w.length≤1000) (hN:1001≤N):Qfl N w=some (w.all fun x=>btw x 0 1000):=by
 have hc:Qcr N w=some (w.any fun x=>!btw x 0 1000):=by
  unfold Qcr Qdt Qb7
  refine Qgy (F:=Qbx N w fun _=>some (-1)) (k:=fun _=>some (-1)) (q:=Qfk N) (fun n y=>rfl) (fun x=>?_) rfl (by omega) (by omega)
  simp only[Qfk,Qe9,Qis,Option.bind_some]
 unfold Qfl
 rw[hc,Option.bind_some,Qre]
theorem Zd8 {N:Nat}{w:List Int}(hl:w.length≤1000) (hN:1001≤N):Qca N w=some (w.any fun x=>decide (x>0)):=by
 unfold Qca Qds Qb7
 exact Qgy (F:=Qbw N w fun _=>some (-1)) (k:=fun _=>some (-1)) (q:=Qe8 N) (fun n y=>rfl) (fun x=>rfl) rfl (by omega) (by omega)
theorem Q6n {N:Nat}{x:Qaj}(hw:x.Weights.length≤1000) (hN:1001≤N):Qeu N x=some (Qgz x):=by
 have key:∀(a b:Int),(bif ((x.From.length:Int) != a) then some false else
   (Qck N x.Amount 0 b).bind fun x16=>bif (!x16) then some false else(Qck N x.Wide 0 1000000).bind fun x19=>bif (!x19) then some false else
    (Qck N x.Narrow 1 1000000000).bind fun x22=>bif (!x22) then some false else
    bif (x.Kind != 5) then some ((x.Weights.length:Int)==0) else(Qck N (x.Weights.length:Int) 1 20).bind fun x7=>bif x7 then(Qfl N x.Weights).bind fun x10=>
    bif x10 then(Qca N x.Weights).bind fun x13=>some x13 else some false else some false) =
   some (decide ((x.From.length:Int)=a)&&btw x.Amount 0 b&&btw x.Wide 0 1000000&&btw x.Narrow 1 1000000000&&(if x.Kind=5 then wtsB x.Weights else decide (x.Weights.length=0))):=fun a b=>by
  simp only[Qis,Zd9 hw hN,Zd8 hw hN,Option.bind_some]
  by_cases h1:(x.From.length:Int)=a
  ·rw[show((x.From.length:Int) != a)=false by simpa using h1,cond_false,decide_eq_true h1]
   cases btw x.Amount 0 b<;>cases btw x.Wide 0 1000000<;>cases btw x.Narrow 1 1000000000<;>simp only[Bool.not_true,Bool.not_false,cond_true,cond_false,Bool.and_true,Bool.true_and,Bool.false_and,Bool.and_false]
   by_cases h5:x.Kind=5
   ·rw[show(x.Kind != 5)=false by simpa using h5,if_pos h5,wtsB]
    cases btw x.Weights.length 1 20<;>cases (x.Weights.all fun x=>btw x 0 1000)<;>cases (x.Weights.any fun x=>decide (x>0))<;>rfl
   ·rw[show(x.Kind != 5)=true by simpa using h5,if_neg h5,cond_true]
    congr 1
    by_cases h0:x.Weights.length=0
    ·rw[h0];rfl
    ·rw[decide_eq_false h0,beq_eq_false_iff_ne];omega
  ·rw[show((x.From.length:Int) != a)=true by simpa using h1,cond_true,decide_eq_false h1]
   simp
 unfold Qeu Qgz
 simp only[Qb7]
 simp only[key]
 have hkd:∀a b:Int,decide (((x.From.length:Int))=a)=btw x.From.length a a:=fun a _=>by
  unfold btw
  by_cases h:(x.From.length:Int)=a
  ·rw[h];simp
  ·rw[decide_eq_false h]
   symm
   rw[Bool.and_eq_false_iff,decide_eq_false_iff_not,decide_eq_false_iff_not];omega
 have fin:∀(a b c d e:Bool),some (a&&b&&c&&d&&e)=some (true&&c&&d&&a&&b&&e):=by
  intro a b c d e;cases a<;>cases b<;>cases c<;>cases d<;>rfl
 by_cases h1:x.Kind=1
 ·rw[h1]
  simp only[beq_self_eq_true,cond_true,hkd 0 0]
  exact fin _ _ _ _ _
 ·have b1:(x.Kind==1)=false:=by simpa using h1
  by_cases h2:x.Kind=2
  ·rw[h2]
   have e:∀c:Int,decide (((x.From.length:Int))=(if (if (6:Int)<x.From.length then 6 else(x.From.length:Int))>1 then(if (6:Int)<x.From.length then 6 else(x.From.length:Int)) else 1))=btw x.From.length 1 6:=fun _=>by
    unfold btw
    by_cases h6:(6:Int)<x.From.length
    ·rw[if_pos h6,if_pos (by decide),decide_eq_false (by omega)]
     symm;rw[Bool.and_eq_false_iff,decide_eq_false_iff_not,decide_eq_false_iff_not];omega
    ·rw[if_neg h6]
     by_cases h7:(x.From.length:Int)>1
     ·rw[if_pos h7];simp;omega
     ·rw[if_neg h7]
      by_cases h8:(x.From.length:Int)=1
      ·rw[h8];rfl
      ·rw[decide_eq_false h8]
       symm;rw[Bool.and_eq_false_iff,decide_eq_false_iff_not,decide_eq_false_iff_not];omega
   simp only[show((2:Int)==1)=false from rfl,beq_self_eq_true,cond_true,cond_false,Option.bind_some,e 0]
   exact fin _ _ _ _ _
  ·have b2:(x.Kind==2)=false:=by simpa using h2
   by_cases h3:x.Kind=3
   ·rw[h3]
    simp only[show((3:Int)==1)=false from rfl,show((3:Int)==2)=false from rfl,beq_self_eq_true,cond_true,cond_false,hkd 1 0]
    exact fin _ _ _ _ _
   ·have b3:(x.Kind==3)=false:=by simpa using h3
    by_cases h4:x.Kind=4
    ·rw[h4]
     simp only[show((4:Int)==1)=false from rfl,show((4:Int)==2)=false from rfl,show((4:Int)==3)=false from rfl,beq_self_eq_true,cond_true,cond_false,hkd 1 0]
     exact fin _ _ _ _ _
    ·have b4:(x.Kind==4)=false:=by simpa using h4
     by_cases h5:x.Kind=5
     ·rw[h5]
      simp only[show((5:Int)==1)=false from rfl,show((5:Int)==2)=false from rfl,show((5:Int)==3)=false from rfl,show((5:Int)==4)=false from rfl,beq_self_eq_true,cond_true,cond_false,hkd 1 0]
      exact fin _ _ _ _ _
     ·have b5:(x.Kind==5)=false:=by simpa using h5
      by_cases h6:x.Kind=6
      ·rw[h6]
       simp only[show((6:Int)==1)=false from rfl,show((6:Int)==2)=false from rfl,show((6:Int)==3)=false from rfl,show((6:Int)==4)=false from rfl,show((6:Int)==5)=false from rfl,beq_self_eq_true,cond_true,cond_false,hkd 1 0]
       exact fin _ _ _ _ _
      ·have b6:(x.Kind==6)=false:=by simpa using h6
       simp only[b1,b2,b3,b4,b5,b6,cond_false]
       have:btw x.Kind 1 6=false:=by
        unfold btw
        rw[Bool.and_eq_false_iff,decide_eq_false_iff_not,decide_eq_false_iff_not];omega
       rw[this];simp
theorem Q3z {w:List Int}(h:∀x∈w,0≤x):0≤w.sum∧(w.sum>0↔∃x∈w,x>0):=by
 induction w with
 |nil=>simp
 |cons a l ih=>
  obtain⟨h1,h2⟩:=ih fun x hx=>h x (List.mem_cons_of_mem _ hx)
  have ha:=h a List.mem_cons_self
  simp only[List.sum_cons,List.mem_cons,exists_eq_or_imp]
  refine⟨by omega,⟨fun hs=>?_,fun hs=>?_⟩⟩
  ·by_cases h3:a>0
   ·exact .inl h3
   ·exact .inr (h2.1 (by omega))
  ·rcases hs with hs |hs
   ·omega
   ·have:=h2.2 hs;omega
theorem Zcr (N:Nat) (x:Qaj):Qd9 N x=some (outl x):=by
 unfold Qd9 outl
 by_cases h4:x.Kind=4
 ·rw[h4];rfl
 ·by_cases h5:x.Kind=5
  ·rw[h5];rfl
  ·rw[show(x.Kind==4)=false by simpa using h4,show(x.Kind==5)=false by simpa using h5,if_neg h4,if_neg h5];rfl
end
section
def pq (p:Qkk):Int×Int:=(p.Element,p.Outlet)
def Qqe (els:List Qaj) (i:Nat) (lv:Int) (u:List (Int×Int)) (p:Qkk):Bool:=
 btw p.Element 0 ((i:Int)-1)&&(match getI els p.Element with |some y=>btw p.Outlet 0 (outl y-1)&&decide (lv≤y.Level) |none=>false)&&!u.contains (pq p)
def Qkq (els:List Qaj) (i:Nat) (lv:Int):List (Int×Int)→List Qkk→Bool
 |_,[]=>true
 |u,p::l=>Qqe els i lv u p&&Qkq els i lv (u++[pq p]) l
def Qtm (n:Int) (els:List Qaj):Nat→List (Int×Int)→List Qaj→Bool
 |_,_,[]=>true
 |i,u,x::l=>btw x.Level 0 (n-1)&&Qkq els i x.Level u x.From&&Qtm n els (i+1) (u++x.From.map pq) l
def netB (n:GNet):Bool:=tabB n.Table&&btw n.Elements.length 1 16&&n.Elements.all Qgz&&Qtm n.Table.length n.Elements 0 [] n.Elements
structure Qrr (n:GNet):Prop where
 t:n.Table.length≤25
 e:n.Elements.length≤18
 x:∀x∈n.Elements,x.From.length≤25∧x.Weights.length≤25
theorem Zcq {x:Qaj}(h:x.Weights.length≤25):0≤outl x∧outl x≤25:=by
 unfold outl
 split
 ·omega
 ·split<;>omega
theorem Zc3 {els:List Qaj}{a:Int}{i:Nat}(h:btw a 0 ((i:Int)-1)=true) (hi:i≤els.length):∃y,getI els a=some y∧y∈els:=by
 obtain⟨h1,h2⟩:=Qc6.1 h
 have hlt:a.toNat<els.length:=by omega
 exact⟨els[a.toNat],by unfold getI;rw[if_pos h1,List.getElem?_eq_getElem hlt],List.getElem_mem hlt⟩
section
variable {N : Nat} {n : GNet} (hs : Qrr n) (hN : 1001 ≤ N)
include hs hN
omit hN in
theorem Q0q {i:Nat}(hi:i<n.Elements.length) {x:Qaj}(hx:x.From.length≤25) (k:List (Int×Int)→Option Bool):∀(m j:Nat) (u:List (Int×Int)),(x.From.drop j).length<m →
  Qc3 N n i k x m j u=bif Qkq n.Elements i x.Level u (x.From.drop j) then k (u++(x.From.drop j).map pq) else some false:=by
 intro m
 induction m with
 |zero=>intro j _ h;cases h
 |succ m ih=>
  intro j u h
  rw[Qc3]
  cases hd:x.From.drop j with
  |nil=>
   have:=Qdv hd
   simp[show ¬((j:Int)<x.From.length) from by omega,Qkq]
  |cons p l=>
   obtain⟨hg,hd',hlt⟩:=Qc4 hd
   have e0:=hs.e
   simp only[dlI hlt,cond_true,Qcn hg,Option.bind_some,Qis,Qkq,Qqe]
   rw[Qbb (x:=(i:Int)-1) (by omega) (by omega)]
   cases hb:btw p.Element 0 ((i:Int)-1) with
   |false=>rfl
   |true=>
    obtain⟨y,hy,hym⟩:=Zc3 hb (Nat.le_of_lt hi)
    obtain⟨o0,o1⟩:=Zcq (hs.x y hym).2
    simp only[Bool.not_true,cond_false,hy,Option.bind_some,Zcr,Bool.true_and]
    rw[Qbb (x:=outl y-1) (by omega) (by omega)]
    cases hc:btw p.Outlet 0 (outl y-1) with
    |false=>rfl
    |true=>
     simp only[Bool.not_true,cond_false,Bool.true_and]
     show(bif u.contains (pq p) then some false else _)=_
     cases hu:u.contains (pq p) with
     |true=>simp
     |false=>
      simp only[cond_false,Bool.not_false,Bool.and_true]
      by_cases hl:x.Level>y.Level
      ·rw[decide_eq_true hl,decide_eq_false (by omega)];rfl
      ·rw[decide_eq_false hl,decide_eq_true (by omega),cond_false,w64S (i:=j) (by omega),
        ih (j+1) _ (dlt hd hd' h),hd']
       have ea:addQ u (p.Element,p.Outlet)=u++[pq p]:=by
        unfold addQ
        rw[show u.contains (p.Element,p.Outlet)=false from hu];rfl
       rw[ea,Bool.true_and,List.map_cons,List.append_assoc]
       rfl
theorem Q5v (k:Unit→Option Bool):∀(m i:Nat) (u:List (Int×Int)),(n.Elements.drop i).length<m →
  Qcs N n k m i u=bif Qtm n.Table.length n.Elements i u (n.Elements.drop i) then k () else some false:=by
 intro m
 induction m with
 |zero=>intro i _ h;cases h
 |succ m ih=>
  intro i u h
  rw[Qcs]
  cases hd:n.Elements.drop i with
  |nil=>
   have:=Qdv hd
   simp[show ¬((i:Int)<n.Elements.length) from by omega,Qtm]
  |cons x l=>
   obtain⟨hg,hd',hlt⟩:=Qc4 hd
   have e0:=hs.e
   have e1:=hs.t
   have hx:=hs.x x (List.mem_of_getElem? hg)
   simp only[dlI hlt,cond_true,Qb7,Qcn hg,Option.bind_some,Qis,Qtm]
   rw[Qbb (x:=(n.Table.length:Int)-1) (by omega) (by omega)]
   cases hb:btw x.Level 0 ((n.Table.length:Int)-1) with
   |false=>rfl
   |true=>
    have:=Q0q (N:=N) hs hlt hx.1 (fun y9=>Qcs N n k m (w64 ((i:Int)+1)) y9) N 0 u (by simp;omega)
    rw[List.drop_zero] at this
    simp only[Bool.not_true,cond_false,Bool.true_and]
    refine this.trans ?_
    cases Qkq n.Elements i x.Level u x.From with
    |false=>rfl
    |true=>
     rw[cond_true,w64S (i:=i) (by omega),ih (i+1) _ (dlt hd hd' h),hd',Bool.true_and]
theorem Zea:Qdl N n.Elements=some (n.Elements.all Qgz):=by
 have e0:=hs.e
 have hc:Qbf N n.Elements=some (n.Elements.any fun x=>!Qgz x):=by
  unfold Qbf Qbs Qb7
  have gen:∀(m j:Nat),(n.Elements.drop j).length<m→(Qav N n.Elements (fun _=>some (-1)) m j).bind (fun x=>some (decide (x≥0)))=some ((n.Elements.drop j).any fun x=>!Qgz x):=by
   intro m
   induction m with
   |zero=>intro j h;cases h
   |succ m ih=>
    intro j h
    rw[Qav]
    cases hd:n.Elements.drop j with
    |nil=>
     have:=Qdv hd
     simp[show ¬((j:Int)<n.Elements.length) from by omega]
    |cons x l=>
     obtain⟨hg,hd',hlt⟩:=Qc4 hd
     have hx:=hs.x x (List.mem_of_getElem? hg)
     simp only[dlI hlt,cond_true,Qcn hg,Option.bind_some,Qdz,Q6n (show x.Weights.length≤1000 by omega) hN,List.any_cons]
     cases Qgz x with
     |false=>simp
     |true=>
      rw[Bool.not_true,cond_false,w64S (i:=j) (by omega),ih (j+1) (dlt hd hd' h),hd',Bool.false_or]
  have:=gen N 0 (by simp;omega)
  rw[List.drop_zero] at this
  exact this
 unfold Qdl
 rw[hc,Option.bind_some,Qre]
theorem Zcv:Qgd N n=some (netB n):=by
 have e0:=hs.e
 have e1:=hs.t
 unfold Qgd netB Qgj
 simp only[Qb7,Qub (show n.Table.length≤1000 by omega) hN,Option.bind_some,Qis,Zea hs hN]
 cases tabB n.Table with
 |false=>rfl
 |true=>
  simp only[Bool.not_true,cond_false,Option.bind_some,Bool.true_and,show((0:Int) != 0)=false from rfl]
  cases btw n.Elements.length 1 16 with
  |false=>rfl
  |true=>
   cases n.Elements.all Qgz with
   |false=>rfl
   |true=>
    have:=Q5v hs hN (fun _=>some true) N 0 [] (by simp;omega)
    rw[List.drop_zero] at this
    simp only[Bool.not_true,cond_false,Bool.true_and]
    refine this.trans ?_
    cases Qtm n.Table.length n.Elements 0 [] n.Elements<;>rfl
omit hs hN in
end
end
section
def Qol {α:Type}(i:Nat):Nat→List α→List ((Int×Int)×α)
 |_,[]=>[]
 |j,a::l=>(((i:Int),(j:Int)),a)::Qol i (j+1) l
def Qgt {α:Type}:Nat→List (List α)→List ((Int×Int)×α)
 |_,[]=>[]
 |i,r::o=>Qol i 0 r++Qgt (i+1) o
def Qf0 {α:Type}(f:α→Int) (U:List (Int×Int)) (l:List ((Int×Int)×α)):Int:=((l.filter fun x=>!U.contains x.1).map fun x=>f x.2).sum
section
variable {α : Type}
theorem Qnm {i:Nat}{a b:Int}{s:α}:∀{l:List α}{j:Nat},((a,b),s)∈Qol i j l↔a=i∧(j:Int)≤b∧l[(b-j).toNat]? = some s
 |[],j=>by simp[Qol]
 |x::l,j=>by
  rw[Qol,List.mem_cons,Qnm (l:=l) (j:=j+1)]
  constructor
  ·rintro (h |⟨h1,h2,h3⟩)
   ·simp only[Prod.mk.injEq] at h
    obtain⟨⟨rfl,rfl⟩,rfl⟩:=h
    exact⟨rfl,Int.le_refl _,by simp⟩
   ·refine⟨h1,by omega,?_⟩
    rw[show(b-(j:Int)).toNat=(b-((j+1:Nat):Int)).toNat+1 by omega]
    simpa using h3
  ·rintro ⟨h1,h2,h3⟩
   by_cases e:b=j
   ·subst e;subst h1
    simp at h3
    exact .inl (by rw[h3])
   ·refine .inr ⟨h1,by omega,?_⟩
    rw[show(b-(j:Int)).toNat=(b-((j+1:Nat):Int)).toNat+1 by omega] at h3
    simpa using h3
theorem Qnn {a b:Int}{s:α}:∀{o:List (List α)}{i:Nat},((a,b),s)∈Qgt i o↔(i:Int)≤a∧0≤b∧∃r,o[(a-i).toNat]? = some r∧r[b.toNat]? = some s
 |[],i=>by simp[Qgt]
 |r::o,i=>by
  rw[Qgt,List.mem_append,Qnm,Qnn (o:=o) (i:=i+1)]
  constructor
  ·rintro (⟨rfl,h2,h3⟩ |⟨h1,h2,q,h3,h4⟩)
   ·exact⟨Int.le_refl _,by omega,r,by simp,by simpa using h3⟩
   ·refine⟨by omega,h2,q,?_,h4⟩
    rw[show(a-(i:Int)).toNat=(a-((i+1:Nat):Int)).toNat+1 by omega]
    simpa using h3
  ·rintro ⟨h1,h2,q,h3,h4⟩
   by_cases e:a=i
   ·subst e
    simp at h3
    subst h3
    exact .inl ⟨rfl,by omega,by simpa using h4⟩
   ·refine .inr ⟨by omega,h2,q,?_,h4⟩
    rw[show(a-(i:Int)).toNat=(a-((i+1:Nat):Int)).toNat+1 by omega] at h3
    simpa using h3
theorem Qqx {i:Nat}:∀(l:List α) (j:Nat),((Qol i j l).map fun x=>x.1).Nodup
 |[],j=>by simp[Qol]
 |x::l,j=>by
  rw[Qol,List.map_cons,List.nodup_cons]
  refine⟨fun h=>?_,Qqx l (j+1)⟩
  obtain⟨⟨⟨a,b⟩,s⟩,h1,h2⟩:=List.mem_map.1 h
  have:=(Qnm.1 h1).2.1
  simp only[Prod.mk.injEq] at h2
  omega
theorem Qqy:∀(o:List (List α)) (i:Nat),((Qgt i o).map fun x=>x.1).Nodup
 |[],i=>by simp[Qgt]
 |r::o,i=>by
  rw[Qgt,List.map_append,List.nodup_append]
  refine⟨Qqx r 0,Qqy o (i+1),fun x hx y hy=>?_⟩
  obtain⟨⟨⟨a,b⟩,s⟩,h1,rfl⟩:=List.mem_map.1 hx
  obtain⟨⟨⟨a',b'⟩,s'⟩,h2,rfl⟩:=List.mem_map.1 hy
  have h3:=(Qnm.1 h1).1
  have h4:=(Qnn.1 h2).1
  intro e
  simp only[Prod.mk.injEq] at e
  omega
theorem Qo3:∀(o o':List (List α)) (i:Nat),Qgt i (o++o')=Qgt i o++Qgt (i+o.length) o'
 |[],o',i=>by simp[Qgt]
 |r::o,o',i=>by
  rw[List.cons_append,Qgt,Qo3 o o' (i+1),Qgt,List.append_assoc,List.length_cons,show i+1+o.length=i+(o.length+1) by omega]
theorem Quw (f:α→Int) (U:List (Int×Int)) (l l':List ((Int×Int)×α)):Qf0 f U (l++l')=Qf0 f U l+Qf0 f U l':=by
 simp[Qf0,List.filter_append]
theorem Qqn {f:α→Int}{U V:List (Int×Int)}{l:List ((Int×Int)×α)}(h:∀x∈l,(x.1∈U↔x.1∈V)):Qf0 f U l=Qf0 f V l:=by
 unfold Qf0
 have:(l.filter fun x=>!U.contains x.1)=l.filter fun x=>!V.contains x.1:=List.filter_congr fun x hx=>by
  have:=h x hx
  by_cases h1:x.1∈U
  ·have h2:=this.1 h1
   simp[h1,h2]
  ·have h2:¬x.1∈V:=fun h=>h1 (this.2 h)
   simp[h1,h2]
 rw[this]
theorem Qrz (f:α→Int) {U:List (Int×Int)}{p:Int×Int}{s:α}:∀{l:List ((Int×Int)×α)},(l.map fun x=>x.1).Nodup→(p,s)∈l→p∉U→Qf0 f (p::U) l=Qf0 f U l-f s
 |[],_,h,_=>by simp at h
 |x::l,hn,h,hp=>by
  rw[List.map_cons,List.nodup_cons] at hn
  have e:∀V,Qf0 f V (x::l)=(if x.1∈V then 0 else f x.2)+Qf0 f V l:=fun V=>by
   unfold Qf0
   by_cases hv:x.1∈V<;>simp[hv]
  rw[e,e]
  rcases List.mem_cons.1 h with h |h
  ·subst h
   rw[if_pos (by simp),if_neg hp]
   have:Qf0 f (p::U) l=Qf0 f U l:=Qqn fun y hy=>by
    rw[List.mem_cons]
    refine⟨fun h=>h.resolve_left fun e=>hn.1 ?_,.inr⟩
    rw[←e]
    exact List.mem_map.2 ⟨y,hy,rfl⟩
   rw[this]
   dsimp only
   omega
  ·rw[Qrz f hn.2 h hp]
   have hx:x.1≠p:=fun e=>hn.1 (by rw[e];exact List.mem_map.2 ⟨_,h,rfl⟩)
   have:(x.1∈p::U)↔x.1∈U:=by simp[hx]
   by_cases hv:x.1∈U
   ·rw[if_pos (this.2 hv),if_pos hv];omega
   ·rw[if_neg (fun h=>hv (this.1 h)),if_neg hv];omega
theorem Qqm (f:α→Int) {l:List ((Int×Int)×α)}(hl:(l.map fun x=>x.1).Nodup):∀(P:List (Int×Int)) (S:List α) (U:List (Int×Int)),P.length=S.length→(∀(i:Nat) p s,P[i]? = some p→S[i]? = some s→(p,s)∈l)→P.Nodup→(∀p∈P,p∉U) →
  Qf0 f (P++U) l=Qf0 f U l-(S.map f).sum
 |[],[],U,_,_,_,_=>by simp
 |p::P,s::S,U,hlen,hm,hn,hu=>by
  rw[List.nodup_cons] at hn
  have h1:=Qqm f hl P S U (by simpa using hlen) (fun i q t h1 h2=>hm (i+1) q t (by simpa using h1) (by simpa using h2)) hn.2 fun q hq=>hu q (List.mem_cons_of_mem _ hq)
  rw[List.cons_append,Qrz f hl (hm 0 p s rfl rfl),h1]
  ·simp only[List.map_cons,List.sum_cons];omega
  ·intro h
   rcases List.mem_append.1 h with h |h
   ·exact hn.1 h
   ·exact hu p List.mem_cons_self h
 |[],_::_,_,h,_,_,_=>by simp at h
 |_::_,[],_,h,_,_,_=>by simp at h
theorem Quv (f:α→Int) {U:List (Int×Int)}{i:Nat}(hU:∀p∈U,p.1≠i):∀(r:List α) (j:Nat),Qf0 f U (Qol i j r)=(r.map f).sum
 |[],j=>rfl
 |x::r,j=>by
  have hx:((i:Int),(j:Int))∉U:=fun h=>hU _ h rfl
  have:Qf0 f U (Qol i j (x::r))=f x+Qf0 f U (Qol i (j+1) r):=by
   unfold Qf0
   rw[Qol,List.filter_cons,if_pos (by simpa using hx),List.map_cons,List.sum_cons]
  rw[this,Quv f hU r (j+1),List.map_cons,List.sum_cons]
theorem Qo0 {f:α→Int}{U:List (Int×Int)}:∀{l:List ((Int×Int)×α)},(∀x∈l,0≤f x.2)→0≤Qf0 f U l
 |[],_=>by simp[Qf0]
 |x::l,h=>by
  have h1:=Qo0 (U:=U) fun y hy=>h y (List.mem_cons_of_mem x hy)
  have h2:=h x List.mem_cons_self
  unfold Qf0 at h1 ⊢
  rw[List.filter_cons]
  split
  ·rw[List.map_cons,List.sum_cons];omega
  ·exact h1
theorem Qva (i:Nat) (r:List α):Qgt i [r]=Qol i 0 r:=by simp[Qgt]
end
end
section
structure NetV (n:GNet):Prop where
 tab:tabB n.Table=true
 len:1≤n.Elements.length∧n.Elements.length≤16
 alone:∀x∈n.Elements,Qgz x=true
 level:∀x∈n.Elements,0≤x.Level∧x.Level≤(n.Table.length:Int)-1
 port:∀(i:Nat) x p,n.Elements[i]? = some x→p∈x.From→0≤p.Element∧p.Element<i∧∃y,n.Elements[p.Element.toNat]? = some y∧0≤p.Outlet∧p.Outlet<outl y∧x.Level≤y.Level
 dist:(n.Elements.flatMap fun x=>x.From.map pq).Nodup
theorem Qqd {els:List Qaj}{i:Nat}{lv:Int}:∀{l:List Qkk}{u:List (Int×Int)},Qkq els i lv u l=true→u.Nodup →
  (u++l.map pq).Nodup∧∀p∈l,0≤p.Element∧p.Element<i∧∃y,els[p.Element.toNat]? = some y∧0≤p.Outlet∧p.Outlet<outl y∧lv≤y.Level
 |[],u,_,hu=>⟨by simpa using hu,by simp⟩
 |p::l,u,h,hu=>by
  rw[Qkq,Bool.and_eq_true] at h
  obtain⟨h1,h2⟩:=h
  rw[Qqe,Bool.and_eq_true,Bool.and_eq_true] at h1
  obtain⟨⟨h3,h4⟩,h5⟩:=h1
  have hn:pq p∉u:=by simpa using h5
  have hu':(u++[pq p]).Nodup:=by
   rw[List.nodup_append]
   exact⟨hu,by simp,fun a ha b hb=>by simp at hb;subst hb;exact fun e=>hn (e▸ha)⟩
  obtain⟨k1,k2⟩:=Qqd h2 hu'
  refine⟨by rw[List.map_cons];rw[List.append_assoc] at k1;exact k1,fun q hq=>?_⟩
  rcases List.mem_cons.1 hq with rfl |hq
  ·obtain⟨b1,b2⟩:=Qc6.1 h3
   cases hg:getI els q.Element with
   |none=>rw[hg] at h4;cases h4
   |some y=>
    rw[hg] at h4
    simp only[Bool.and_eq_true,decide_eq_true_eq] at h4
    obtain⟨c1,c2⟩:=Qc6.1 h4.1
    exact⟨b1,by omega,y,(Qu6 hg).2,c1,by omega,h4.2⟩
  ·exact k2 q hq
theorem Qvb {t:Int}{els:List Qaj}:∀{l:List Qaj}{i:Nat}{u:List (Int×Int)},Qtm t els i u l=true→u.Nodup →
  (u++l.flatMap fun x=>x.From.map pq).Nodup∧(∀x∈l,0≤x.Level∧x.Level≤t-1)∧∀(j:Nat) x p,l[j]? = some x→p∈x.From→0≤p.Element∧p.Element<(i:Int)+j∧∃y,els[p.Element.toNat]? = some y∧0≤p.Outlet∧p.Outlet<outl y∧x.Level≤y.Level
 |[],i,u,_,hu=>⟨by simpa using hu,by simp,fun j x p h=>by simp at h⟩
 |x::l,i,u,h,hu=>by
  rw[Qtm,Bool.and_eq_true,Bool.and_eq_true] at h
  obtain⟨⟨h1,h2⟩,h3⟩:=h
  obtain⟨k1,k2⟩:=Qqd h2 hu
  obtain⟨m1,m2,m3⟩:=Qvb h3 k1
  refine⟨by rw[List.flatMap_cons];rw[List.append_assoc] at m1;exact m1,fun y hy=>?_,fun j y p hj hp=>?_⟩
  ·rcases List.mem_cons.1 hy with rfl |hy
   ·exact Qc6.1 h1
   ·exact m2 y hy
  ·cases j with
   |zero=>
    simp at hj
    subst hj
    obtain⟨a,b,c⟩:=k2 p hp
    exact⟨a,by omega,c⟩
   |succ j=>
    obtain⟨a,b,c⟩:=m3 j y p (by simpa using hj) hp
    exact⟨a,by omega,c⟩
theorem Zcu {n:GNet}(h:netB n=true):NetV n:=by
 unfold netB at h
 simp only[Bool.and_eq_true] at h
 obtain⟨⟨⟨h1,h2⟩,h3⟩,h4⟩:=h
 obtain⟨k1,k2,k3⟩:=Qvb h4 List.nodup_nil
 have:=Qc6.1 h2
 exact⟨h1,⟨by omega,by omega⟩,fun x hx=>List.all_eq_true.1 h3 x hx,k2,fun i x p hi hp=>by
  obtain⟨a,b,c⟩:=k3 i x p hi hp
  exact⟨a,by omega,c⟩,by simpa using k1⟩
section
variable {N : Nat} {n : GNet} (hs : Qrr n) (hv : NetV n) (hN : 1001 ≤ N)
end
def stB (n:GNet) (s:List Int):Bool:=decide (s.length=n.Elements.length)&&s.all fun x=>btw x 0 1000000000000
theorem Q33 {N:Nat}{n:GNet}(hs:Qrr n) (hN:1001≤N) {s:List Int}(hl:s.length≤1000):Qid N n s=some (bif netB n&&stB n s then 0 else 1):=by
 have hc:Qcq N s=some (s.any fun x=>!btw x 0 1000000000000):=by
  unfold Qcq Qdr Qb7
  refine Qgy (F:=Qbv N s fun _=>some (-1)) (k:=fun _=>some (-1)) (q:=Qfj N) (fun n y=>rfl) (fun x=>?_) rfl (by omega) (by omega)
  simp only[Qfj,Qhv,Qis,Option.bind_some]
 unfold Qid Qhe stB
 rw[Zcv hs hN,hc]
 simp only[Option.bind_some,Qre]
 cases netB n with
 |false=>rfl
 |true=>
  by_cases h1:s.length=n.Elements.length
  ·rw[decide_eq_true h1,show((s.length:Int) != (n.Elements.length:Int))=false by rw[bne_eq_false_iff_eq];omega]
   cases s.all fun x=>btw x 0 1000000000000<;>rfl
  ·rw[decide_eq_false h1,show((s.length:Int) != (n.Elements.length:Int))=true by rw[bne_iff_ne];omega];rfl
def widI (x:Qaj) (d:Int):Int:=if x.Wide-d/x.Narrow>0 then x.Wide-d/x.Narrow else 0
theorem Zft {x:Qaj}(hx:Qgz x=true) {d:Int}(h0:0≤d) (h1:d≤9000000000000000000):(x.Narrow != 0)=true∧d.tdiv x.Narrow=d/x.Narrow∧0≤d/x.Narrow∧d/x.Narrow≤d∧w64 (d/x.Narrow)=d/x.Narrow∧w64 (x.Wide-d/x.Narrow)=x.Wide-d/x.Narrow∧0≤x.Wide∧x.Wide≤1000000∧1≤x.Narrow:=by
 unfold Qgz at hx
 simp only[Bool.and_eq_true] at hx
 obtain⟨⟨⟨⟨⟨_,hw⟩,hn⟩,_⟩,_⟩,_⟩:=hx
 obtain⟨w0,w1⟩:=Qc6.1 hw
 obtain⟨n0,n1⟩:=Qc6.1 hn
 have a:=Int.ediv_nonneg h0 (show 0≤x.Narrow by omega)
 have b:=Int.ediv_le_self x.Narrow h0
 exact⟨by rw[bne_iff_ne];omega,Int.tdiv_eq_ediv_of_nonneg h0,a,b,Qbb (by omega) (by omega),Qbb (by omega) (by omega),w0,w1,n0⟩
theorem Q3l (N:Nat) {x:Qaj}(hx:Qgz x=true) {d:Int}(h0:0≤d) (h1:d≤9000000000000000000):Qet N x d=some (widI x d):=by
 obtain⟨a,b,c,e,f,g,_⟩:=Zft hx h0 h1
 unfold Qet widI
 rw[a,b,f,g]
 rfl
end
section
def Qim (key:Int→Int) (ls:List Int) (i k:Int):Prop:=key (ls.getD k.toNat 0)<key (ls.getD i.toNat 0)∨(key (ls.getD k.toNat 0)=key (ls.getD i.toNat 0)∧i<k)
theorem Qmo {key:Int→Int}{ls:List Int}{i k:Int}(h:Qim key ls i k) (h':Qim key ls k i):False:=by
 unfold Qim at h h'
 omega
theorem Qxz {key:Int→Int}{ls:List Int}{i k m:Int}(h:Qim key ls i k) (h':Qim key ls k m):Qim key ls i m:=by
 unfold Qim at *
 omega
def ixs (n:Nat):List Int:=(List.range n).map fun j:Nat=>(j:Int)
theorem Qhj (n:Nat):(ixs n).length=n:=by simp[ixs]
theorem Qte {n i:Nat}(h:i<n):(ixs n)[i]? = some (i:Int):=by simp[ixs,h]
theorem Qqs {n:Nat}{x:Int}:x∈ixs n↔0≤x∧x<n:=by
 unfold ixs
 rw[List.mem_map]
 constructor
 ·rintro ⟨j,hj,rfl⟩
  have:=List.mem_range.1 hj
  omega
 ·rintro ⟨h0,h1⟩
  exact⟨x.toNat,List.mem_range.2 (by omega),by omega⟩
theorem Q5d (n:Nat):(ixs n).Nodup:=List.pairwise_map.2 ((List.nodup_range (n:=n)).imp fun h e=>h (by omega))
section
variable {N L : Nat} {ws : List Int} {M W : Int}
def rkey (M W w:Int):Int:=M*w % W
structure WOk (ws:List Int) (M W:Int):Prop where
 w:∀x∈ws,0≤x∧x≤1000
 m0:0≤M
 m1:M≤1000000
 p0:0<W
 p1:W≤20000
theorem Q4a (h:WOk ws M W) (x:Int):0≤rkey M W x∧rkey M W x<20000:=by
 have:=h.p0
 have:=h.p1
 have a:=Int.emod_nonneg (M*x) (show W≠0 by omega)
 have b:=Int.emod_lt_of_pos (M*x) h.p0
 unfold rkey
 omega
theorem Qy9 (h:WOk ws M W) {x:Int}(hx:x∈ws):Qem N x M W=some (rkey M W x):=by
 obtain⟨x0,x1⟩:=h.w x hx
 have h0:=h.m0
 have h1:=h.m1
 have p:=h.p0
 have:=bdp h0 h1 x0 x1 (by omega)
 unfold Qem chk rkey
 rw[show(W != 0)=true by rw[bne_iff_ne];omega,cond_true,Qbb (by omega) (by omega),Int.tmod_eq_emod_of_nonneg this.1]
theorem Zgt (h:WOk ws M W) {a b:Int}(ha:0≤a∧a<ws.length) (hb:0≤b∧b<ws.length):Qd6 N a b ws M W=some (rkey M W (ws.getD b.toNat 0)-rkey M W (ws.getD a.toNat 0)):=by
 have ga:ws[a.toNat]? = some (ws.getD a.toNat 0):=by rw[List.getD_eq_getElem?_getD,List.getElem?_eq_getElem (by omega)];rfl
 have gb:ws[b.toNat]? = some (ws.getD b.toNat 0):=by rw[List.getD_eq_getElem?_getD,List.getElem?_eq_getElem (by omega)];rfl
 have ka:=Q4a h (ws.getD a.toNat 0)
 have kb:=Q4a h (ws.getD b.toNat 0)
 unfold Qd6
 rw[show getI ws b=some (ws.getD b.toNat 0) from by rw[←gb];unfold getI;rw[if_pos hb.1],show getI ws a=some (ws.getD a.toNat 0) from by rw[←ga];unfold getI;rw[if_pos ha.1]]
 simp only[Option.bind_some,Qy9 h (List.mem_of_getElem? ga),Qy9 h (List.mem_of_getElem? gb)]
 rw[Qbb (by omega) (by omega)]
theorem Zc0 (h:WOk ws M W) (hL:L≤20) (hLw:L=ws.length) (k:List Int→Option (List Int)) (x:Int) (R:List Int) (hx:0≤x∧x<ws.length):∀(n:Nat) (P S:List Int),P.length<n→(P++x::S++R).length=L →
  (P++S).Pairwise (Qim (rkey M W) ws)→(∀s∈S,Qim (rkey M W) ws x s)→(∀y∈P++S,0≤y∧y<x) →
  ∃Q,Qa8 N L 0 ws M W k n P.length (P++x::S++R)=k (Q++R)∧Q.Perm (P++x::S)∧Q.Pairwise (Qim (rkey M W) ws):=by
 intro n
 induction n with
 |zero=>intro P S hn;exact absurd hn (Nat.not_lt_zero _)
 |succ n ih=>
  intro P S hn hl hp hs hb
  rw[Qa8]
  simp only[Qb7]
  rcases List.eq_nil_or_concat P with rfl |⟨P',y,rfl⟩
  ·refine⟨x::S,by simp,.refl _,?_⟩
   rw[List.pairwise_cons]
   exact⟨hs,by simpa using hp⟩
  ·simp only[List.concat_eq_append] at *
   have hlen:(P'++[y]).length=P'.length+1:=by simp
   have hl2:P'.length+1<L:=by rw[←hl];simp
   have e1:w64 (((P'++[y]).length:Nat)-1:Int)=(P'.length:Int):=by rw[hlen,Qbb (by omega) (by omega)];omega
   have e2:(((P'++[y]).length:Nat):Int).toNat=P'.length+1:=by rw[hlen];omega
   have e3:(P'.length:Int).toNat=P'.length:=by omega
   have gx:(P'++[y]++x::S++R)[P'.length+1]? = some x:=by
    rw[List.append_assoc,List.append_assoc,List.getElem?_append_right (by omega)]
    simp
   have gy:(P'++[y]++x::S++R)[P'.length]? = some y:=by
    rw[List.append_assoc,List.append_assoc,List.getElem?_append_right (by omega)]
    simp
   have hy:=hb y (by simp)
   have c1:(decide ((0:Int)≤(((P'++[y]).length:Nat):Int))&&decide (P'.length+1<L))=true:=by simp;omega
   have c2:(decide ((0:Int)≤(P'.length:Int))&&decide (P'.length<L))=true:=by simp;omega
   have hs1:((P'++[y]++x::S++R).set (P'.length+1) y)[P'.length]? = some y:=by rw[List.getElem?_set_ne (by omega)];exact gy
   have hsw:((P'++[y]++x::S++R).set (P'.length+1) y).set P'.length x=P'++x::(y::S)++R:=by
    have a1:(P'++[y]++x::S++R).set (P'.length+1) y=P'++[y]++y::S++R:=by
     rw[List.append_assoc,List.append_assoc,List.set_append_right _ _ (by omega),show P'.length+1-P'.length=1 by omega]
     simp
    rw[a1,List.append_assoc,List.append_assoc,List.set_append_right _ _ (by omega),Nat.sub_self]
    simp
   have hcmp:=Zgt (N:=N) h hx (show 0≤y∧y<ws.length by omega)
   simp only[show decide ((((P'++[y]).length:Nat):Int)>0)=true from decide_eq_true (by rw[hlen];omega),cond_true,e1,e2,e3,chk,c1,c2,gx,gy,Option.bind_some,hcmp,hs1,hsw]
   by_cases hlt:rkey M W (ws.getD y.toNat 0)-rkey M W (ws.getD x.toNat 0)<0
   ·rw[decide_eq_true hlt,cond_true]
    obtain⟨Q,q1,q2,q3⟩:=ih P' (y::S) (by rw[hlen] at hn;omega) (by rw[←hl];simp) (by simpa using hp) (fun s hs'=>by
     rcases List.mem_cons.1 hs' with rfl |hs'
     ·exact .inl (by omega)
     ·exact hs s hs') (fun z hz=>hb z (by simpa using hz))
    refine⟨Q,q1,q2.trans ?_,q3⟩
    rw[List.append_assoc]
    exact List.Perm.append_left P' (List.Perm.swap y x S)
   ·rw[decide_eq_false hlt,cond_false]
    refine⟨P'++[y]++x::S,rfl,.refl _,?_⟩
    have hyx:Qim (rkey M W) ws y x:=by unfold Qim;omega
    rw[List.pairwise_append] at hp ⊢
    obtain⟨p1,p2,p3⟩:=hp
    refine⟨p1,List.pairwise_cons.2 ⟨hs,p2⟩,fun a ha b hb'=>?_⟩
    have hax:Qim (rkey M W) ws a x:=by
     rcases List.mem_append.1 ha with ha |ha
     ·rw[List.pairwise_append] at p1
      exact Qxz (p1.2.2 a ha y (by simp)) hyx
     ·simp at ha;subst ha;exact hyx
    rcases List.mem_cons.1 hb' with rfl |hb'
    ·exact hax
    ·exact p3 a ha b hb'
theorem Q70 (h:WOk ws M W) (hL:L≤20) (hLw:L=ws.length) (hN:1000≤N):∀(n i:Nat) (Q:List Int),L-i<n→i≤L→Q.Perm ((ixs L).take i)→Q.Pairwise (Qim (rkey M W) ws) →
  ∃Q',Qax N L 0 L ws M W n i (Q++(ixs L).drop i)=some Q'∧Q'.Perm (ixs L)∧Q'.Pairwise (Qim (rkey M W) ws):=by
 intro n
 induction n with
 |zero=>intro i _ h;cases h
 |succ n ih=>
  intro i Q hn hi hp hq
  rw[Qax]
  simp only[Qb7]
  by_cases hlt:i<L
  ·have hql:Q.length=i:=by rw[hp.length_eq,List.length_take,Qhj];omega
   have hd:(ixs L).drop i=(i:Int)::(ixs L).drop (i+1):=by
    have:=Qte hlt
    have hi2:i<(ixs L).length:=by rw[Qhj];exact hlt
    rw[List.drop_eq_getElem_cons hi2]
    rw[List.getElem?_eq_getElem hi2] at this
    rw[Option.some.inj this]
   rw[show decide ((i:Int)<(L:Int))=true from by simpa using hlt,cond_true]
   have hmem:∀y∈Q,0≤y∧y<(i:Int):=fun y hy=>by
    have h1:=hp.mem_iff.1 hy
    obtain⟨j,hj,e⟩:=List.mem_take_iff_getElem.1 h1
    have hj2:j<L:=by rw[Qhj] at hj;omega
    have:=Qte hj2
    rw[List.getElem?_eq_getElem (by rw[Qhj];exact hj2),e] at this
    cases this
    omega
   obtain⟨Q',q1,q2,q3⟩:=Zc0 (N:=N) h hL hLw (fun y8=>Qax N L 0 L ws M W n (w64 ((i:Int)+1)) y8) (i:Int) ((ixs L).drop (i+1)) (by omega) N Q [] (by omega) (by simp[Qhj,hql];omega) (by simpa using hq) (by simp) (by simpa using hmem)
   rw[hql] at q1
   rw[hd]
   have e:Q++(i:Int)::(ixs L).drop (i+1)=Q++[(i:Int)]++(ixs L).drop (i+1):=by simp
   rw[e]
   have t:(ixs L).take (i+1)=(ixs L).take i++[(i:Int)]:=by
    rw[List.take_add_one,Qte hlt];rfl
   obtain⟨Q2,r1,r2,r3⟩:=ih (i+1) Q' (by omega) (by omega) (q2.trans (by rw[t];exact hp.append_right _)) q3
   refine⟨Q2,q1.trans ?_,r2,r3⟩
   rw[w64S (i:=i) (by omega)]
   exact r1
  ·rw[show decide ((i:Int)<(L:Int))=false from by simpa using hlt,cond_false]
   have hiL:i=L:=by omega
   subst hiL
   rw[List.take_of_length_le (by rw[Qhj];exact Nat.le_refl _)] at hp
   exact⟨Q,by rw[List.drop_of_length_le (by rw[Qhj];exact Nat.le_refl _),List.append_nil],hp,hq⟩
theorem Q7s (h:WOk ws M W) (hL:ws.length≤20) (h1:1≤ws.length) (hN:1000≤N):∃Q,Qb2 N ws.length (ixs ws.length) ws M W=some Q∧Q.Perm (ixs ws.length)∧Q.Pairwise (Qim (rkey M W) ws):=by
 have ht:(ixs ws.length).take 1=[0]:=by
  rw[List.take_add_one,Qte (by omega)];rfl
 have hd:(ixs ws.length)=[0]++(ixs ws.length).drop 1:=by rw[←ht,List.take_append_drop]
 obtain⟨Q,q1,q2,q3⟩:=Q70 (N:=N) (L:=ws.length) h hL rfl hN N 1 [0] (by omega) h1 (by rw[ht]) (by simp)
 rw[←hd] at q1
 refine⟨Q,?_,q2,q3⟩
 obtain⟨m,rfl⟩:∃m,N=m+2:=⟨N-2,by omega⟩
 have hins:Qbd (m+2) ws.length 0 (ws.length:Int) (ixs ws.length) ws M W=some Q:=by
  unfold Qbd
  rw[show w64 ((0:Int)+1)=((1:Nat):Int) from Qbb (by decide) (by decide)]
  exact q1
 unfold Qb2 Qdn
 simp only[Qb7]
 rw[Qbi]
 by_cases h20:ws.length=20
 ·rw[show decide ((20:Int)≤(ws.length:Int))=true from by simp;omega,cond_true]
  have e20:(20:Int)=(ws.length:Int):=by omega
  rw[show Qbd (m+2) ws.length 0 20 (ixs ws.length) ws M W=some Q from by rw[e20];exact hins,Option.bind_some,Qbi,show w64 ((20:Int)+20)=40 from Qbb (by decide) (by decide),show decide ((40:Int)≤(ws.length:Int))=false from by simp;omega,cond_false]
  dsimp only
  unfold Qbd
  rw[show w64 ((20:Int)+1)=21 from Qbb (by decide) (by decide),Qax,show decide ((21:Int)<(ws.length:Int))=false from by simp;omega,cond_false,Option.bind_some,Qbq,show decide ((20:Int)<(ws.length:Int))=false from by simp;omega,cond_false]
  rfl
 ·rw[show decide ((20:Int)≤(ws.length:Int))=false from by simp;omega,cond_false]
  dsimp only
  rw[hins,Option.bind_some,Qbq,show decide ((20:Int)<(ws.length:Int))=false from by simp;omega,cond_false]
  rfl
theorem Q71 (ls:List Int) (k:List Int→Option (List Int)) (h8:ls.length≤20):∀(n i:Nat) (l:List Int),ls.length-i<n→i≤ls.length→l=ixs i →
  Qch N ls k n i l=k (ixs ls.length):=by
 intro n
 induction n with
 |zero=>intro i _ h;cases h
 |succ n ih=>
  intro i l hn hi hl
  rw[Qch]
  by_cases h:i<ls.length
  ·have e1:w64 ((i:Int)+1)=((i+1:Nat):Int):=Qbb (by omega) (by omega)
   rw[show decide ((i:Int)<(ls.length:Int))=true from by simpa using h,cond_true,e1]
   simp only[chk]
   rw[show decide ((l.length+[(i:Int)].length)*8≤140737488355328)=true from by rw[hl,Qhj];simp;omega,cond_true]
   exact ih (i+1) _ (by omega) (by omega) (by rw[hl];simp[ixs,List.range_succ])
  ·rw[show decide ((i:Int)<(ls.length:Int))=false from by simpa using h,cond_false,hl,show i=ls.length by omega]
theorem Quo (h:WOk ws M W) (hL:ws.length≤20) (h1:1≤ws.length) (hN:1000≤N):∃Q,Qep N ws M W=some Q∧Q.Perm (ixs ws.length)∧Q.Pairwise (Qim (rkey M W) ws):=by
 obtain⟨Q,q1,q2,q3⟩:=Q7s (N:=N) h hL h1 hN
 refine⟨Q,?_,q2,q3⟩
 have hlen:=q2.length_eq
 rw[Qhj] at hlen
 unfold Qep
 simp only[Qb7]
 have:=Q71 (N:=N) ws (fun y3=>chk (!y3.isEmpty)<|(Qb2 N y3.length y3 ws M W).bind fun x7=>chk (decide (y3.length≤x7.length))<|some (x7.take y3.length)) hL N 0 [] (by omega) (by omega) rfl
 refine this.trans ?_
 have he:(!(ixs ws.length).isEmpty)=true:=by
  cases hh:ixs ws.length with
  |nil=>have:=Qhj ws.length;rw[hh] at this;simp at this;omega
  |cons=>rfl
 simp only[chk,he,cond_true,Qhj,q1,Option.bind_some]
 rw[show decide (ws.length≤Q.length)=true by simp;omega,cond_true,List.take_of_length_le (by omega)]
end
end
end Go.Proofs.YtflmombnmnblnaaGreat
