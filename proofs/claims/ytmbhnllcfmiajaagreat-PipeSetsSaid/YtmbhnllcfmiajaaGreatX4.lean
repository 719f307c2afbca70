/-
  Functions of the program: what they compute, as plain functions, and that they do. No conditions.
-/
import Derived.Test.YtmbhnllcfmiajaaGreatX3
namespace Go.Proofs.YtmbhnllcfmiajaaGreat
set_option maxRecDepth 100000
set_option maxHeartbeats 4000000
open Go.RowKit
def Qfw (_N:Nat) (p0:(List Int)):Option Unit:=
  chk (!p0.isEmpty)<|
  chk (!p0.isEmpty)<|
  chk (decide ((0+p0.length) * 8≤140737488355328))<|
  some ()
def Zcs (p0:(List Int)):AV:=.dat 1 ((p0:List Int).map Qaj)
def Q7m (p0:(List Int)):Slot:=.own 1 ((p0:List Int).map Qaj)
def Zgc:AV:=.acc 0 3 1 ((([]:List Int):List Int).map Qaj)
theorem Qjf (N:Nat) (p0:(List Int)) (r:Unit) (h:Qfw N p0=some r):Spec Tryz.prog 95 [(Zcs p0)] [] (.own 0 1 (0) (p0.length)) [(Q7m p0)]:=by
  refine Qah Tryz.func95 rfl 1 (nle rfl) (fun X φ0 w0 hφ0 hd0=>?_)
  unfold Qfw at h
  refine Qbh<|wxz<|wsq ?_
  obtain ⟨hz1,h⟩:=cko h
  refine wx tbk [(1,rp [(.tmp 3,(Zcs p0)),((.const (.slice none 0 0)),nilS)] (B false))] ⟨Qjc rfl Tryz.underlying27 rfl (Qff hz1),tv⟩<|wfa<|Qam<|thn ?_
  obtain ⟨ha3,h⟩:=cko h
  obtain ⟨ha2,h⟩:=cko h
  refine wx tbk [(0,⟨[],[(0,.unused)],Zgc,[(0,.tok)],false⟩),(2,⟨[(.tmp 5,Zgc),(.tmp 6,(Zcs p0))],[(0,.tok),(1,.unused)],(.own 1 1 (0) (p0.length)),[(0,.dead),(1,(Q7m p0))],false⟩)] ⟨Qdp rfl Tryz.underlying27 ti3 tz3,Qof rfl Tryz.underlying27 te3 (Base.acc _ _) rfl rfl (Qff ha3) (Qhh Qaj Qgg _) (Qtt Qaj ha2) (Qts Qaj ha2 (by decide)) (List.length_map _),tv⟩ ?_
  refine wmr (mto (n:=8) (l':=[(2,(.own 0 1 (0) (p0.length)))]) (own':=[(Q7m p0)]) [(2,(.own 1 1 (0) (p0.length)))] [1] [(Q7m p0)] hφ0 (pc (.rn (Qa0 rfl)) pn) (qc (spr Qaf) qn))<|Qad ?_
  obtain rfl:=osi h
  exact ⟨_,Mor.rfl,Qct (vs:=[(.own 0 1 (0) (p0.length))]) ⟨rot,tv⟩ rfl (NLt.own _ _ _ _ (by decide)) (by kernel_rfl) (Qan (Qbw Qaf _) Qbi)⟩
theorem Qn6:DRet Tryz.prog 96 [1,1]:=by
  refine Qon (t:=5) (args:=[.any,.any]) Tryz.func96 rfl (fun _ _=>rfl) (by kernel_rfl) Zef 0 (nle rfl) (fun X φ0 w0 hφ0=>?_)
  exact Qal<|wx tbk [(0,rp [(.tmp 5,(.lit .nilIface)),(.const .nilIface,(.lit .nilIface))] (B true))] ⟨Qvf rfl Tryz.underlying20,tv⟩<|wtr<|wxz1<|bln<|fend ⟨[],tv,rfl⟩ (.tup _ nl0)
def Qgt (_N:Nat) (p0:GElement) (p1:Int):Option Int:=
  chk (p0.Narrow != 0)<|
  (some (if (w64 (p0.Wide - (w64 (p1.tdiv p0.Narrow))))>0 then w64 (p0.Wide - (w64 (p1.tdiv p0.Narrow))) else 0)).bind fun x2=>
  some x2
theorem Qhl (N:Nat) (p0:GElement) (p1:Int) (r:Int) (h:Qgt N p0 p1=some r):Spec Tryz.prog 74 [(.agg (Qab p0)),(I p1)] [] (I r) []:=by
  refine Qah Tryz.func74 rfl 0 (nle rfl) (fun X φ0 w0 hφ0 hd0=>?_)
  unfold Qgt at h
  refine wxz ?_
  obtain ⟨hz1,h⟩:=cko h
  obtain ⟨x2,hl3,h⟩:=bno h
  refine wxd tbk [(5,rp [(.tmp 7,I p1),(.tmp 9,I p0.Narrow)] (I (w64 (p1.tdiv p0.Narrow)))),(7,rp [ci 0,(.tmp 11,(I (w64 (p0.Wide - (w64 (p1.tdiv p0.Narrow))))))] (I x2))] ⟨Qnh rfl (Qqs hz1),Qjb hl3 (Qni rfl),tv⟩<|Qad ?_
  obtain rfl:=osi h
  exact fend ⟨[I x2],⟨rot,tv⟩,rfl⟩ nll
def Qho (_N:Nat) (_p0:Int) (_p1:(List GRow)) (_p2:(List GElement)) (_p3:Nat) (_p4:Nat) (_p5:Nat) (_p6:(List GStream)) (_p7:Int) (_p8:(List (List GStream))) (_p9:(List GLost)) (_p10:(List Int)):Option Unit:=
  some ()
def Q7l (p1:(List GRow)) (p2:(List GElement)) (p3:Nat) (p4:Nat) (p5:Nat) (p6:(List GStream)) (p7:Int):Slot:=.own 7 [[(.dat 5 ((p1:List GRow).map Qau)),(.dat 7 ((p2:List GElement).map Qab)),(.own 1 1 (0) (p3)),(.own 2 4 (0) (p4)),(.own 3 1 (0) (p5)),(.dat 4 ((p6:List GStream).map Qai)),(I (p7))]]
def Q7k (p8:(List (List GStream))):Slot:=.own 1 ((p8:List (List GStream)).map Qap)
def Q7j (p9:(List GLost)):Slot:=.own 4 ((p9:List GLost).map Qa9)
def Q7i (p10:(List Int)):Slot:=.own 1 ((p10:List Int).map Qaj)
def Q3h:AV:=.fn (.func 133) [] [(.ref 4 1 (0) 0),(.ref 5 1 (0) 0)]
def Zcp:Slot:=.own 1 [[(.ref 0 7 (0) 0)]]
theorem Qlr (N:Nat) (p0:Int) (p1:(List GRow)) (p2:(List GElement)) (p3:Nat) (p4:Nat) (p5:Nat) (p6:(List GStream)) (p7:Int) (p8:(List (List GStream))) (p9:(List GLost)) (p10:(List Int)) (r:Unit) (h:Qho N p0 p1 p2 p3 p4 p5 p6 p7 p8 p9 p10=some r):Spec Tryz.prog 116 [(.ref 0 7 (0) 0),(I (p0))] [(Q7l p1 p2 p3 p4 p5 p6 p7),(Q7k p8),(Q7j p9),(Q7i p10)] Q3h [(Q7l p1 p2 p3 p4 p5 p6 p7),(Q7k p8),(Q7j p9),(Q7i p10),Zcp,(.own 1 [[(I (p0))]])]:=by
  refine Qah Tryz.func116 rfl 6 (nle rfl) (fun X φ0 w0 hφ0 hd0=>?_)
  unfold Qho at h
  refine Qbh<|wxz ?_
  refine wx tbk [(0,rp [(.tmp 2,.ref 4 1 0 0),(.tmp 3,.ref 5 1 0 0)] Q3h)] ⟨Qe5 (fs:=[]) (cs:=[.ref 4 1 0 0,.ref 5 1 0 0]) rfl rfl rfl rfl,tv⟩ ?_
  refine wmr (mto (n:=6) (l':=[(4,Q3h)]) (own':=[(Q7l p1 p2 p3 p4 p5 p6 p7),(Q7k p8),(Q7j p9),(Q7i p10),Zcp,(.own 1 [[I p0]])]) [(4,Q3h)] [0,1,2,3,4,5] [(Q7l p1 p2 p3 p4 p5 p6 p7),(Q7k p8),(Q7j p9),(Q7i p10),Zcp,(.own 1 [[I p0]])] hφ0 (pc (.rn (Qbd rn0 (rnc (rqr rfl) (rnc (rqr rfl) rn0)))) pn) (qb (lc (rnd Qae) (lc (rnd Qaa) (lc (.rn (Qa0 rfl)) (lc (.rn (Qa0 rfl)) (lc (.rn (Qa0 rfl)) (lc (rnd Qag) (lc rwl ln))))))) (qc (spr Qaq) (qc (spr Qa1) (qc (spr Qaf) (qb (lc (.rn (rqr rfl)) ln) (qb (lc rwl ln) qn)))))))<|Qad ?_
  obtain rfl:=osi h
  exact ⟨_,Mor.rfl,Qct (vs:=[Q3h]) ⟨rot,tv⟩ rfl (NLt.fn _ _ _ nl0 (nlc (NLt.ref _ _ _ _ (by decide)) (nlc (NLt.ref _ _ _ _ (by decide)) nl0))) (by kernel_rfl) (Qan (Qa7 (nlc (NLt.of0 (nld Qae _)) (nlc (NLt.of0 (nld Qaa _)) (nlc (NLt.own _ _ _ _ (by decide)) (nlc (NLt.own _ _ _ _ (by decide)) (nlc (NLt.own _ _ _ _ (by decide)) (nlc (NLt.of0 (nld Qag _)) (nlc (NLt.of0 nll) nl0)))))))) (Qan (Qbw Qaq _) (Qan (Qbw Qa1 _) (Qan (Qbw Qaf _) (Qan (Qa7 (nlc (NLt.ref _ _ _ _ (by decide)) nl0)) (Qan (Qa7 (nlc (NLt.of0 nll) nl0)) Qbi))))))⟩
def Qcu (N:Nat) (p0:(List Int)) (k1:Unit→Option Int) (p1:Int):Nat→Int→Option Int
  | 0,_=>none
  | n4+1,y2=>
    bif (decide (y2<(p0.length:Int))) then
     (getI p0 y2).bind fun x6=>
     bif (p1==x6) then
      some y2
     else
      Qcu N p0 k1 p1 n4 (w64 (y2+1))
    else
     k1 ()
def Qf6 (N:Nat) (p0:(List Int)) (p1:Int):Option Int:=
  Qby (fun _=>
    some (-1)) fun k1:Unit→Option Int=>
  Qcu N p0 k1 p1 N 0
def Q0i (p0:(List Int)):AV:=.dat 1 ((p0:List Int).map Qaj)
theorem Qgx (N:Nat) (p0:(List Int)) (p1:Int) (r:Int) (h:Qf6 N p0 p1=some r):Spec Tryz.prog 134 [(.dat 1 (p0.map Qaj)),(I p1)] [] (I r) []:=by
  refine Qah Tryz.func134 rfl 0 (nle rfl) (fun X φ0 w0 hφ0 hd0=>?_)
  unfold Qf6 at h
  refine wxz ?_
  obtain ⟨k1,hk_k1,h⟩:=jko h
  refine wjn (τ:=Unit) (fun t=>k1 t=some r) (fun _=>⟨mk 19 [],[]⟩) (fun t h=>?_) ?_
  ·subst hk_k1
   refine wxz<|Qad ?_
   obtain rfl:=osi h
   exact fend ⟨[(I ((-1)))],⟨rot,tv⟩,rfl⟩ nll
  ·skip
   refine wx tbk [(1,rp [(.tmp 6,(Q0i p0))] (I ((p0.length:Int))))] ⟨alm (c:=Qaj) (l:=p0) (aln rfl Tryz.underlying27 rfl),tv⟩<|Qal ?_
   refine wmr (mto (n:=19) (l':=[(0,(Q0i p0)),(1,I p1),(7,(I ((p0.length:Int)))),(8,I 0)]) (own':=[]) [(0,(Q0i p0)),(1,I p1),(7,(I ((p0.length:Int)))),(8,I 0)] [] [] hφ0 (pc (rnd Qaf) (pw (pw (pw pn)))) qn) ?_
   refine Qbu (τ:=Int) (fun n t=>Qcu N p0 k1 p1 n t=some r) (fun y2=>⟨mk 19 [(0,(Q0i p0)),(1,I p1),(7,(I ((p0.length:Int)))),(8,I y2)],[]⟩) (fun t h=>by rw [Qcu] at h; cases h) (fun n4 ih y2 h=>?_) N (0) h
   rw [Qcu] at h
   skip
   refine wxz<|wsq ?_
   refine bfe h (fun hc5 h=>?_) fun hc5 h=>?_
   ·refine wft hc5<|Qam<|thn<|wsq<|Qal<|wxz ?_
    obtain ⟨x6,hg7,h⟩:=bno h
    obtain ⟨hi8,hj9⟩:=gsm hg7
    refine wx tbk [(3,rp [(.tmp 12,(Q0i p0)),(.tmp 13,I y2)] (.dptr (Qaj (x6)) 0))] ⟨aid rfl Tryz.underlying27 ti3 rfl rfl hi8 (mgt Qaj hj9) rfl,tv⟩ ?_
    refine bfe h (fun hc10 h=>?_) fun hc10 h=>?_
    ·refine wft hc10<|wxz<|Qad<|Qak<|Qac<|Qac<|Qak<|Qac ?_
     obtain rfl:=osi h
     exact fend ⟨[I y2],⟨rot,tv⟩,rfl⟩ nll
    ·exact wfn hc10<|Qam<|bln<|thn<|wxz1<|thn<|arm (mto (n:=19) [(0,(Q0i p0)),(1,I p1),(7,(I ((p0.length:Int)))),(8,(I (w64 (y2+1))))] [] [] hφ0 (pc (rnd Qaf) (pw (pw (pw pn)))) qn) (ih (w64 (y2+1)) h)
   ·exact wfn hc5<|Qbf<|Qav<|Qav<|Qbe rfl<|thn<|⟨(),h,(mto (n:=19) [] [] [] hφ0 pn qn)⟩
def Qdm (N:Nat) (x1:GElement) (p2:(List (List GStream))):Nat→Int→Option (List GStream)
  | 0,_=>none
  | n19+1,y15=>
    bif (decide (y15<(x1.From.length:Int))) then
     (getI x1.From y15).bind fun x21=>
     (getI p2 x21.Element).bind fun x25=>
     (getI x25 x21.Outlet).bind fun x29=>
     yld x29<|
     Qdm N x1 p2 n19 (w64 (y15+1))
    else
     some ([])
def Qhn (N:Nat) (p0:(List GRow)) (p1:(List GElement)) (p2:(List (List GStream))) (_p3:(List GLost)) (_p4:(List Int)) (p5:(List GStream)) (_p6:Int) (p7:Int):Option (List GStream):=
  (getI p1 p7).bind fun x1=>
  bif (x1.Kind==1) then
   (Qfv N (⟨p0,p1⟩:GNet) 1).bind fun x7=>
   (Qf6 N x7 p7).bind fun x9=>
   (getI p5 x9).bind fun x10=>
   yld x10<|
   some ([])
  else
   Qdm N x1 p2 N 0
def Qfg (p0:(List GRow)):AV:=.dat 5 ((p0:List GRow).map Qau)
def Qe6 (p1:(List GElement)):AV:=.dat 7 ((p1:List GElement).map Qab)
def Qe3 (p2:(List (List GStream))):AV:=.dat 1 ((p2:List (List GStream)).map Qap)
def Qfk (p3:(List GLost)):AV:=.dat 4 ((p3:List GLost).map Qa9)
def Qfj (p4:(List Int)):AV:=.dat 1 ((p4:List Int).map Qaj)
def Qe2 (p5:(List GStream)):AV:=.dat 4 ((p5:List GStream).map Qai)
def Q7h (p0:(List GRow)) (p1:(List GElement)):AV:=.agg [(Qfg p0),(Qe6 p1)]
def Q7g (x7:(List Int)):AV:=.dat 1 ((x7:List Int).map Qaj)
def Q7f (x10:GStream):AV:=.agg [(I (x10.Mass)),(I (x10.Heat)),(I (x10.Silica)),(I (x10.Gas))]
def Q0j (x1:GElement):AV:=.dat 2 ((x1.From:List GPort).map Qar)
def Qoi (x21:GPort):Slot:=.own 2 [[(I (x21.Element)),(I (x21.Outlet))]]
def Qyf (x25:(List GStream)):AV:=.dat 4 ((x25:List GStream).map Qai)
def Qye (x29:GStream):AV:=.agg [(I (x29.Mass)),(I (x29.Heat)),(I (x29.Silica)),(I (x29.Gas))]
theorem Qlq (N:Nat) (p0:(List GRow)) (p1:(List GElement)) (p2:(List (List GStream))) (p3:(List GLost)) (p4:(List Int)) (p5:(List GStream)) (p6:Int) (p7:Int) (r:(List GStream)) (h:Qhn N p0 p1 p2 p3 p4 p5 p6 p7=some r):Qq7 Tryz.prog 133 [(.dptr [(.dptr [(Qfg p0),(Qe6 p1),(Qe3 p2),(Qfk p3),(Qfj p4),(Qe2 p5),(I (p6))] 0)] 0),(.dptr [(I (p7))] 0)] [] (fun x=>[(.agg #[(.int .i64 (x.Mass)),(.int .i64 (x.Heat)),(.int .i64 (x.Silica)),(.int .i64 (x.Gas))])]) r:=by
  refine Qrt Tryz.func133 rfl rfl (fun X φ0 w0 l J hφ0 hy=>?_)
  unfold Qhn at h
  refine wsq ?_
  obtain ⟨x1,hg2,h⟩:=bno h
  obtain ⟨hi3,hj4⟩:=gsm hg2
  refine wxd tbk [(6,rp [(.tmp 10,(Qe6 p1)),(.tmp 11,I p7)] (.dptr (Qab (x1)) 0))] ⟨aid rfl Tryz.underlying40 Qg2 rfl rfl hi3 (mgt Qab hj4) rfl,tv⟩ ?_
  refine bfe h (fun hc5 h=>?_) fun hc5 h=>?_
  ·refine wft hc5 ?_
   obtain ⟨x7,hf6,h⟩:=bno h
   obtain ⟨x9,hf8,h⟩:=bno h
   obtain ⟨x10,hg11,h⟩:=bno h
   obtain ⟨hi12,hj13⟩:=gsm hg11
   obtain ⟨q14,hy_,hq_⟩:=Qwx h
   clear h
   subst hq_
   have h:=hy_
   clear hy_
   refine Qvc 14 [mv 0 (.lit (.func (.yield l) #[] #[])),rp [(.tmp 1,(.dptr [(.dptr [(Qfg p0),(Qe6 p1),(Qe3 p2),(Qfk p3),(Qfj p4),(Qe2 p5),I p6] 0)] 0))] (.dptr [(Qfg p0),(Qe6 p1),(Qe3 p2),(Qfk p3),(Qfj p4),(Qe2 p5),I p6] 0),mv 17 (.dptr [(Qfg p0),(Qe6 p1),(Qe3 p2),(Qfk p3),(Qfj p4),(Qe2 p5),I p6] 0),rp [(.tmp 18,(.dptr [(Qfg p0),(Qe6 p1),(Qe3 p2),(Qfk p3),(Qfj p4),(Qe2 p5),I p6] 0))] (.dptr [(Qfg p0),(Qe6 p1),(Qe3 p2),(Qfk p3),(Qfj p4),(Qe2 p5),I p6] 5),rp [(.tmp 19,(.dptr [(Qfg p0),(Qe6 p1),(Qe3 p2),(Qfk p3),(Qfj p4),(Qe2 p5),I p6] 5))] (Qe2 p5),rp [(.tmp 1,(.dptr [(.dptr [(Qfg p0),(Qe6 p1),(Qe3 p2),(Qfk p3),(Qfj p4),(Qe2 p5),I p6] 0)] 0))] (.dptr [(Qfg p0),(Qe6 p1),(Qe3 p2),(Qfk p3),(Qfj p4),(Qe2 p5),I p6] 0),mv 21 (.dptr [(Qfg p0),(Qe6 p1),(Qe3 p2),(Qfk p3),(Qfj p4),(Qe2 p5),I p6] 0),mv 22 (.dptr [(Qfg p0),(Qe6 p1),(Qe3 p2),(Qfk p3),(Qfj p4),(Qe2 p5),I p6] 0),rp [(.tmp 23,(.dptr [(Qfg p0),(Qe6 p1),(Qe3 p2),(Qfk p3),(Qfj p4),(Qe2 p5),I p6] 0))] (Q7h p0 p1),rp [fu 67,(.tmp 24,(Q7h p0 p1)),(.const (.int .u8 1),(K .u8 (1)))] (Q7g x7),rp [(.tmp 2,(.dptr [I p7] 0))] (I p7),rp [fu 134,(.tmp 25,(Q7g x7)),(.tmp 26,I p7)] (I x9),rp [(.tmp 20,(Qe2 p5)),(.tmp 27,I x9)] (.dptr (Qai (x10)) 0),rp [(.tmp 28,(.dptr (Qai (x10)) 0))] (Q7f x10),⟨[(.tmp 16,(.lit (.func (.yield l) #[] #[]))),(.tmp 29,(Q7f x10))],[(0,(.far (J (some (x10::q14)))))],B true,[(0,(.far (J (some (q14)))))],false⟩] [mv 0 (.lit (.func (.yield l) #[] #[])),rp [(.tmp 1,(.dptr [(.dptr [(Qfg p0),(Qe6 p1),(Qe3 p2),(Qfk p3),(Qfj p4),(Qe2 p5),I p6] 0)] 0))] (.dptr [(Qfg p0),(Qe6 p1),(Qe3 p2),(Qfk p3),(Qfj p4),(Qe2 p5),I p6] 0),mv 17 (.dptr [(Qfg p0),(Qe6 p1),(Qe3 p2),(Qfk p3),(Qfj p4),(Qe2 p5),I p6] 0),rp [(.tmp 18,(.dptr [(Qfg p0),(Qe6 p1),(Qe3 p2),(Qfk p3),(Qfj p4),(Qe2 p5),I p6] 0))] (.dptr [(Qfg p0),(Qe6 p1),(Qe3 p2),(Qfk p3),(Qfj p4),(Qe2 p5),I p6] 5),rp [(.tmp 19,(.dptr [(Qfg p0),(Qe6 p1),(Qe3 p2),(Qfk p3),(Qfj p4),(Qe2 p5),I p6] 5))] (Qe2 p5),rp [(.tmp 1,(.dptr [(.dptr [(Qfg p0),(Qe6 p1),(Qe3 p2),(Qfk p3),(Qfj p4),(Qe2 p5),I p6] 0)] 0))] (.dptr [(Qfg p0),(Qe6 p1),(Qe3 p2),(Qfk p3),(Qfj p4),(Qe2 p5),I p6] 0),mv 21 (.dptr [(Qfg p0),(Qe6 p1),(Qe3 p2),(Qfk p3),(Qfj p4),(Qe2 p5),I p6] 0),mv 22 (.dptr [(Qfg p0),(Qe6 p1),(Qe3 p2),(Qfk p3),(Qfj p4),(Qe2 p5),I p6] 0),rp [(.tmp 23,(.dptr [(Qfg p0),(Qe6 p1),(Qe3 p2),(Qfk p3),(Qfj p4),(Qe2 p5),I p6] 0))] (Q7h p0 p1),rp [fu 67,(.tmp 24,(Q7h p0 p1)),(.const (.int .u8 1),(K .u8 (1)))] (Q7g x7),rp [(.tmp 2,(.dptr [I p7] 0))] (I p7),rp [fu 134,(.tmp 25,(Q7g x7)),(.tmp 26,I p7)] (I x9),rp [(.tmp 20,(Qe2 p5)),(.tmp 27,I x9)] (.dptr (Qai (x10)) 0),rp [(.tmp 28,(.dptr (Qai (x10)) 0))] (Q7f x10),⟨[(.tmp 16,(.lit (.func (.yield l) #[] #[]))),(.tmp 29,(Q7f x10))],[(0,(.far (J (some (x10::q14)))))],B false,[(0,(.far (J none)))],false⟩] (by exact ⟨by kernel_rfl,by kernel_rfl⟩) (by exact ⟨by kernel_rfl,by kernel_rfl⟩) rfl rfl rfl rfl (Qmf (rd':=(.tmp 16,.lit (.func (.yield l) #[] #[]))::[(.tmp 29,.lit (.agg #[(.int .i64 (x10.Mass)),(.int .i64 (x10.Heat)),(.int .i64 (x10.Silica)),(.int .i64 (x10.Gas))]))]) ⟨rfl,lrf,rfl,(Less.lits [(.int .i64 (x10.Mass)),(.int .i64 (x10.Heat)),(.int .i64 (x10.Silica)),(.int .i64 (x10.Gas))]),tv⟩ (Qla (x:=x10) (rest:=q14) rfl rfl hy rfl)) (⟨fun _ _=>amv rfl,fun _ _=>ald_ rfl Qra (by decide) (nle rfl) rfl,fun _ _=>anc rfl rfl,fun _ _=>afd rfl Tryz.underlying140 rfl rfl ti45 (by decide) rfl,fun _ _=>ald_ rfl ti45 (by decide) (nle rfl) rfl,fun _ _=>ald_ rfl Qra (by decide) (nle rfl) rfl,fun _ _=>anc rfl rfl,fun _ _=>afd rfl Tryz.underlying140 rfl rfl ti42 (by decide) rfl,fun _ _=>ald_ rfl ti42 (by decide) (nle rfl) rfl,fun _ _=>apv Qql (Qf8 N (⟨p0,p1⟩:GNet) 1 _ hf6) (nlc (NLt.agg _ (nlc (nld Qae _) (nlc (nld Qaa _) nl0))) (nlc nll nl0)) (nld Qaf _),fun _ _=>ald_ rfl ti3 (by decide) (nle rfl) rfl,fun _ _=>apv Qzv (Qgx N x7 p7 _ hf8) (nlc (nld Qaf _) (nlc nll nl0)) nll,fun _ _=>aid rfl Tryz.underlying45 ti63 rfl rfl hi12 (mgt Qai hj13) rfl,fun _ _=>ald_ rfl ti63 (by decide) (nle rfl) rfl,fun _ h=>absurd rfl h,tv⟩) (⟨fun _ _=>amv rfl,fun _ _=>ald_ rfl Qra (by decide) (nle rfl) rfl,fun _ _=>anc rfl rfl,fun _ _=>afd rfl Tryz.underlying140 rfl rfl ti45 (by decide) rfl,fun _ _=>ald_ rfl ti45 (by decide) (nle rfl) rfl,fun _ _=>ald_ rfl Qra (by decide) (nle rfl) rfl,fun _ _=>anc rfl rfl,fun _ _=>afd rfl Tryz.underlying140 rfl rfl ti42 (by decide) rfl,fun _ _=>ald_ rfl ti42 (by decide) (nle rfl) rfl,fun _ _=>apv Qql (Qf8 N (⟨p0,p1⟩:GNet) 1 _ hf6) (nlc (NLt.agg _ (nlc (nld Qae _) (nlc (nld Qaa _) nl0))) (nlc nll nl0)) (nld Qaf _),fun _ _=>ald_ rfl ti3 (by decide) (nle rfl) rfl,fun _ _=>apv Qzv (Qgx N x7 p7 _ hf8) (nlc (nld Qaf _) (nlc nll nl0)) nll,fun _ _=>aid rfl Tryz.underlying45 ti63 rfl rfl hi12 (mgt Qai hj13) rfl,fun _ _=>ald_ rfl ti63 (by decide) (nle rfl) rfl,fun _ h=>absurd rfl h,tv⟩) ?_ ?_
   ·skip
    refine Qad<|Qac ?_
    obtain rfl:=osi h
    exact Or.inl rfl
   ·clear h
    exact Qad<|Qac<|Or.inr (by kernel_rfl)
  ·refine wfn hc5<|Qam<|thn ?_
   refine wxd tbk [(6,rp [(.tmp 35,(Qe6 p1)),(.tmp 36,I p7)] (.dptr (Qab (x1)) 0)),(9,rp [(.tmp 39,(Q0j x1))] (I ((x1.From.length:Int))))] ⟨aid rfl Tryz.underlying40 Qg2 rfl rfl hi3 (mgt Qab hj4) rfl,alm (c:=Qar) (l:=x1.From) (aln rfl Tryz.underlying116 rfl),tv⟩<|Qal ?_
   refine wmr (mto (n:=62) (l':=[(0,(.lit (.func (.yield l) #[] #[]))),(1,(.dptr [(.dptr [(Qfg p0),(Qe6 p1),(Qe3 p2),(Qfk p3),(Qfj p4),(Qe2 p5),I p6] 0)] 0)),(39,(Q0j x1)),(40,(I ((x1.From.length:Int)))),(41,I 0)]) (own':=[(.far (J (some (r))))]) [(0,(.lit (.func (.yield l) #[] #[]))),(1,(.dptr [(.dptr [(Qfg p0),(Qe6 p1),(Qe3 p2),(Qfk p3),(Qfj p4),(Qe2 p5),I p6] 0)] 0)),(39,(Q0j x1)),(40,(I ((x1.From.length:Int)))),(41,I 0)] [0] [(.far (J (some (r))))] hφ0 (pw (pc (.rn (.plain _ (NLt.dptr _ _ (nlc (NLt.dptr _ _ (nlc (nld Qae _) (nlc (nld Qaa _) (nlc (nld Qaq _) (nlc (nld Qa1 _) (nlc (nld Qaf _) (nlc (nld Qag _) (nlc nll nl0)))))))) nl0)))) (pc (rnd Qaz) (pw (pw pn))))) (qc (.far _) qn)) ?_
   refine Qbu (τ:=(Int)×List GStream) (fun n t=>Qdm N x1 p2 n t.1=some t.2) (fun ⟨y15,q16⟩=>⟨mk 62 [(0,(.lit (.func (.yield l) #[] #[]))),(1,(.dptr [(.dptr [(Qfg p0),(Qe6 p1),(Qe3 p2),(Qfk p3),(Qfj p4),(Qe2 p5),I p6] 0)] 0)),(39,(Q0j x1)),(40,(I ((x1.From.length:Int)))),(41,I y15)],[(.far (J (some (q16))))]⟩) (fun t h=>by rw [Qdm] at h; cases h) (fun n19 ih t h=>?_) N ((0),r) h
   obtain ⟨y15,q16⟩:=t
   rw [Qdm] at h
   try dsimp only at h
   refine wxz<|wsq ?_
   refine bfe h (fun hc20 h=>?_) fun hc20 h=>?_
   ·refine wft hc20<|Qam<|thn<|wsq<|Qal ?_
    obtain ⟨x21,hg22,h⟩:=bno h
    obtain ⟨hi23,hj24⟩:=gsm hg22
    refine wx tbk [(0,rp [(.tmp 39,(Q0j x1)),(.tmp 41,I y15)] (.dptr (Qar (x21)) 0))] ⟨aid rfl Tryz.underlying116 Qkv rfl rfl hi23 (mgt Qar hj24) rfl,tv⟩ ?_
    obtain ⟨x25,hg26,h⟩:=bno h
    obtain ⟨hi27,hj28⟩:=gsm hg26
    obtain ⟨x29,hg30,h⟩:=bno h
    obtain ⟨hi31,hj32⟩:=gsm hg30
    obtain ⟨q33,hy_,hq_⟩:=Qwx h
    clear h
    subst hq_
    have h:=hy_
    clear hy_
    refine Qvc 14 [mv 0 (.lit (.func (.yield l) #[] #[])),rp [(.tmp 1,(.dptr [(.dptr [(Qfg p0),(Qe6 p1),(Qe3 p2),(Qfk p3),(Qfj p4),(Qe2 p5),I p6] 0)] 0))] (.dptr [(Qfg p0),(Qe6 p1),(Qe3 p2),(Qfk p3),(Qfj p4),(Qe2 p5),I p6] 0),mv 46 (.dptr [(Qfg p0),(Qe6 p1),(Qe3 p2),(Qfk p3),(Qfj p4),(Qe2 p5),I p6] 0),rp [(.tmp 47,(.dptr [(Qfg p0),(Qe6 p1),(Qe3 p2),(Qfk p3),(Qfj p4),(Qe2 p5),I p6] 0))] (.dptr [(Qfg p0),(Qe6 p1),(Qe3 p2),(Qfk p3),(Qfj p4),(Qe2 p5),I p6] 2),mv 48 (.dptr [(Qfg p0),(Qe6 p1),(Qe3 p2),(Qfk p3),(Qfj p4),(Qe2 p5),I p6] 2),rp [(.tmp 49,(.dptr [(Qfg p0),(Qe6 p1),(Qe3 p2),(Qfk p3),(Qfj p4),(Qe2 p5),I p6] 2))] (Qe3 p2),rb [(.tmp 5,.ref 1 2 0 0)] [(1,(Qoi x21))] (.ref 1 2 0 0),rb [(.tmp 51,.ref 1 2 0 0)] [(1,(Qoi x21))] (I x21.Element),rp [(.tmp 50,(Qe3 p2)),(.tmp 52,I x21.Element)] (.dptr (Qap (x25)) 0),rp [(.tmp 53,(.dptr (Qap (x25)) 0))] (Qyf x25),rb [(.tmp 5,.ref 1 2 0 0)] [(1,(Qoi x21))] (.ref 1 2 0 1),rb [(.tmp 55,.ref 1 2 0 1)] [(1,(Qoi x21))] (I x21.Outlet),rp [(.tmp 54,(Qyf x25)),(.tmp 56,I x21.Outlet)] (.dptr (Qai (x29)) 0),rp [(.tmp 57,(.dptr (Qai (x29)) 0))] (Qye x29),⟨[(.tmp 45,(.lit (.func (.yield l) #[] #[]))),(.tmp 58,(Qye x29))],[(0,(.far (J (some (x29::q33)))))],B true,[(0,(.far (J (some (q33)))))],false⟩,rp [(.tmp 59,B true)] (B false)] [mv 0 (.lit (.func (.yield l) #[] #[])),rp [(.tmp 1,(.dptr [(.dptr [(Qfg p0),(Qe6 p1),(Qe3 p2),(Qfk p3),(Qfj p4),(Qe2 p5),I p6] 0)] 0))] (.dptr [(Qfg p0),(Qe6 p1),(Qe3 p2),(Qfk p3),(Qfj p4),(Qe2 p5),I p6] 0),mv 46 (.dptr [(Qfg p0),(Qe6 p1),(Qe3 p2),(Qfk p3),(Qfj p4),(Qe2 p5),I p6] 0),rp [(.tmp 47,(.dptr [(Qfg p0),(Qe6 p1),(Qe3 p2),(Qfk p3),(Qfj p4),(Qe2 p5),I p6] 0))] (.dptr [(Qfg p0),(Qe6 p1),(Qe3 p2),(Qfk p3),(Qfj p4),(Qe2 p5),I p6] 2),mv 48 (.dptr [(Qfg p0),(Qe6 p1),(Qe3 p2),(Qfk p3),(Qfj p4),(Qe2 p5),I p6] 2),rp [(.tmp 49,(.dptr [(Qfg p0),(Qe6 p1),(Qe3 p2),(Qfk p3),(Qfj p4),(Qe2 p5),I p6] 2))] (Qe3 p2),rb [(.tmp 5,.ref 1 2 0 0)] [(1,(Qoi x21))] (.ref 1 2 0 0),rb [(.tmp 51,.ref 1 2 0 0)] [(1,(Qoi x21))] (I x21.Element),rp [(.tmp 50,(Qe3 p2)),(.tmp 52,I x21.Element)] (.dptr (Qap (x25)) 0),rp [(.tmp 53,(.dptr (Qap (x25)) 0))] (Qyf x25),rb [(.tmp 5,.ref 1 2 0 0)] [(1,(Qoi x21))] (.ref 1 2 0 1),rb [(.tmp 55,.ref 1 2 0 1)] [(1,(Qoi x21))] (I x21.Outlet),rp [(.tmp 54,(Qyf x25)),(.tmp 56,I x21.Outlet)] (.dptr (Qai (x29)) 0),rp [(.tmp 57,(.dptr (Qai (x29)) 0))] (Qye x29),⟨[(.tmp 45,(.lit (.func (.yield l) #[] #[]))),(.tmp 58,(Qye x29))],[(0,(.far (J (some (x29::q33)))))],B false,[(0,(.far (J none)))],false⟩,rp [(.tmp 59,B false)] (B true)] (by exact ⟨by kernel_rfl,by kernel_rfl⟩) (by exact ⟨by kernel_rfl,by kernel_rfl⟩) rfl rfl rfl rfl (Qmf (rd':=(.tmp 45,.lit (.func (.yield l) #[] #[]))::[(.tmp 58,.lit (.agg #[(.int .i64 (x29.Mass)),(.int .i64 (x29.Heat)),(.int .i64 (x29.Silica)),(.int .i64 (x29.Gas))]))]) ⟨rfl,lrf,rfl,(Less.lits [(.int .i64 (x29.Mass)),(.int .i64 (x29.Heat)),(.int .i64 (x29.Silica)),(.int .i64 (x29.Gas))]),tv⟩ (Qla (x:=x29) (rest:=q33) rfl rfl hy rfl)) (⟨fun _ _=>amv rfl,fun _ _=>ald_ rfl Qra (by decide) (nle rfl) rfl,fun _ _=>anc rfl rfl,fun _ _=>afd rfl Tryz.underlying140 rfl rfl ti34 (by decide) rfl,fun _ _=>afd rfl Tryz.underlying34 rfl rfl ti31 (by decide) rfl,fun _ _=>ald_ rfl ti31 (by decide) (nle rfl) rfl,fun _ _=>afa rfl Tryz.underlying120 rfl rfl ti3 (by decide) rfl,fun _ _=>ald rfl ti3 (by decide) rfl (nle rfl) rfl,fun _ _=>aid rfl Tryz.underlying31 ti45 rfl rfl hi27 (mgt Qap hj28) rfl,fun _ _=>ald_ rfl ti45 (by decide) (nle rfl) rfl,fun _ _=>afa rfl Tryz.underlying120 rfl rfl ti3 (by decide) rfl,fun _ _=>ald rfl ti3 (by decide) rfl (nle rfl) rfl,fun _ _=>aid rfl Tryz.underlying45 ti63 rfl rfl hi31 (mgt Qai hj32) rfl,fun _ _=>ald_ rfl ti63 (by decide) (nle rfl) rfl,fun _ h=>absurd rfl h,fun _ _=>Qja rfl,tv⟩) (⟨fun _ _=>amv rfl,fun _ _=>ald_ rfl Qra (by decide) (nle rfl) rfl,fun _ _=>anc rfl rfl,fun _ _=>afd rfl Tryz.underlying140 rfl rfl ti34 (by decide) rfl,fun _ _=>afd rfl Tryz.underlying34 rfl rfl ti31 (by decide) rfl,fun _ _=>ald_ rfl ti31 (by decide) (nle rfl) rfl,fun _ _=>afa rfl Tryz.underlying120 rfl rfl ti3 (by decide) rfl,fun _ _=>ald rfl ti3 (by decide) rfl (nle rfl) rfl,fun _ _=>aid rfl Tryz.underlying31 ti45 rfl rfl hi27 (mgt Qap hj28) rfl,fun _ _=>ald_ rfl ti45 (by decide) (nle rfl) rfl,fun _ _=>afa rfl Tryz.underlying120 rfl rfl ti3 (by decide) rfl,fun _ _=>ald rfl ti3 (by decide) rfl (nle rfl) rfl,fun _ _=>aid rfl Tryz.underlying45 ti63 rfl rfl hi31 (mgt Qai hj32) rfl,fun _ _=>ald_ rfl ti63 (by decide) (nle rfl) rfl,fun _ h=>absurd rfl h,fun _ _=>Qja rfl,tv⟩) ?_ ?_
    ·skip
     exact wfa<|Qam<|bln<|thn<|wxz1<|thn<|arm (mto (n:=62) [(0,(.lit (.func (.yield l) #[] #[]))),(1,(.dptr [(.dptr [(Qfg p0),(Qe6 p1),(Qe3 p2),(Qfk p3),(Qfj p4),(Qe2 p5),I p6] 0)] 0)),(39,(Q0j x1)),(40,(I ((x1.From.length:Int)))),(41,(I (w64 (y15+1))))] [0] [(.far (J (some (q33))))] hφ0 (pw (pc (.rn (.plain _ (NLt.dptr _ _ (nlc (NLt.dptr _ _ (nlc (nld Qae _) (nlc (nld Qaa _) (nlc (nld Qaq _) (nlc (nld Qa1 _) (nlc (nld Qaf _) (nlc (nld Qag _) (nlc nll nl0)))))))) nl0)))) (pc (rnd Qaz) (pw (pw pn))))) (qc (.far _) qn)) (ih ((w64 (y15+1)),q33) h)
    ·clear h
     exact wtr<|Qad<|Qak<|Qac<|Qac<|Qak<|Or.inr (by kernel_rfl)
   ·refine wfn hc20<|Qbf<|Qav<|Qav<|Qbe rfl ?_
    obtain rfl:=osi h
    exact Or.inl rfl
def Qa5 (N:Nat) (k3:(List GStream)→Option (List GStream)):(List GStream)→(List GStream)→Option (List GStream)
  | [],y6=>
    k3 (y6)
  | x9::q10,y6=>
    chk (decide ((y6.length+([x9]).length) * 32≤140737488355328))<|
    Qa5 N k3 q10 (y6++([x9]))
def Qcd (N:Nat) (p0:(List GRow)) (p1:(List GElement)) (p2:(List (List GStream))) (p3:(List GLost)) (p4:(List Int)) (p5:(List GStream)) (p6:Int) (p7:Int):Option (List GStream):=
  Qby (fun y2=>
    some y2) fun k3:(List GStream)→Option (List GStream)=>
  (Qhn N p0 p1 p2 p3 p4 p5 p6 p7).bind fun q4=>
  Qa5 N k3 q4 ([])
def Zcn (p0:(List GRow)) (p1:(List GElement)) (p2:(List (List GStream))) (p3:(List GLost)) (p4:(List Int)) (p5:(List GStream)) (p6:Int) (p7:Int):AV:=.fn (.func 133) [] [(.dptr [(.dptr [(.dat 5 ((p0:List GRow).map Qau)),(.dat 7 ((p1:List GElement).map Qab)),(.dat 1 ((p2:List (List GStream)).map Qap)),(.dat 4 ((p3:List GLost).map Qa9)),(.dat 1 ((p4:List Int).map Qaj)),(.dat 4 ((p5:List GStream).map Qai)),(I (p6))] 0)] 0),(.dptr [(I (p7))] 0)]
def Q3f (y6:(List GStream)):AV:=.acc 1 63 4 ((y6:List GStream).map Qai)
def Za6 (x9:GStream):AV:=.agg [(I (x9.Mass)),(I (x9.Heat)),(I (x9.Silica)),(I (x9.Gas))]
theorem Qfb (N:Nat) (p0:(List GRow)) (p1:(List GElement)) (p2:(List (List GStream))) (p3:(List GLost)) (p4:(List Int)) (p5:(List GStream)) (p6:Int) (p7:Int) (r:(List GStream)) (h:Qcd N p0 p1 p2 p3 p4 p5 p6 p7=some r):Spec Tryz.prog 132 [nilS,(Zcn p0 p1 p2 p3 p4 p5 p6 p7)] [] (.acc 0 63 4 ((r:List GStream).map Qai)) [.tok]:=by
  refine Qah Tryz.func132 rfl 1 (nle rfl) (fun X φ0 w0 hφ0 hd0=>?_)
  unfold Qcd at h
  refine Qbh<|wxz ?_
  obtain ⟨k3,hk_k3,h⟩:=jko h
  refine wjn (τ:=(List GStream)) (fun t=>k3 t=some r) (fun y2=>⟨mk 13 [(2,.ref 0 1 0 0)],[(.own 1 [[(.acc 1 63 4 ((y2:List GStream).map Qai))]]),.tok]⟩) (fun y2 h=>?_) ?_
  ·subst hk_k3
   refine wxz<|wmr (mto (n:=13) (l':=[(4,(.acc 0 63 4 ((y2:List GStream).map Qai)))]) (own':=[.tok]) [(4,(.acc 1 63 4 ((y2:List GStream).map Qai)))] [1] [.tok] hφ0 (pc (.rn (Qcw rfl (Qb9 Qag _))) pn) (qc .tok qn))<|Qad ?_
   obtain rfl:=osi h
   exact ⟨_,Mor.rfl,Qct (vs:=[(.acc 0 63 4 ((y2:List GStream).map Qai))]) ⟨rot,tv⟩ rfl (NLt.acc _ _ _ _ (by decide) (Qs8 Qag _)) (by kernel_rfl) (Qan .tok Qbi)⟩
  ·skip
   refine wxz<|Qal ?_
   obtain ⟨q4,hL5,h⟩:=bno h
   refine wmr (mto (n:=13) (l':=[(2,.ref 0 1 0 0),(6,(Zcn p0 p1 p2 p3 p4 p5 p6 p7))]) (own':=[(.own 1 [[nilS]])]) [(2,.ref 0 1 0 0),(6,(Zcn p0 p1 p2 p3 p4 p5 p6 p7))] [0] [(.own 1 [[nilS]])] hφ0 (prr (pc (.rn (Qbd rn0 (rnc (.plain _ (NLt.dptr _ _ (nlc (NLt.dptr _ _ (nlc (nld Qae _) (nlc (nld Qaa _) (nlc (nld Qaq _) (nlc (nld Qa1 _) (nlc (nld Qaf _) (nlc (nld Qag _) (nlc nll nl0)))))))) nl0))) (rnc (.plain _ (NLt.dptr _ _ (nlc nll nl0))) rn0)))) pn)) (qb (lc rwl ln) qn)) ?_
   refine wmr (Qo9 (n:=1) (ty:=63) (m:=4) (q:=0) (mq:=1) (c:=[nilS]) 0 (by kernel_rfl) (by kernel_rfl) (by kernel_rfl) (by decide)) ?_
   refine Qr7 (τ:=((List GStream))) (kb:=1) (caps:=[(.dptr [(.dptr [(.dat 5 ((p0:List GRow).map Qau)),(.dat 7 ((p1:List GElement).map Qab)),(.dat 1 ((p2:List (List GStream)).map Qap)),(.dat 4 ((p3:List GLost).map Qa9)),(.dat 1 ((p4:List Int).map Qaj)),(.dat 4 ((p5:List GStream).map Qai)),I p6] 0)] 0),(.dptr [I p7] 0)]) (σr:=[]) (encs:=fun x=>[(.agg #[(.int .i64 (x.Mass)),(.int .i64 (x.Heat)),(.int .i64 (x.Silica)),(.int .i64 (x.Gas))])]) (fun x=>[(.agg [I x.Mass,I x.Heat,I x.Silica,I x.Gas])]) [] (fun n hn=>hφ0 n (Nat.le_trans (nle rfl) hn)) hd0 (Qlq N p0 p1 p2 p3 p4 p5 p6 p7 _ hL5) Q9k (by kernel_rfl) (by kernel_rfl) (Qbn (rnc (.plain _ (NLt.dptr _ _ (nlc (NLt.dptr _ _ (nlc (nld Qae _) (nlc (nld Qaa _) (nlc (nld Qaq _) (nlc (nld Qa1 _) (nlc (nld Qaf _) (nlc (nld Qag _) (nlc nll nl0)))))))) nl0))) (rnc (.plain _ (NLt.dptr _ _ (nlc nll nl0))) rn0))) Qas (by kernel_rfl) (fun _=>rfl) (fun x=>⟨(Less.unlits [(.int .i64 (x.Mass)),(.int .i64 (x.Heat)),(.int .i64 (x.Silica)),(.int .i64 (x.Gas))]),tv⟩) (Zbt (Qo8 (NLt.ref _ _ _ _ (by decide)) (Qo8 (NLt.of0 (NLt.fn _ _ _ nl0 (nlc (NLt.dptr _ _ (nlc (NLt.dptr _ _ (nlc (nld Qae _) (nlc (nld Qaa _) (nlc (nld Qaq _) (nlc (nld Qa1 _) (nlc (nld Qaf _) (nlc (nld Qag _) (nlc nll nl0)))))))) nl0)) (nlc (NLt.dptr _ _ (nlc nll nl0)) nl0)))) Q5a))) (fun y6=>[(.own 1 [[(Q3f y6)]]),.tok]) (fun _=>rfl) (fun _=>rfl) (fun l t=>Qa5 N k3 l t=some r) ([]) h (by kernel_rfl) ?_ ?_
   ·intro l11 o12 X15 φ16 w17 hφ14 x9 q10 y6 h
    rw [Qa5] at h
    refine wxz1 ?_
    refine ⟨by kernel_rfl,fun o13=>?_⟩
    refine Qal ?_
    obtain ⟨ha18,h⟩:=cko h
    refine wx1 tbk [(2,rp [(.tmp 9,(Za6 x9))] (.dat 4 (([x9]:List GStream).map Qai))),(3,⟨[(.tmp 8,(Q3f y6)),(.tmp 10,(.dat 4 (([x9]:List GStream).map Qai)))],[(1,.tok),(4,.unused)],(.acc 4 63 4 ((y6++([x9]):List GStream).map Qai)),[(1,.dead),(4,.tok)],false⟩)] ⟨Qbt (vs:=[(Za6 x9)]) rfl Tryz.underlying45 ti63 tz63 rfl (by decide) rfl (by decide) (by rfl) (by rfl) (by rfl) rfl,Qej rfl Tryz.underlying45 te63 (Base.acc _ _) rfl rfl (by rfl) (Qgj Qai ha18) (Qgi Qai ha18 (by decide)) (Qgh Qai) rfl rfl,tv⟩<|bln ?_
    exact ⟨(y6++([x9])),h,Zbo (own':=[(.own 1 [[(.acc 1 63 4 (((y6++([x9])):List GStream).map Qai))]]),.tok,(.far (farL l11 o13))]) [0,4,2] [(.own 1 [[(.acc 4 63 4 ((y6++([x9]):List GStream).map Qai))]]),.tok,(.far (farL l11 o13))] (by kernel_rfl) (by kernel_rfl) ⟨(spb (lc (.rn (Qcw rfl (Qb9 Qag _))) ln)),.tok,.far _,tv⟩⟩
   ·intro y6 h
    rw [Qa5] at h
    exact bln<|thn<|⟨(y6),h,(mto (n:=13) [(2,.ref 0 1 0 0)] [0,1] [(.own 1 [[(Q3f y6)]]),.tok] hφ0 (prr pn) (qb (lc (.rn (Qcw rfl (Qb9 Qag _))) ln) (qc .tok qn)))⟩
def Qd6 (N:Nat) (p0:(List GRow)) (p1:(List GElement)) (p2:(List (List GStream))) (p3:(List GLost)) (p4:(List Int)) (p5:(List GStream)) (p6:Int) (p7:Int):Option (List GStream):=
  (Qcd N p0 p1 p2 p3 p4 p5 p6 p7).bind fun x3=>
  some x3
def Zco (p0:(List GRow)) (p1:(List GElement)) (p2:(List (List GStream))) (p3:(List GLost)) (p4:(List Int)) (p5:(List GStream)) (p6:Int) (p7:Int):AV:=.fn (.func 133) [] [(.dptr [(.dptr [(.dat 5 ((p0:List GRow).map Qau)),(.dat 7 ((p1:List GElement).map Qab)),(.dat 1 ((p2:List (List GStream)).map Qap)),(.dat 4 ((p3:List GLost).map Qa9)),(.dat 1 ((p4:List Int).map Qaj)),(.dat 4 ((p5:List GStream).map Qai)),(I (p6))] 0)] 0),(.dptr [(I (p7))] 0)]
def Q3g (x3:(List GStream)):AV:=.acc 0 63 4 ((x3:List GStream).map Qai)
theorem Qhb (N:Nat) (p0:(List GRow)) (p1:(List GElement)) (p2:(List (List GStream))) (p3:(List GLost)) (p4:(List Int)) (p5:(List GStream)) (p6:Int) (p7:Int) (r:(List GStream)) (h:Qd6 N p0 p1 p2 p3 p4 p5 p6 p7=some r):Spec Tryz.prog 115 [(Zco p0 p1 p2 p3 p4 p5 p6 p7)] [] (.acc 0 63 4 ((r:List GStream).map Qai)) [.tok]:=by
  refine Qah Tryz.func115 rfl 1 (nle rfl) (fun X φ0 w0 hφ0 hd0=>?_)
  unfold Qd6 at h
  refine Qbh<|wxz ?_
  obtain ⟨x3,hf2,h⟩:=bno h
  refine wx tbk [(1,⟨[fu 132,((.const (.slice none 0 0)),nilS),(.tmp 3,(Zco p0 p1 p2 p3 p4 p5 p6 p7))],[(0,.unused)],(Q3g x3),[(0,.tok)],false⟩)] ⟨Qat (first:=[]) (cap:=[]) (vs:=[nilS,(Zco p0 p1 p2 p3 p4 p5 p6 p7)]) (σr:=[]) (σr':=[.tok]) (res':=(Q3g x3)) [0] rfl Q9l (Qfb N p0 p1 p2 p3 p4 p5 p6 p7 _ hf2) rfl (Qbn (rnc (.plain _ nll) (rnc (.plain _ (NLt.fn _ _ _ nl0 (nlc (NLt.dptr _ _ (nlc (NLt.dptr _ _ (nlc (nld Qae _) (nlc (nld Qaa _) (nlc (nld Qaq _) (nlc (nld Qa1 _) (nlc (nld Qaf _) (nlc (nld Qag _) (nlc nll nl0)))))))) nl0)) (nlc (NLt.dptr _ _ (nlc nll nl0)) nl0)))) rn0))) Qas (slc .tok Qas) (Q4w rfl (Qb9 Qag _)) rfl rfl rfl,tv⟩ ?_
  refine wmr (mto (n:=5) (l':=[(2,(Q3g x3))]) (own':=[.tok]) [(2,(Q3g x3))] [0] [.tok] hφ0 (pc (.rn (Qcw rfl (Qb9 Qag _))) pn) (qc .tok qn))<|Qad ?_
  obtain rfl:=osi h
  exact ⟨_,Mor.rfl,Qct (vs:=[(Q3g x3)]) ⟨rot,tv⟩ rfl (NLt.acc _ _ _ _ (by decide) (Qs8 Qag _)) (by kernel_rfl) (Qan .tok Qbi)⟩
def Qfn (_N:Nat) (_p0:Int) (p1:GStream) (_p2:(List GRow)) (_p3:(List GElement)) (_p4:Nat) (_p5:Nat) (_p6:Nat) (_p7:(List GStream)) (_p8:Int) (_p9:(List (List GStream))) (_p10:(List GLost)) (_p11:(List Int)):Option (List GStream):=
  some ([p1])
def Zcm (p1:GStream):AV:=.agg [(I (p1.Mass)),(I (p1.Heat)),(I (p1.Silica)),(I (p1.Gas))]
def Q7d (p2:(List GRow)) (p3:(List GElement)) (p4:Nat) (p5:Nat) (p6:Nat) (p7:(List GStream)) (p8:Int):Slot:=.own 7 [[(.dat 5 ((p2:List GRow).map Qau)),(.dat 7 ((p3:List GElement).map Qab)),(.own 1 1 (0) (p4)),(.own 2 4 (0) (p5)),(.own 3 1 (0) (p6)),(.dat 4 ((p7:List GStream).map Qai)),(I (p8))]]
def Q7c (p9:(List (List GStream))):Slot:=.own 1 ((p9:List (List GStream)).map Qap)
def Q7b (p10:(List GLost)):Slot:=.own 4 ((p10:List GLost).map Qa9)
def Q7a (p11:(List Int)):Slot:=.own 1 ((p11:List Int).map Qaj)
def Q7e (p1:GStream):AV:=.dat 4 (([p1]:List GStream).map Qai)
theorem Qgf (N:Nat) (p0:Int) (p1:GStream) (p2:(List GRow)) (p3:(List GElement)) (p4:Nat) (p5:Nat) (p6:Nat) (p7:(List GStream)) (p8:Int) (p9:(List (List GStream))) (p10:(List GLost)) (p11:(List Int)) (r:(List GStream)) (h:Qfn N p0 p1 p2 p3 p4 p5 p6 p7 p8 p9 p10 p11=some r):Spec Tryz.prog 117 [(.ref 0 7 (0) 0),(I (p0)),(Zcm p1)] [(Q7d p2 p3 p4 p5 p6 p7 p8),(Q7c p9),(Q7b p10),(Q7a p11)] (.dat 4 ((r:List GStream).map Qai)) [(Q7d p2 p3 p4 p5 p6 p7 p8),(Q7c p9),(Q7b p10),(Q7a p11)]:=by
  refine Qah Tryz.func117 rfl 4 (nle rfl) (fun X φ0 w0 hφ0 hd0=>?_)
  unfold Qfn at h
  refine Qbh<|wxz ?_
  refine wx tbk [(1,rp [(.tmp 7,(Zcm p1))] (Q7e p1))] ⟨Qbt (vs:=[(Zcm p1)]) rfl Tryz.underlying45 ti63 tz63 rfl (by decide) rfl (by decide) (by rfl) (by rfl) (by rfl) rfl,tv⟩ ?_
  refine wmr (mto (n:=9) (l':=[(6,(Q7e p1))]) (own':=[(Q7d p2 p3 p4 p5 p6 p7 p8),(Q7c p9),(Q7b p10),(Q7a p11)]) [(6,(Q7e p1))] [0,1,2,3] [(Q7d p2 p3 p4 p5 p6 p7 p8),(Q7c p9),(Q7b p10),(Q7a p11)] hφ0 (pc (rnd Qag) pn) (qb (lc (rnd Qae) (lc (rnd Qaa) (lc (.rn (Qa0 rfl)) (lc (.rn (Qa0 rfl)) (lc (.rn (Qa0 rfl)) (lc (rnd Qag) (lc rwl ln))))))) (qc (spr Qaq) (qc (spr Qa1) (qc (spr Qaf) qn)))))<|Qad ?_
  obtain rfl:=osi h
  exact ⟨_,Mor.rfl,Qct (vs:=[(Q7e p1)]) ⟨rot,tv⟩ rfl (NLt.of0 (nld Qag _)) (by kernel_rfl) (Qan (Qa7 (nlc (NLt.of0 (nld Qae _)) (nlc (NLt.of0 (nld Qaa _)) (nlc (NLt.own _ _ _ _ (by decide)) (nlc (NLt.own _ _ _ _ (by decide)) (nlc (NLt.own _ _ _ _ (by decide)) (nlc (NLt.of0 (nld Qag _)) (nlc (NLt.of0 nll) nl0)))))))) (Qan (Qbw Qaq _) (Qan (Qbw Qa1 _) (Qan (Qbw Qaf _) Qbi))))⟩
def Qhp (_N:Nat) (p0:Int) (p1:GStream) (_p2:(List GRow)) (p3:(List GElement)) (_p4:Nat) (p5:Nat) (_p6:Nat) (_p7:(List GStream)) (_p8:Int) (_p9:(List (List GStream))) (p10:(List GLost)) (_p11:(List Int)):Option ((List GStream)×(List GLost)):=
  (getI p3 p0).bind fun x3=>
  (some (if p1.Heat<x3.Amount then p1.Heat else x3.Amount)).bind fun x7=>
  chk (decide (0≤p0)&&decide (p0.toNat<p5))<|
  (p10[p0.toNat]?).bind fun x10=>
  some ([(⟨p1.Mass,w64 (p1.Heat - x7),p1.Silica,p1.Gas⟩:GStream)],p10.set p0.toNat (⟨x7,x10.Silica,x10.Gas,x10.Scale⟩:GLost))
def Q0h (p2:(List GRow)) (p3:(List GElement)) (p4:Nat) (p5:Nat) (p6:Nat) (p7:(List GStream)) (p8:Int):Slot:=.own 7 [[(.dat 5 ((p2:List GRow).map Qau)),(.dat 7 ((p3:List GElement).map Qab)),(.own 1 1 (0) (p4)),(.own 2 4 (0) (p5)),(.own 3 1 (0) (p6)),(.dat 4 ((p7:List GStream).map Qai)),(I (p8))]]
def Qyc (p9:(List (List GStream))):Slot:=.own 1 ((p9:List (List GStream)).map Qap)
def Zcl (p10:(List GLost)):Slot:=.own 4 ((p10:List GLost).map Qa9)
def Qyb (p11:(List Int)):Slot:=.own 1 ((p11:List Int).map Qaj)
def Za5 (p1:GStream) (x7:Int):AV:=.agg [(I (p1.Mass)),(I (w64 (p1.Heat - x7))),(I (p1.Silica)),(I (p1.Gas))]
def Qyd (p1:GStream) (x7:Int):AV:=.dat 4 (([(⟨p1.Mass,w64 (p1.Heat - x7),p1.Silica,p1.Gas⟩:GStream)]:List GStream).map Qai)
theorem Qls (N:Nat) (p0:Int) (p1:GStream) (p2:(List GRow)) (p3:(List GElement)) (p4:Nat) (p5:Nat) (p6:Nat) (p7:(List GStream)) (p8:Int) (p9:(List (List GStream))) (p10:(List GLost)) (p11:(List Int)) (r:((List GStream)×(List GLost))) (h:Qhp N p0 p1 p2 p3 p4 p5 p6 p7 p8 p9 p10 p11=some r):Spec Tryz.prog 118 [(.ref 0 7 (0) 0),(I (p0)),(.agg [(I (p1.Mass)),(I (p1.Heat)),(I (p1.Silica)),(I (p1.Gas))])] [(Q0h p2 p3 p4 p5 p6 p7 p8),(Qyc p9),(Zcl p10),(Qyb p11)] (.dat 4 ((r.1:List GStream).map Qai)) [(Q0h p2 p3 p4 p5 p6 p7 p8),(Qyc p9),(.own 4 ((r.2:List GLost).map Qa9)),(Qyb p11)]:=by
  refine Qah Tryz.func118 rfl 4 (nle rfl) (fun X φ0 w0 hφ0 hd0=>?_)
  unfold Qhp at h
  refine Qbh<|wxz ?_
  obtain ⟨x3,hg4,h⟩:=bno h
  obtain ⟨hi5,hj6⟩:=gsm hg4
  obtain ⟨x7,hl8,h⟩:=bno h
  refine wxd tbk [(1,rb [(.tmp 8,.ref 0 7 0 0)] [(0,(Q0h p2 p3 p4 p5 p6 p7 p8))] (.ref 0 7 0 0)),(6,rp [(.tmp 12,(.dat 7 ((p3:List GElement).map Qab))),(.tmp 13,I p0)] (.dptr (Qab (x3)) 0)),(11,rp [(.tmp 16,I x3.Amount),(.tmp 18,I p1.Heat)] (I ((if p1.Heat<x3.Amount then p1.Heat else x3.Amount)))),(12,rp [(.tmp 19,(I ((if p1.Heat<x3.Amount then p1.Heat else x3.Amount))))] (I x7))] ⟨Qa6 rfl,aid rfl Tryz.underlying40 Qg2 rfl rfl hi5 (mgt Qab hj6) rfl,Qqz rfl,Qjb hl8 (aas rfl),tv⟩ ?_
  obtain ⟨hi9,h⟩:=cko h
  obtain ⟨hi9a,hi9b⟩:=Qdu hi9
  obtain ⟨x10,hg11,h⟩:=bno h
  refine wx tbk [(1,rb [(.tmp 20,.ref 0 7 0 0)] [(0,(Q0h p2 p3 p4 p5 p6 p7 p8))] (.ref 0 7 0 0)),(7,rb [(.tmp 24,(.own 2 4 (0) (p5))),(.tmp 25,I p0)] [(2,(Zcl p10))] (.ref 2 4 (p0.toNat) 0)),(9,⟨[(.tmp 28,(.ref 2 4 (p0.toNat) 0)),(.tmp 26,I x7)],[(2,(Zcl p10))],.any,[(2,(.own 4 ((p10.set p0.toNat (⟨x7,x10.Silica,x10.Gas,x10.Scale⟩:GLost):List GLost).map Qa9)))],false⟩)] ⟨Qa6 rfl,aio rfl Tryz.underlying32 ti82 (odt hi9a) (odt hi9b) (Nat.zero_add _),ast rfl ti3 (by rfl) (mgt Qa9 hg11) (nle rfl) (Qfm Qa9 rfl),tv⟩<|wxz ?_
  refine wx tbk [(1,rp [(.tmp 34,(Za5 p1 x7))] (Qyd p1 x7))] ⟨Qbt (vs:=[(Za5 p1 x7)]) rfl Tryz.underlying45 ti63 tz63 rfl (by decide) rfl (by decide) (by rfl) (by rfl) (by rfl) rfl,tv⟩ ?_
  refine wmr (mto (n:=36) (l':=[(6,(Qyd p1 x7))]) (own':=[(Q0h p2 p3 p4 p5 p6 p7 p8),(Qyc p9),(.own 4 (((p10.set p0.toNat (⟨x7,x10.Silica,x10.Gas,x10.Scale⟩:GLost)):List GLost).map Qa9)),(Qyb p11)]) [(6,(Qyd p1 x7))] [0,1,2,3] [(Q0h p2 p3 p4 p5 p6 p7 p8),(Qyc p9),(.own 4 ((p10.set p0.toNat (⟨x7,x10.Silica,x10.Gas,x10.Scale⟩:GLost):List GLost).map Qa9)),(Qyb p11)] hφ0 (pc (rnd Qag) pn) (qb (lc (rnd Qae) (lc (rnd Qaa) (lc (.rn (Qa0 rfl)) (lc (.rn (Qa0 rfl)) (lc (.rn (Qa0 rfl)) (lc (rnd Qag) (lc rwl ln))))))) (qc (spr Qaq) (qc (spr Qa1) (qc (spr Qaf) qn)))))<|Qad ?_
  obtain rfl:=osi h
  exact ⟨_,Mor.rfl,Qct (vs:=[(Qyd p1 x7)]) ⟨rot,tv⟩ rfl (NLt.of0 (nld Qag _)) (by kernel_rfl) (Qan (Qa7 (nlc (NLt.of0 (nld Qae _)) (nlc (NLt.of0 (nld Qaa _)) (nlc (NLt.own _ _ _ _ (by decide)) (nlc (NLt.own _ _ _ _ (by decide)) (nlc (NLt.own _ _ _ _ (by decide)) (nlc (NLt.of0 (nld Qag _)) (nlc (NLt.of0 nll) nl0)))))))) (Qan (Qbw Qaq _) (Qan (Qbw Qa1 _) (Qan (Qbw Qaf _) Qbi))))⟩
def Qif (N:Nat) (p0:(List GRow)) (p1:Int):Option Bool:=
  (Qci N p1 0 (w64 ((p0.length:Int) - 1))).bind fun x2=>
  some x2
theorem Ql6 (N:Nat) (p0:(List GRow)) (p1:Int) (r:Bool) (h:Qif N p0 p1=some r):Spec Tryz.prog 143 [(.dat 5 (p0.map Qau)),(I p1)] [] (B r) []:=by
  refine Qah Tryz.func143 rfl 0 (nle rfl) (fun X φ0 w0 hφ0 hd0=>?_)
  unfold Qif at h
  refine wxz ?_
  obtain ⟨x2,hf1,h⟩:=bno h
  exact wx tbk [(2,rp [(.tmp 6,(.dat 5 ((p0:List GRow).map Qau)))] (I ((p0.length:Int)))),(4,rp [fu 137,(.tmp 5,I p1),ci 0,(.tmp 8,(I (w64 ((p0.length:Int) - 1))))] (B x2))] ⟨alm (c:=Qau) (l:=p0) (aln rfl Tryz.underlying39 rfl),apv Qhk (Qcm N p1 0 (w64 ((p0.length:Int) - 1)) _ hf1) (nlcc (nlc nll nl0)) nll,tv⟩<|Qad<|frb h
def Qiy (_N:Nat) (p0:(List GRow)) (p1:Int):Option GFlash:=
  (getI p0 p1).bind fun x1=>
  some (⟨x1⟩:GFlash)
def Zcj (x1:GRow):AV:=.agg [(I (x1.T)),(I (x1.P)),(I (x1.Liquid)),(I (x1.Vapour)),(I (x1.Silica))]
theorem Qmv (N:Nat) (p0:(List GRow)) (p1:Int) (r:GFlash) (h:Qiy N p0 p1=some r):Spec Tryz.prog 144 [(.dat 5 (p0.map Qau)),(I p1)] [] (.agg (Qtm r)) []:=by
  refine Qah Tryz.func144 rfl 0 (nle rfl) (fun X φ0 w0 hφ0 hd0=>?_)
  unfold Qiy at h
  refine wxz ?_
  obtain ⟨x1,hg2,h⟩:=bno h
  obtain ⟨hi3,hj4⟩:=gsm hg2
  refine wx tbk [(2,rp [(.tmp 5,(.dat 5 ((p0:List GRow).map Qau))),(.tmp 6,I p1)] (.dptr (Qau (x1)) 0)),(4,mv 8 (Zcj x1))] ⟨aid rfl Tryz.underlying39 Qnx rfl rfl hi3 (mgt Qau hj4) rfl,Qax (vs:=[(Zcj x1)]) rfl Zh5 Zgt rfl (by rfl) rfl,tv⟩<|Qad ?_
  obtain rfl:=osi h
  exact fend ⟨[(Zcj x1)],⟨Qbk (n:=0) (m:=5) (j:=0) (i:=0) (xs:=[[I x1.T,I x1.P,I x1.Liquid,I x1.Vapour,I x1.Silica]]) (by kernel_rfl) (by kernel_rfl) Zgy (by decide) rfl (nle rfl) rfl,tv⟩,rfl⟩ (NLt.agg _ (nlcc (nlcc (nlc nll nl0))))
def Qg3 (_N:Nat) (p0:GFlash) (p1:GStream):Option Int:=
  (some (w64 (p1.Heat - (w64 (p1.Mass * p0.Row.Liquid))))).bind fun x1=>
  bif (decide (x1≤0)) then
   some 0
  else
   bif (decide (p1.Heat≥(w64 (p1.Mass * p0.Row.Vapour)))) then
    some p1.Mass
   else
    chk ((w64 (p0.Row.Vapour - p0.Row.Liquid)) != 0)<|
    (some (w64 (x1.tdiv (w64 (p0.Row.Vapour - p0.Row.Liquid))))).bind fun x6=>
    some x6
theorem Qkw (N:Nat) (p0:GFlash) (p1:GStream) (r:Int) (h:Qg3 N p0 p1=some r):Spec Tryz.prog 149 [(.agg (Qtm p0)),(.agg (Qai p1))] [] (I r) []:=by
  refine Qah Tryz.func149 rfl 0 (nle rfl) (fun X φ0 w0 hφ0 hd0=>?_)
  unfold Qg3 at h
  refine wxz ?_
  obtain ⟨x1,hl2,h⟩:=bno h
  refine wx tbk [(9,rp [(.tmp 14,(I (w64 (p1.Heat - (w64 (p1.Mass * p0.Row.Liquid))))))] (I x1))] ⟨Qjb hl2 (aas rfl),tv⟩<|wsq<|Qal<|wxz ?_
  refine bfe h (fun hc3 h=>?_) fun hc3 h=>?_
  ·refine wft hc3<|wxz<|Qad<|Qak<|Qac ?_
   obtain rfl:=osi h
   exact fend ⟨[I 0],⟨rot,tv⟩,rfl⟩ nll
  ·refine wfn hc3<|wxz ?_
   refine bfe h (fun hc4 h=>?_) fun hc4 h=>?_
   ·refine wft hc4<|wxz<|Qad<|Qak<|Qac ?_
    obtain rfl:=osi h
    exact fend ⟨[I p1.Mass],⟨rot,tv⟩,rfl⟩ nll
   ·refine wfn hc4<|Qam<|bln<|thn ?_
    obtain ⟨hz5,h⟩:=cko h
    obtain ⟨x6,hl7,h⟩:=bno h
    refine wx tbk [(8,rp [(.tmp 30,I x1),(.tmp 37,(I (w64 (p0.Row.Vapour - p0.Row.Liquid))))] (I (w64 (x1.tdiv (w64 (p0.Row.Vapour - p0.Row.Liquid)))))),(9,rp [(.tmp 38,(I (w64 (x1.tdiv (w64 (p0.Row.Vapour - p0.Row.Liquid))))))] (I x6))] ⟨Qnh rfl (Qqs hz5),Qjb hl7 (aas rfl),tv⟩<|Qad ?_
    obtain rfl:=osi h
    exact fend ⟨[I x6],⟨rot,tv⟩,rfl⟩ nll
def Qiw (N:Nat) (p0:GFlash) (p1:GStream):Option GParts:=
  (Qg3 N (⟨(⟨p0.Row.T,p0.Row.P,p0.Row.Liquid,p0.Row.Vapour,p0.Row.Silica⟩:GRow)⟩:GFlash) p1).bind fun x2=>
  Qby (fun ⟨y3,y4,y5,y6,y7,_,y9⟩=>
    (some (if (w64 (y6 * p0.Row.Silica))<p1.Silica then w64 (y6 * p0.Row.Silica) else p1.Silica)).bind fun x11=>
    bif (decide (y6>0)) then
     (some (if (w64 (y7 - (w64 (y6 * p0.Row.Liquid))))>0 then w64 (y7 - (w64 (y6 * p0.Row.Liquid))) else 0)).bind fun x14=>
     some (⟨(⟨y3,y4,0,y5⟩:GStream),(⟨y6,y7,x11,y9⟩:GStream),x14,w64 (p1.Silica - x11)⟩:GParts)
    else
     some (⟨(⟨y3,y4,0,y5⟩:GStream),(⟨y6,y7,x11,y9⟩:GStream),0,w64 (p1.Silica - x11)⟩:GParts)) fun k10:Int×Int×Int×Int×Int×Int×Int→Option GParts=>
  bif (x2==0) then
   k10 (0,0,0,p1.Mass,p1.Heat,p1.Silica,p1.Gas)
  else
   bif (x2==p1.Mass) then
    k10 (x2,p1.Heat,p1.Gas,0,0,0,0)
   else
    k10 (x2,w64 (x2 * p0.Row.Vapour),p1.Gas,w64 (p1.Mass - x2),w64 (p1.Heat - (w64 (x2 * p0.Row.Vapour))),0,0)
def Zhr (p0:GFlash):AV:=.agg [(I (p0.Row.T)),(I (p0.Row.P)),(I (p0.Row.Liquid)),(I (p0.Row.Vapour)),(I (p0.Row.Silica))]
def Zhq (p1:GStream):AV:=.agg [(I (p1.Mass)),(I (p1.Heat)),(I (p1.Silica)),(I (p1.Gas))]
def Q69 (p0:GFlash):Slot:=.own 5 [[(I (p0.Row.T)),(I (p0.Row.P)),(I (p0.Row.Liquid)),(I (p0.Row.Vapour)),(I (p0.Row.Silica))]]
def Q68 (p1:GStream):Slot:=.own 4 [[(I (p1.Mass)),(I (p1.Heat)),(I (p1.Silica)),(I (p1.Gas))]]
theorem Qmu (N:Nat) (p0:GFlash) (p1:GStream) (r:GParts) (h:Qiw N p0 p1=some r):Spec Tryz.prog 145 [(.agg (Qtm p0)),(.agg (Qai p1))] [] (.agg (Qz2 r)) []:=by
  refine Qah Tryz.func145 rfl 0 (nle rfl) (fun X φ0 w0 hφ0 hd0=>?_)
  unfold Qiw at h
  refine wxz ?_
  obtain ⟨x2,hf1,h⟩:=bno h
  refine wx tbk [(2,rp [fu 149,(.tmp 7,(Zhr p0)),(.tmp 8,(Zhq p1))] (I x2))] ⟨apv Q88 (Qkw N (⟨(⟨p0.Row.T,p0.Row.P,p0.Row.Liquid,p0.Row.Vapour,p0.Row.Silica⟩:GRow)⟩:GFlash) p1 _ hf1) (nlc (NLt.agg _ (nlcc (nlcc (nlc nll nl0)))) (nlc (NLt.agg _ (nlcc (nlcc nl0))) nl0)) nll,tv⟩ ?_
  obtain ⟨k10,hk_k10,h⟩:=jko h
  refine wjn (τ:=Int×Int×Int×Int×Int×Int×Int) (fun t=>k10 t=some r) (fun ⟨y3,y4,y5,y6,y7,y8,y9⟩=>⟨mk 87 [(2,.ref 0 5 0 0),(3,.ref 1 4 0 0),(4,.ref 2 10 0 0)],[(Q69 p0),(Q68 p1),(.own 10 [[I y3,I y4,I 0,I y5,I y6,I y7,I y8,I y9,I 0,I 0]])]⟩) (fun t h=>?_) ?_
  ·subst hk_k10
   obtain ⟨y3,y4,y5,y6,y7,y8,y9⟩:=t
   obtain ⟨x11,hl12,h⟩:=bno h
   refine wx tbk [(9,rp [(.tmp 52,I p1.Silica),(.tmp 59,(I (w64 (y6 * p0.Row.Silica))))] (I x11))] ⟨Qjb hl12 (Qqz rfl),tv⟩<|wxe<|wsq<|wxz ?_
   refine bfe h (fun hc13 h=>?_) fun hc13 h=>?_
   ·refine wft hc13 ?_
    obtain ⟨x14,hl15,h⟩:=bno h
    refine wx1 tbk [(11,rp [ci 0,(.tmp 83,(I (w64 (y7 - (w64 (y6 * p0.Row.Liquid))))))] (I x14))] ⟨Qjb hl15 (Qni rfl),tv⟩<|thn<|wxz<|Qad ?_
    obtain rfl:=osi h
    exact fend ⟨[(.agg [I y3,I y4,I 0,I y5,I y6,I y7,I x11,I y9,I x14,(I (w64 (p1.Silica - x11)))])],⟨Qbk (n:=2) (m:=10) (j:=0) (i:=0) (xs:=[[I y3,I y4,I 0,I y5,I y6,I y7,I x11,I y9,I x14,(I (w64 (p1.Silica - x11)))]]) (by kernel_rfl) (by kernel_rfl) Qwz (by decide) rfl (nle rfl) rfl,tv⟩,rfl⟩ (NLt.agg _ (nlcc (nlcc (nlcc (nlcc (nlcc nl0))))))
   ·refine wfn hc13<|Qam<|thn<|wxz<|Qad ?_
    obtain rfl:=osi h
    exact fend ⟨[(.agg [I y3,I y4,I 0,I y5,I y6,I y7,I x11,I y9,I 0,(I (w64 (p1.Silica - x11)))])],⟨Qbk (n:=2) (m:=10) (j:=0) (i:=0) (xs:=[[I y3,I y4,I 0,I y5,I y6,I y7,I x11,I y9,I 0,(I (w64 (p1.Silica - x11)))]]) (by kernel_rfl) (by kernel_rfl) Qwz (by decide) rfl (nle rfl) rfl,tv⟩,rfl⟩ (NLt.agg _ (nlcc (nlcc (nlcc (nlcc (nlcc nl0))))))
  ·skip
   refine Qal<|wxz ?_
   refine bfe h (fun hc16 h=>?_) fun hc16 h=>?_
   ·exact wft hc16<|wxz1<|bln<|thn<|⟨(0,0,0,p1.Mass,p1.Heat,p1.Silica,p1.Gas),h,(mto (n:=87) [(2,.ref 0 5 0 0),(3,.ref 1 4 0 0),(4,.ref 2 10 0 0)] [0,1,2] [(Q69 p0),(Q68 p1),(.own 10 [[I 0,I 0,I 0,I 0,I p1.Mass,I p1.Heat,I p1.Silica,I p1.Gas,I 0,I 0]])] hφ0 (prr (prr (prr pn))) (qb (lcc (lcc (lc rwl ln))) (qb (lcc (lcc ln)) (qb (lcc (lcc (lcc (lcc (lcc ln))))) qn))))⟩
   ·refine wfn hc16<|wxz ?_
    refine bfe h (fun hc17 h=>?_) fun hc17 h=>?_
    ·exact wft hc17<|wx1 tbk [(5,rp [(.tmp 44,I x2),(.tmp 46,I p1.Heat),(.tmp 48,I p1.Gas)] (.agg [I x2,I p1.Heat,I 0,I p1.Gas]))] ⟨Qax (vs:=[I x2,I p1.Heat,I p1.Gas]) rfl ts63 tz63 rfl (by rfl) rfl,tv⟩<|bln<|thn<|⟨(x2,p1.Heat,p1.Gas,0,0,0,0),h,(mto (n:=87) [(2,.ref 0 5 0 0),(3,.ref 1 4 0 0),(4,.ref 2 10 0 0)] [0,1,2] [(Q69 p0),(Q68 p1),(.own 10 [[I x2,I p1.Heat,I 0,I p1.Gas,I 0,I 0,I 0,I 0,I 0,I 0]])] hφ0 (prr (prr (prr pn))) (qb (lcc (lcc (lc rwl ln))) (qb (lcc (lcc ln)) (qb (lcc (lcc (lcc (lcc (lcc ln))))) qn))))⟩
    ·refine wfn hc17<|wx tbk [(8,rp [(.tmp 10,I x2),(.tmp 15,(I (w64 (x2 * p0.Row.Vapour)))),(.tmp 17,I p1.Gas)] (.agg [I x2,(I (w64 (x2 * p0.Row.Vapour))),I 0,I p1.Gas]))] ⟨Qax (vs:=[I x2,(I (w64 (x2 * p0.Row.Vapour))),I p1.Gas]) rfl ts63 tz63 rfl (by rfl) rfl,tv⟩ ?_
     exact wx1 tbk [(12,rp [(.tmp 23,(I (w64 (p1.Mass - x2)))),(.tmp 31,(I (w64 (p1.Heat - (w64 (x2 * p0.Row.Vapour))))))] (.agg [(I (w64 (p1.Mass - x2))),(I (w64 (p1.Heat - (w64 (x2 * p0.Row.Vapour))))),I 0,I 0]))] ⟨Qax (vs:=[(I (w64 (p1.Mass - x2))),(I (w64 (p1.Heat - (w64 (x2 * p0.Row.Vapour)))))]) rfl ts63 tz63 rfl (by rfl) rfl,tv⟩<|bln<|thn<|⟨(x2,w64 (x2 * p0.Row.Vapour),p1.Gas,w64 (p1.Mass - x2),w64 (p1.Heat - (w64 (x2 * p0.Row.Vapour))),0,0),h,(mto (n:=87) [(2,.ref 0 5 0 0),(3,.ref 1 4 0 0),(4,.ref 2 10 0 0)] [0,1,2] [(Q69 p0),(Q68 p1),(.own 10 [[I x2,(I (w64 (x2 * p0.Row.Vapour))),I 0,I p1.Gas,(I (w64 (p1.Mass - x2))),(I (w64 (p1.Heat - (w64 (x2 * p0.Row.Vapour))))),I 0,I 0,I 0,I 0]])] hφ0 (prr (prr (prr pn))) (qb (lcc (lcc (lc rwl ln))) (qb (lcc (lcc ln)) (qb (lcc (lcc (lcc (lcc (lcc ln))))) qn))))⟩
def Qkz (N:Nat) (p0:(List GRow)) (p1:Int) (p2:GStream):Option (GParts×Int):=
  (Qea N p0).bind fun x2=>
  bif (!x2) then
   some ((⟨(⟨0,0,0,0⟩:GStream),(⟨0,0,0,0⟩:GStream),0,0⟩:GParts),1)
  else
   (Qif N p0 p1).bind fun x5=>
   bif (!x5) then
    some ((⟨(⟨0,0,0,0⟩:GStream),(⟨0,0,0,0⟩:GStream),0,0⟩:GParts),2)
   else
    (Qeq N p2).bind fun x8=>
    bif (!x8) then
     some ((⟨(⟨0,0,0,0⟩:GStream),(⟨0,0,0,0⟩:GStream),0,0⟩:GParts),1)
    else
     (Qiy N p0 p1).bind fun x11=>
     (Qiw N (⟨(⟨x11.Row.T,x11.Row.P,x11.Row.Liquid,x11.Row.Vapour,x11.Row.Silica⟩:GRow)⟩:GFlash) p2).bind fun x13=>
     some ((⟨(⟨x13.Steam.Mass,x13.Steam.Heat,x13.Steam.Silica,x13.Steam.Gas⟩:GStream),(⟨x13.Water.Mass,x13.Water.Heat,x13.Water.Silica,x13.Water.Gas⟩:GStream),x13.Rest,x13.Scale⟩:GParts),0)
def Zck (p0:(List GRow)):AV:=.dat 5 ((p0:List GRow).map Qau)
def Q0e:AV:=.agg [(I (0)),(I (0)),(I (0)),(I (0)),(I (0)),(I (0)),(I (0)),(I (0)),(I (0)),(I (0))]
def Zga (p2:GStream):AV:=.agg [(I (p2.Mass)),(I (p2.Heat)),(I (p2.Silica)),(I (p2.Gas))]
def Zf9 (x11:GFlash):AV:=.agg [(I (x11.Row.T)),(I (x11.Row.P)),(I (x11.Row.Liquid)),(I (x11.Row.Vapour)),(I (x11.Row.Silica))]
def Zf8 (x13:GParts):AV:=.agg [(I (x13.Steam.Mass)),(I (x13.Steam.Heat)),(I (x13.Steam.Silica)),(I (x13.Steam.Gas)),(I (x13.Water.Mass)),(I (x13.Water.Heat)),(I (x13.Water.Silica)),(I (x13.Water.Gas)),(I (x13.Rest)),(I (x13.Scale))]
theorem Qpy (N:Nat) (p0:(List GRow)) (p1:Int) (p2:GStream) (r:(GParts×Int)) (h:Qkz N p0 p1 p2=some r):Spec Tryz.prog 135 [(.dat 5 (p0.map Qau)),(I p1),(.agg (Qai p2))] [] (.tup [(.agg (Qz2 r.1)),(I r.2)]) []:=by
  refine Qah Tryz.func135 rfl 0 (nle rfl) (fun X φ0 w0 hφ0 hd0=>?_)
  unfold Qkz at h
  refine wxz<|wsq<|Qal ?_
  obtain ⟨x2,hf1,h⟩:=bno h
  refine wx tbk [(1,rp [fu 122,(.tmp 9,(Zck p0))] (B x2))] ⟨apv Qzx (Qhw N p0 _ hf1) (nlc (nld Qae _) nl0) nll,tv⟩ ?_
  refine bfe h (fun hc3 h=>?_) fun hc3 h=>?_
  ·refine wft hc3<|wx tbk [(0,rp [] Q0e)] ⟨Qax (vs:=[]) rfl Zd5 Q76 rfl (by rfl) rfl,tv⟩<|Qad<|Qak<|Qac ?_
   obtain rfl:=osi h
   exact fend ⟨[Q0e,I 1],⟨Qbk (n:=1) (m:=10) (j:=0) (i:=0) (xs:=[[I 0,I 0,I 0,I 0,I 0,I 0,I 0,I 0,I 0,I 0]]) (by kernel_rfl) (by kernel_rfl) Qwz (by decide) rfl (nle rfl) rfl,rot,tv⟩,rfl⟩ (NLt.tup _ (nlc (NLt.agg _ (nlcc (nlcc (nlcc (nlcc (nlcc nl0)))))) (nlc nll nl0)))
  ·refine wfn hc3 ?_
   obtain ⟨x5,hf4,h⟩:=bno h
   refine wx tbk [(2,rp [fu 143,(.tmp 14,(Zck p0)),(.tmp 15,I p1)] (B x5))] ⟨apv Q9e (Ql6 N p0 p1 _ hf4) (nlc (nld Qae _) (nlc nll nl0)) nll,tv⟩ ?_
   refine bfe h (fun hc6 h=>?_) fun hc6 h=>?_
   ·refine wft hc6<|wx tbk [(0,rp [] Q0e)] ⟨Qax (vs:=[]) rfl Zd5 Q76 rfl (by rfl) rfl,tv⟩<|Qad<|Qak<|Qac ?_
    obtain rfl:=osi h
    exact fend ⟨[Q0e,I 2],⟨Qbk (n:=1) (m:=10) (j:=0) (i:=0) (xs:=[[I 0,I 0,I 0,I 0,I 0,I 0,I 0,I 0,I 0,I 0]]) (by kernel_rfl) (by kernel_rfl) Qwz (by decide) rfl (nle rfl) rfl,rot,tv⟩,rfl⟩ (NLt.tup _ (nlc (NLt.agg _ (nlcc (nlcc (nlcc (nlcc (nlcc nl0)))))) (nlc nll nl0)))
   ·refine wfn hc6 ?_
    obtain ⟨x8,hf7,h⟩:=bno h
    refine wx tbk [(1,rp [fu 131,(.tmp 20,(Zga p2))] (B x8))] ⟨apv Qtj (Qf2 N p2 _ hf7) (nlc (NLt.agg _ (nlcc (nlcc nl0))) nl0) nll,tv⟩ ?_
    refine bfe h (fun hc9 h=>?_) fun hc9 h=>?_
    ·refine wft hc9<|wx tbk [(0,rp [] Q0e)] ⟨Qax (vs:=[]) rfl Zd5 Q76 rfl (by rfl) rfl,tv⟩<|Qad<|Qak<|Qac ?_
     obtain rfl:=osi h
     exact fend ⟨[Q0e,I 1],⟨Qbk (n:=1) (m:=10) (j:=0) (i:=0) (xs:=[[I 0,I 0,I 0,I 0,I 0,I 0,I 0,I 0,I 0,I 0]]) (by kernel_rfl) (by kernel_rfl) Qwz (by decide) rfl (nle rfl) rfl,rot,tv⟩,rfl⟩ (NLt.tup _ (nlc (NLt.agg _ (nlcc (nlcc (nlcc (nlcc (nlcc nl0)))))) (nlc nll nl0)))
    ·refine wfn hc9<|Qam<|bln<|thn ?_
     obtain ⟨x11,hf10,h⟩:=bno h
     obtain ⟨x13,hf12,h⟩:=bno h
     refine wxd tbk [(2,rp [fu 144,(.tmp 24,(Zck p0)),(.tmp 25,I p1)] (Zf9 x11)),(4,rp [fu 145,(.tmp 26,(Zf9 x11)),(.tmp 27,(Zga p2))] (Zf8 x13))] ⟨apv Q9d (Qmv N p0 p1 _ hf10) (nlc (nld Qae _) (nlc nll nl0)) (NLt.agg _ (nlcc (nlcc (nlc nll nl0)))),apv Q9c (Qmu N (⟨(⟨x11.Row.T,x11.Row.P,x11.Row.Liquid,x11.Row.Vapour,x11.Row.Silica⟩:GRow)⟩:GFlash) p2 _ hf12) (nlc (NLt.agg _ (nlcc (nlcc (nlc nll nl0)))) (nlc (NLt.agg _ (nlcc (nlcc nl0))) nl0)) (NLt.agg _ (nlcc (nlcc (nlcc (nlcc (nlcc nl0)))))),tv⟩<|Qad ?_
     obtain rfl:=osi h
     exact fend ⟨[(Zf8 x13),I 0],⟨Qbk (n:=1) (m:=10) (j:=0) (i:=0) (xs:=[[I x13.Steam.Mass,I x13.Steam.Heat,I x13.Steam.Silica,I x13.Steam.Gas,I x13.Water.Mass,I x13.Water.Heat,I x13.Water.Silica,I x13.Water.Gas,I x13.Rest,I x13.Scale]]) (by kernel_rfl) (by kernel_rfl) Qwz (by decide) rfl (nle rfl) rfl,rot,tv⟩,rfl⟩ (NLt.tup _ (nlc (NLt.agg _ (nlcc (nlcc (nlcc (nlcc (nlcc nl0)))))) (nlc nll nl0)))
def Qf3 (N:Nat) (p0:Int) (p1:GStream) (p2:(List Int)) (_p3:(List GRow)) (_p4:(List GElement)) (_p5:Nat) (p6:Nat) (_p7:Nat) (_p8:(List GStream)) (_p9:Int) (_p10:(List (List GStream))) (p11:(List GLost)) (_p12:(List Int)):Option ((List GStream)×(List GLost)):=
  (Qky N p1 p2).bind fun x4=>
  chk (decide (0≤p0)&&decide (p0.toNat<p6))<|
  (p11[p0.toNat]?).bind fun x6=>
  chk (decide (0≤p0)&&decide (p0.toNat<p6))<|
  ((p11.set p0.toNat (⟨x4.2.1.Heat,x6.Silica,x6.Gas,x6.Scale⟩:GLost))[p0.toNat]?).bind fun x9=>
  chk (decide (0≤p0)&&decide (p0.toNat<p6))<|
  (((p11.set p0.toNat (⟨x4.2.1.Heat,x6.Silica,x6.Gas,x6.Scale⟩:GLost)).set p0.toNat (⟨x9.Heat,x4.2.1.Silica,x9.Gas,x9.Scale⟩:GLost))[p0.toNat]?).bind fun x12=>
  some (x4.1,((p11.set p0.toNat (⟨x4.2.1.Heat,x6.Silica,x6.Gas,x6.Scale⟩:GLost)).set p0.toNat (⟨x9.Heat,x4.2.1.Silica,x9.Gas,x9.Scale⟩:GLost)).set p0.toNat (⟨x12.Heat,x12.Silica,x4.2.1.Gas,x12.Scale⟩:GLost))
def Zf7 (p1:GStream):AV:=.agg [(I (p1.Mass)),(I (p1.Heat)),(I (p1.Silica)),(I (p1.Gas))]
def Zf6 (p2:(List Int)):AV:=.dat 1 ((p2:List Int).map Qaj)
def Qph (p3:(List GRow)) (p4:(List GElement)) (p5:Nat) (p6:Nat) (p7:Nat) (p8:(List GStream)) (p9:Int):Slot:=.own 7 [[(.dat 5 ((p3:List GRow).map Qau)),(.dat 7 ((p4:List GElement).map Qab)),(.own 1 1 (0) (p5)),(.own 2 4 (0) (p6)),(.own 3 1 (0) (p7)),(.dat 4 ((p8:List GStream).map Qai)),(I (p9))]]
def Qx3 (p10:(List (List GStream))):Slot:=.own 1 ((p10:List (List GStream)).map Qap)
def Q29 (p11:(List GLost)):Slot:=.own 4 ((p11:List GLost).map Qa9)
def Qx2 (p12:(List Int)):Slot:=.own 1 ((p12:List Int).map Qaj)
def Qx4 (x4:((List GStream)×GLoss×Int)):AV:=.dat 4 ((x4.1:List GStream).map Qai)
def Q28 (p11:(List GLost)) (p0:Int) (x4:((List GStream)×GLoss×Int)) (x6:GLost):Slot:=.own 4 ((p11.set p0.toNat (⟨x4.2.1.Heat,x6.Silica,x6.Gas,x6.Scale⟩:GLost):List GLost).map Qa9)
def Q27 (p11:(List GLost)) (p0:Int) (x4:((List GStream)×GLoss×Int)) (x6:GLost) (x9:GLost):Slot:=.own 4 (((p11.set p0.toNat (⟨x4.2.1.Heat,x6.Silica,x6.Gas,x6.Scale⟩:GLost)).set p0.toNat (⟨x9.Heat,x4.2.1.Silica,x9.Gas,x9.Scale⟩:GLost):List GLost).map Qa9)
def Za1 (p11:(List GLost)) (p0:Int) (x4:((List GStream)×GLoss×Int)) (x6:GLost) (x9:GLost) (x12:GLost):Slot:=.own 4 ((((p11.set p0.toNat (⟨x4.2.1.Heat,x6.Silica,x6.Gas,x6.Scale⟩:GLost)).set p0.toNat (⟨x9.Heat,x4.2.1.Silica,x9.Gas,x9.Scale⟩:GLost)).set p0.toNat (⟨x12.Heat,x12.Silica,x4.2.1.Gas,x12.Scale⟩:GLost):List GLost).map Qa9)
theorem Qh8 (N:Nat) (p0:Int) (p1:GStream) (p2:(List Int)) (p3:(List GRow)) (p4:(List GElement)) (p5:Nat) (p6:Nat) (p7:Nat) (p8:(List GStream)) (p9:Int) (p10:(List (List GStream))) (p11:(List GLost)) (p12:(List Int)) (r:((List GStream)×(List GLost))) (h:Qf3 N p0 p1 p2 p3 p4 p5 p6 p7 p8 p9 p10 p11 p12=some r):Spec Tryz.prog 136 [(.ref 0 7 (0) 0),(I (p0)),(Zf7 p1),(Zf6 p2)] [(Qph p3 p4 p5 p6 p7 p8 p9),(Qx3 p10),(Q29 p11),(Qx2 p12)] (.dat 4 ((r.1:List GStream).map Qai)) [(Qph p3 p4 p5 p6 p7 p8 p9),(Qx3 p10),(.own 4 ((r.2:List GLost).map Qa9)),(Qx2 p12)]:=by
  refine Qah Tryz.func136 rfl 4 (nle rfl) (fun X φ0 w0 hφ0 hd0=>?_)
  unfold Qf3 at h
  refine Qbh<|wxz ?_
  obtain ⟨x4,hf3,h⟩:=bno h
  refine wx tbk [(2,rp [fu 146,(.tmp 13,(Zf7 p1)),(.tmp 14,(Zf6 p2))] (.tup [(Qx4 x4),(.agg [I x4.2.1.Heat,I x4.2.1.Silica,I x4.2.1.Gas]),I x4.2.2]))] ⟨apv Q9b (Qpx N p1 p2 _ hf3) (nlc (NLt.agg _ (nlcc (nlcc nl0))) (nlc (nld Qaf _) nl0)) (NLt.tup _ (nlc (nld Qag _) (nlc (NLt.agg _ (nlcc (nlc nll nl0))) (nlc nll nl0)))),tv⟩ ?_
  obtain ⟨hi5,h⟩:=cko h
  obtain ⟨hi5a,hi5b⟩:=Qdu hi5
  obtain ⟨x6,hg7,h⟩:=bno h
  obtain ⟨hi8,h⟩:=cko h
  obtain ⟨hi8a,hi8b⟩:=Qdu hi8
  obtain ⟨x9,hg10,h⟩:=bno h
  obtain ⟨hi11,h⟩:=cko h
  obtain ⟨hi11a,hi11b⟩:=Qdu hi11
  obtain ⟨x12,hg13,h⟩:=bno h
  refine wxd tbk [(1,rb [(.tmp 19,.ref 0 7 0 0)] [(0,(Qph p3 p4 p5 p6 p7 p8 p9))] (.ref 0 7 0 0)),(7,rb [(.tmp 25,.ref 0 7 0 0)] [(0,(Qph p3 p4 p5 p6 p7 p8 p9))] (.ref 0 7 0 0)),(13,rb [(.tmp 31,.ref 0 7 0 0)] [(0,(Qph p3 p4 p5 p6 p7 p8 p9))] (.ref 0 7 0 0)),(24,rb [(.tmp 23,(.own 2 4 (0) (p6))),(.tmp 24,I p0)] [(2,(Q29 p11))] (.ref 2 4 (p0.toNat) 0)),(26,⟨[(.tmp 44,(.ref 2 4 (p0.toNat) 0)),(.tmp 38,I x4.2.1.Heat)],[(2,(Q29 p11))],.any,[(2,(Q28 p11 p0 x4 x6))],false⟩),(27,rb [(.tmp 29,(.own 2 4 (0) (p6))),(.tmp 30,I p0)] [(2,(Q28 p11 p0 x4 x6))] (.ref 2 4 (p0.toNat) 0)),(29,⟨[(.tmp 46,(.ref 2 4 (p0.toNat) 1)),(.tmp 40,I x4.2.1.Silica)],[(2,(Q28 p11 p0 x4 x6))],.any,[(2,(Q27 p11 p0 x4 x6 x9))],false⟩),(30,rb [(.tmp 35,(.own 2 4 (0) (p6))),(.tmp 36,I p0)] [(2,(Q27 p11 p0 x4 x6 x9))] (.ref 2 4 (p0.toNat) 0)),(32,⟨[(.tmp 48,(.ref 2 4 (p0.toNat) 2)),(.tmp 42,I x4.2.1.Gas)],[(2,(Q27 p11 p0 x4 x6 x9))],.any,[(2,(Za1 p11 p0 x4 x6 x9 x12))],false⟩)] ⟨Qa6 rfl,Qa6 rfl,Qa6 rfl,aio rfl Tryz.underlying32 ti82 (odt hi5a) (odt hi5b) (Nat.zero_add _),ast rfl ti3 (by rfl) (mgt Qa9 hg7) (nle rfl) (Qfm Qa9 rfl),aio rfl Tryz.underlying32 ti82 (odt hi8a) (odt hi8b) (Nat.zero_add _),ast rfl ti3 (by rfl) (mgt Qa9 hg10) (nle rfl) (Qfm Qa9 rfl),aio rfl Tryz.underlying32 ti82 (odt hi11a) (odt hi11b) (Nat.zero_add _),ast rfl ti3 (by rfl) (mgt Qa9 hg13) (nle rfl) (Qfm Qa9 rfl),tv⟩<|wxz ?_
  refine wmr (mto (n:=50) (l':=[(8,(Qx4 x4))]) (own':=[(Qph p3 p4 p5 p6 p7 p8 p9),(Qx3 p10),(.own 4 (((((p11.set p0.toNat (⟨x4.2.1.Heat,x6.Silica,x6.Gas,x6.Scale⟩:GLost)).set p0.toNat (⟨x9.Heat,x4.2.1.Silica,x9.Gas,x9.Scale⟩:GLost)).set p0.toNat (⟨x12.Heat,x12.Silica,x4.2.1.Gas,x12.Scale⟩:GLost)):List GLost).map Qa9)),(Qx2 p12)]) [(8,(Qx4 x4))] [0,1,2,3] [(Qph p3 p4 p5 p6 p7 p8 p9),(Qx3 p10),(Za1 p11 p0 x4 x6 x9 x12),(Qx2 p12)] hφ0 (pc (rnd Qag) pn) (qb (lc (rnd Qae) (lc (rnd Qaa) (lc (.rn (Qa0 rfl)) (lc (.rn (Qa0 rfl)) (lc (.rn (Qa0 rfl)) (lc (rnd Qag) (lc rwl ln))))))) (qc (spr Qaq) (qc (spr Qa1) (qc (spr Qaf) qn)))))<|Qad ?_
  obtain rfl:=osi h
  exact ⟨_,Mor.rfl,Qct (vs:=[(Qx4 x4)]) ⟨rot,tv⟩ rfl (NLt.of0 (nld Qag _)) (by kernel_rfl) (Qan (Qa7 (nlc (NLt.of0 (nld Qae _)) (nlc (NLt.of0 (nld Qaa _)) (nlc (NLt.own _ _ _ _ (by decide)) (nlc (NLt.own _ _ _ _ (by decide)) (nlc (NLt.own _ _ _ _ (by decide)) (nlc (NLt.of0 (nld Qag _)) (nlc (NLt.of0 nll) nl0)))))))) (Qan (Qbw Qaq _) (Qan (Qbw Qa1 _) (Qan (Qbw Qaf _) Qbi))))⟩
def Qf7 (N:Nat) (p0:Int) (p1:GStream) (p2:(List GRow)) (p3:(List GElement)) (p4:Nat) (p5:Nat) (p6:Nat) (p7:(List GStream)) (p8:Int) (p9:(List (List GStream))) (p10:(List GLost)) (p11:(List Int)):Option ((List GStream)×Int×(List GLost)×(List Int)):=
  (getI p3 p0).bind fun x5=>
  (Qkz N p2 x5.Level p1).bind fun x10=>
  chk (decide (0≤p0)&&decide (p0.toNat<p5))<|
  (p10[p0.toNat]?).bind fun x12=>
  chk (decide (0≤p0)&&decide (p0.toNat<p6))<|
  (p11[p0.toNat]?).bind fun x15=>
  chk (decide (0≤p0)&&decide (p0.toNat<p6))<|
  (p11[p0.toNat]?).bind fun _=>
  bif (x5.Amount==0) then
   some ([(⟨x10.1.Steam.Mass,x10.1.Steam.Heat,x10.1.Steam.Silica,x10.1.Steam.Gas⟩:GStream),(⟨x10.1.Water.Mass,x10.1.Water.Heat,x10.1.Water.Silica,x10.1.Water.Gas⟩:GStream)],w64 (p8+x10.1.Steam.Mass),p10.set p0.toNat (⟨x12.Heat,x12.Silica,x12.Gas,x10.1.Scale⟩:GLost),p11.set p0.toNat (w64 (x15+x10.1.Scale)))
  else
   (Qf3 N p0 (⟨x10.1.Water.Mass,x10.1.Water.Heat,x10.1.Water.Silica,x10.1.Water.Gas⟩:GStream) ([w64 (1000 - x5.Amount),x5.Amount]) p2 p3 p4 p5 p6 p7 (w64 (p8+x10.1.Steam.Mass)) p9 (p10.set p0.toNat (⟨x12.Heat,x12.Silica,x12.Gas,x10.1.Scale⟩:GLost)) (p11.set p0.toNat (w64 (x15+x10.1.Scale)))).bind fun x22=>
   (getI x22.1 1).bind fun x23=>
   (Qi1 N ([(⟨x10.1.Steam.Mass,x10.1.Steam.Heat,x10.1.Steam.Silica,x10.1.Steam.Gas⟩:GStream),x23])).bind fun x28=>
   (getI x22.1 0).bind fun x29=>
   some ([x28,x29],w64 (p8+x10.1.Steam.Mass),x22.2,p11.set p0.toNat (w64 (x15+x10.1.Scale)))
def Zgb (p1:GStream):AV:=.agg [(I (p1.Mass)),(I (p1.Heat)),(I (p1.Silica)),(I (p1.Gas))]
def Q0g (p2:(List GRow)):AV:=.dat 5 ((p2:List GRow).map Qau)
def Q0f (p3:(List GElement)):AV:=.dat 7 ((p3:List GElement).map Qab)
def Q3d (p7:(List GStream)):AV:=.dat 4 ((p7:List GStream).map Qai)
def Qv1 (p2:(List GRow)) (p3:(List GElement)) (p4:Nat) (p5:Nat) (p6:Nat) (p7:(List GStream)) (p8:Int):Slot:=.own 7 [[(Q0g p2),(Q0f p3),(.own 1 1 (0) (p4)),(.own 2 4 (0) (p5)),(.own 3 1 (0) (p6)),(Q3d p7),(I (p8))]]
def Qlw (p9:(List (List GStream))):Slot:=.own 1 ((p9:List (List GStream)).map Qap)
def Q3e (p10:(List GLost)):Slot:=.own 4 ((p10:List GLost).map Qa9)
def Qtx (p11:(List Int)):Slot:=.own 1 ((p11:List Int).map Qaj)
def Qya (p10:(List GLost)) (p0:Int) (x12:GLost) (x10:(GParts×Int)):Slot:=.own 4 ((p10.set p0.toNat (⟨x12.Heat,x12.Silica,x12.Gas,x10.1.Scale⟩:GLost):List GLost).map Qa9)
def Qpi (p11:(List Int)) (p0:Int) (x15:Int) (x10:(GParts×Int)):Slot:=.own 1 ((p11.set p0.toNat (w64 (x15+x10.1.Scale)):List Int).map Qaj)
def Qx9 (x10:(GParts×Int)):AV:=.agg [(I (x10.1.Steam.Mass)),(I (x10.1.Steam.Heat)),(I (x10.1.Steam.Silica)),(I (x10.1.Steam.Gas))]
def Q3c (x10:(GParts×Int)):AV:=.agg [(I (x10.1.Water.Mass)),(I (x10.1.Water.Heat)),(I (x10.1.Water.Silica)),(I (x10.1.Water.Gas))]
def Qx8 (x10:(GParts×Int)):AV:=.dat 4 (([(⟨x10.1.Steam.Mass,x10.1.Steam.Heat,x10.1.Steam.Silica,x10.1.Steam.Gas⟩:GStream),(⟨x10.1.Water.Mass,x10.1.Water.Heat,x10.1.Water.Silica,x10.1.Water.Gas⟩:GStream)]:List GStream).map Qai)
def Qrj (p2:(List GRow)) (p3:(List GElement)) (p4:Nat) (p5:Nat) (p6:Nat) (p7:(List GStream)) (p8:Int) (x10:(GParts×Int)):Slot:=.own 7 [[(Q0g p2),(Q0f p3),(.own 1 1 (0) (p4)),(.own 2 4 (0) (p5)),(.own 3 1 (0) (p6)),(Q3d p7),(I (w64 (p8+x10.1.Steam.Mass)))]]
def Q3b (x5:GElement):AV:=.dat 1 (([w64 (1000 - x5.Amount),x5.Amount]:List Int).map Qaj)
def Qx6 (x22:((List GStream)×(List GLost))):AV:=.dat 4 ((x22.1:List GStream).map Qai)
def Qx7 (x22:((List GStream)×(List GLost))):Slot:=.own 4 ((x22.2:List GLost).map Qa9)
def Za4 (x23:GStream):AV:=.agg [(I (x23.Mass)),(I (x23.Heat)),(I (x23.Silica)),(I (x23.Gas))]
def Za3 (x10:(GParts×Int)) (x23:GStream):AV:=.dat 4 (([(⟨x10.1.Steam.Mass,x10.1.Steam.Heat,x10.1.Steam.Silica,x10.1.Steam.Gas⟩:GStream),x23]:List GStream).map Qai)
def Q3a (x28:GStream):AV:=.agg [(I (x28.Mass)),(I (x28.Heat)),(I (x28.Silica)),(I (x28.Gas))]
def Za2 (x29:GStream):AV:=.agg [(I (x29.Mass)),(I (x29.Heat)),(I (x29.Silica)),(I (x29.Gas))]
def Qx5 (x28:GStream) (x29:GStream):AV:=.dat 4 (([x28,x29]:List GStream).map Qai)
theorem Qjw (N:Nat) (p0:Int) (p1:GStream) (p2:(List GRow)) (p3:(List GElement)) (p4:Nat) (p5:Nat) (p6:Nat) (p7:(List GStream)) (p8:Int) (p9:(List (List GStream))) (p10:(List GLost)) (p11:(List Int)) (r:((List GStream)×Int×(List GLost)×(List Int))) (h:Qf7 N p0 p1 p2 p3 p4 p5 p6 p7 p8 p9 p10 p11=some r):Spec Tryz.prog 119 [(.ref 0 7 (0) 0),(I (p0)),(Zgb p1)] [(Qv1 p2 p3 p4 p5 p6 p7 p8),(Qlw p9),(Q3e p10),(Qtx p11)] (.dat 4 ((r.1:List GStream).map Qai)) [(.own 7 [[(Q0g p2),(Q0f p3),(.own 1 1 (0) (p4)),(.own 2 4 (0) (p5)),(.own 3 1 (0) (p6)),(Q3d p7),(I (r.2.1))]]),(Qlw p9),(.own 4 ((r.2.2.1:List GLost).map Qa9)),(.own 1 ((r.2.2.2:List Int).map Qaj))]:=by
  refine Qah Tryz.func119 rfl 4 (nle rfl) (fun X φ0 w0 hφ0 hd0=>?_)
  unfold Qf7 at h
  refine Qbh<|wxz ?_
  obtain ⟨x5,hg6,h⟩:=bno h
  obtain ⟨hi7,hj8⟩:=gsm hg6
  refine wx tbk [(1,rb [(.tmp 11,.ref 0 7 0 0)] [(0,(Qv1 p2 p3 p4 p5 p6 p7 p8))] (.ref 0 7 0 0)),(6,rp [(.tmp 15,(Q0f p3)),(.tmp 16,I p0)] (.dptr (Qab (x5)) 0))] ⟨Qa6 rfl,aid rfl Tryz.underlying40 Qg2 rfl rfl hi7 (mgt Qab hj8) rfl,tv⟩ ?_
  obtain ⟨x10,hf9,h⟩:=bno h
  refine wxd tbk [(1,rb [(.tmp 20,.ref 0 7 0 0)] [(0,(Qv1 p2 p3 p4 p5 p6 p7 p8))] (.ref 0 7 0 0)),(8,rp [fu 135,(.tmp 24,(Q0g p2)),(.tmp 26,I x5.Level),(.tmp 27,(Zgb p1))] (.tup [(.agg [I x10.1.Steam.Mass,I x10.1.Steam.Heat,I x10.1.Steam.Silica,I x10.1.Steam.Gas,I x10.1.Water.Mass,I x10.1.Water.Heat,I x10.1.Water.Silica,I x10.1.Water.Gas,I x10.1.Rest,I x10.1.Scale]),I x10.2]))] ⟨Qa6 rfl,apv Q9j (Qpy N p2 x5.Level p1 _ hf9) (nlc (nld Qae _) (nlc nll (nlc (NLt.agg _ (nlcc (nlcc nl0))) nl0))) (NLt.tup _ (nlc (NLt.agg _ (nlcc (nlcc (nlcc (nlcc (nlcc nl0)))))) (nlc nll nl0))),tv⟩ ?_
  obtain ⟨hi11,h⟩:=cko h
  obtain ⟨hi11a,hi11b⟩:=Qdu hi11
  obtain ⟨x12,hg13,h⟩:=bno h
  refine wxd tbk [(1,rb [(.tmp 31,.ref 0 7 0 0)] [(0,(Qv1 p2 p3 p4 p5 p6 p7 p8))] (.ref 0 7 0 0)),(8,rb [(.tmp 35,(.own 2 4 (0) (p5))),(.tmp 36,I p0)] [(2,(Q3e p10))] (.ref 2 4 (p0.toNat) 0)),(10,⟨[(.tmp 40,(.ref 2 4 (p0.toNat) 3)),(.tmp 38,I x10.1.Scale)],[(2,(Q3e p10))],.any,[(2,(Qya p10 p0 x12 x10))],false⟩)] ⟨Qa6 rfl,aio rfl Tryz.underlying32 ti82 (odt hi11a) (odt hi11b) (Nat.zero_add _),ast rfl ti3 (by rfl) (mgt Qa9 hg13) (nle rfl) (Qfm Qa9 rfl),tv⟩ ?_
  obtain ⟨hi14,h⟩:=cko h
  obtain ⟨hi14a,hi14b⟩:=Qdu hi14
  obtain ⟨x15,hg16,h⟩:=bno h
  obtain ⟨hi17,h⟩:=cko h
  obtain ⟨hi17a,hi17b⟩:=Qdu hi17
  obtain ⟨x18,hg19,h⟩:=bno h
  refine wxd tbk [(1,rb [(.tmp 41,.ref 0 7 0 0)] [(0,(Qv1 p2 p3 p4 p5 p6 p7 p8))] (.ref 0 7 0 0)),(6,rb [(.tmp 45,(.own 3 1 (0) (p6))),(.tmp 46,I p0)] [(3,(Qtx p11))] (.ref 3 1 (p0.toNat) 0)),(7,rb [(.tmp 47,(.ref 3 1 (p0.toNat) 0))] [(3,(Qtx p11))] (I x15)),(11,rb [(.tmp 45,(.own 3 1 (0) (p6))),(.tmp 46,I p0)] [(3,(Qtx p11))] (.ref 3 1 (p0.toNat) 0)),(12,⟨[(.tmp 52,(.ref 3 1 (p0.toNat) 0)),(.tmp 51,(I (w64 (x15+x10.1.Scale))))],[(3,(Qtx p11))],.any,[(3,(Qpi p11 p0 x15 x10))],false⟩)] ⟨Qa6 rfl,aio rfl Tryz.underlying27 ti3 (odt hi14a) (odt hi14b) (Nat.zero_add _),ald rfl ti3 (by decide) (mgt Qaj hg16) (nle rfl) rfl,aio rfl Tryz.underlying27 ti3 (odt hi17a) (odt hi17b) (Nat.zero_add _),ast rfl ti3 (by rfl) (mgt Qaj hg19) (nle rfl) (Qfm Qaj rfl),tv⟩ ?_
  refine wxd tbk [(1,rb [(.tmp 53,.ref 0 7 0 0)] [(0,(Qv1 p2 p3 p4 p5 p6 p7 p8))] (.ref 0 7 0 0)),(8,rb [(.tmp 53,.ref 0 7 0 0)] [(0,(Qv1 p2 p3 p4 p5 p6 p7 p8))] (.ref 0 7 0 0))] ⟨Qa6 rfl,Qa6 rfl,tv⟩<|wsq<|wxz ?_
  refine bfe h (fun hc20 h=>?_) fun hc20 h=>?_
  ·refine wft hc20<|wx tbk [(4,rp [(.tmp 67,(Qx9 x10)),(.tmp 69,(Q3c x10))] (Qx8 x10))] ⟨Qbt (vs:=[(Qx9 x10),(Q3c x10)]) rfl Tryz.underlying45 ti63 tz63 rfl (by decide) rfl (by decide) (by rfl) (by rfl) (by rfl) rfl,tv⟩ ?_
   refine wmr (mto (n:=93) (l':=[(6,(Qx8 x10))]) (own':=[(.own 7 [[(Q0g p2),(Q0f p3),(.own 1 1 (0) (p4)),(.own 2 4 (0) (p5)),(.own 3 1 (0) (p6)),(Q3d p7),(I ((w64 (p8+x10.1.Steam.Mass))))]]),(Qlw p9),(.own 4 (((p10.set p0.toNat (⟨x12.Heat,x12.Silica,x12.Gas,x10.1.Scale⟩:GLost)):List GLost).map Qa9)),(.own 1 (((p11.set p0.toNat (w64 (x15+x10.1.Scale))):List Int).map Qaj))]) [(6,(Qx8 x10))] [0,1,2,3] [(Qrj p2 p3 p4 p5 p6 p7 p8 x10),(Qlw p9),(Qya p10 p0 x12 x10),(Qpi p11 p0 x15 x10)] hφ0 (pc (rnd Qag) pn) (qb (lc (rnd Qae) (lc (rnd Qaa) (lc (.rn (Qa0 rfl)) (lc (.rn (Qa0 rfl)) (lc (.rn (Qa0 rfl)) (lc (rnd Qag) (lc rwl ln))))))) (qc (spr Qaq) (qc (spr Qa1) (qc (spr Qaf) qn)))))<|Qad<|Qac ?_
   obtain rfl:=osi h
   exact ⟨_,Mor.rfl,Qct (vs:=[(Qx8 x10)]) ⟨rot,tv⟩ rfl (NLt.of0 (nld Qag _)) (by kernel_rfl) (Qan (Qa7 (nlc (NLt.of0 (nld Qae _)) (nlc (NLt.of0 (nld Qaa _)) (nlc (NLt.own _ _ _ _ (by decide)) (nlc (NLt.own _ _ _ _ (by decide)) (nlc (NLt.own _ _ _ _ (by decide)) (nlc (NLt.of0 (nld Qag _)) (nlc (NLt.of0 nll) nl0)))))))) (Qan (Qbw Qaq _) (Qan (Qbw Qa1 _) (Qan (Qbw Qaf _) Qbi))))⟩
  ·refine wfn hc20<|Qam<|thn ?_
   obtain ⟨x22,hf21,h⟩:=bno h
   refine wx tbk [(9,rp [(.tmp 77,(I (w64 (1000 - x5.Amount)))),(.tmp 79,I x5.Amount)] (Q3b x5)),(10,⟨[fu 136,(.tmp 71,.ref 0 7 0 0),(.tmp 72,I p0),(.tmp 74,(Q3c x10)),(.tmp 80,(Q3b x5))],[(0,(Qrj p2 p3 p4 p5 p6 p7 p8 x10)),(1,(Qlw p9)),(2,(Qya p10 p0 x12 x10)),(3,(Qpi p11 p0 x15 x10))],(Qx6 x22),[(0,(Qrj p2 p3 p4 p5 p6 p7 p8 x10)),(1,(Qlw p9)),(2,(Qx7 x22)),(3,(Qpi p11 p0 x15 x10))],false⟩)] ⟨Qbt (vs:=[(I (w64 (1000 - x5.Amount))),I x5.Amount]) rfl Tryz.underlying27 ti3 tz3 rfl (by decide) rfl (by decide) (by rfl) (by rfl) (by rfl) rfl,Qat (first:=[]) (cap:=[]) (vs:=[.ref 0 7 0 0,I p0,(.agg [(I ((⟨x10.1.Water.Mass,x10.1.Water.Heat,x10.1.Water.Silica,x10.1.Water.Gas⟩:GStream).Mass)),(I ((⟨x10.1.Water.Mass,x10.1.Water.Heat,x10.1.Water.Silica,x10.1.Water.Gas⟩:GStream).Heat)),(I ((⟨x10.1.Water.Mass,x10.1.Water.Heat,x10.1.Water.Silica,x10.1.Water.Gas⟩:GStream).Silica)),(I ((⟨x10.1.Water.Mass,x10.1.Water.Heat,x10.1.Water.Silica,x10.1.Water.Gas⟩:GStream).Gas))]),(Q3b x5)]) (σr:=[(Qrj p2 p3 p4 p5 p6 p7 p8 x10),(Qlw p9),(Qya p10 p0 x12 x10),(Qpi p11 p0 x15 x10)]) (σr':=[(Qrj p2 p3 p4 p5 p6 p7 p8 x10),(Qlw p9),(Qx7 x22),(Qpi p11 p0 x15 x10)]) (res':=(Qx6 x22)) [0,1,2,3] rfl Qzu (Qh8 N p0 (⟨x10.1.Water.Mass,x10.1.Water.Heat,x10.1.Water.Silica,x10.1.Water.Gas⟩:GStream) ([w64 (1000 - x5.Amount),x5.Amount]) p2 p3 p4 p5 p6 p7 (w64 (p8+x10.1.Steam.Mass)) p9 (p10.set p0.toNat (⟨x12.Heat,x12.Silica,x12.Gas,x10.1.Scale⟩:GLost)) (p11.set p0.toNat (w64 (x15+x10.1.Scale))) _ hf21) rfl (Qbn (rnc (Qbb rfl) (rnc (.plain _ nll) (rnc (.plain _ (NLt.agg _ (nlcc (nlcc nl0)))) (rnc (pld Qaf) rn0))))) (slc (Qao (rnc (pld Qae) (rnc (pld Qaa) (rnc (Qco rfl) (rnc (Qco rfl) (rnc (Qco rfl) (rnc (pld Qag) (rnc (.plain _ nll) rn0)))))))) (slc (Qa3 Qaq) (slc (Qa3 Qa1) (slc (Qa3 Qaf) Qas)))) (slc (Qao (rnc (pld Qae) (rnc (pld Qaa) (rnc (Qcx rfl) (rnc (Qcx rfl) (rnc (Qcx rfl) (rnc (pld Qag) (rnc (.plain _ nll) rn0)))))))) (slc (Qa3 Qaq) (slc (Qa3 Qa1) (slc (Qa3 Qaf) Qas)))) (pld Qag) rfl rfl rfl,tv⟩ ?_
   obtain ⟨x23,hg24,h⟩:=bno h
   obtain ⟨hi25,hj26⟩:=gsm hg24
   obtain ⟨x28,hf27,h⟩:=bno h
   obtain ⟨x29,hg30,h⟩:=bno h
   obtain ⟨hi31,hj32⟩:=gsm hg30
   refine wxd tbk [(3,rp [(.tmp 84,(Qx6 x22)),ci 1] (.dptr (Qai (x23)) 0)),(5,rp [(.tmp 83,(Qx9 x10)),(.tmp 86,(Za4 x23))] (Za3 x10 x23)),(6,rp [fu 76,(.tmp 87,(Za3 x10 x23))] (Q3a x28)),(8,rp [(.tmp 89,(Qx6 x22)),ci 0] (.dptr (Qai (x29)) 0)),(10,rp [(.tmp 88,(Q3a x28)),(.tmp 91,(Za2 x29))] (Qx5 x28 x29))] ⟨aid rfl Tryz.underlying45 ti63 rfl rfl hi25 (mgt Qai hj26) rfl,Qbt (vs:=[(Qx9 x10),(Za4 x23)]) rfl Tryz.underlying45 ti63 tz63 rfl (by decide) rfl (by decide) (by rfl) (by rfl) (by rfl) rfl,apv Qxe (Qjp N ([(⟨x10.1.Steam.Mass,x10.1.Steam.Heat,x10.1.Steam.Silica,x10.1.Steam.Gas⟩:GStream),x23]) _ hf27) (nlc (nld Qag _) nl0) (NLt.agg _ (nlcc (nlcc nl0))),aid rfl Tryz.underlying45 ti63 rfl rfl hi31 (mgt Qai hj32) rfl,Qbt (vs:=[(Q3a x28),(Za2 x29)]) rfl Tryz.underlying45 ti63 tz63 rfl (by decide) rfl (by decide) (by rfl) (by rfl) (by rfl) rfl,tv⟩ ?_
   refine wmr (mto (n:=93) (l':=[(6,(Qx5 x28 x29))]) (own':=[(.own 7 [[(Q0g p2),(Q0f p3),(.own 1 1 (0) (p4)),(.own 2 4 (0) (p5)),(.own 3 1 (0) (p6)),(Q3d p7),(I ((w64 (p8+x10.1.Steam.Mass))))]]),(Qlw p9),(Qx7 x22),(.own 1 (((p11.set p0.toNat (w64 (x15+x10.1.Scale))):List Int).map Qaj))]) [(6,(Qx5 x28 x29))] [0,1,2,3] [(Qrj p2 p3 p4 p5 p6 p7 p8 x10),(Qlw p9),(Qx7 x22),(Qpi p11 p0 x15 x10)] hφ0 (pc (rnd Qag) pn) (qb (lc (rnd Qae) (lc (rnd Qaa) (lc (.rn (Qa0 rfl)) (lc (.rn (Qa0 rfl)) (lc (.rn (Qa0 rfl)) (lc (rnd Qag) (lc rwl ln))))))) (qc (spr Qaq) (qc (spr Qa1) (qc (spr Qaf) qn)))))<|Qad ?_
   obtain rfl:=osi h
   exact ⟨_,Mor.rfl,Qct (vs:=[(Qx5 x28 x29)]) ⟨rot,tv⟩ rfl (NLt.of0 (nld Qag _)) (by kernel_rfl) (Qan (Qa7 (nlc (NLt.of0 (nld Qae _)) (nlc (NLt.of0 (nld Qaa _)) (nlc (NLt.own _ _ _ _ (by decide)) (nlc (NLt.own _ _ _ _ (by decide)) (nlc (NLt.own _ _ _ _ (by decide)) (nlc (NLt.of0 (nld Qag _)) (nlc (NLt.of0 nll) nl0)))))))) (Qan (Qbw Qaq _) (Qan (Qbw Qa1 _) (Qan (Qbw Qaf _) Qbi))))⟩
def Qhe (N:Nat) (p0:Int) (p1:GStream) (p2:(List GRow)) (p3:(List GElement)) (p4:Nat) (p5:Nat) (p6:Nat) (p7:(List GStream)) (p8:Int) (p9:(List (List GStream))) (p10:(List GLost)) (p11:(List Int)):Option ((List GStream)×(List GLost)):=
  (getI p3 p0).bind fun x3=>
  (Qf3 N p0 p1 x3.Weights p2 p3 p4 p5 p6 p7 p8 p9 p10 p11).bind fun x8=>
  some (x8.1,x8.2)
def Zci (p1:GStream):AV:=.agg [(I (p1.Mass)),(I (p1.Heat)),(I (p1.Silica)),(I (p1.Gas))]
def Qsl (p2:(List GRow)) (p3:(List GElement)) (p4:Nat) (p5:Nat) (p6:Nat) (p7:(List GStream)) (p8:Int):Slot:=.own 7 [[(.dat 5 ((p2:List GRow).map Qau)),(.dat 7 ((p3:List GElement).map Qab)),(.own 1 1 (0) (p4)),(.own 2 4 (0) (p5)),(.own 3 1 (0) (p6)),(.dat 4 ((p7:List GStream).map Qai)),(I (p8))]]
def Qtv (p9:(List (List GStream))):Slot:=.own 1 ((p9:List (List GStream)).map Qap)
def Zch (p10:(List GLost)):Slot:=.own 4 ((p10:List GLost).map Qa9)
def Qtu (p11:(List Int)):Slot:=.own 1 ((p11:List Int).map Qaj)
def Qtw (x8:((List GStream)×(List GLost))):AV:=.dat 4 ((x8.1:List GStream).map Qai)
def Qx1 (x8:((List GStream)×(List GLost))):Slot:=.own 4 ((x8.2:List GLost).map Qa9)
theorem Qk4 (N:Nat) (p0:Int) (p1:GStream) (p2:(List GRow)) (p3:(List GElement)) (p4:Nat) (p5:Nat) (p6:Nat) (p7:(List GStream)) (p8:Int) (p9:(List (List GStream))) (p10:(List GLost)) (p11:(List Int)) (r:((List GStream)×(List GLost))) (h:Qhe N p0 p1 p2 p3 p4 p5 p6 p7 p8 p9 p10 p11=some r):Spec Tryz.prog 120 [(.ref 0 7 (0) 0),(I (p0)),(Zci p1)] [(Qsl p2 p3 p4 p5 p6 p7 p8),(Qtv p9),(Zch p10),(Qtu p11)] (.dat 4 ((r.1:List GStream).map Qai)) [(Qsl p2 p3 p4 p5 p6 p7 p8),(Qtv p9),(.own 4 ((r.2:List GLost).map Qa9)),(Qtu p11)]:=by
  refine Qah Tryz.func120 rfl 4 (nle rfl) (fun X φ0 w0 hφ0 hd0=>?_)
  unfold Qhe at h
  refine Qbh<|wxz ?_
  obtain ⟨x3,hg4,h⟩:=bno h
  obtain ⟨hi5,hj6⟩:=gsm hg4
  obtain ⟨x8,hf7,h⟩:=bno h
  refine wxd tbk [(4,rb [(.tmp 10,.ref 0 7 0 0)] [(0,(Qsl p2 p3 p4 p5 p6 p7 p8))] (.ref 0 7 0 0)),(9,rp [(.tmp 14,(.dat 7 ((p3:List GElement).map Qab))),(.tmp 15,I p0)] (.dptr (Qab (x3)) 0)),(12,⟨[fu 136,(.tmp 7,.ref 0 7 0 0),(.tmp 8,I p0),(.tmp 9,(Zci p1)),(.tmp 18,(.dat 1 ((x3.Weights:List Int).map Qaj)))],[(0,(Qsl p2 p3 p4 p5 p6 p7 p8)),(1,(Qtv p9)),(2,(Zch p10)),(3,(Qtu p11))],(Qtw x8),[(0,(Qsl p2 p3 p4 p5 p6 p7 p8)),(1,(Qtv p9)),(2,(Qx1 x8)),(3,(Qtu p11))],false⟩)] ⟨Qa6 rfl,aid rfl Tryz.underlying40 Qg2 rfl rfl hi5 (mgt Qab hj6) rfl,Qat (first:=[]) (cap:=[]) (vs:=[.ref 0 7 0 0,I p0,(Zci p1),(.dat 1 ((x3.Weights:List Int).map Qaj))]) (σr:=[(Qsl p2 p3 p4 p5 p6 p7 p8),(Qtv p9),(Zch p10),(Qtu p11)]) (σr':=[(Qsl p2 p3 p4 p5 p6 p7 p8),(Qtv p9),(Qx1 x8),(Qtu p11)]) (res':=(Qtw x8)) [0,1,2,3] rfl Qzu (Qh8 N p0 p1 x3.Weights p2 p3 p4 p5 p6 p7 p8 p9 p10 p11 _ hf7) rfl (Qbn (rnc (Qbb rfl) (rnc (.plain _ nll) (rnc (.plain _ (NLt.agg _ (nlcc (nlcc nl0)))) (rnc (pld Qaf) rn0))))) (slc (Qao (rnc (pld Qae) (rnc (pld Qaa) (rnc (Qco rfl) (rnc (Qco rfl) (rnc (Qco rfl) (rnc (pld Qag) (rnc (.plain _ nll) rn0)))))))) (slc (Qa3 Qaq) (slc (Qa3 Qa1) (slc (Qa3 Qaf) Qas)))) (slc (Qao (rnc (pld Qae) (rnc (pld Qaa) (rnc (Qcx rfl) (rnc (Qcx rfl) (rnc (Qcx rfl) (rnc (pld Qag) (rnc (.plain _ nll) rn0)))))))) (slc (Qa3 Qaq) (slc (Qa3 Qa1) (slc (Qa3 Qaf) Qas)))) (pld Qag) rfl rfl rfl,tv⟩ ?_
  refine wmr (mto (n:=20) (l':=[(6,(Qtw x8))]) (own':=[(Qsl p2 p3 p4 p5 p6 p7 p8),(Qtv p9),(Qx1 x8),(Qtu p11)]) [(6,(Qtw x8))] [0,1,2,3] [(Qsl p2 p3 p4 p5 p6 p7 p8),(Qtv p9),(Qx1 x8),(Qtu p11)] hφ0 (pc (rnd Qag) pn) (qb (lc (rnd Qae) (lc (rnd Qaa) (lc (.rn (Qa0 rfl)) (lc (.rn (Qa0 rfl)) (lc (.rn (Qa0 rfl)) (lc (rnd Qag) (lc rwl ln))))))) (qc (spr Qaq) (qc (spr Qa1) (qc (spr Qaf) qn)))))<|Qad ?_
  obtain rfl:=osi h
  exact ⟨_,Mor.rfl,Qct (vs:=[(Qtw x8)]) ⟨rot,tv⟩ rfl (NLt.of0 (nld Qag _)) (by kernel_rfl) (Qan (Qa7 (nlc (NLt.of0 (nld Qae _)) (nlc (NLt.of0 (nld Qaa _)) (nlc (NLt.own _ _ _ _ (by decide)) (nlc (NLt.own _ _ _ _ (by decide)) (nlc (NLt.own _ _ _ _ (by decide)) (nlc (NLt.of0 (nld Qag _)) (nlc (NLt.of0 nll) nl0)))))))) (Qan (Qbw Qaq _) (Qan (Qbw Qa1 _) (Qan (Qbw Qaf _) Qbi))))⟩
def Qeg (N:Nat) (p0:Int) (p1:Int) (p2:(List GRow)) (p3:(List GElement)) (p4:Nat) (p5:Nat) (p6:Nat) (p7:(List GStream)) (p8:Int) (p9:(List (List GStream))) (p10:(List GLost)) (p11:(List Int)):Option ((Int×(List (List GStream))×(List GLost)×(List Int))⊕Int):=
  (Qho N p0 p2 p3 p4 p5 p6 p7 p8 p9 p10 p11).bind fun _=>
  chk (decide (p4≤p9.length))<|
  chk (decide (p5≤p10.length))<|
  chk (decide (p6≤p11.length))<|
  (Qd6 N p2 p3 (p9.take p4) (p10.take p5) (p11.take p6) p7 p8 p0).bind fun x12=>
  (Qi1 N x12).bind fun x14=>
  Qby (fun _=>
    (getI p3 p0).bind fun x16=>
    bif (x16.Kind==0) then
     none
    else
     bif (x16.Kind==1) then
      (Qfn N p0 x14 p2 p3 p4 p5 p6 p7 p8 p9 p10 p11).bind fun x23=>
      chk (decide (0≤p0)&&decide (p0.toNat<p4))<|
      (p9[p0.toNat]?).bind fun _=>
      some (.inl (p8,p9.set p0.toNat x23,p10,p11))
     else
      bif (x16.Kind==2) then
       (Qfn N p0 x14 p2 p3 p4 p5 p6 p7 p8 p9 p10 p11).bind fun x29=>
       chk (decide (0≤p0)&&decide (p0.toNat<p4))<|
       (p9[p0.toNat]?).bind fun _=>
       some (.inl (p8,p9.set p0.toNat x29,p10,p11))
      else
       bif (x16.Kind==3) then
        (Qhp N p0 x14 p2 p3 p4 p5 p6 p7 p8 p9 p10 p11).bind fun x35=>
        chk (decide (0≤p0)&&decide (p0.toNat<p4))<|
        (p9[p0.toNat]?).bind fun _=>
        some (.inl (p8,p9.set p0.toNat x35.1,x35.2,p11))
       else
        bif (x16.Kind==4) then
         (Qf7 N p0 x14 p2 p3 p4 p5 p6 p7 p8 p9 p10 p11).bind fun x41=>
         chk (decide (0≤p0)&&decide (p0.toNat<p4))<|
         (p9[p0.toNat]?).bind fun _=>
         some (.inl (x41.2.1,p9.set p0.toNat x41.1,x41.2.2.1,x41.2.2.2))
        else
         bif (x16.Kind==5) then
          (Qhe N p0 x14 p2 p3 p4 p5 p6 p7 p8 p9 p10 p11).bind fun x47=>
          chk (decide (0≤p0)&&decide (p0.toNat<p4))<|
          (p9[p0.toNat]?).bind fun _=>
          some (.inl (p8,p9.set p0.toNat x47.1,x47.2,p11))
         else
          bif (x16.Kind==6) then
           (Qfn N p0 x14 p2 p3 p4 p5 p6 p7 p8 p9 p10 p11).bind fun x53=>
           chk (decide (0≤p0)&&decide (p0.toNat<p4))<|
           (p9[p0.toNat]?).bind fun _=>
           some (.inl (p8,p9.set p0.toNat x53,p10,p11))
          else
           none) fun k15:Unit→Option ((Int×(List (List GStream))×(List GLost)×(List Int))⊕Int)=>
  bif (decide (x14.Mass>p1)) then
   some (.inr p0)
  else
   k15 ()
def Qpk (p2:(List GRow)):AV:=.dat 5 ((p2:List GRow).map Qau)
def Qit (p3:(List GElement)):AV:=.dat 7 ((p3:List GElement).map Qab)
def Qpj (p7:(List GStream)):AV:=.dat 4 ((p7:List GStream).map Qai)
def Qfi (p2:(List GRow)) (p3:(List GElement)) (p4:Nat) (p5:Nat) (p6:Nat) (p7:(List GStream)) (p8:Int):Slot:=.own 7 [[(Qpk p2),(Qit p3),(.own 1 1 (0) (p4)),(.own 2 4 (0) (p5)),(.own 3 1 (0) (p6)),(Qpj p7),(I (p8))]]
def Qe1 (p9:(List (List GStream))):Slot:=.own 1 ((p9:List (List GStream)).map Qap)
def Qga (p10:(List GLost)):Slot:=.own 4 ((p10:List GLost).map Qa9)
def Qfh (p11:(List Int)):Slot:=.own 1 ((p11:List Int).map Qaj)
def Zcq:AV:=.fn (.func 133) [] [(.ref 4 1 (0) 0),(.ref 5 1 (0) 0)]
def Zcr:Slot:=.own 1 [[(.ref 0 7 (0) 0)]]
def Q3l (x12:(List GStream)):AV:=.acc 6 63 4 ((x12:List GStream).map Qai)
def Qg1 (x14:GStream):AV:=.agg [(I (x14.Mass)),(I (x14.Heat)),(I (x14.Silica)),(I (x14.Gas))]
def Qoj (x14:GStream):Slot:=.own 4 [[(I (x14.Mass)),(I (x14.Heat)),(I (x14.Silica)),(I (x14.Gas))]]
def Qkm:Slot:=.own 7 [[(.lit .nilFunc),(.fn (.func 117) [] []),(.fn (.func 117) [] []),(.fn (.func 118) [] []),(.fn (.func 119) [] []),(.fn (.func 120) [] []),(.fn (.func 117) [] [])]]
def Q3k (x23:(List GStream)):AV:=.dat 4 ((x23:List GStream).map Qai)
def Q3j (x29:(List GStream)):AV:=.dat 4 ((x29:List GStream).map Qai)
def Qyk (x35:((List GStream)×(List GLost))):Slot:=.own 4 ((x35.2:List GLost).map Qa9)
def Qyj (p2:(List GRow)) (p3:(List GElement)) (p4:Nat) (p5:Nat) (p6:Nat) (p7:(List GStream)) (x41:((List GStream)×Int×(List GLost)×(List Int))):Slot:=.own 7 [[(Qpk p2),(Qit p3),(.own 1 1 (0) (p4)),(.own 2 4 (0) (p5)),(.own 3 1 (0) (p6)),(Qpj p7),(I (x41.2.1))]]
def Qyi (x41:((List GStream)×Int×(List GLost)×(List Int))):Slot:=.own 4 ((x41.2.2.1:List GLost).map Qa9)
def Qyh (x41:((List GStream)×Int×(List GLost)×(List Int))):Slot:=.own 1 ((x41.2.2.2:List Int).map Qaj)
def Qyg (x47:((List GStream)×(List GLost))):Slot:=.own 4 ((x47.2:List GLost).map Qa9)
def Q3i (x53:(List GStream)):AV:=.dat 4 ((x53:List GStream).map Qai)
theorem Qhf (N:Nat) (p0:Int) (p1:Int) (p2:(List GRow)) (p3:(List GElement)) (p4:Nat) (p5:Nat) (p6:Nat) (p7:(List GStream)) (p8:Int) (p9:(List (List GStream))) (p10:(List GLost)) (p11:(List Int)) (r:((Int×(List (List GStream))×(List GLost)×(List Int))⊕Int)) (h:Qeg N p0 p1 p2 p3 p4 p5 p6 p7 p8 p9 p10 p11=some r):Zho Tryz.prog 97 [(.ref 0 7 (0) 0),(I (p0)),(I (p1))] [(Qfi p2 p3 p4 p5 p6 p7 p8),(Qe1 p9),(Qga p10),(Qfh p11)]  ((Sum.elim (fun r=>.ret (.tup []) [(.own 7 [[(.dat 5 ((p2:List GRow).map Qau)),(.dat 7 ((p3:List GElement).map Qab)),(.own 1 1 (0) (p4)),(.own 2 4 (0) (p5)),(.own 3 1 (0) (p6)),(.dat 4 ((p7:List GStream).map Qai)),(I (r.1))]]),(.own 1 ((r.2.1:List (List GStream)).map Qap)),(.own 4 ((r.2.2.1:List GLost).map Qa9)),(.own 1 ((r.2.2.2:List Int).map Qaj))]) (fun r=>.pan (.iface 182 (.agg #[(.int .i64 (r))]))):((Int×(List (List GStream))×(List GLost)×(List Int))⊕Int)→Out) r):=by
  refine Qug Tryz.func97 rfl 4 (nle rfl) (fun X φ0 w0 hφ0 hd0=>?_)
  unfold Qeg at h
  obtain ⟨x7,hf6,h⟩:=bno h
  obtain ⟨hz8,h⟩:=cko h
  obtain ⟨hz9,h⟩:=cko h
  obtain ⟨hz10,h⟩:=cko h
  obtain ⟨x12,hf11,h⟩:=bno h
  obtain ⟨x14,hf13,h⟩:=bno h
  refine wx tbk [(2,⟨[fu 116,(.tmp 8,.ref 0 7 0 0),(.tmp 9,I p0)],[(0,(Qfi p2 p3 p4 p5 p6 p7 p8)),(1,(Qe1 p9)),(2,(Qga p10)),(3,(Qfh p11)),(4,.unused),(5,.unused)],Zcq,[(0,(Qfi p2 p3 p4 p5 p6 p7 p8)),(1,(Qe1 p9)),(2,(Qga p10)),(3,(Qfh p11)),(4,Zcr),(5,.own 1 [[I p0]])],false⟩),(3,⟨[fu 115,(.tmp 10,Zcq)],[(4,Zcr),(0,(Qfi p2 p3 p4 p5 p6 p7 p8)),(1,(Qe1 p9)),(2,(Qga p10)),(3,(Qfh p11)),(5,.own 1 [[I p0]]),(6,.unused)],(Q3l x12),[(6,.tok)],false⟩),(4,rp [fu 76,(.tmp 11,(Q3l x12))] (Qg1 x14))] ⟨Qat (first:=[]) (cap:=[]) (vs:=[.ref 0 7 0 0,I p0]) (σr:=[(Qfi p2 p3 p4 p5 p6 p7 p8),(Qe1 p9),(Qga p10),(Qfh p11)]) (σr':=[(Qfi p2 p3 p4 p5 p6 p7 p8),(Qe1 p9),(Qga p10),(Qfh p11),Zcr,(.own 1 [[I p0]])]) (res':=Zcq) [0,1,2,3,4,5] rfl Q9v (Qlr N p0 p2 p3 p4 p5 p6 p7 p8 p9 p10 p11 _ hf6) rfl (Qbn (rnc (Qbb rfl) (rnc (.plain _ nll) rn0))) (slc (Qao (rnc (pld Qae) (rnc (pld Qaa) (rnc (Qco rfl) (rnc (Qco rfl) (rnc (Qco rfl) (rnc (pld Qag) (rnc (.plain _ nll) rn0)))))))) (slc (Qa3 Qaq) (slc (Qa3 Qa1) (slc (Qa3 Qaf) Qas)))) (slc (Qao (rnc (pld Qae) (rnc (pld Qaa) (rnc (Qcx rfl) (rnc (Qcx rfl) (rnc (Qcx rfl) (rnc (pld Qag) (rnc (.plain _ nll) rn0)))))))) (slc (Qa3 Qaq) (slc (Qa3 Qa1) (slc (Qa3 Qaf) (slc (Qao (rnc (Qbg rfl) rn0)) (slc (Qao (rnc (.plain _ nll) rn0)) Qas)))))) (Qbd rn0 (rnc (Qbg rfl) (rnc (Qbg rfl) rn0))) rfl rfl rfl,Qio (rd':=[fu 115,(.tmp 10,(.fn (.func 133) [] [(.dptr [(.dptr [(Qpk p2),(Qit p3),(.dat 1 ((p9.take p4:List (List GStream)).map Qap)),(.dat 4 ((p10.take p5:List GLost).map Qa9)),(.dat 1 ((p11.take p6:List Int).map Qaj)),(Qpj p7),I p8] 0)] 0),(.dptr [I p0] 0)]))]) [(4,1,[[.ref 0 7 0 0]]),(0,7,[[(Qpk p2),(Qit p3),(.own 1 1 (0) (p4)),(.own 2 4 (0) (p5)),(.own 3 1 (0) (p6)),(Qpj p7),I p8]]),(1,1,(p9:List (List GStream)).map Qap),(2,4,(p10:List GLost).map Qa9),(3,1,(p11:List Int).map Qaj),(5,1,[[I p0]])] ⟨rfl,.same _,rfl,(Zaa tv ⟨(Qnd 0 rfl (lc (Qnd 1 rfl (lc (.same _) (lc (.same _) (lc (Qxg 2 rfl hz8) (lc (Qxg 3 rfl hz9) (lc (Qxg 4 rfl hz10) (lc (.same _) (lc (.same _) ln)))))))) ln)),(Qnd 5 rfl (lc (.same _) ln)),tv⟩),tv⟩ (by rfl) (.acc _ _ _ _ (nin rfl) (by simp) (Q8o Qxb _)) (Q8e .tok Qsy) (Qat (first:=[]) (cap:=[]) (vs:=[(.fn (.func 133) [] [(.dptr [(.dptr [(Qpk p2),(Qit p3),(.dat 1 ((p9.take p4:List (List GStream)).map Qap)),(.dat 4 ((p10.take p5:List GLost).map Qa9)),(.dat 1 ((p11.take p6:List Int).map Qaj)),(Qpj p7),I p8] 0)] 0),(.dptr [I p0] 0)])]) (σr:=[]) (σr':=[.tok]) (res':=(Q3l x12)) [6] rfl Q9w (Qhb N p2 p3 (p9.take p4) (p10.take p5) (p11.take p6) p7 p8 p0 _ hf11) rfl (Qbn (rnc (.plain _ (NLt.fn _ _ _ nl0 (nlc (NLt.dptr _ _ (nlc (NLt.dptr _ _ (nlc (nld Qae _) (nlc (nld Qaa _) (nlc (nld Qaq _) (nlc (nld Qa1 _) (nlc (nld Qaf _) (nlc (nld Qag _) (nlc nll nl0)))))))) nl0)) (nlc (NLt.dptr _ _ (nlc nll nl0)) nl0)))) rn0)) Qas (slc .tok Qas) (Q4w rfl (Qb9 Qag _)) rfl rfl rfl),awk (rd':=(.func 76,(.fn (.func 76) [] []))::[(.tmp 11,(.dat 4 ((x12:List GStream).map Qai)))]) ⟨rfl,lrf,rfl,Less.acc,tv⟩ (apv Qxe (Qjp N x12 _ hf13) (nlc (nld Qag _) nl0) (NLt.agg _ (nlcc (nlcc nl0)))),tv⟩ ?_
  obtain ⟨k15,hk_k15,h⟩:=jko h
  refine wjn (τ:=Unit) (fun t=>k15 t=some r) (fun _=>⟨mk 43 [(0,.ref 0 7 0 0),(1,I p0),(6,.ref 4 4 0 0)],[(Qfi p2 p3 p4 p5 p6 p7 p8),(Qe1 p9),(Qga p10),(Qfh p11),(Qoj x14)]⟩) (fun t h=>?_) ?_
  ·subst hk_k15
   refine wx tbk [(0,rp [fu 117,fu 117,fu 118,fu 119,fu 120,fu 117] (.agg [(.lit .nilFunc),(.fn (.func 117) [] []),(.fn (.func 117) [] []),(.fn (.func 118) [] []),(.fn (.func 119) [] []),(.fn (.func 120) [] []),(.fn (.func 117) [] [])]))] ⟨Qos (vs:=[(.fn (.func 117) [] []),(.fn (.func 117) [] []),(.fn (.func 118) [] []),(.fn (.func 119) [] []),(.fn (.func 120) [] []),(.fn (.func 117) [] [])]) rfl Tryz.underlying209 Qms Zgu rfl (by rfl) rfl,tv⟩ ?_
   obtain ⟨x16,hg17,h⟩:=bno h
   obtain ⟨hi18,hj19⟩:=gsm hg17
   refine bfe h (fun hb20 h=>?_) fun hb20 h=>?_
   ·cases h
   ·refine bfe h (fun hb21 h=>?_) fun hb21 h=>?_
    ·obtain ⟨x23,hf22,h⟩:=bno h
     obtain ⟨hi24,h⟩:=cko h
     obtain ⟨hi24a,hi24b⟩:=Qdu hi24
     obtain ⟨x25,hg26,h⟩:=bno h
     refine Qj7 0 (.own 7 [[(Qpk p2),(Qit p3),(.own 1 1 (0) (p4)),(.own 2 4 (0) (p5)),(.own 3 1 (0) (p6)),(Qpj p7),I p8]]) [mv 0 (.ref 0 7 0 0),⟨[(.tmp 21,.ref 0 7 0 0)],[],.ref 0 7 0 0,[],false⟩,⟨[(.tmp 22,.ref 0 7 0 0)],[],.ref 0 7 0 2,[],false⟩,⟨[(.tmp 23,.ref 0 7 0 2)],[],.ref 0 7 0 2,[],false⟩,⟨[(.tmp 24,.ref 0 7 0 2)],[],(.own 1 1 (0) (p4)),[],false⟩,mv 1 (I p0),mv 0 (.ref 0 7 0 0),⟨[(.tmp 27,.ref 0 7 0 0)],[],.ref 0 7 0 0,[],false⟩,⟨[(.tmp 28,.ref 0 7 0 0)],[],.ref 0 7 0 0,[],false⟩,⟨[(.tmp 29,.ref 0 7 0 0)],[],.ref 0 7 0 1,[],false⟩,⟨[(.tmp 30,.ref 0 7 0 1)],[],(Qit p3),[],false⟩,mv 1 (I p0),rp [(.tmp 31,(Qit p3)),(.tmp 32,I p0)] (.dptr (Qab (x16)) 0),mv 33 (.dptr (Qab (x16)) 0),rp [(.tmp 34,(.dptr (Qab (x16)) 0))] (K .u8 (x16.Kind)),rb [(.tmp 7,.ref 5 7 0 0),(.tmp 35,(K .u8 (x16.Kind)))] [(5,Qkm)] (.ref 5 7 0 1),rb [(.tmp 36,.ref 5 7 0 1)] [(5,Qkm)] (.fn (.func 117) [] []),mv 0 (.ref 0 7 0 0),mv 1 (I p0),rb [(.tmp 6,.ref 4 4 0 0)] [(4,(Qoj x14))] (Qg1 x14),⟨[(.tmp 37,(.fn (.func 117) [] [])),(.tmp 38,.ref 0 7 0 0),(.tmp 39,I p0),(.tmp 40,(Qg1 x14))],[(0,(Qfi p2 p3 p4 p5 p6 p7 p8)),(1,(Qe1 p9)),(2,(Qga p10)),(3,(Qfh p11))],(Q3k x23),[(0,(Qfi p2 p3 p4 p5 p6 p7 p8)),(1,(Qe1 p9)),(2,(Qga p10)),(3,(Qfh p11))],false⟩,rb [(.tmp 25,(.own 1 1 (0) (p4))),(.tmp 26,I p0)] [(1,(Qe1 p9))] (.ref 1 1 (p0.toNat) 0),⟨[(.tmp 42,(.ref 1 1 (p0.toNat) 0)),(.tmp 41,(Q3k x23))],[(1,(Qe1 p9))],.any,[(1,(.own 1 ((p9.set p0.toNat x23:List (List GStream)).map Qap)))],false⟩] (SImp.box ⟨lrf,lrf,lrf,lrf,lrf,lrf,lrf,tv⟩) ⟨tv,tv,tv,tv,tv,tv,tv,tv,tv,tv,tv,tv,tv,tv,tv,tv,tv,tv,tv,tv,⟨(SImp.box ⟨lrf,lrf,lrf,lrf,lrf,lrf,lrf,tv⟩),tv,tv,tv,tv⟩,tv,⟨tv,tv⟩,tv⟩ ?_ ?_
     ·exact ⟨hr_ (amv rfl),sf_ (Qa6 rfl),sf_ (afa rfl Tryz.underlying140 rfl rfl ti34 (by decide) rfl),sf_ (afa rfl Tryz.underlying34 rfl rfl ti31 (by decide) rfl),sf_ (ald rfl ti31 (by decide) rfl (nle rfl) rfl),hr_ (amv rfl),hr_ (amv rfl),sf_ (Qa6 rfl),sf_ (afa rfl Tryz.underlying140 rfl rfl ti42 (by decide) rfl),sf_ (afa rfl Tryz.underlying42 rfl rfl ti40 (by decide) rfl),sf_ (ald rfl ti40 (by decide) rfl (nle rfl) rfl),hr_ (amv rfl),hr_ (aid rfl Tryz.underlying40 Qg2 rfl rfl hi18 (mgt Qab hj19) rfl),hr_ (afd rfl Tryz.underlying133 rfl rfl ti5 (by decide) rfl),hr_ (ald_ rfl ti5 (by decide) (nle rfl) rfl),hr_ (Qir hb21 (Qis rfl Tryz.underlying209 Qms (by decide) (by decide) rfl)),hr_ (ald rfl Qms (by decide) rfl (nle rfl) rfl),hr_ (amv rfl),hr_ (amv rfl),hr_ (ald rfl ti63 (by decide) rfl (nle rfl) rfl),hr_ (Qat (first:=[]) (cap:=[]) (vs:=[.ref 0 7 0 0,I p0,(Qg1 x14)]) (σr:=[(Qfi p2 p3 p4 p5 p6 p7 p8),(Qe1 p9),(Qga p10),(Qfh p11)]) (σr':=[(Qfi p2 p3 p4 p5 p6 p7 p8),(Qe1 p9),(Qga p10),(Qfh p11)]) (res':=(Q3k x23)) [0,1,2,3] rfl Qtk (Qgf N p0 x14 p2 p3 p4 p5 p6 p7 p8 p9 p10 p11 _ hf22) rfl (Qbn (rnc (Qbb rfl) (rnc (.plain _ nll) (rnc (.plain _ (NLt.agg _ (nlcc (nlcc nl0)))) rn0)))) (slc (Qao (rnc (pld Qae) (rnc (pld Qaa) (rnc (Qco rfl) (rnc (Qco rfl) (rnc (Qco rfl) (rnc (pld Qag) (rnc (.plain _ nll) rn0)))))))) (slc (Qa3 Qaq) (slc (Qa3 Qa1) (slc (Qa3 Qaf) Qas)))) (slc (Qao (rnc (pld Qae) (rnc (pld Qaa) (rnc (Qcx rfl) (rnc (Qcx rfl) (rnc (Qcx rfl) (rnc (pld Qag) (rnc (.plain _ nll) rn0)))))))) (slc (Qa3 Qaq) (slc (Qa3 Qa1) (slc (Qa3 Qaf) Qas)))) (pld Qag) rfl rfl rfl),hr_ (aio rfl Tryz.underlying31 ti45 (odt hi24a) (odt hi24b) (Nat.zero_add _)),hr_ (ast rfl ti45 (by rfl) (mgt Qap hg26) (nle rfl) (Qfm Qap rfl)),tv⟩
     obtain rfl:=osi h
     exact ⟨_,(mto (n:=43) (l':=[]) (own':=[(Qfi p2 p3 p4 p5 p6 p7 p8),(.own 1 (((p9.set p0.toNat x23):List (List GStream)).map Qap)),(Qga p10),(Qfh p11)]) [] [0,1,2,3] [(Qfi p2 p3 p4 p5 p6 p7 p8),(.own 1 ((p9.set p0.toNat x23:List (List GStream)).map Qap)),(Qga p10),(Qfh p11)] hφ0 pn (qb (lc (rnd Qae) (lc (rnd Qaa) (lc (.rn (Qa0 rfl)) (lc (.rn (Qa0 rfl)) (lc (.rn (Qa0 rfl)) (lc (rnd Qag) (lc rwl ln))))))) (qc (spr Qaq) (qc (spr Qa1) (qc (spr Qaf) qn))))),Qjh (vs:=[]) tv rfl (NLt.tup _ nl0) (by kernel_rfl) (Qan (Qa7 (nlc (NLt.of0 (nld Qae _)) (nlc (NLt.of0 (nld Qaa _)) (nlc (NLt.own _ _ _ _ (by decide)) (nlc (NLt.own _ _ _ _ (by decide)) (nlc (NLt.own _ _ _ _ (by decide)) (nlc (NLt.of0 (nld Qag _)) (nlc (NLt.of0 nll) nl0)))))))) (Qan (Qbw Qaq _) (Qan (Qbw Qa1 _) (Qan (Qbw Qaf _) Qbi))))⟩
    ·refine bfe h (fun hb27 h=>?_) fun hb27 h=>?_
     ·obtain ⟨x29,hf28,h⟩:=bno h
      obtain ⟨hi30,h⟩:=cko h
      obtain ⟨hi30a,hi30b⟩:=Qdu hi30
      obtain ⟨x31,hg32,h⟩:=bno h
      refine Qj7 0 (.own 7 [[(Qpk p2),(Qit p3),(.own 1 1 (0) (p4)),(.own 2 4 (0) (p5)),(.own 3 1 (0) (p6)),(Qpj p7),I p8]]) [mv 0 (.ref 0 7 0 0),⟨[(.tmp 21,.ref 0 7 0 0)],[],.ref 0 7 0 0,[],false⟩,⟨[(.tmp 22,.ref 0 7 0 0)],[],.ref 0 7 0 2,[],false⟩,⟨[(.tmp 23,.ref 0 7 0 2)],[],.ref 0 7 0 2,[],false⟩,⟨[(.tmp 24,.ref 0 7 0 2)],[],(.own 1 1 (0) (p4)),[],false⟩,mv 1 (I p0),mv 0 (.ref 0 7 0 0),⟨[(.tmp 27,.ref 0 7 0 0)],[],.ref 0 7 0 0,[],false⟩,⟨[(.tmp 28,.ref 0 7 0 0)],[],.ref 0 7 0 0,[],false⟩,⟨[(.tmp 29,.ref 0 7 0 0)],[],.ref 0 7 0 1,[],false⟩,⟨[(.tmp 30,.ref 0 7 0 1)],[],(Qit p3),[],false⟩,mv 1 (I p0),rp [(.tmp 31,(Qit p3)),(.tmp 32,I p0)] (.dptr (Qab (x16)) 0),mv 33 (.dptr (Qab (x16)) 0),rp [(.tmp 34,(.dptr (Qab (x16)) 0))] (K .u8 (x16.Kind)),rb [(.tmp 7,.ref 5 7 0 0),(.tmp 35,(K .u8 (x16.Kind)))] [(5,Qkm)] (.ref 5 7 0 2),rb [(.tmp 36,.ref 5 7 0 2)] [(5,Qkm)] (.fn (.func 117) [] []),mv 0 (.ref 0 7 0 0),mv 1 (I p0),rb [(.tmp 6,.ref 4 4 0 0)] [(4,(Qoj x14))] (Qg1 x14),⟨[(.tmp 37,(.fn (.func 117) [] [])),(.tmp 38,.ref 0 7 0 0),(.tmp 39,I p0),(.tmp 40,(Qg1 x14))],[(0,(Qfi p2 p3 p4 p5 p6 p7 p8)),(1,(Qe1 p9)),(2,(Qga p10)),(3,(Qfh p11))],(Q3j x29),[(0,(Qfi p2 p3 p4 p5 p6 p7 p8)),(1,(Qe1 p9)),(2,(Qga p10)),(3,(Qfh p11))],false⟩,rb [(.tmp 25,(.own 1 1 (0) (p4))),(.tmp 26,I p0)] [(1,(Qe1 p9))] (.ref 1 1 (p0.toNat) 0),⟨[(.tmp 42,(.ref 1 1 (p0.toNat) 0)),(.tmp 41,(Q3j x29))],[(1,(Qe1 p9))],.any,[(1,(.own 1 ((p9.set p0.toNat x29:List (List GStream)).map Qap)))],false⟩] (SImp.box ⟨lrf,lrf,lrf,lrf,lrf,lrf,lrf,tv⟩) ⟨tv,tv,tv,tv,tv,tv,tv,tv,tv,tv,tv,tv,tv,tv,tv,tv,tv,tv,tv,tv,⟨(SImp.box ⟨lrf,lrf,lrf,lrf,lrf,lrf,lrf,tv⟩),tv,tv,tv,tv⟩,tv,⟨tv,tv⟩,tv⟩ ?_ ?_
      ·exact ⟨hr_ (amv rfl),sf_ (Qa6 rfl),sf_ (afa rfl Tryz.underlying140 rfl rfl ti34 (by decide) rfl),sf_ (afa rfl Tryz.underlying34 rfl rfl ti31 (by decide) rfl),sf_ (ald rfl ti31 (by decide) rfl (nle rfl) rfl),hr_ (amv rfl),hr_ (amv rfl),sf_ (Qa6 rfl),sf_ (afa rfl Tryz.underlying140 rfl rfl ti42 (by decide) rfl),sf_ (afa rfl Tryz.underlying42 rfl rfl ti40 (by decide) rfl),sf_ (ald rfl ti40 (by decide) rfl (nle rfl) rfl),hr_ (amv rfl),hr_ (aid rfl Tryz.underlying40 Qg2 rfl rfl hi18 (mgt Qab hj19) rfl),hr_ (afd rfl Tryz.underlying133 rfl rfl ti5 (by decide) rfl),hr_ (ald_ rfl ti5 (by decide) (nle rfl) rfl),hr_ (Qir hb27 (Qis rfl Tryz.underlying209 Qms (by decide) (by decide) rfl)),hr_ (ald rfl Qms (by decide) rfl (nle rfl) rfl),hr_ (amv rfl),hr_ (amv rfl),hr_ (ald rfl ti63 (by decide) rfl (nle rfl) rfl),hr_ (Qat (first:=[]) (cap:=[]) (vs:=[.ref 0 7 0 0,I p0,(Qg1 x14)]) (σr:=[(Qfi p2 p3 p4 p5 p6 p7 p8),(Qe1 p9),(Qga p10),(Qfh p11)]) (σr':=[(Qfi p2 p3 p4 p5 p6 p7 p8),(Qe1 p9),(Qga p10),(Qfh p11)]) (res':=(Q3j x29)) [0,1,2,3] rfl Qtk (Qgf N p0 x14 p2 p3 p4 p5 p6 p7 p8 p9 p10 p11 _ hf28) rfl (Qbn (rnc (Qbb rfl) (rnc (.plain _ nll) (rnc (.plain _ (NLt.agg _ (nlcc (nlcc nl0)))) rn0)))) (slc (Qao (rnc (pld Qae) (rnc (pld Qaa) (rnc (Qco rfl) (rnc (Qco rfl) (rnc (Qco rfl) (rnc (pld Qag) (rnc (.plain _ nll) rn0)))))))) (slc (Qa3 Qaq) (slc (Qa3 Qa1) (slc (Qa3 Qaf) Qas)))) (slc (Qao (rnc (pld Qae) (rnc (pld Qaa) (rnc (Qcx rfl) (rnc (Qcx rfl) (rnc (Qcx rfl) (rnc (pld Qag) (rnc (.plain _ nll) rn0)))))))) (slc (Qa3 Qaq) (slc (Qa3 Qa1) (slc (Qa3 Qaf) Qas)))) (pld Qag) rfl rfl rfl),hr_ (aio rfl Tryz.underlying31 ti45 (odt hi30a) (odt hi30b) (Nat.zero_add _)),hr_ (ast rfl ti45 (by rfl) (mgt Qap hg32) (nle rfl) (Qfm Qap rfl)),tv⟩
      obtain rfl:=osi h
      exact ⟨_,(mto (n:=43) (l':=[]) (own':=[(Qfi p2 p3 p4 p5 p6 p7 p8),(.own 1 (((p9.set p0.toNat x29):List (List GStream)).map Qap)),(Qga p10),(Qfh p11)]) [] [0,1,2,3] [(Qfi p2 p3 p4 p5 p6 p7 p8),(.own 1 ((p9.set p0.toNat x29:List (List GStream)).map Qap)),(Qga p10),(Qfh p11)] hφ0 pn (qb (lc (rnd Qae) (lc (rnd Qaa) (lc (.rn (Qa0 rfl)) (lc (.rn (Qa0 rfl)) (lc (.rn (Qa0 rfl)) (lc (rnd Qag) (lc rwl ln))))))) (qc (spr Qaq) (qc (spr Qa1) (qc (spr Qaf) qn))))),Qjh (vs:=[]) tv rfl (NLt.tup _ nl0) (by kernel_rfl) (Qan (Qa7 (nlc (NLt.of0 (nld Qae _)) (nlc (NLt.of0 (nld Qaa _)) (nlc (NLt.own _ _ _ _ (by decide)) (nlc (NLt.own _ _ _ _ (by decide)) (nlc (NLt.own _ _ _ _ (by decide)) (nlc (NLt.of0 (nld Qag _)) (nlc (NLt.of0 nll) nl0)))))))) (Qan (Qbw Qaq _) (Qan (Qbw Qa1 _) (Qan (Qbw Qaf _) Qbi))))⟩
     ·refine bfe h (fun hb33 h=>?_) fun hb33 h=>?_
      ·obtain ⟨x35,hf34,h⟩:=bno h
       obtain ⟨hi36,h⟩:=cko h
       obtain ⟨hi36a,hi36b⟩:=Qdu hi36
       obtain ⟨x37,hg38,h⟩:=bno h
       refine Qj7 0 (.own 7 [[(Qpk p2),(Qit p3),(.own 1 1 (0) (p4)),(.own 2 4 (0) (p5)),(.own 3 1 (0) (p6)),(Qpj p7),I p8]]) [mv 0 (.ref 0 7 0 0),⟨[(.tmp 21,.ref 0 7 0 0)],[],.ref 0 7 0 0,[],false⟩,⟨[(.tmp 22,.ref 0 7 0 0)],[],.ref 0 7 0 2,[],false⟩,⟨[(.tmp 23,.ref 0 7 0 2)],[],.ref 0 7 0 2,[],false⟩,⟨[(.tmp 24,.ref 0 7 0 2)],[],(.own 1 1 (0) (p4)),[],false⟩,mv 1 (I p0),mv 0 (.ref 0 7 0 0),⟨[(.tmp 27,.ref 0 7 0 0)],[],.ref 0 7 0 0,[],false⟩,⟨[(.tmp 28,.ref 0 7 0 0)],[],.ref 0 7 0 0,[],false⟩,⟨[(.tmp 29,.ref 0 7 0 0)],[],.ref 0 7 0 1,[],false⟩,⟨[(.tmp 30,.ref 0 7 0 1)],[],(Qit p3),[],false⟩,mv 1 (I p0),rp [(.tmp 31,(Qit p3)),(.tmp 32,I p0)] (.dptr (Qab (x16)) 0),mv 33 (.dptr (Qab (x16)) 0),rp [(.tmp 34,(.dptr (Qab (x16)) 0))] (K .u8 (x16.Kind)),rb [(.tmp 7,.ref 5 7 0 0),(.tmp 35,(K .u8 (x16.Kind)))] [(5,Qkm)] (.ref 5 7 0 3),rb [(.tmp 36,.ref 5 7 0 3)] [(5,Qkm)] (.fn (.func 118) [] []),mv 0 (.ref 0 7 0 0),mv 1 (I p0),rb [(.tmp 6,.ref 4 4 0 0)] [(4,(Qoj x14))] (Qg1 x14),⟨[(.tmp 37,(.fn (.func 118) [] [])),(.tmp 38,.ref 0 7 0 0),(.tmp 39,I p0),(.tmp 40,(Qg1 x14))],[(0,(Qfi p2 p3 p4 p5 p6 p7 p8)),(1,(Qe1 p9)),(2,(Qga p10)),(3,(Qfh p11))],(.dat 4 ((x35.1:List GStream).map Qai)),[(0,(Qfi p2 p3 p4 p5 p6 p7 p8)),(1,(Qe1 p9)),(2,(Qyk x35)),(3,(Qfh p11))],false⟩,rb [(.tmp 25,(.own 1 1 (0) (p4))),(.tmp 26,I p0)] [(1,(Qe1 p9))] (.ref 1 1 (p0.toNat) 0),⟨[(.tmp 42,(.ref 1 1 (p0.toNat) 0)),(.tmp 41,(.dat 4 ((x35.1:List GStream).map Qai)))],[(1,(Qe1 p9))],.any,[(1,(.own 1 ((p9.set p0.toNat x35.1:List (List GStream)).map Qap)))],false⟩] (SImp.box ⟨lrf,lrf,lrf,lrf,lrf,lrf,lrf,tv⟩) ⟨tv,tv,tv,tv,tv,tv,tv,tv,tv,tv,tv,tv,tv,tv,tv,tv,tv,tv,tv,tv,⟨(SImp.box ⟨lrf,lrf,lrf,lrf,lrf,lrf,lrf,tv⟩),tv,tv,tv,tv⟩,tv,⟨tv,tv⟩,tv⟩ ?_ ?_
       ·exact ⟨hr_ (amv rfl),sf_ (Qa6 rfl),sf_ (afa rfl Tryz.underlying140 rfl rfl ti34 (by decide) rfl),sf_ (afa rfl Tryz.underlying34 rfl rfl ti31 (by decide) rfl),sf_ (ald rfl ti31 (by decide) rfl (nle rfl) rfl),hr_ (amv rfl),hr_ (amv rfl),sf_ (Qa6 rfl),sf_ (afa rfl Tryz.underlying140 rfl rfl ti42 (by decide) rfl),sf_ (afa rfl Tryz.underlying42 rfl rfl ti40 (by decide) rfl),sf_ (ald rfl ti40 (by decide) rfl (nle rfl) rfl),hr_ (amv rfl),hr_ (aid rfl Tryz.underlying40 Qg2 rfl rfl hi18 (mgt Qab hj19) rfl),hr_ (afd rfl Tryz.underlying133 rfl rfl ti5 (by decide) rfl),hr_ (ald_ rfl ti5 (by decide) (nle rfl) rfl),hr_ (Qir hb33 (Qis rfl Tryz.underlying209 Qms (by decide) (by decide) rfl)),hr_ (ald rfl Qms (by decide) rfl (nle rfl) rfl),hr_ (amv rfl),hr_ (amv rfl),hr_ (ald rfl ti63 (by decide) rfl (nle rfl) rfl),hr_ (Qat (first:=[]) (cap:=[]) (vs:=[.ref 0 7 0 0,I p0,(Qg1 x14)]) (σr:=[(Qfi p2 p3 p4 p5 p6 p7 p8),(Qe1 p9),(Qga p10),(Qfh p11)]) (σr':=[(Qfi p2 p3 p4 p5 p6 p7 p8),(Qe1 p9),(Qyk x35),(Qfh p11)]) (res':=(.dat 4 ((x35.1:List GStream).map Qai))) [0,1,2,3] rfl Q9u (Qls N p0 x14 p2 p3 p4 p5 p6 p7 p8 p9 p10 p11 _ hf34) rfl (Qbn (rnc (Qbb rfl) (rnc (.plain _ nll) (rnc (.plain _ (NLt.agg _ (nlcc (nlcc nl0)))) rn0)))) (slc (Qao (rnc (pld Qae) (rnc (pld Qaa) (rnc (Qco rfl) (rnc (Qco rfl) (rnc (Qco rfl) (rnc (pld Qag) (rnc (.plain _ nll) rn0)))))))) (slc (Qa3 Qaq) (slc (Qa3 Qa1) (slc (Qa3 Qaf) Qas)))) (slc (Qao (rnc (pld Qae) (rnc (pld Qaa) (rnc (Qcx rfl) (rnc (Qcx rfl) (rnc (Qcx rfl) (rnc (pld Qag) (rnc (.plain _ nll) rn0)))))))) (slc (Qa3 Qaq) (slc (Qa3 Qa1) (slc (Qa3 Qaf) Qas)))) (pld Qag) rfl rfl rfl),hr_ (aio rfl Tryz.underlying31 ti45 (odt hi36a) (odt hi36b) (Nat.zero_add _)),hr_ (ast rfl ti45 (by rfl) (mgt Qap hg38) (nle rfl) (Qfm Qap rfl)),tv⟩
       obtain rfl:=osi h
       exact ⟨_,(mto (n:=43) (l':=[]) (own':=[(Qfi p2 p3 p4 p5 p6 p7 p8),(.own 1 (((p9.set p0.toNat x35.1):List (List GStream)).map Qap)),(Qyk x35),(Qfh p11)]) [] [0,1,2,3] [(Qfi p2 p3 p4 p5 p6 p7 p8),(.own 1 ((p9.set p0.toNat x35.1:List (List GStream)).map Qap)),(Qyk x35),(Qfh p11)] hφ0 pn (qb (lc (rnd Qae) (lc (rnd Qaa) (lc (.rn (Qa0 rfl)) (lc (.rn (Qa0 rfl)) (lc (.rn (Qa0 rfl)) (lc (rnd Qag) (lc rwl ln))))))) (qc (spr Qaq) (qc (spr Qa1) (qc (spr Qaf) qn))))),Qjh (vs:=[]) tv rfl (NLt.tup _ nl0) (by kernel_rfl) (Qan (Qa7 (nlc (NLt.of0 (nld Qae _)) (nlc (NLt.of0 (nld Qaa _)) (nlc (NLt.own _ _ _ _ (by decide)) (nlc (NLt.own _ _ _ _ (by decide)) (nlc (NLt.own _ _ _ _ (by decide)) (nlc (NLt.of0 (nld Qag _)) (nlc (NLt.of0 nll) nl0)))))))) (Qan (Qbw Qaq _) (Qan (Qbw Qa1 _) (Qan (Qbw Qaf _) Qbi))))⟩
      ·refine bfe h (fun hb39 h=>?_) fun hb39 h=>?_
       ·obtain ⟨x41,hf40,h⟩:=bno h
        obtain ⟨hi42,h⟩:=cko h
        obtain ⟨hi42a,hi42b⟩:=Qdu hi42
        obtain ⟨x43,hg44,h⟩:=bno h
        refine Qj7 0 (.own 7 [[(Qpk p2),(Qit p3),(.own 1 1 (0) (p4)),(.own 2 4 (0) (p5)),(.own 3 1 (0) (p6)),(Qpj p7),.any]]) [mv 0 (.ref 0 7 0 0),⟨[(.tmp 21,.ref 0 7 0 0)],[],.ref 0 7 0 0,[],false⟩,⟨[(.tmp 22,.ref 0 7 0 0)],[],.ref 0 7 0 2,[],false⟩,⟨[(.tmp 23,.ref 0 7 0 2)],[],.ref 0 7 0 2,[],false⟩,⟨[(.tmp 24,.ref 0 7 0 2)],[],(.own 1 1 (0) (p4)),[],false⟩,mv 1 (I p0),mv 0 (.ref 0 7 0 0),⟨[(.tmp 27,.ref 0 7 0 0)],[],.ref 0 7 0 0,[],false⟩,⟨[(.tmp 28,.ref 0 7 0 0)],[],.ref 0 7 0 0,[],false⟩,⟨[(.tmp 29,.ref 0 7 0 0)],[],.ref 0 7 0 1,[],false⟩,⟨[(.tmp 30,.ref 0 7 0 1)],[],(Qit p3),[],false⟩,mv 1 (I p0),rp [(.tmp 31,(Qit p3)),(.tmp 32,I p0)] (.dptr (Qab (x16)) 0),mv 33 (.dptr (Qab (x16)) 0),rp [(.tmp 34,(.dptr (Qab (x16)) 0))] (K .u8 (x16.Kind)),rb [(.tmp 7,.ref 5 7 0 0),(.tmp 35,(K .u8 (x16.Kind)))] [(5,Qkm)] (.ref 5 7 0 4),rb [(.tmp 36,.ref 5 7 0 4)] [(5,Qkm)] (.fn (.func 119) [] []),mv 0 (.ref 0 7 0 0),mv 1 (I p0),rb [(.tmp 6,.ref 4 4 0 0)] [(4,(Qoj x14))] (Qg1 x14),⟨[(.tmp 37,(.fn (.func 119) [] [])),(.tmp 38,.ref 0 7 0 0),(.tmp 39,I p0),(.tmp 40,(Qg1 x14))],[(0,(Qfi p2 p3 p4 p5 p6 p7 p8)),(1,(Qe1 p9)),(2,(Qga p10)),(3,(Qfh p11))],(.dat 4 ((x41.1:List GStream).map Qai)),[(0,(Qyj p2 p3 p4 p5 p6 p7 x41)),(1,(Qe1 p9)),(2,(Qyi x41)),(3,(Qyh x41))],false⟩,rb [(.tmp 25,(.own 1 1 (0) (p4))),(.tmp 26,I p0)] [(1,(Qe1 p9))] (.ref 1 1 (p0.toNat) 0),⟨[(.tmp 42,(.ref 1 1 (p0.toNat) 0)),(.tmp 41,(.dat 4 ((x41.1:List GStream).map Qai)))],[(1,(Qe1 p9))],.any,[(1,(.own 1 ((p9.set p0.toNat x41.1:List (List GStream)).map Qap)))],false⟩] (SImp.box ⟨lrf,lrf,lrf,lrf,lrf,lrf,Less.any,tv⟩) ⟨tv,tv,tv,tv,tv,tv,tv,tv,tv,tv,tv,tv,tv,tv,tv,tv,tv,tv,tv,tv,⟨(SImp.box ⟨lrf,lrf,lrf,lrf,lrf,lrf,Less.any,tv⟩),tv,tv,tv,tv⟩,tv,⟨tv,tv⟩,tv⟩ ?_ ?_
        ·exact ⟨hr_ (amv rfl),sf_ (Qa6 rfl),sf_ (afa rfl Tryz.underlying140 rfl rfl ti34 (by decide) rfl),sf_ (afa rfl Tryz.underlying34 rfl rfl ti31 (by decide) rfl),sf_ (ald rfl ti31 (by decide) rfl (nle rfl) rfl),hr_ (amv rfl),hr_ (amv rfl),sf_ (Qa6 rfl),sf_ (afa rfl Tryz.underlying140 rfl rfl ti42 (by decide) rfl),sf_ (afa rfl Tryz.underlying42 rfl rfl ti40 (by decide) rfl),sf_ (ald rfl ti40 (by decide) rfl (nle rfl) rfl),hr_ (amv rfl),hr_ (aid rfl Tryz.underlying40 Qg2 rfl rfl hi18 (mgt Qab hj19) rfl),hr_ (afd rfl Tryz.underlying133 rfl rfl ti5 (by decide) rfl),hr_ (ald_ rfl ti5 (by decide) (nle rfl) rfl),hr_ (Qir hb39 (Qis rfl Tryz.underlying209 Qms (by decide) (by decide) rfl)),hr_ (ald rfl Qms (by decide) rfl (nle rfl) rfl),hr_ (amv rfl),hr_ (amv rfl),hr_ (ald rfl ti63 (by decide) rfl (nle rfl) rfl),hr_ (Qat (first:=[]) (cap:=[]) (vs:=[.ref 0 7 0 0,I p0,(Qg1 x14)]) (σr:=[(Qfi p2 p3 p4 p5 p6 p7 p8),(Qe1 p9),(Qga p10),(Qfh p11)]) (σr':=[(Qyj p2 p3 p4 p5 p6 p7 x41),(Qe1 p9),(Qyi x41),(Qyh x41)]) (res':=(.dat 4 ((x41.1:List GStream).map Qai))) [0,1,2,3] rfl Q9t (Qjw N p0 x14 p2 p3 p4 p5 p6 p7 p8 p9 p10 p11 _ hf40) rfl (Qbn (rnc (Qbb rfl) (rnc (.plain _ nll) (rnc (.plain _ (NLt.agg _ (nlcc (nlcc nl0)))) rn0)))) (slc (Qao (rnc (pld Qae) (rnc (pld Qaa) (rnc (Qco rfl) (rnc (Qco rfl) (rnc (Qco rfl) (rnc (pld Qag) (rnc (.plain _ nll) rn0)))))))) (slc (Qa3 Qaq) (slc (Qa3 Qa1) (slc (Qa3 Qaf) Qas)))) (slc (Qao (rnc (pld Qae) (rnc (pld Qaa) (rnc (Qcx rfl) (rnc (Qcx rfl) (rnc (Qcx rfl) (rnc (pld Qag) (rnc (.plain _ nll) rn0)))))))) (slc (Qa3 Qaq) (slc (Qa3 Qa1) (slc (Qa3 Qaf) Qas)))) (pld Qag) rfl rfl rfl),hr_ (aio rfl Tryz.underlying31 ti45 (odt hi42a) (odt hi42b) (Nat.zero_add _)),hr_ (ast rfl ti45 (by rfl) (mgt Qap hg44) (nle rfl) (Qfm Qap rfl)),tv⟩
        obtain rfl:=osi h
        exact ⟨_,(mto (n:=43) (l':=[]) (own':=[(Qyj p2 p3 p4 p5 p6 p7 x41),(.own 1 (((p9.set p0.toNat x41.1):List (List GStream)).map Qap)),(Qyi x41),(Qyh x41)]) [] [0,1,2,3] [(Qyj p2 p3 p4 p5 p6 p7 x41),(.own 1 ((p9.set p0.toNat x41.1:List (List GStream)).map Qap)),(Qyi x41),(Qyh x41)] hφ0 pn (qb (lc (rnd Qae) (lc (rnd Qaa) (lc (.rn (Qa0 rfl)) (lc (.rn (Qa0 rfl)) (lc (.rn (Qa0 rfl)) (lc (rnd Qag) (lc rwl ln))))))) (qc (spr Qaq) (qc (spr Qa1) (qc (spr Qaf) qn))))),Qjh (vs:=[]) tv rfl (NLt.tup _ nl0) (by kernel_rfl) (Qan (Qa7 (nlc (NLt.of0 (nld Qae _)) (nlc (NLt.of0 (nld Qaa _)) (nlc (NLt.own _ _ _ _ (by decide)) (nlc (NLt.own _ _ _ _ (by decide)) (nlc (NLt.own _ _ _ _ (by decide)) (nlc (NLt.of0 (nld Qag _)) (nlc (NLt.of0 nll) nl0)))))))) (Qan (Qbw Qaq _) (Qan (Qbw Qa1 _) (Qan (Qbw Qaf _) Qbi))))⟩
       ·refine bfe h (fun hb45 h=>?_) fun hb45 h=>?_
        ·obtain ⟨x47,hf46,h⟩:=bno h
         obtain ⟨hi48,h⟩:=cko h
         obtain ⟨hi48a,hi48b⟩:=Qdu hi48
         obtain ⟨x49,hg50,h⟩:=bno h
         refine Qj7 0 (.own 7 [[(Qpk p2),(Qit p3),(.own 1 1 (0) (p4)),(.own 2 4 (0) (p5)),(.own 3 1 (0) (p6)),(Qpj p7),I p8]]) [mv 0 (.ref 0 7 0 0),⟨[(.tmp 21,.ref 0 7 0 0)],[],.ref 0 7 0 0,[],false⟩,⟨[(.tmp 22,.ref 0 7 0 0)],[],.ref 0 7 0 2,[],false⟩,⟨[(.tmp 23,.ref 0 7 0 2)],[],.ref 0 7 0 2,[],false⟩,⟨[(.tmp 24,.ref 0 7 0 2)],[],(.own 1 1 (0) (p4)),[],false⟩,mv 1 (I p0),mv 0 (.ref 0 7 0 0),⟨[(.tmp 27,.ref 0 7 0 0)],[],.ref 0 7 0 0,[],false⟩,⟨[(.tmp 28,.ref 0 7 0 0)],[],.ref 0 7 0 0,[],false⟩,⟨[(.tmp 29,.ref 0 7 0 0)],[],.ref 0 7 0 1,[],false⟩,⟨[(.tmp 30,.ref 0 7 0 1)],[],(Qit p3),[],false⟩,mv 1 (I p0),rp [(.tmp 31,(Qit p3)),(.tmp 32,I p0)] (.dptr (Qab (x16)) 0),mv 33 (.dptr (Qab (x16)) 0),rp [(.tmp 34,(.dptr (Qab (x16)) 0))] (K .u8 (x16.Kind)),rb [(.tmp 7,.ref 5 7 0 0),(.tmp 35,(K .u8 (x16.Kind)))] [(5,Qkm)] (.ref 5 7 0 5),rb [(.tmp 36,.ref 5 7 0 5)] [(5,Qkm)] (.fn (.func 120) [] []),mv 0 (.ref 0 7 0 0),mv 1 (I p0),rb [(.tmp 6,.ref 4 4 0 0)] [(4,(Qoj x14))] (Qg1 x14),⟨[(.tmp 37,(.fn (.func 120) [] [])),(.tmp 38,.ref 0 7 0 0),(.tmp 39,I p0),(.tmp 40,(Qg1 x14))],[(0,(Qfi p2 p3 p4 p5 p6 p7 p8)),(1,(Qe1 p9)),(2,(Qga p10)),(3,(Qfh p11))],(.dat 4 ((x47.1:List GStream).map Qai)),[(0,(Qfi p2 p3 p4 p5 p6 p7 p8)),(1,(Qe1 p9)),(2,(Qyg x47)),(3,(Qfh p11))],false⟩,rb [(.tmp 25,(.own 1 1 (0) (p4))),(.tmp 26,I p0)] [(1,(Qe1 p9))] (.ref 1 1 (p0.toNat) 0),⟨[(.tmp 42,(.ref 1 1 (p0.toNat) 0)),(.tmp 41,(.dat 4 ((x47.1:List GStream).map Qai)))],[(1,(Qe1 p9))],.any,[(1,(.own 1 ((p9.set p0.toNat x47.1:List (List GStream)).map Qap)))],false⟩] (SImp.box ⟨lrf,lrf,lrf,lrf,lrf,lrf,lrf,tv⟩) ⟨tv,tv,tv,tv,tv,tv,tv,tv,tv,tv,tv,tv,tv,tv,tv,tv,tv,tv,tv,tv,⟨(SImp.box ⟨lrf,lrf,lrf,lrf,lrf,lrf,lrf,tv⟩),tv,tv,tv,tv⟩,tv,⟨tv,tv⟩,tv⟩ ?_ ?_
         ·exact ⟨hr_ (amv rfl),sf_ (Qa6 rfl),sf_ (afa rfl Tryz.underlying140 rfl rfl ti34 (by decide) rfl),sf_ (afa rfl Tryz.underlying34 rfl rfl ti31 (by decide) rfl),sf_ (ald rfl ti31 (by decide) rfl (nle rfl) rfl),hr_ (amv rfl),hr_ (amv rfl),sf_ (Qa6 rfl),sf_ (afa rfl Tryz.underlying140 rfl rfl ti42 (by decide) rfl),sf_ (afa rfl Tryz.underlying42 rfl rfl ti40 (by decide) rfl),sf_ (ald rfl ti40 (by decide) rfl (nle rfl) rfl),hr_ (amv rfl),hr_ (aid rfl Tryz.underlying40 Qg2 rfl rfl hi18 (mgt Qab hj19) rfl),hr_ (afd rfl Tryz.underlying133 rfl rfl ti5 (by decide) rfl),hr_ (ald_ rfl ti5 (by decide) (nle rfl) rfl),hr_ (Qir hb45 (Qis rfl Tryz.underlying209 Qms (by decide) (by decide) rfl)),hr_ (ald rfl Qms (by decide) rfl (nle rfl) rfl),hr_ (amv rfl),hr_ (amv rfl),hr_ (ald rfl ti63 (by decide) rfl (nle rfl) rfl),hr_ (Qat (first:=[]) (cap:=[]) (vs:=[.ref 0 7 0 0,I p0,(Qg1 x14)]) (σr:=[(Qfi p2 p3 p4 p5 p6 p7 p8),(Qe1 p9),(Qga p10),(Qfh p11)]) (σr':=[(Qfi p2 p3 p4 p5 p6 p7 p8),(Qe1 p9),(Qyg x47),(Qfh p11)]) (res':=(.dat 4 ((x47.1:List GStream).map Qai))) [0,1,2,3] rfl Q9s (Qk4 N p0 x14 p2 p3 p4 p5 p6 p7 p8 p9 p10 p11 _ hf46) rfl (Qbn (rnc (Qbb rfl) (rnc (.plain _ nll) (rnc (.plain _ (NLt.agg _ (nlcc (nlcc nl0)))) rn0)))) (slc (Qao (rnc (pld Qae) (rnc (pld Qaa) (rnc (Qco rfl) (rnc (Qco rfl) (rnc (Qco rfl) (rnc (pld Qag) (rnc (.plain _ nll) rn0)))))))) (slc (Qa3 Qaq) (slc (Qa3 Qa1) (slc (Qa3 Qaf) Qas)))) (slc (Qao (rnc (pld Qae) (rnc (pld Qaa) (rnc (Qcx rfl) (rnc (Qcx rfl) (rnc (Qcx rfl) (rnc (pld Qag) (rnc (.plain _ nll) rn0)))))))) (slc (Qa3 Qaq) (slc (Qa3 Qa1) (slc (Qa3 Qaf) Qas)))) (pld Qag) rfl rfl rfl),hr_ (aio rfl Tryz.underlying31 ti45 (odt hi48a) (odt hi48b) (Nat.zero_add _)),hr_ (ast rfl ti45 (by rfl) (mgt Qap hg50) (nle rfl) (Qfm Qap rfl)),tv⟩
         obtain rfl:=osi h
         exact ⟨_,(mto (n:=43) (l':=[]) (own':=[(Qfi p2 p3 p4 p5 p6 p7 p8),(.own 1 (((p9.set p0.toNat x47.1):List (List GStream)).map Qap)),(Qyg x47),(Qfh p11)]) [] [0,1,2,3] [(Qfi p2 p3 p4 p5 p6 p7 p8),(.own 1 ((p9.set p0.toNat x47.1:List (List GStream)).map Qap)),(Qyg x47),(Qfh p11)] hφ0 pn (qb (lc (rnd Qae) (lc (rnd Qaa) (lc (.rn (Qa0 rfl)) (lc (.rn (Qa0 rfl)) (lc (.rn (Qa0 rfl)) (lc (rnd Qag) (lc rwl ln))))))) (qc (spr Qaq) (qc (spr Qa1) (qc (spr Qaf) qn))))),Qjh (vs:=[]) tv rfl (NLt.tup _ nl0) (by kernel_rfl) (Qan (Qa7 (nlc (NLt.of0 (nld Qae _)) (nlc (NLt.of0 (nld Qaa _)) (nlc (NLt.own _ _ _ _ (by decide)) (nlc (NLt.own _ _ _ _ (by decide)) (nlc (NLt.own _ _ _ _ (by decide)) (nlc (NLt.of0 (nld Qag _)) (nlc (NLt.of0 nll) nl0)))))))) (Qan (Qbw Qaq _) (Qan (Qbw Qa1 _) (Qan (Qbw Qaf _) Qbi))))⟩
        ·refine bfe h (fun hb51 h=>?_) fun hb51 h=>?_
         ·obtain ⟨x53,hf52,h⟩:=bno h
          obtain ⟨hi54,h⟩:=cko h
          obtain ⟨hi54a,hi54b⟩:=Qdu hi54
          obtain ⟨x55,hg56,h⟩:=bno h
          refine Qj7 0 (.own 7 [[(Qpk p2),(Qit p3),(.own 1 1 (0) (p4)),(.own 2 4 (0) (p5)),(.own 3 1 (0) (p6)),(Qpj p7),I p8]]) [mv 0 (.ref 0 7 0 0),⟨[(.tmp 21,.ref 0 7 0 0)],[],.ref 0 7 0 0,[],false⟩,⟨[(.tmp 22,.ref 0 7 0 0)],[],.ref 0 7 0 2,[],false⟩,⟨[(.tmp 23,.ref 0 7 0 2)],[],.ref 0 7 0 2,[],false⟩,⟨[(.tmp 24,.ref 0 7 0 2)],[],(.own 1 1 (0) (p4)),[],false⟩,mv 1 (I p0),mv 0 (.ref 0 7 0 0),⟨[(.tmp 27,.ref 0 7 0 0)],[],.ref 0 7 0 0,[],false⟩,⟨[(.tmp 28,.ref 0 7 0 0)],[],.ref 0 7 0 0,[],false⟩,⟨[(.tmp 29,.ref 0 7 0 0)],[],.ref 0 7 0 1,[],false⟩,⟨[(.tmp 30,.ref 0 7 0 1)],[],(Qit p3),[],false⟩,mv 1 (I p0),rp [(.tmp 31,(Qit p3)),(.tmp 32,I p0)] (.dptr (Qab (x16)) 0),mv 33 (.dptr (Qab (x16)) 0),rp [(.tmp 34,(.dptr (Qab (x16)) 0))] (K .u8 (x16.Kind)),rb [(.tmp 7,.ref 5 7 0 0),(.tmp 35,(K .u8 (x16.Kind)))] [(5,Qkm)] (.ref 5 7 0 6),rb [(.tmp 36,.ref 5 7 0 6)] [(5,Qkm)] (.fn (.func 117) [] []),mv 0 (.ref 0 7 0 0),mv 1 (I p0),rb [(.tmp 6,.ref 4 4 0 0)] [(4,(Qoj x14))] (Qg1 x14),⟨[(.tmp 37,(.fn (.func 117) [] [])),(.tmp 38,.ref 0 7 0 0),(.tmp 39,I p0),(.tmp 40,(Qg1 x14))],[(0,(Qfi p2 p3 p4 p5 p6 p7 p8)),(1,(Qe1 p9)),(2,(Qga p10)),(3,(Qfh p11))],(Q3i x53),[(0,(Qfi p2 p3 p4 p5 p6 p7 p8)),(1,(Qe1 p9)),(2,(Qga p10)),(3,(Qfh p11))],false⟩,rb [(.tmp 25,(.own 1 1 (0) (p4))),(.tmp 26,I p0)] [(1,(Qe1 p9))] (.ref 1 1 (p0.toNat) 0),⟨[(.tmp 42,(.ref 1 1 (p0.toNat) 0)),(.tmp 41,(Q3i x53))],[(1,(Qe1 p9))],.any,[(1,(.own 1 ((p9.set p0.toNat x53:List (List GStream)).map Qap)))],false⟩] (SImp.box ⟨lrf,lrf,lrf,lrf,lrf,lrf,lrf,tv⟩) ⟨tv,tv,tv,tv,tv,tv,tv,tv,tv,tv,tv,tv,tv,tv,tv,tv,tv,tv,tv,tv,⟨(SImp.box ⟨lrf,lrf,lrf,lrf,lrf,lrf,lrf,tv⟩),tv,tv,tv,tv⟩,tv,⟨tv,tv⟩,tv⟩ ?_ ?_
          ·exact ⟨hr_ (amv rfl),sf_ (Qa6 rfl),sf_ (afa rfl Tryz.underlying140 rfl rfl ti34 (by decide) rfl),sf_ (afa rfl Tryz.underlying34 rfl rfl ti31 (by decide) rfl),sf_ (ald rfl ti31 (by decide) rfl (nle rfl) rfl),hr_ (amv rfl),hr_ (amv rfl),sf_ (Qa6 rfl),sf_ (afa rfl Tryz.underlying140 rfl rfl ti42 (by decide) rfl),sf_ (afa rfl Tryz.underlying42 rfl rfl ti40 (by decide) rfl),sf_ (ald rfl ti40 (by decide) rfl (nle rfl) rfl),hr_ (amv rfl),hr_ (aid rfl Tryz.underlying40 Qg2 rfl rfl hi18 (mgt Qab hj19) rfl),hr_ (afd rfl Tryz.underlying133 rfl rfl ti5 (by decide) rfl),hr_ (ald_ rfl ti5 (by decide) (nle rfl) rfl),hr_ (Qir hb51 (Qis rfl Tryz.underlying209 Qms (by decide) (by decide) rfl)),hr_ (ald rfl Qms (by decide) rfl (nle rfl) rfl),hr_ (amv rfl),hr_ (amv rfl),hr_ (ald rfl ti63 (by decide) rfl (nle rfl) rfl),hr_ (Qat (first:=[]) (cap:=[]) (vs:=[.ref 0 7 0 0,I p0,(Qg1 x14)]) (σr:=[(Qfi p2 p3 p4 p5 p6 p7 p8),(Qe1 p9),(Qga p10),(Qfh p11)]) (σr':=[(Qfi p2 p3 p4 p5 p6 p7 p8),(Qe1 p9),(Qga p10),(Qfh p11)]) (res':=(Q3i x53)) [0,1,2,3] rfl Qtk (Qgf N p0 x14 p2 p3 p4 p5 p6 p7 p8 p9 p10 p11 _ hf52) rfl (Qbn (rnc (Qbb rfl) (rnc (.plain _ nll) (rnc (.plain _ (NLt.agg _ (nlcc (nlcc nl0)))) rn0)))) (slc (Qao (rnc (pld Qae) (rnc (pld Qaa) (rnc (Qco rfl) (rnc (Qco rfl) (rnc (Qco rfl) (rnc (pld Qag) (rnc (.plain _ nll) rn0)))))))) (slc (Qa3 Qaq) (slc (Qa3 Qa1) (slc (Qa3 Qaf) Qas)))) (slc (Qao (rnc (pld Qae) (rnc (pld Qaa) (rnc (Qcx rfl) (rnc (Qcx rfl) (rnc (Qcx rfl) (rnc (pld Qag) (rnc (.plain _ nll) rn0)))))))) (slc (Qa3 Qaq) (slc (Qa3 Qa1) (slc (Qa3 Qaf) Qas)))) (pld Qag) rfl rfl rfl),hr_ (aio rfl Tryz.underlying31 ti45 (odt hi54a) (odt hi54b) (Nat.zero_add _)),hr_ (ast rfl ti45 (by rfl) (mgt Qap hg56) (nle rfl) (Qfm Qap rfl)),tv⟩
          obtain rfl:=osi h
          exact ⟨_,(mto (n:=43) (l':=[]) (own':=[(Qfi p2 p3 p4 p5 p6 p7 p8),(.own 1 (((p9.set p0.toNat x53):List (List GStream)).map Qap)),(Qga p10),(Qfh p11)]) [] [0,1,2,3] [(Qfi p2 p3 p4 p5 p6 p7 p8),(.own 1 ((p9.set p0.toNat x53:List (List GStream)).map Qap)),(Qga p10),(Qfh p11)] hφ0 pn (qb (lc (rnd Qae) (lc (rnd Qaa) (lc (.rn (Qa0 rfl)) (lc (.rn (Qa0 rfl)) (lc (.rn (Qa0 rfl)) (lc (rnd Qag) (lc rwl ln))))))) (qc (spr Qaq) (qc (spr Qa1) (qc (spr Qaf) qn))))),Qjh (vs:=[]) tv rfl (NLt.tup _ nl0) (by kernel_rfl) (Qan (Qa7 (nlc (NLt.of0 (nld Qae _)) (nlc (NLt.of0 (nld Qaa _)) (nlc (NLt.own _ _ _ _ (by decide)) (nlc (NLt.own _ _ _ _ (by decide)) (nlc (NLt.own _ _ _ _ (by decide)) (nlc (NLt.of0 (nld Qag _)) (nlc (NLt.of0 nll) nl0)))))))) (Qan (Qbw Qaq _) (Qan (Qbw Qa1 _) (Qan (Qbw Qaf _) Qbi))))⟩
         ·cases h
  ·skip
   refine wxz ?_
   refine bfe h (fun hc57 h=>?_) fun hc57 h=>?_
   ·refine wft hc57<|Zae 3 [mv 1 (I p0),rp [(.tmp 17,I p0)] (.agg [I p0]),rp [(.tmp 18,(.agg [I p0]))] (.lit (.iface 182 (.agg #[(.int .i64 (p0))]))),⟨[(.tmp 19,(.lit (.iface 182 (.agg #[(.int .i64 (p0))]))))],[],.any,[],false⟩] (by exact ⟨by kernel_rfl,by kernel_rfl⟩) rfl (by kernel_rfl) rfl (Qw4 rfl) (⟨fun _ _=>amv rfl,fun _ _=>Qax (vs:=[I p0]) rfl Zh6 Zgv rfl (by rfl) rfl,fun _ _=>awk (rd':=[(.tmp 18,.lit (.agg #[(.int .i64 (p0))]))]) ⟨rfl,(Less.lits [(.int .i64 (p0))]),tv⟩ (Qxs rfl Tryz.underlying182),fun _ h=>absurd rfl h,tv⟩) ?_
    obtain rfl:=osi h
    exact rfl
   ·exact wfn hc57<|Qam<|thn<|⟨(),h,(mto (n:=43) [(0,.ref 0 7 0 0),(1,I p0),(6,.ref 7 4 0 0)] [0,1,2,3,7] [(Qfi p2 p3 p4 p5 p6 p7 p8),(Qe1 p9),(Qga p10),(Qfh p11),(Qoj x14)] hφ0 (prr (pw (prr pn))) (qb (lc (rnd Qae) (lc (rnd Qaa) (lc (.rn (Qa0 rfl)) (lc (.rn (Qa0 rfl)) (lc (.rn (Qa0 rfl)) (lc (rnd Qag) (lc rwl ln))))))) (qc (spr Qaq) (qc (spr Qa1) (qc (spr Qaf) (qb (lcc (lcc ln)) qn))))))⟩
theorem Qjy (N:Nat) (p0:Int) (p1:Int) (p2:(List GRow)) (p3:(List GElement)) (p4:Nat) (p5:Nat) (p6:Nat) (p7:(List GStream)) (p8:Int) (p9:(List (List GStream))) (p10:(List GLost)) (p11:(List Int)) (r:(Int×(List (List GStream))×(List GLost)×(List Int))) (h:Qeg N p0 p1 p2 p3 p4 p5 p6 p7 p8 p9 p10 p11=some (.inl r)):Spec Tryz.prog 97 [.ref 0 7 0 0,I p0,I p1] [(Qfi p2 p3 p4 p5 p6 p7 p8),(Qe1 p9),(Qga p10),(Qfh p11)] (.tup []) [(.own 7 [[(.dat 5 ((p2:List GRow).map Qau)),(.dat 7 ((p3:List GElement).map Qab)),(.own 1 1 (0) (p4)),(.own 2 4 (0) (p5)),(.own 3 1 (0) (p6)),(.dat 4 ((p7:List GStream).map Qai)),I r.1]]),(.own 1 ((r.2.1:List (List GStream)).map Qap)),(.own 4 ((r.2.2.1:List GLost).map Qa9)),(.own 1 ((r.2.2.2:List Int).map Qaj))]:=Qhf N p0 p1 p2 p3 p4 p5 p6 p7 p8 p9 p10 p11 _ h
theorem Qjx (N:Nat) (p0:Int) (p1:Int) (p2:(List GRow)) (p3:(List GElement)) (p4:Nat) (p5:Nat) (p6:Nat) (p7:(List GStream)) (p8:Int) (p9:(List (List GStream))) (p10:(List GLost)) (p11:(List Int)) (r:Int) (h:Qeg N p0 p1 p2 p3 p4 p5 p6 p7 p8 p9 p10 p11=some (.inr r)):Zao Tryz.prog 97 [.ref 0 7 0 0,I p0,I p1] [(Qfi p2 p3 p4 p5 p6 p7 p8),(Qe1 p9),(Qga p10),(Qfh p11)] (.iface 182 (.agg #[(.int .i64 (r))])):=Qhf N p0 p1 p2 p3 p4 p5 p6 p7 p8 p9 p10 p11 _ h
def Zf5:Slot:=.own 1 [[(.lit (.pointer none))]]
theorem Qm3 (v0:Int):DPan Tryz.prog 96 [1,1] (.iface 182 (.agg #[(.int .i64 (v0))])) [[(.lit (.pointer none))],[(I (v0))]]:=by
  refine Qon (t:=5) (args:=[.ref 0 1 0 0,.ref 1 1 0 0]) Tryz.func96 rfl (fun _ _=>rfl) (by kernel_rfl) Zeg 2 (nle rfl) (fun X φ0 w0 hφ0=>?_)
  refine Qbh<|Qal ?_
  refine wx tbk [(0,rp [(.tmp 5,(.lit (.iface 182 (.agg #[(.int .i64 (v0))])))),(.const .nilIface,(.lit .nilIface))] (B false))] ⟨Qxr rfl Tryz.underlying20,tv⟩<|wfa ?_
  exact wx tbk [(0,rp [(.tmp 5,(.lit (.iface 182 (.agg #[(.int .i64 (v0))]))))] (.tup [(.agg [I v0]),B true]))] ⟨Qxn (r:=.lit (.tuple #[(.agg #[(.int .i64 (v0))]),(.bool true)])) (Less.trans Q5m (Less.tup ⟨Q5n (l:=[(.int .i64 (v0))]),lrf,tv⟩)) (Qtp rfl Tryz.underlying182),tv⟩<|wtr<|wxz<|wxe1<|bln<|⟨_,(mto (n:=13) (l':=[]) (own':=[Zf5,(.own 1 [[I v0]])]) [] [0,1] [Zf5,(.own 1 [[I v0]])] hφ0 pn (qb (lc rwl ln) (qb (lc rwl ln) qn))),Qct (vs:=[]) tv rfl (NLt.tup _ nl0) (by kernel_rfl) (Qan (Qa7 (nlt0 (nlc nll nl0))) (Qan (Qa7 (nlt0 (nlc nll nl0))) Qbi))⟩
end Go.Proofs.YtmbhnllcfmiajaaGreat
