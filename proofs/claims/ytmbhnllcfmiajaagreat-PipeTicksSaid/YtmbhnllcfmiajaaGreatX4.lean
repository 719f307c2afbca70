/-
  Functions of the program: what they compute, as plain functions, and that they do. No conditions.
-/
import Derived.Test.YtmbhnllcfmiajaaGreatX3
namespace Go.Proofs.YtmbhnllcfmiajaaGreat
set_option maxRecDepth 100000
set_option maxHeartbeats 4000000
open Go.RowKit
def Qfe (_N:Nat) (p0:(List Int)):Option Unit:=
  chk (!p0.isEmpty)<|
  chk (!p0.isEmpty)<|
  chk (decide ((0+p0.length) * 8≤140737488355328))<|
  some ()
def Zh2 (p0:(List Int)):AV:=.dat 1 ((p0:List Int).map Qak)
def Zco (p0:(List Int)):Slot:=.own 1 ((p0:List Int).map Qak)
def Zln:AV:=.acc 0 3 1 ((([]:List Int):List Int).map Qak)
theorem Qk5 (N:Nat) (p0:(List Int)) (r:Unit) (h:Qfe N p0=some r):Spec Tryz.prog 95 [(Zh2 p0)] [] (.own 0 1 (0) (p0.length)) [(Zco p0)]:=by
  refine Qai Tryz.func95 rfl 1 (nle rfl) (fun X φ0 w0 hφ0 hd0=>?_)
  unfold Qfe at h
  refine Qb2 ?_
  refine wxz ?_
  refine wsq ?_
  obtain ⟨hz1,h⟩:=cko h
  refine wx tbk [(1,rp [(.tmp 3,(Zh2 p0)),((.const (.slice none 0 0)),nilS)] (B false))] ⟨Q22 rfl Tryz.underlying27 rfl (Qmb hz1),trivial⟩ ?_
  refine wfa ?_
  refine Qan ?_
  refine thn ?_
  obtain ⟨ha3,h⟩:=cko h
  obtain ⟨ha2,h⟩:=cko h
  refine wx tbk [(0,⟨[],[(0,.unused)],Zln,[(0,.tok)],false⟩),(2,⟨[(.tmp 5,Zln),(.tmp 6,(Zh2 p0))],[(0,.tok),(1,.unused)],(.own 1 1 (0) (p0.length)),[(0,.dead),(1,(Zco p0))],false⟩)] ⟨Qkd rfl Tryz.underlying27 ti3 tz3,Q7l rfl Tryz.underlying27 te3 (Base.acc _ _) rfl rfl (Qmb ha3) (Qns Qak Qku _) (Zfv Qak ha2) (Zfu Qak ha2 (by decide)) (List.length_map _),trivial⟩ ?_
  refine wmr (mto (n:=8) (l':=[(2,(.own 0 1 (0) (p0.length)))]) (own':=[(Zco p0)]) [(2,(.own 1 1 (0) (p0.length)))] [1] [(Zco p0)] hφ0 (pc (.rn (Qa4 rfl)) pn) (qc (spr Qae) qn)) ?_
  refine Qag ?_
  obtain rfl:=osi h
  exact ⟨_,Mor.rfl,Qda (vs:=[(.own 0 1 (0) (p0.length))]) ⟨rot,trivial⟩ rfl (NLt.own _ _ _ _ (by decide)) (by kernel_rfl) (Qap (Qck Qae _) Qbz)⟩
theorem Qq0:DRet Tryz.prog 96 [1,1]:=by
  refine Qrt (t:=5) (args:=[.any,.any]) Tryz.func96 rfl (fun _ _=>rfl) (by kernel_rfl) Zjl 0 (nle rfl) (fun X φ0 w0 hφ0=>?_)
  refine Qam ?_
  refine wx tbk [(0,rp [(.tmp 5,(.lit .nilIface)),(.const .nilIface,(.lit .nilIface))] (B true))] ⟨Q0n rfl Tryz.underlying20,trivial⟩ ?_
  refine wtr ?_
  refine wxz1 ?_
  refine bln ?_
  exact fend ⟨[],trivial,rfl⟩ (.tup _ nl0)
def Qfr (_N:Nat) (p0:GElement) (p1:Int):Option Int:=
  chk (p0.Narrow != 0)<|
  (some (if (w64 (p0.Wide - (w64 (p1.tdiv p0.Narrow))))>0 then w64 (p0.Wide - (w64 (p1.tdiv p0.Narrow))) else 0)).bind fun x2=>
  some x2
theorem Qix (N:Nat) (p0:GElement) (p1:Int) (r:Int) (h:Qfr N p0 p1=some r):Spec Tryz.prog 74 [(.agg (Qad p0)),(I p1)] [] (I r) []:=by
  refine Qai Tryz.func74 rfl 0 (nle rfl) (fun X φ0 w0 hφ0 hd0=>?_)
  unfold Qfr at h
  refine wxz ?_
  obtain ⟨hz1,h⟩:=cko h
  obtain ⟨x2,hl3,h⟩:=bno h
  refine wxd tbk [(5,rp [(.tmp 7,I p1),(.tmp 9,I p0.Narrow)] (I (w64 (p1.tdiv p0.Narrow)))),(7,rp [ci 0,(.tmp 11,(I (w64 (p0.Wide - (w64 (p1.tdiv p0.Narrow))))))] (I x2))] ⟨Qjx rfl (Qk0 hz1),Qgy hl3 (Qlz rfl),trivial⟩ ?_
  refine Qag ?_
  obtain rfl:=osi h
  exact fend ⟨[I x2],⟨rot,trivial⟩,rfl⟩ nll
def Qgq (_N:Nat) (_p0:Int) (_p1:(List GRow)) (_p2:(List GElement)) (_p3:Nat) (_p4:Nat) (_p5:Nat) (_p6:(List GStream)) (_p7:Int) (_p8:(List (List GStream))) (_p9:(List GLost)) (_p10:(List Int)):Option Unit:=
  some ()
def Zcn (p1:(List GRow)) (p2:(List GElement)) (p3:Nat) (p4:Nat) (p5:Nat) (p6:(List GStream)) (p7:Int):Slot:=.own 7 [[(.dat 5 ((p1:List GRow).map Qa0)),(.dat 7 ((p2:List GElement).map Qad)),(.own 1 1 (0) (p3)),(.own 2 4 (0) (p4)),(.own 3 1 (0) (p5)),(.dat 4 ((p6:List GStream).map Qaa)),(I (p7))]]
def Zcm (p8:(List (List GStream))):Slot:=.own 1 ((p8:List (List GStream)).map Qaf)
def Zcl (p9:(List GLost)):Slot:=.own 4 ((p9:List GLost).map Qaw)
def Zck (p10:(List Int)):Slot:=.own 1 ((p10:List Int).map Qak)
def Q8l:AV:=.fn (.func 133) [] [(.ref 4 1 (0) 0),(.ref 5 1 (0) 0)]
def Zhz:Slot:=.own 1 [[(.ref 0 7 (0) 0)]]
theorem Qn6 (N:Nat) (p0:Int) (p1:(List GRow)) (p2:(List GElement)) (p3:Nat) (p4:Nat) (p5:Nat) (p6:(List GStream)) (p7:Int) (p8:(List (List GStream))) (p9:(List GLost)) (p10:(List Int)) (r:Unit) (h:Qgq N p0 p1 p2 p3 p4 p5 p6 p7 p8 p9 p10=some r):Spec Tryz.prog 116 [(.ref 0 7 (0) 0),(I (p0))] [(Zcn p1 p2 p3 p4 p5 p6 p7),(Zcm p8),(Zcl p9),(Zck p10)] Q8l [(Zcn p1 p2 p3 p4 p5 p6 p7),(Zcm p8),(Zcl p9),(Zck p10),Zhz,(.own 1 [[(I (p0))]])]:=by
  refine Qai Tryz.func116 rfl 6 (nle rfl) (fun X φ0 w0 hφ0 hd0=>?_)
  unfold Qgq at h
  refine Qb2 ?_
  refine wxz ?_
  refine wx tbk [(0,rp [(.tmp 2,.ref 4 1 0 0),(.tmp 3,.ref 5 1 0 0)] Q8l)] ⟨Qfz (fs:=[]) (cs:=[.ref 4 1 0 0,.ref 5 1 0 0]) rfl rfl rfl rfl,trivial⟩ ?_
  refine wmr (mto (n:=6) (l':=[(4,Q8l)]) (own':=[(Zcn p1 p2 p3 p4 p5 p6 p7),(Zcm p8),(Zcl p9),(Zck p10),Zhz,(.own 1 [[I p0]])]) [(4,Q8l)] [0,1,2,3,4,5] [(Zcn p1 p2 p3 p4 p5 p6 p7),(Zcm p8),(Zcl p9),(Zck p10),Zhz,(.own 1 [[I p0]])] hφ0 (pc (.rn (Qbr rn0 (rnc (rqr rfl) (rnc (rqr rfl) rn0)))) pn) (qc (spb (lc (rnd Qal) (lc (rnd Qab) (lc (.rn (Qa4 rfl)) (lc (.rn (Qa4 rfl)) (lc (.rn (Qa4 rfl)) (lc (rnd Qac) (lc rwl ln)))))))) (qc (spr Qaj) (qc (spr Qaq) (qc (spr Qae) (qc (spb (lc (.rn (rqr rfl)) ln)) (qc (spb (lc rwl ln)) qn))))))) ?_
  refine Qag ?_
  obtain rfl:=osi h
  exact ⟨_,Mor.rfl,Qda (vs:=[Q8l]) ⟨rot,trivial⟩ rfl (NLt.fn _ _ _ nl0 (nlc (NLt.ref _ _ _ _ (by decide)) (nlc (NLt.ref _ _ _ _ (by decide)) nl0))) (by kernel_rfl) (Qap (Qbj (nlc (NLt.of0 (nld Qal _)) (nlc (NLt.of0 (nld Qab _)) (nlc (NLt.own _ _ _ _ (by decide)) (nlc (NLt.own _ _ _ _ (by decide)) (nlc (NLt.own _ _ _ _ (by decide)) (nlc (NLt.of0 (nld Qac _)) (nlc (NLt.of0 nll) nl0)))))))) (Qap (Qck Qaj _) (Qap (Qck Qaq _) (Qap (Qck Qae _) (Qap (Qbj (nlc (NLt.ref _ _ _ _ (by decide)) nl0)) (Qap (Qbj (nlc (NLt.of0 nll) nl0)) Qbz))))))⟩
def Qch (N:Nat) (p0:(List Int)) (k1:Unit→Option Int) (p1:Int):Nat→Int→Option Int
  | 0,_=>none
  | n4+1,y2=>
    bif (decide (y2<(p0.length:Int))) then
     (getI p0 y2).bind fun x6=>
     bif (p1==x6) then
      some y2
     else
      Qch N p0 k1 p1 n4 (w64 (y2+1))
    else
     k1 ()
def Qev (N:Nat) (p0:(List Int)) (p1:Int):Option Int:=
  Qbf (fun _=>
    some (-1)) fun k1:Unit→Option Int=>
  Qch N p0 k1 p1 N 0
def Q5t (p0:(List Int)):AV:=.dat 1 ((p0:List Int).map Qak)
theorem Qh2 (N:Nat) (p0:(List Int)) (p1:Int) (r:Int) (h:Qev N p0 p1=some r):Spec Tryz.prog 134 [(.dat 1 (p0.map Qak)),(I p1)] [] (I r) []:=by
  refine Qai Tryz.func134 rfl 0 (nle rfl) (fun X φ0 w0 hφ0 hd0=>?_)
  unfold Qev at h
  refine wxz ?_
  obtain ⟨k1,hk_k1,h⟩:=jko h
  refine wjn (τ:=Unit) (fun t=>k1 t=some r) (fun _=>⟨mk 19 [],[]⟩) (fun t h=>?_) ?_
  ·subst hk_k1
   refine wxz ?_
   refine Qag ?_
   obtain rfl:=osi h
   exact fend ⟨[(I ((-1)))],⟨rot,trivial⟩,rfl⟩ nll
  ·skip
   refine wx tbk [(1,rp [(.tmp 6,(Q5t p0))] (I ((p0.length:Int))))] ⟨alm (c:=Qak) (l:=p0) (aln rfl Tryz.underlying27 rfl),trivial⟩ ?_
   refine Qam ?_
   refine wmr (mto (n:=19) (l':=[(0,(Q5t p0)),(1,I p1),(7,(I ((p0.length:Int)))),(8,I 0)]) (own':=[]) [(0,(Q5t p0)),(1,I p1),(7,(I ((p0.length:Int)))),(8,I 0)] [] [] hφ0 (pc (rnd Qae) (pc rwl (pc rwl (pc rwl pn)))) qn) ?_
   refine Qbw (τ:=Int) (fun n t=>Qch N p0 k1 p1 n t=some r) (fun y2=>⟨mk 19 [(0,(Q5t p0)),(1,I p1),(7,(I ((p0.length:Int)))),(8,I y2)],[]⟩) (fun t h=>by rw [Qch] at h; cases h) (fun n4 ih y2 h=>?_) N (0) h
   rw [Qch] at h
   skip
   refine wxz ?_
   refine wsq ?_
   refine bfe h (fun hc5 h=>?_) fun hc5 h=>?_
   ·refine wft hc5 ?_
    refine Qan ?_
    refine thn ?_
    refine wsq ?_
    refine Qam ?_
    refine wxz ?_
    obtain ⟨x6,hg7,h⟩:=bno h
    obtain ⟨hi8,hj9⟩:=gsm hg7
    refine wx tbk [(3,rp [(.tmp 12,(Q5t p0)),(.tmp 13,I y2)] (.dptr (Qak (x6)) 0))] ⟨aid rfl Tryz.underlying27 ti3 rfl rfl hi8 (mgt Qak hj9) rfl,trivial⟩ ?_
    refine bfe h (fun hc10 h=>?_) fun hc10 h=>?_
    ·refine wft hc10 ?_
     refine wxz ?_
     refine Qag ?_
     refine Qao ?_
     refine Qah ?_
     refine Qah ?_
     refine Qao ?_
     refine Qah ?_
     obtain rfl:=osi h
     exact fend ⟨[I y2],⟨rot,trivial⟩,rfl⟩ nll
    ·refine wfn hc10 ?_
     refine Qan ?_
     refine bln ?_
     refine thn ?_
     refine wxz1 ?_
     refine thn ?_
     exact arm (mto (n:=19) [(0,(Q5t p0)),(1,I p1),(7,(I ((p0.length:Int)))),(8,(I (w64 (y2+1))))] [] [] hφ0 (pc (rnd Qae) (pc rwl (pc rwl (pc rwl pn)))) qn) (ih (w64 (y2+1)) h)
   ·refine wfn hc5 ?_
    refine Qbh ?_
    refine Qax ?_
    refine Qax ?_
    refine Qbg rfl ?_
    refine thn ?_
    exact ⟨(),h,(mto (n:=19) [] [] [] hφ0 pn qn)⟩
def Qc3 (N:Nat) (x1:GElement) (p2:(List (List GStream))):Nat→Int→Option (List GStream)
  | 0,_=>none
  | n19+1,y15=>
    bif (decide (y15<(x1.From.length:Int))) then
     (getI x1.From y15).bind fun x21=>
     (getI p2 x21.Element).bind fun x25=>
     (getI x25 x21.Outlet).bind fun x29=>
     yld x29<|
     Qc3 N x1 p2 n19 (w64 (y15+1))
    else
     some ([])
def Qgp (N:Nat) (p0:(List GRow)) (p1:(List GElement)) (p2:(List (List GStream))) (_p3:(List GLost)) (_p4:(List Int)) (p5:(List GStream)) (_p6:Int) (p7:Int):Option (List GStream):=
  (getI p1 p7).bind fun x1=>
  bif (x1.Kind==1) then
   (Qh4 N (⟨p0,p1⟩:GNet) 1).bind fun x7=>
   (Qev N x7 p7).bind fun x9=>
   (getI p5 x9).bind fun x10=>
   yld x10<|
   some ([])
  else
   Qc3 N x1 p2 N 0
def Qgg (p0:(List GRow)):AV:=.dat 5 ((p0:List GRow).map Qa0)
def Qf0 (p1:(List GElement)):AV:=.dat 7 ((p1:List GElement).map Qad)
def Qfy (p2:(List (List GStream))):AV:=.dat 1 ((p2:List (List GStream)).map Qaf)
def Qgk (p3:(List GLost)):AV:=.dat 4 ((p3:List GLost).map Qaw)
def Qgj (p4:(List Int)):AV:=.dat 1 ((p4:List Int).map Qak)
def Qfx (p5:(List GStream)):AV:=.dat 4 ((p5:List GStream).map Qaa)
def Q5w (p0:(List GRow)) (p1:(List GElement)):AV:=.agg [(Qgg p0),(Qf0 p1)]
def Q5v (x7:(List Int)):AV:=.dat 1 ((x7:List Int).map Qak)
def Zcj (x10:GStream):AV:=.agg [(I (x10.Mass)),(I (x10.Heat)),(I (x10.Silica)),(I (x10.Gas))]
def Q5u (x1:GElement):AV:=.dat 2 ((x1.From:List GPort).map Qas)
def Qrj (x21:GPort):Slot:=.own 2 [[(I (x21.Element)),(I (x21.Outlet))]]
def Q3r (x25:(List GStream)):AV:=.dat 4 ((x25:List GStream).map Qaa)
def Q3q (x29:GStream):AV:=.agg [(I (x29.Mass)),(I (x29.Heat)),(I (x29.Silica)),(I (x29.Gas))]
theorem Qn5 (N:Nat) (p0:(List GRow)) (p1:(List GElement)) (p2:(List (List GStream))) (p3:(List GLost)) (p4:(List Int)) (p5:(List GStream)) (p6:Int) (p7:Int) (r:(List GStream)) (h:Qgp N p0 p1 p2 p3 p4 p5 p6 p7=some r):Quy Tryz.prog 133 [(.dptr [(.dptr [(Qgg p0),(Qf0 p1),(Qfy p2),(Qgk p3),(Qgj p4),(Qfx p5),(I (p6))] 0)] 0),(.dptr [(I (p7))] 0)] [] (fun x=>[(.agg #[(.int .i64 (x.Mass)),(.int .i64 (x.Heat)),(.int .i64 (x.Silica)),(.int .i64 (x.Gas))])]) r:=by
  refine Qvr Tryz.func133 rfl rfl (fun X φ0 w0 l J hφ0 hy=>?_)
  unfold Qgp at h
  refine wsq ?_
  obtain ⟨x1,hg2,h⟩:=bno h
  obtain ⟨hi3,hj4⟩:=gsm hg2
  refine wxd tbk [(6,rp [(.tmp 10,(Qf0 p1)),(.tmp 11,I p7)] (.dptr (Qad (x1)) 0))] ⟨aid rfl Tryz.underlying40 Qj1 rfl rfl hi3 (mgt Qad hj4) rfl,trivial⟩ ?_
  refine bfe h (fun hc5 h=>?_) fun hc5 h=>?_
  ·refine wft hc5 ?_
   obtain ⟨x7,hf6,h⟩:=bno h
   obtain ⟨x9,hf8,h⟩:=bno h
   obtain ⟨x10,hg11,h⟩:=bno h
   obtain ⟨hi12,hj13⟩:=gsm hg11
   obtain ⟨q14,hy_,hq_⟩:=Q1n h
   clear h
   subst hq_
   have h:=hy_
   clear hy_
   refine Q0k 14 [mv 0 (.lit (.func (.yield l) #[] #[])),rp [(.tmp 1,(.dptr [(.dptr [(Qgg p0),(Qf0 p1),(Qfy p2),(Qgk p3),(Qgj p4),(Qfx p5),I p6] 0)] 0))] (.dptr [(Qgg p0),(Qf0 p1),(Qfy p2),(Qgk p3),(Qgj p4),(Qfx p5),I p6] 0),mv 17 (.dptr [(Qgg p0),(Qf0 p1),(Qfy p2),(Qgk p3),(Qgj p4),(Qfx p5),I p6] 0),rp [(.tmp 18,(.dptr [(Qgg p0),(Qf0 p1),(Qfy p2),(Qgk p3),(Qgj p4),(Qfx p5),I p6] 0))] (.dptr [(Qgg p0),(Qf0 p1),(Qfy p2),(Qgk p3),(Qgj p4),(Qfx p5),I p6] 5),rp [(.tmp 19,(.dptr [(Qgg p0),(Qf0 p1),(Qfy p2),(Qgk p3),(Qgj p4),(Qfx p5),I p6] 5))] (Qfx p5),rp [(.tmp 1,(.dptr [(.dptr [(Qgg p0),(Qf0 p1),(Qfy p2),(Qgk p3),(Qgj p4),(Qfx p5),I p6] 0)] 0))] (.dptr [(Qgg p0),(Qf0 p1),(Qfy p2),(Qgk p3),(Qgj p4),(Qfx p5),I p6] 0),mv 21 (.dptr [(Qgg p0),(Qf0 p1),(Qfy p2),(Qgk p3),(Qgj p4),(Qfx p5),I p6] 0),mv 22 (.dptr [(Qgg p0),(Qf0 p1),(Qfy p2),(Qgk p3),(Qgj p4),(Qfx p5),I p6] 0),rp [(.tmp 23,(.dptr [(Qgg p0),(Qf0 p1),(Qfy p2),(Qgk p3),(Qgj p4),(Qfx p5),I p6] 0))] (Q5w p0 p1),rp [fu 67,(.tmp 24,(Q5w p0 p1)),(.const (.int .u8 1),(K .u8 (1)))] (Q5v x7),rp [(.tmp 2,(.dptr [I p7] 0))] (I p7),rp [fu 134,(.tmp 25,(Q5v x7)),(.tmp 26,I p7)] (I x9),rp [(.tmp 20,(Qfx p5)),(.tmp 27,I x9)] (.dptr (Qaa (x10)) 0),rp [(.tmp 28,(.dptr (Qaa (x10)) 0))] (Zcj x10),⟨[(.tmp 16,(.lit (.func (.yield l) #[] #[]))),(.tmp 29,(Zcj x10))],[(0,(.far (J (some (x10::q14)))))],B true,[(0,(.far (J (some (q14)))))],false⟩] [mv 0 (.lit (.func (.yield l) #[] #[])),rp [(.tmp 1,(.dptr [(.dptr [(Qgg p0),(Qf0 p1),(Qfy p2),(Qgk p3),(Qgj p4),(Qfx p5),I p6] 0)] 0))] (.dptr [(Qgg p0),(Qf0 p1),(Qfy p2),(Qgk p3),(Qgj p4),(Qfx p5),I p6] 0),mv 17 (.dptr [(Qgg p0),(Qf0 p1),(Qfy p2),(Qgk p3),(Qgj p4),(Qfx p5),I p6] 0),rp [(.tmp 18,(.dptr [(Qgg p0),(Qf0 p1),(Qfy p2),(Qgk p3),(Qgj p4),(Qfx p5),I p6] 0))] (.dptr [(Qgg p0),(Qf0 p1),(Qfy p2),(Qgk p3),(Qgj p4),(Qfx p5),I p6] 5),rp [(.tmp 19,(.dptr [(Qgg p0),(Qf0 p1),(Qfy p2),(Qgk p3),(Qgj p4),(Qfx p5),I p6] 5))] (Qfx p5),rp [(.tmp 1,(.dptr [(.dptr [(Qgg p0),(Qf0 p1),(Qfy p2),(Qgk p3),(Qgj p4),(Qfx p5),I p6] 0)] 0))] (.dptr [(Qgg p0),(Qf0 p1),(Qfy p2),(Qgk p3),(Qgj p4),(Qfx p5),I p6] 0),mv 21 (.dptr [(Qgg p0),(Qf0 p1),(Qfy p2),(Qgk p3),(Qgj p4),(Qfx p5),I p6] 0),mv 22 (.dptr [(Qgg p0),(Qf0 p1),(Qfy p2),(Qgk p3),(Qgj p4),(Qfx p5),I p6] 0),rp [(.tmp 23,(.dptr [(Qgg p0),(Qf0 p1),(Qfy p2),(Qgk p3),(Qgj p4),(Qfx p5),I p6] 0))] (Q5w p0 p1),rp [fu 67,(.tmp 24,(Q5w p0 p1)),(.const (.int .u8 1),(K .u8 (1)))] (Q5v x7),rp [(.tmp 2,(.dptr [I p7] 0))] (I p7),rp [fu 134,(.tmp 25,(Q5v x7)),(.tmp 26,I p7)] (I x9),rp [(.tmp 20,(Qfx p5)),(.tmp 27,I x9)] (.dptr (Qaa (x10)) 0),rp [(.tmp 28,(.dptr (Qaa (x10)) 0))] (Zcj x10),⟨[(.tmp 16,(.lit (.func (.yield l) #[] #[]))),(.tmp 29,(Zcj x10))],[(0,(.far (J (some (x10::q14)))))],B false,[(0,(.far (J none)))],false⟩] (by exact ⟨by kernel_rfl,by kernel_rfl⟩) (by exact ⟨by kernel_rfl,by kernel_rfl⟩) rfl rfl rfl rfl (Qo2 (rd':=(.tmp 16,.lit (.func (.yield l) #[] #[]))::[(.tmp 29,.lit (.agg #[(.int .i64 (x10.Mass)),(.int .i64 (x10.Heat)),(.int .i64 (x10.Silica)),(.int .i64 (x10.Gas))]))]) ⟨rfl,lrf,rfl,(Less.lits [(.int .i64 (x10.Mass)),(.int .i64 (x10.Heat)),(.int .i64 (x10.Silica)),(.int .i64 (x10.Gas))]),trivial⟩ (Qnk (x:=x10) (rest:=q14) rfl rfl hy rfl)) (⟨fun _ _=>amv rfl,fun _ _=>ald_ rfl Qu2 (by decide) (nle rfl) rfl,fun _ _=>anc rfl rfl,fun _ _=>afd rfl Tryz.underlying140 rfl rfl ti45 (by decide) rfl,fun _ _=>ald_ rfl ti45 (by decide) (nle rfl) rfl,fun _ _=>ald_ rfl Qu2 (by decide) (nle rfl) rfl,fun _ _=>anc rfl rfl,fun _ _=>afd rfl Tryz.underlying140 rfl rfl ti42 (by decide) rfl,fun _ _=>ald_ rfl ti42 (by decide) (nle rfl) rfl,fun _ _=>apc (first:=[]) (cap:=[]) (vs:=[(Q5w p0 p1),(K .u8 (1))]) rfl Qxq (Qim N (⟨p0,p1⟩:GNet) 1 _ hf6) rfl rfl (nlc (NLt.agg _ (nlc (nld Qal _) (nlc (nld Qab _) nl0))) (nlc nll nl0)) (nld Qae _) rfl,fun _ _=>ald_ rfl ti3 (by decide) (nle rfl) rfl,fun _ _=>apc (first:=[]) (cap:=[]) (vs:=[(Q5v x7),I p7]) rfl Q45 (Qh2 N x7 p7 _ hf8) rfl rfl (nlc (nld Qae _) (nlc nll nl0)) nll rfl,fun _ _=>aid rfl Tryz.underlying45 ti63 rfl rfl hi12 (mgt Qaa hj13) rfl,fun _ _=>ald_ rfl ti63 (by decide) (nle rfl) rfl,fun _ h=>absurd rfl h,trivial⟩) (⟨fun _ _=>amv rfl,fun _ _=>ald_ rfl Qu2 (by decide) (nle rfl) rfl,fun _ _=>anc rfl rfl,fun _ _=>afd rfl Tryz.underlying140 rfl rfl ti45 (by decide) rfl,fun _ _=>ald_ rfl ti45 (by decide) (nle rfl) rfl,fun _ _=>ald_ rfl Qu2 (by decide) (nle rfl) rfl,fun _ _=>anc rfl rfl,fun _ _=>afd rfl Tryz.underlying140 rfl rfl ti42 (by decide) rfl,fun _ _=>ald_ rfl ti42 (by decide) (nle rfl) rfl,fun _ _=>apc (first:=[]) (cap:=[]) (vs:=[(Q5w p0 p1),(K .u8 (1))]) rfl Qxq (Qim N (⟨p0,p1⟩:GNet) 1 _ hf6) rfl rfl (nlc (NLt.agg _ (nlc (nld Qal _) (nlc (nld Qab _) nl0))) (nlc nll nl0)) (nld Qae _) rfl,fun _ _=>ald_ rfl ti3 (by decide) (nle rfl) rfl,fun _ _=>apc (first:=[]) (cap:=[]) (vs:=[(Q5v x7),I p7]) rfl Q45 (Qh2 N x7 p7 _ hf8) rfl rfl (nlc (nld Qae _) (nlc nll nl0)) nll rfl,fun _ _=>aid rfl Tryz.underlying45 ti63 rfl rfl hi12 (mgt Qaa hj13) rfl,fun _ _=>ald_ rfl ti63 (by decide) (nle rfl) rfl,fun _ h=>absurd rfl h,trivial⟩) ?_ ?_
   ·skip
    refine Qag ?_
    refine Qah ?_
    obtain rfl:=osi h
    exact Or.inl rfl
   ·clear h
    refine Qag ?_
    refine Qah ?_
    exact Or.inr (by kernel_rfl)
  ·refine wfn hc5 ?_
   refine Qan ?_
   refine thn ?_
   refine wxd tbk [(6,rp [(.tmp 35,(Qf0 p1)),(.tmp 36,I p7)] (.dptr (Qad (x1)) 0)),(9,rp [(.tmp 39,(Q5u x1))] (I ((x1.From.length:Int))))] ⟨aid rfl Tryz.underlying40 Qj1 rfl rfl hi3 (mgt Qad hj4) rfl,alm (c:=Qas) (l:=x1.From) (aln rfl Tryz.underlying116 rfl),trivial⟩ ?_
   refine Qam ?_
   refine wmr (mto (n:=62) (l':=[(0,(.lit (.func (.yield l) #[] #[]))),(1,(.dptr [(.dptr [(Qgg p0),(Qf0 p1),(Qfy p2),(Qgk p3),(Qgj p4),(Qfx p5),I p6] 0)] 0)),(39,(Q5u x1)),(40,(I ((x1.From.length:Int)))),(41,I 0)]) (own':=[(.far (J (some (r))))]) [(0,(.lit (.func (.yield l) #[] #[]))),(1,(.dptr [(.dptr [(Qgg p0),(Qf0 p1),(Qfy p2),(Qgk p3),(Qgj p4),(Qfx p5),I p6] 0)] 0)),(39,(Q5u x1)),(40,(I ((x1.From.length:Int)))),(41,I 0)] [0] [(.far (J (some (r))))] hφ0 (pc rwl (pc (.rn (.plain _ (NLt.dptr _ _ (nlc (NLt.dptr _ _ (nlc (nld Qal _) (nlc (nld Qab _) (nlc (nld Qaj _) (nlc (nld Qaq _) (nlc (nld Qae _) (nlc (nld Qac _) (nlc nll nl0)))))))) nl0)))) (pc (rnd Qa3) (pc rwl (pc rwl pn))))) (qc (.far _) qn)) ?_
   refine Qbw (τ:=(Int)×List GStream) (fun n t=>Qc3 N x1 p2 n t.1=some t.2) (fun ⟨y15,q16⟩=>⟨mk 62 [(0,(.lit (.func (.yield l) #[] #[]))),(1,(.dptr [(.dptr [(Qgg p0),(Qf0 p1),(Qfy p2),(Qgk p3),(Qgj p4),(Qfx p5),I p6] 0)] 0)),(39,(Q5u x1)),(40,(I ((x1.From.length:Int)))),(41,I y15)],[(.far (J (some (q16))))]⟩) (fun t h=>by rw [Qc3] at h; cases h) (fun n19 ih t h=>?_) N ((0),r) h
   obtain ⟨y15,q16⟩:=t
   rw [Qc3] at h
   try dsimp only at h
   refine wxz ?_
   refine wsq ?_
   refine bfe h (fun hc20 h=>?_) fun hc20 h=>?_
   ·refine wft hc20 ?_
    refine Qan ?_
    refine thn ?_
    refine wsq ?_
    refine Qam ?_
    obtain ⟨x21,hg22,h⟩:=bno h
    obtain ⟨hi23,hj24⟩:=gsm hg22
    refine wx tbk [(0,rp [(.tmp 39,(Q5u x1)),(.tmp 41,I y15)] (.dptr (Qas (x21)) 0))] ⟨aid rfl Tryz.underlying116 Qlm rfl rfl hi23 (mgt Qas hj24) rfl,trivial⟩ ?_
    obtain ⟨x25,hg26,h⟩:=bno h
    obtain ⟨hi27,hj28⟩:=gsm hg26
    obtain ⟨x29,hg30,h⟩:=bno h
    obtain ⟨hi31,hj32⟩:=gsm hg30
    obtain ⟨q33,hy_,hq_⟩:=Q1n h
    clear h
    subst hq_
    have h:=hy_
    clear hy_
    refine Q0k 14 [mv 0 (.lit (.func (.yield l) #[] #[])),rp [(.tmp 1,(.dptr [(.dptr [(Qgg p0),(Qf0 p1),(Qfy p2),(Qgk p3),(Qgj p4),(Qfx p5),I p6] 0)] 0))] (.dptr [(Qgg p0),(Qf0 p1),(Qfy p2),(Qgk p3),(Qgj p4),(Qfx p5),I p6] 0),mv 46 (.dptr [(Qgg p0),(Qf0 p1),(Qfy p2),(Qgk p3),(Qgj p4),(Qfx p5),I p6] 0),rp [(.tmp 47,(.dptr [(Qgg p0),(Qf0 p1),(Qfy p2),(Qgk p3),(Qgj p4),(Qfx p5),I p6] 0))] (.dptr [(Qgg p0),(Qf0 p1),(Qfy p2),(Qgk p3),(Qgj p4),(Qfx p5),I p6] 2),mv 48 (.dptr [(Qgg p0),(Qf0 p1),(Qfy p2),(Qgk p3),(Qgj p4),(Qfx p5),I p6] 2),rp [(.tmp 49,(.dptr [(Qgg p0),(Qf0 p1),(Qfy p2),(Qgk p3),(Qgj p4),(Qfx p5),I p6] 2))] (Qfy p2),rb [(.tmp 5,.ref 1 2 0 0)] [(1,(Qrj x21))] (.ref 1 2 0 0),rb [(.tmp 51,.ref 1 2 0 0)] [(1,(Qrj x21))] (I x21.Element),rp [(.tmp 50,(Qfy p2)),(.tmp 52,I x21.Element)] (.dptr (Qaf (x25)) 0),rp [(.tmp 53,(.dptr (Qaf (x25)) 0))] (Q3r x25),rb [(.tmp 5,.ref 1 2 0 0)] [(1,(Qrj x21))] (.ref 1 2 0 1),rb [(.tmp 55,.ref 1 2 0 1)] [(1,(Qrj x21))] (I x21.Outlet),rp [(.tmp 54,(Q3r x25)),(.tmp 56,I x21.Outlet)] (.dptr (Qaa (x29)) 0),rp [(.tmp 57,(.dptr (Qaa (x29)) 0))] (Q3q x29),⟨[(.tmp 45,(.lit (.func (.yield l) #[] #[]))),(.tmp 58,(Q3q x29))],[(0,(.far (J (some (x29::q33)))))],B true,[(0,(.far (J (some (q33)))))],false⟩,rp [(.tmp 59,B true)] (B false)] [mv 0 (.lit (.func (.yield l) #[] #[])),rp [(.tmp 1,(.dptr [(.dptr [(Qgg p0),(Qf0 p1),(Qfy p2),(Qgk p3),(Qgj p4),(Qfx p5),I p6] 0)] 0))] (.dptr [(Qgg p0),(Qf0 p1),(Qfy p2),(Qgk p3),(Qgj p4),(Qfx p5),I p6] 0),mv 46 (.dptr [(Qgg p0),(Qf0 p1),(Qfy p2),(Qgk p3),(Qgj p4),(Qfx p5),I p6] 0),rp [(.tmp 47,(.dptr [(Qgg p0),(Qf0 p1),(Qfy p2),(Qgk p3),(Qgj p4),(Qfx p5),I p6] 0))] (.dptr [(Qgg p0),(Qf0 p1),(Qfy p2),(Qgk p3),(Qgj p4),(Qfx p5),I p6] 2),mv 48 (.dptr [(Qgg p0),(Qf0 p1),(Qfy p2),(Qgk p3),(Qgj p4),(Qfx p5),I p6] 2),rp [(.tmp 49,(.dptr [(Qgg p0),(Qf0 p1),(Qfy p2),(Qgk p3),(Qgj p4),(Qfx p5),I p6] 2))] (Qfy p2),rb [(.tmp 5,.ref 1 2 0 0)] [(1,(Qrj x21))] (.ref 1 2 0 0),rb [(.tmp 51,.ref 1 2 0 0)] [(1,(Qrj x21))] (I x21.Element),rp [(.tmp 50,(Qfy p2)),(.tmp 52,I x21.Element)] (.dptr (Qaf (x25)) 0),rp [(.tmp 53,(.dptr (Qaf (x25)) 0))] (Q3r x25),rb [(.tmp 5,.ref 1 2 0 0)] [(1,(Qrj x21))] (.ref 1 2 0 1),rb [(.tmp 55,.ref 1 2 0 1)] [(1,(Qrj x21))] (I x21.Outlet),rp [(.tmp 54,(Q3r x25)),(.tmp 56,I x21.Outlet)] (.dptr (Qaa (x29)) 0),rp [(.tmp 57,(.dptr (Qaa (x29)) 0))] (Q3q x29),⟨[(.tmp 45,(.lit (.func (.yield l) #[] #[]))),(.tmp 58,(Q3q x29))],[(0,(.far (J (some (x29::q33)))))],B false,[(0,(.far (J none)))],false⟩,rp [(.tmp 59,B false)] (B true)] (by exact ⟨by kernel_rfl,by kernel_rfl⟩) (by exact ⟨by kernel_rfl,by kernel_rfl⟩) rfl rfl rfl rfl (Qo2 (rd':=(.tmp 45,.lit (.func (.yield l) #[] #[]))::[(.tmp 58,.lit (.agg #[(.int .i64 (x29.Mass)),(.int .i64 (x29.Heat)),(.int .i64 (x29.Silica)),(.int .i64 (x29.Gas))]))]) ⟨rfl,lrf,rfl,(Less.lits [(.int .i64 (x29.Mass)),(.int .i64 (x29.Heat)),(.int .i64 (x29.Silica)),(.int .i64 (x29.Gas))]),trivial⟩ (Qnk (x:=x29) (rest:=q33) rfl rfl hy rfl)) (⟨fun _ _=>amv rfl,fun _ _=>ald_ rfl Qu2 (by decide) (nle rfl) rfl,fun _ _=>anc rfl rfl,fun _ _=>afd rfl Tryz.underlying140 rfl rfl ti34 (by decide) rfl,fun _ _=>afd rfl Tryz.underlying34 rfl rfl ti31 (by decide) rfl,fun _ _=>ald_ rfl ti31 (by decide) (nle rfl) rfl,fun _ _=>afa rfl Tryz.underlying120 rfl rfl ti3 (by decide) rfl,fun _ _=>ald rfl ti3 (by decide) rfl (nle rfl) rfl,fun _ _=>aid rfl Tryz.underlying31 ti45 rfl rfl hi27 (mgt Qaf hj28) rfl,fun _ _=>ald_ rfl ti45 (by decide) (nle rfl) rfl,fun _ _=>afa rfl Tryz.underlying120 rfl rfl ti3 (by decide) rfl,fun _ _=>ald rfl ti3 (by decide) rfl (nle rfl) rfl,fun _ _=>aid rfl Tryz.underlying45 ti63 rfl rfl hi31 (mgt Qaa hj32) rfl,fun _ _=>ald_ rfl ti63 (by decide) (nle rfl) rfl,fun _ h=>absurd rfl h,fun _ _=>Qk1 rfl,trivial⟩) (⟨fun _ _=>amv rfl,fun _ _=>ald_ rfl Qu2 (by decide) (nle rfl) rfl,fun _ _=>anc rfl rfl,fun _ _=>afd rfl Tryz.underlying140 rfl rfl ti34 (by decide) rfl,fun _ _=>afd rfl Tryz.underlying34 rfl rfl ti31 (by decide) rfl,fun _ _=>ald_ rfl ti31 (by decide) (nle rfl) rfl,fun _ _=>afa rfl Tryz.underlying120 rfl rfl ti3 (by decide) rfl,fun _ _=>ald rfl ti3 (by decide) rfl (nle rfl) rfl,fun _ _=>aid rfl Tryz.underlying31 ti45 rfl rfl hi27 (mgt Qaf hj28) rfl,fun _ _=>ald_ rfl ti45 (by decide) (nle rfl) rfl,fun _ _=>afa rfl Tryz.underlying120 rfl rfl ti3 (by decide) rfl,fun _ _=>ald rfl ti3 (by decide) rfl (nle rfl) rfl,fun _ _=>aid rfl Tryz.underlying45 ti63 rfl rfl hi31 (mgt Qaa hj32) rfl,fun _ _=>ald_ rfl ti63 (by decide) (nle rfl) rfl,fun _ h=>absurd rfl h,fun _ _=>Qk1 rfl,trivial⟩) ?_ ?_
    ·skip
     refine wfa ?_
     refine Qan ?_
     refine bln ?_
     refine thn ?_
     refine wxz1 ?_
     refine thn ?_
     exact arm (mto (n:=62) [(0,(.lit (.func (.yield l) #[] #[]))),(1,(.dptr [(.dptr [(Qgg p0),(Qf0 p1),(Qfy p2),(Qgk p3),(Qgj p4),(Qfx p5),I p6] 0)] 0)),(39,(Q5u x1)),(40,(I ((x1.From.length:Int)))),(41,(I (w64 (y15+1))))] [0] [(.far (J (some (q33))))] hφ0 (pc rwl (pc (.rn (.plain _ (NLt.dptr _ _ (nlc (NLt.dptr _ _ (nlc (nld Qal _) (nlc (nld Qab _) (nlc (nld Qaj _) (nlc (nld Qaq _) (nlc (nld Qae _) (nlc (nld Qac _) (nlc nll nl0)))))))) nl0)))) (pc (rnd Qa3) (pc rwl (pc rwl pn))))) (qc (.far _) qn)) (ih ((w64 (y15+1)),q33) h)
    ·clear h
     refine wtr ?_
     refine Qag ?_
     refine Qao ?_
     refine Qah ?_
     refine Qah ?_
     refine Qao ?_
     exact Or.inr (by kernel_rfl)
   ·refine wfn hc20 ?_
    refine Qbh ?_
    refine Qax ?_
    refine Qax ?_
    refine Qbg rfl ?_
    obtain rfl:=osi h
    exact Or.inl rfl
def Qay (N:Nat) (k3:(List GStream)→Option (List GStream)):(List GStream)→(List GStream)→Option (List GStream)
  | [],y6=>
    k3 (y6)
  | x9::q10,y6=>
    chk (decide ((y6.length+([x9]).length) * 32≤140737488355328))<|
    Qay N k3 q10 (y6++([x9]))
def Qcb (N:Nat) (p0:(List GRow)) (p1:(List GElement)) (p2:(List (List GStream))) (p3:(List GLost)) (p4:(List Int)) (p5:(List GStream)) (p6:Int) (p7:Int):Option (List GStream):=
  Qbf (fun y2=>
    some y2) fun k3:(List GStream)→Option (List GStream)=>
  (Qgp N p0 p1 p2 p3 p4 p5 p6 p7).bind fun q4=>
  Qay N k3 q4 ([])
def Zhx (p0:(List GRow)) (p1:(List GElement)) (p2:(List (List GStream))) (p3:(List GLost)) (p4:(List Int)) (p5:(List GStream)) (p6:Int) (p7:Int):AV:=.fn (.func 133) [] [(.dptr [(.dptr [(.dat 5 ((p0:List GRow).map Qa0)),(.dat 7 ((p1:List GElement).map Qad)),(.dat 1 ((p2:List (List GStream)).map Qaf)),(.dat 4 ((p3:List GLost).map Qaw)),(.dat 1 ((p4:List Int).map Qak)),(.dat 4 ((p5:List GStream).map Qaa)),(I (p6))] 0)] 0),(.dptr [(I (p7))] 0)]
def Q8j (y6:(List GStream)):AV:=.acc 1 63 4 ((y6:List GStream).map Qaa)
def Zgg (x9:GStream):AV:=.agg [(I (x9.Mass)),(I (x9.Heat)),(I (x9.Silica)),(I (x9.Gas))]
theorem Qf6 (N:Nat) (p0:(List GRow)) (p1:(List GElement)) (p2:(List (List GStream))) (p3:(List GLost)) (p4:(List Int)) (p5:(List GStream)) (p6:Int) (p7:Int) (r:(List GStream)) (h:Qcb N p0 p1 p2 p3 p4 p5 p6 p7=some r):Spec Tryz.prog 132 [nilS,(Zhx p0 p1 p2 p3 p4 p5 p6 p7)] [] (.acc 0 63 4 ((r:List GStream).map Qaa)) [.tok]:=by
  refine Qai Tryz.func132 rfl 1 (nle rfl) (fun X φ0 w0 hφ0 hd0=>?_)
  unfold Qcb at h
  refine Qb2 ?_
  refine wxz ?_
  obtain ⟨k3,hk_k3,h⟩:=jko h
  refine wjn (τ:=(List GStream)) (fun t=>k3 t=some r) (fun y2=>⟨mk 13 [(2,.ref 0 1 0 0)],[(.own 1 [[(.acc 1 63 4 ((y2:List GStream).map Qaa))]]),.tok]⟩) (fun y2 h=>?_) ?_
  ·subst hk_k3
   refine wxz ?_
   refine wmr (mto (n:=13) (l':=[(4,(.acc 0 63 4 ((y2:List GStream).map Qaa)))]) (own':=[.tok]) [(4,(.acc 1 63 4 ((y2:List GStream).map Qaa)))] [1] [.tok] hφ0 (pc (.rn (Qa7 rfl (Qa1 Qac _))) pn) (qc .tok qn)) ?_
   refine Qag ?_
   obtain rfl:=osi h
   exact ⟨_,Mor.rfl,Qda (vs:=[(.acc 0 63 4 ((y2:List GStream).map Qaa))]) ⟨rot,trivial⟩ rfl (NLt.acc _ _ _ _ (by decide) (Qxe Qac _)) (by kernel_rfl) (Qap .tok Qbz)⟩
  ·skip
   refine wxz ?_
   refine Qam ?_
   obtain ⟨q4,hL5,h⟩:=bno h
   refine wmr (mto (n:=13) (l':=[(2,.ref 0 1 0 0),(6,(Zhx p0 p1 p2 p3 p4 p5 p6 p7))]) (own':=[(.own 1 [[nilS]])]) [(2,.ref 0 1 0 0),(6,(Zhx p0 p1 p2 p3 p4 p5 p6 p7))] [0] [(.own 1 [[nilS]])] hφ0 (pc (.rn (rqr rfl)) (pc (.rn (Qbr rn0 (rnc (.plain _ (NLt.dptr _ _ (nlc (NLt.dptr _ _ (nlc (nld Qal _) (nlc (nld Qab _) (nlc (nld Qaj _) (nlc (nld Qaq _) (nlc (nld Qae _) (nlc (nld Qac _) (nlc nll nl0)))))))) nl0))) (rnc (.plain _ (NLt.dptr _ _ (nlc nll nl0))) rn0)))) pn)) (qc (spb (lc rwl ln)) qn)) ?_
   refine wmr (Qmc (n:=1) (ty:=63) (m:=4) (q:=0) (mq:=1) (c:=[nilS]) 0 (by kernel_rfl) (by kernel_rfl) (by kernel_rfl) (by decide)) ?_
   refine Qv7 (τ:=((List GStream))) (kb:=1) (caps:=[(.dptr [(.dptr [(.dat 5 ((p0:List GRow).map Qa0)),(.dat 7 ((p1:List GElement).map Qad)),(.dat 1 ((p2:List (List GStream)).map Qaf)),(.dat 4 ((p3:List GLost).map Qaw)),(.dat 1 ((p4:List Int).map Qak)),(.dat 4 ((p5:List GStream).map Qaa)),I p6] 0)] 0),(.dptr [I p7] 0)]) (σr:=[]) (encs:=fun x=>[(.agg #[(.int .i64 (x.Mass)),(.int .i64 (x.Heat)),(.int .i64 (x.Silica)),(.int .i64 (x.Gas))])]) (fun x=>[(.agg [I x.Mass,I x.Heat,I x.Silica,I x.Gas])]) [] (fun n hn=>hφ0 n (Nat.le_trans (nle rfl) hn)) hd0 (Qn5 N p0 p1 p2 p3 p4 p5 p6 p7 _ hL5) Zeu (by kernel_rfl) (by kernel_rfl) (Qbx (rnc (.plain _ (NLt.dptr _ _ (nlc (NLt.dptr _ _ (nlc (nld Qal _) (nlc (nld Qab _) (nlc (nld Qaj _) (nlc (nld Qaq _) (nlc (nld Qae _) (nlc (nld Qac _) (nlc nll nl0)))))))) nl0))) (rnc (.plain _ (NLt.dptr _ _ (nlc nll nl0))) rn0))) Qat (by kernel_rfl) (fun _=>rfl) (fun x=>⟨(Less.unlits [(.int .i64 (x.Mass)),(.int .i64 (x.Heat)),(.int .i64 (x.Silica)),(.int .i64 (x.Gas))]),trivial⟩) (Zg2 (Qse (NLt.ref _ _ _ _ (by decide)) (Qse (NLt.of0 (NLt.fn _ _ _ nl0 (nlc (NLt.dptr _ _ (nlc (NLt.dptr _ _ (nlc (nld Qal _) (nlc (nld Qab _) (nlc (nld Qaj _) (nlc (nld Qaq _) (nlc (nld Qae _) (nlc (nld Qac _) (nlc nll nl0)))))))) nl0)) (nlc (NLt.dptr _ _ (nlc nll nl0)) nl0)))) Zab))) (fun y6=>[(.own 1 [[(Q8j y6)]]),.tok]) (fun _=>rfl) (fun _=>rfl) (fun l t=>Qay N k3 l t=some r) ([]) h (by kernel_rfl) ?_ ?_
   ·intro l11 o12 X15 φ16 w17 hφ14 x9 q10 y6 h
    rw [Qay] at h
    refine wxz1 ?_
    refine ⟨by kernel_rfl,fun o13=>?_⟩
    refine Qam ?_
    obtain ⟨ha18,h⟩:=cko h
    refine wx1 tbk [(2,rp [(.tmp 9,(Zgg x9))] (.dat 4 (([x9]:List GStream).map Qaa))),(3,⟨[(.tmp 8,(Q8j y6)),(.tmp 10,(.dat 4 (([x9]:List GStream).map Qaa)))],[(1,.tok),(4,.unused)],(.acc 4 63 4 ((y6++([x9]):List GStream).map Qaa)),[(1,.dead),(4,.tok)],false⟩)] ⟨Qbn (vs:=[(Zgg x9)]) rfl Tryz.underlying45 ti63 tz63 rfl (by decide) rfl (by decide) (by rfl) (by rfl) (by rfl) rfl,Qex rfl Tryz.underlying45 te63 (Base.acc _ _) rfl rfl (by rfl) (Qhf Qaa ha18) (Qhe Qaa ha18 (by decide)) (Qhd Qaa) rfl rfl,trivial⟩ ?_
    refine bln ?_
    exact ⟨(y6++([x9])),h,Zgx (own':=[(.own 1 [[(.acc 1 63 4 (((y6++([x9])):List GStream).map Qaa))]]),.tok,(.far (farL l11 o13))]) [0,4,2] [(.own 1 [[(.acc 4 63 4 ((y6++([x9]):List GStream).map Qaa))]]),.tok,(.far (farL l11 o13))] (by kernel_rfl) (by kernel_rfl) ⟨(spb (lc (.rn (Qa7 rfl (Qa1 Qac _))) ln)),.tok,.far _,trivial⟩⟩
   ·intro y6 h
    rw [Qay] at h
    refine bln ?_
    refine thn ?_
    exact ⟨(y6),h,(mto (n:=13) [(2,.ref 0 1 0 0)] [0,1] [(.own 1 [[(Q8j y6)]]),.tok] hφ0 (pc (.rn (rqr rfl)) pn) (qc (spb (lc (.rn (Qa7 rfl (Qa1 Qac _))) ln)) (qc .tok qn)))⟩
def Qb0 (N:Nat) (p0:(List GRow)) (p1:(List GElement)) (p2:(List (List GStream))) (p3:(List GLost)) (p4:(List Int)) (p5:(List GStream)) (p6:Int) (p7:Int):Option (List GStream):=
  (Qcb N p0 p1 p2 p3 p4 p5 p6 p7).bind fun x3=>
  some x3
def Zhy (p0:(List GRow)) (p1:(List GElement)) (p2:(List (List GStream))) (p3:(List GLost)) (p4:(List Int)) (p5:(List GStream)) (p6:Int) (p7:Int):AV:=.fn (.func 133) [] [(.dptr [(.dptr [(.dat 5 ((p0:List GRow).map Qa0)),(.dat 7 ((p1:List GElement).map Qad)),(.dat 1 ((p2:List (List GStream)).map Qaf)),(.dat 4 ((p3:List GLost).map Qaw)),(.dat 1 ((p4:List Int).map Qak)),(.dat 4 ((p5:List GStream).map Qaa)),(I (p6))] 0)] 0),(.dptr [(I (p7))] 0)]
def Q8k (x3:(List GStream)):AV:=.acc 0 63 4 ((x3:List GStream).map Qaa)
theorem Qig (N:Nat) (p0:(List GRow)) (p1:(List GElement)) (p2:(List (List GStream))) (p3:(List GLost)) (p4:(List Int)) (p5:(List GStream)) (p6:Int) (p7:Int) (r:(List GStream)) (h:Qb0 N p0 p1 p2 p3 p4 p5 p6 p7=some r):Spec Tryz.prog 115 [(Zhy p0 p1 p2 p3 p4 p5 p6 p7)] [] (.acc 0 63 4 ((r:List GStream).map Qaa)) [.tok]:=by
  refine Qai Tryz.func115 rfl 1 (nle rfl) (fun X φ0 w0 hφ0 hd0=>?_)
  unfold Qb0 at h
  refine Qb2 ?_
  refine wxz ?_
  obtain ⟨x3,hf2,h⟩:=bno h
  refine wx tbk [(1,⟨[fu 132,((.const (.slice none 0 0)),nilS),(.tmp 3,(Zhy p0 p1 p2 p3 p4 p5 p6 p7))],[(0,.unused)],(Q8k x3),[(0,.tok)],false⟩)] ⟨Qau (first:=[]) (cap:=[]) (vs:=[nilS,(Zhy p0 p1 p2 p3 p4 p5 p6 p7)]) (σr:=[]) (σr':=[.tok]) (res':=(Q8k x3)) [0] rfl Zev (Qf6 N p0 p1 p2 p3 p4 p5 p6 p7 _ hf2) rfl (Qbx (rnc (.plain _ nll) (rnc (.plain _ (NLt.fn _ _ _ nl0 (nlc (NLt.dptr _ _ (nlc (NLt.dptr _ _ (nlc (nld Qal _) (nlc (nld Qab _) (nlc (nld Qaj _) (nlc (nld Qaq _) (nlc (nld Qae _) (nlc (nld Qac _) (nlc nll nl0)))))))) nl0)) (nlc (NLt.dptr _ _ (nlc nll nl0)) nl0)))) rn0))) Qat (slc .tok Qat) (Q9u rfl (Qa1 Qac _)) rfl rfl rfl,trivial⟩ ?_
  refine wmr (mto (n:=5) (l':=[(2,(Q8k x3))]) (own':=[.tok]) [(2,(Q8k x3))] [0] [.tok] hφ0 (pc (.rn (Qa7 rfl (Qa1 Qac _))) pn) (qc .tok qn)) ?_
  refine Qag ?_
  obtain rfl:=osi h
  exact ⟨_,Mor.rfl,Qda (vs:=[(Q8k x3)]) ⟨rot,trivial⟩ rfl (NLt.acc _ _ _ _ (by decide) (Qxe Qac _)) (by kernel_rfl) (Qap .tok Qbz)⟩
def Qfh (_N:Nat) (_p0:Int) (p1:GStream) (_p2:(List GRow)) (_p3:(List GElement)) (_p4:Nat) (_p5:Nat) (_p6:Nat) (_p7:(List GStream)) (_p8:Int) (_p9:(List (List GStream))) (_p10:(List GLost)) (_p11:(List Int)):Option (List GStream):=
  some ([p1])
def Zhw (p1:GStream):AV:=.agg [(I (p1.Mass)),(I (p1.Heat)),(I (p1.Silica)),(I (p1.Gas))]
def Zch (p2:(List GRow)) (p3:(List GElement)) (p4:Nat) (p5:Nat) (p6:Nat) (p7:(List GStream)) (p8:Int):Slot:=.own 7 [[(.dat 5 ((p2:List GRow).map Qa0)),(.dat 7 ((p3:List GElement).map Qad)),(.own 1 1 (0) (p4)),(.own 2 4 (0) (p5)),(.own 3 1 (0) (p6)),(.dat 4 ((p7:List GStream).map Qaa)),(I (p8))]]
def Zcg (p9:(List (List GStream))):Slot:=.own 1 ((p9:List (List GStream)).map Qaf)
def Zcf (p10:(List GLost)):Slot:=.own 4 ((p10:List GLost).map Qaw)
def Zce (p11:(List Int)):Slot:=.own 1 ((p11:List Int).map Qak)
def Zci (p1:GStream):AV:=.dat 4 (([p1]:List GStream).map Qaa)
theorem Qhn (N:Nat) (p0:Int) (p1:GStream) (p2:(List GRow)) (p3:(List GElement)) (p4:Nat) (p5:Nat) (p6:Nat) (p7:(List GStream)) (p8:Int) (p9:(List (List GStream))) (p10:(List GLost)) (p11:(List Int)) (r:(List GStream)) (h:Qfh N p0 p1 p2 p3 p4 p5 p6 p7 p8 p9 p10 p11=some r):Spec Tryz.prog 117 [(.ref 0 7 (0) 0),(I (p0)),(Zhw p1)] [(Zch p2 p3 p4 p5 p6 p7 p8),(Zcg p9),(Zcf p10),(Zce p11)] (.dat 4 ((r:List GStream).map Qaa)) [(Zch p2 p3 p4 p5 p6 p7 p8),(Zcg p9),(Zcf p10),(Zce p11)]:=by
  refine Qai Tryz.func117 rfl 4 (nle rfl) (fun X φ0 w0 hφ0 hd0=>?_)
  unfold Qfh at h
  refine Qb2 ?_
  refine wxz ?_
  refine wx tbk [(1,rp [(.tmp 7,(Zhw p1))] (Zci p1))] ⟨Qbn (vs:=[(Zhw p1)]) rfl Tryz.underlying45 ti63 tz63 rfl (by decide) rfl (by decide) (by rfl) (by rfl) (by rfl) rfl,trivial⟩ ?_
  refine wmr (mto (n:=9) (l':=[(6,(Zci p1))]) (own':=[(Zch p2 p3 p4 p5 p6 p7 p8),(Zcg p9),(Zcf p10),(Zce p11)]) [(6,(Zci p1))] [0,1,2,3] [(Zch p2 p3 p4 p5 p6 p7 p8),(Zcg p9),(Zcf p10),(Zce p11)] hφ0 (pc (rnd Qac) pn) (qc (spb (lc (rnd Qal) (lc (rnd Qab) (lc (.rn (Qa4 rfl)) (lc (.rn (Qa4 rfl)) (lc (.rn (Qa4 rfl)) (lc (rnd Qac) (lc rwl ln)))))))) (qc (spr Qaj) (qc (spr Qaq) (qc (spr Qae) qn))))) ?_
  refine Qag ?_
  obtain rfl:=osi h
  exact ⟨_,Mor.rfl,Qda (vs:=[(Zci p1)]) ⟨rot,trivial⟩ rfl (NLt.of0 (nld Qac _)) (by kernel_rfl) (Qap (Qbj (nlc (NLt.of0 (nld Qal _)) (nlc (NLt.of0 (nld Qab _)) (nlc (NLt.own _ _ _ _ (by decide)) (nlc (NLt.own _ _ _ _ (by decide)) (nlc (NLt.own _ _ _ _ (by decide)) (nlc (NLt.of0 (nld Qac _)) (nlc (NLt.of0 nll) nl0)))))))) (Qap (Qck Qaj _) (Qap (Qck Qaq _) (Qap (Qck Qae _) Qbz))))⟩
def Qhk (_N:Nat) (p0:Int) (p1:GStream) (_p2:(List GRow)) (p3:(List GElement)) (_p4:Nat) (p5:Nat) (_p6:Nat) (_p7:(List GStream)) (_p8:Int) (_p9:(List (List GStream))) (p10:(List GLost)) (_p11:(List Int)):Option ((List GStream)×(List GLost)):=
  (getI p3 p0).bind fun x3=>
  (some (if p1.Heat<x3.Amount then p1.Heat else x3.Amount)).bind fun x7=>
  chk (decide (0≤p0)&&decide (p0.toNat<p5))<|
  (p10[p0.toNat]?).bind fun x10=>
  some ([(⟨p1.Mass,w64 (p1.Heat - x7),p1.Silica,p1.Gas⟩:GStream)],p10.set p0.toNat (⟨x7,x10.Silica,x10.Gas,x10.Scale⟩:GLost))
def Q5s (p2:(List GRow)) (p3:(List GElement)) (p4:Nat) (p5:Nat) (p6:Nat) (p7:(List GStream)) (p8:Int):Slot:=.own 7 [[(.dat 5 ((p2:List GRow).map Qa0)),(.dat 7 ((p3:List GElement).map Qad)),(.own 1 1 (0) (p4)),(.own 2 4 (0) (p5)),(.own 3 1 (0) (p6)),(.dat 4 ((p7:List GStream).map Qaa)),(I (p8))]]
def Q3o (p9:(List (List GStream))):Slot:=.own 1 ((p9:List (List GStream)).map Qaf)
def Zhv (p10:(List GLost)):Slot:=.own 4 ((p10:List GLost).map Qaw)
def Q3n (p11:(List Int)):Slot:=.own 1 ((p11:List Int).map Qak)
def Zgf (p1:GStream) (x7:Int):AV:=.agg [(I (p1.Mass)),(I (w64 (p1.Heat - x7))),(I (p1.Silica)),(I (p1.Gas))]
def Q3p (p1:GStream) (x7:Int):AV:=.dat 4 (([(⟨p1.Mass,w64 (p1.Heat - x7),p1.Silica,p1.Gas⟩:GStream)]:List GStream).map Qaa)
theorem Qn7 (N:Nat) (p0:Int) (p1:GStream) (p2:(List GRow)) (p3:(List GElement)) (p4:Nat) (p5:Nat) (p6:Nat) (p7:(List GStream)) (p8:Int) (p9:(List (List GStream))) (p10:(List GLost)) (p11:(List Int)) (r:((List GStream)×(List GLost))) (h:Qhk N p0 p1 p2 p3 p4 p5 p6 p7 p8 p9 p10 p11=some r):Spec Tryz.prog 118 [(.ref 0 7 (0) 0),(I (p0)),(.agg [(I (p1.Mass)),(I (p1.Heat)),(I (p1.Silica)),(I (p1.Gas))])] [(Q5s p2 p3 p4 p5 p6 p7 p8),(Q3o p9),(Zhv p10),(Q3n p11)] (.dat 4 ((r.1:List GStream).map Qaa)) [(Q5s p2 p3 p4 p5 p6 p7 p8),(Q3o p9),(.own 4 ((r.2:List GLost).map Qaw)),(Q3n p11)]:=by
  refine Qai Tryz.func118 rfl 4 (nle rfl) (fun X φ0 w0 hφ0 hd0=>?_)
  unfold Qhk at h
  refine Qb2 ?_
  refine wxz ?_
  obtain ⟨x3,hg4,h⟩:=bno h
  obtain ⟨hi5,hj6⟩:=gsm hg4
  obtain ⟨x7,hl8,h⟩:=bno h
  refine wxd tbk [(1,rb [(.tmp 8,.ref 0 7 0 0)] [(0,(Q5s p2 p3 p4 p5 p6 p7 p8))] (.ref 0 7 0 0)),(6,rp [(.tmp 12,(.dat 7 ((p3:List GElement).map Qad))),(.tmp 13,I p0)] (.dptr (Qad (x3)) 0)),(11,rp [(.tmp 16,I x3.Amount),(.tmp 18,I p1.Heat)] (I ((if p1.Heat<x3.Amount then p1.Heat else x3.Amount)))),(12,rp [(.tmp 19,(I ((if p1.Heat<x3.Amount then p1.Heat else x3.Amount))))] (I x7))] ⟨Qbi rfl,aid rfl Tryz.underlying40 Qj1 rfl rfl hi5 (mgt Qad hj6) rfl,Qqf rfl,Qgy hl8 (aas rfl),trivial⟩ ?_
  obtain ⟨hi9,h⟩:=cko h
  obtain ⟨hi9a,hi9b⟩:=Qdv hi9
  obtain ⟨x10,hg11,h⟩:=bno h
  refine wx tbk [(1,rb [(.tmp 20,.ref 0 7 0 0)] [(0,(Q5s p2 p3 p4 p5 p6 p7 p8))] (.ref 0 7 0 0)),(7,rb [(.tmp 24,(.own 2 4 (0) (p5))),(.tmp 25,I p0)] [(2,(Zhv p10))] (.ref 2 4 (p0.toNat) 0)),(9,⟨[(.tmp 28,(.ref 2 4 (p0.toNat) 0)),(.tmp 26,I x7)],[(2,(Zhv p10))],.any,[(2,(.own 4 ((p10.set p0.toNat (⟨x7,x10.Silica,x10.Gas,x10.Scale⟩:GLost):List GLost).map Qaw)))],false⟩)] ⟨Qbi rfl,aio rfl Tryz.underlying32 ti82 (odt hi9a) (odt hi9b) (Nat.zero_add _),ast rfl ti3 (by rfl) (mgt Qaw hg11) (nle rfl) (Qgn Qaw rfl),trivial⟩ ?_
  refine wxz ?_
  refine wx tbk [(1,rp [(.tmp 34,(Zgf p1 x7))] (Q3p p1 x7))] ⟨Qbn (vs:=[(Zgf p1 x7)]) rfl Tryz.underlying45 ti63 tz63 rfl (by decide) rfl (by decide) (by rfl) (by rfl) (by rfl) rfl,trivial⟩ ?_
  refine wmr (mto (n:=36) (l':=[(6,(Q3p p1 x7))]) (own':=[(Q5s p2 p3 p4 p5 p6 p7 p8),(Q3o p9),(.own 4 (((p10.set p0.toNat (⟨x7,x10.Silica,x10.Gas,x10.Scale⟩:GLost)):List GLost).map Qaw)),(Q3n p11)]) [(6,(Q3p p1 x7))] [0,1,2,3] [(Q5s p2 p3 p4 p5 p6 p7 p8),(Q3o p9),(.own 4 ((p10.set p0.toNat (⟨x7,x10.Silica,x10.Gas,x10.Scale⟩:GLost):List GLost).map Qaw)),(Q3n p11)] hφ0 (pc (rnd Qac) pn) (qc (spb (lc (rnd Qal) (lc (rnd Qab) (lc (.rn (Qa4 rfl)) (lc (.rn (Qa4 rfl)) (lc (.rn (Qa4 rfl)) (lc (rnd Qac) (lc rwl ln)))))))) (qc (spr Qaj) (qc (spr Qaq) (qc (spr Qae) qn))))) ?_
  refine Qag ?_
  obtain rfl:=osi h
  exact ⟨_,Mor.rfl,Qda (vs:=[(Q3p p1 x7)]) ⟨rot,trivial⟩ rfl (NLt.of0 (nld Qac _)) (by kernel_rfl) (Qap (Qbj (nlc (NLt.of0 (nld Qal _)) (nlc (NLt.of0 (nld Qab _)) (nlc (NLt.own _ _ _ _ (by decide)) (nlc (NLt.own _ _ _ _ (by decide)) (nlc (NLt.own _ _ _ _ (by decide)) (nlc (NLt.of0 (nld Qac _)) (nlc (NLt.of0 nll) nl0)))))))) (Qap (Qck Qaj _) (Qap (Qck Qaq _) (Qap (Qck Qae _) Qbz))))⟩
def Qht (N:Nat) (p0:(List GRow)) (p1:Int):Option Bool:=
  (Qc1 N p1 0 (w64 ((p0.length:Int) - 1))).bind fun x2=>
  some x2
theorem Qop (N:Nat) (p0:(List GRow)) (p1:Int) (r:Bool) (h:Qht N p0 p1=some r):Spec Tryz.prog 143 [(.dat 5 (p0.map Qa0)),(I p1)] [] (B r) []:=by
  refine Qai Tryz.func143 rfl 0 (nle rfl) (fun X φ0 w0 hφ0 hd0=>?_)
  unfold Qht at h
  refine wxz ?_
  obtain ⟨x2,hf1,h⟩:=bno h
  refine wx tbk [(2,rp [(.tmp 6,(.dat 5 ((p0:List GRow).map Qa0)))] (I ((p0.length:Int)))),(4,rp [fu 137,(.tmp 5,I p1),ci 0,(.tmp 8,(I (w64 ((p0.length:Int) - 1))))] (B x2))] ⟨alm (c:=Qa0) (l:=p0) (aln rfl Tryz.underlying39 rfl),apc (first:=[]) (cap:=[]) (vs:=[I p1,I 0,(I (w64 ((p0.length:Int) - 1)))]) rfl Qcw (Qaz N p1 0 (w64 ((p0.length:Int) - 1)) _ hf1) rfl rfl (nlcc (nlc nll nl0)) nll rfl,trivial⟩ ?_
  refine Qag ?_
  obtain rfl:=osi h
  exact fend ⟨[B x2],⟨rot,trivial⟩,rfl⟩ nll
def Qia (_N:Nat) (p0:(List GRow)) (p1:Int):Option GFlash:=
  (getI p0 p1).bind fun x1=>
  some (⟨x1⟩:GFlash)
def Zhs (x1:GRow):AV:=.agg [(I (x1.T)),(I (x1.P)),(I (x1.Liquid)),(I (x1.Vapour)),(I (x1.Silica))]
theorem Qpq (N:Nat) (p0:(List GRow)) (p1:Int) (r:GFlash) (h:Qia N p0 p1=some r):Spec Tryz.prog 144 [(.dat 5 (p0.map Qa0)),(I p1)] [] (.agg (Qx1 r)) []:=by
  refine Qai Tryz.func144 rfl 0 (nle rfl) (fun X φ0 w0 hφ0 hd0=>?_)
  unfold Qia at h
  refine wxz ?_
  obtain ⟨x1,hg2,h⟩:=bno h
  obtain ⟨hi3,hj4⟩:=gsm hg2
  refine wx tbk [(2,rp [(.tmp 5,(.dat 5 ((p0:List GRow).map Qa0))),(.tmp 6,I p1)] (.dptr (Qa0 (x1)) 0)),(4,mv 8 (Zhs x1))] ⟨aid rfl Tryz.underlying39 Qu1 rfl rfl hi3 (mgt Qa0 hj4) rfl,Qav (vs:=[(Zhs x1)]) rfl Zm8 Zl4 rfl (by rfl) rfl,trivial⟩ ?_
  refine Qag ?_
  obtain rfl:=osi h
  exact fend ⟨[(Zhs x1)],⟨Qbv (n:=0) (m:=5) (j:=0) (i:=0) (xs:=[[I x1.T,I x1.P,I x1.Liquid,I x1.Vapour,I x1.Silica]]) (by kernel_rfl) (by kernel_rfl) Zma (by decide) rfl (nle rfl) rfl,trivial⟩,rfl⟩ (NLt.agg _ (nlcc (nlcc (nlc nll nl0))))
def Qf1 (_N:Nat) (p0:GFlash) (p1:GStream):Option Int:=
  (some (w64 (p1.Heat - (w64 (p1.Mass * p0.Row.Liquid))))).bind fun x1=>
  bif (decide (x1≤0)) then
   some 0
  else
   bif (decide (p1.Heat≥(w64 (p1.Mass * p0.Row.Vapour)))) then
    some p1.Mass
   else
    chk ((w64 (p0.Row.Vapour - p0.Row.Liquid)) != 0)<|
    (some (w64 (x1.tdiv (w64 (p0.Row.Vapour - p0.Row.Liquid))))).bind fun x6=>
    some x6
theorem Qm3 (N:Nat) (p0:GFlash) (p1:GStream) (r:Int) (h:Qf1 N p0 p1=some r):Spec Tryz.prog 149 [(.agg (Qx1 p0)),(.agg (Qaa p1))] [] (I r) []:=by
  refine Qai Tryz.func149 rfl 0 (nle rfl) (fun X φ0 w0 hφ0 hd0=>?_)
  unfold Qf1 at h
  refine wxz ?_
  obtain ⟨x1,hl2,h⟩:=bno h
  refine wx tbk [(9,rp [(.tmp 14,(I (w64 (p1.Heat - (w64 (p1.Mass * p0.Row.Liquid))))))] (I x1))] ⟨Qgy hl2 (aas rfl),trivial⟩ ?_
  refine wsq ?_
  refine Qam ?_
  refine wxz ?_
  refine bfe h (fun hc3 h=>?_) fun hc3 h=>?_
  ·refine wft hc3 ?_
   refine wxz ?_
   refine Qag ?_
   refine Qao ?_
   refine Qah ?_
   obtain rfl:=osi h
   exact fend ⟨[I 0],⟨rot,trivial⟩,rfl⟩ nll
  ·refine wfn hc3 ?_
   refine wxz ?_
   refine bfe h (fun hc4 h=>?_) fun hc4 h=>?_
   ·refine wft hc4 ?_
    refine wxz ?_
    refine Qag ?_
    refine Qao ?_
    refine Qah ?_
    obtain rfl:=osi h
    exact fend ⟨[I p1.Mass],⟨rot,trivial⟩,rfl⟩ nll
   ·refine wfn hc4 ?_
    refine Qan ?_
    refine bln ?_
    refine thn ?_
    obtain ⟨hz5,h⟩:=cko h
    obtain ⟨x6,hl7,h⟩:=bno h
    refine wx tbk [(8,rp [(.tmp 30,I x1),(.tmp 37,(I (w64 (p0.Row.Vapour - p0.Row.Liquid))))] (I (w64 (x1.tdiv (w64 (p0.Row.Vapour - p0.Row.Liquid)))))),(9,rp [(.tmp 38,(I (w64 (x1.tdiv (w64 (p0.Row.Vapour - p0.Row.Liquid))))))] (I x6))] ⟨Qjx rfl (Qk0 hz5),Qgy hl7 (aas rfl),trivial⟩ ?_
    refine Qag ?_
    obtain rfl:=osi h
    exact fend ⟨[I x6],⟨rot,trivial⟩,rfl⟩ nll
def Qgl (N:Nat) (p0:GFlash) (p1:GStream):Option GParts:=
  (Qf1 N (⟨(⟨p0.Row.T,p0.Row.P,p0.Row.Liquid,p0.Row.Vapour,p0.Row.Silica⟩:GRow)⟩:GFlash) p1).bind fun x2=>
  Qbf (fun ⟨y3,y4,y5,y6,y7,_,y9⟩=>
    (some (if (w64 (y6 * p0.Row.Silica))<p1.Silica then w64 (y6 * p0.Row.Silica) else p1.Silica)).bind fun x11=>
    bif (decide (y6>0)) then
     (some (if (w64 (y7 - (w64 (y6 * p0.Row.Liquid))))>0 then w64 (y7 - (w64 (y6 * p0.Row.Liquid))) else 0)).bind fun x14=>
     some (⟨(⟨y3,y4,0,y5⟩:GStream),(⟨y6,y7,x11,y9⟩:GStream),x14,w64 (p1.Silica - x11)⟩:GParts)
    else
     some (⟨(⟨y3,y4,0,y5⟩:GStream),(⟨y6,y7,x11,y9⟩:GStream),0,w64 (p1.Silica - x11)⟩:GParts)) fun k10:Int×Int×Int×Int×Int×Int×Int→Option GParts=>
  bif (x2==0) then
   k10 (0,0,0,p1.Mass,p1.Heat,p1.Silica,p1.Gas)
  else
   bif (x2==p1.Mass) then
    k10 (x2,p1.Heat,p1.Gas,0,0,0,0)
   else
    k10 (x2,w64 (x2 * p0.Row.Vapour),p1.Gas,w64 (p1.Mass - x2),w64 (p1.Heat - (w64 (x2 * p0.Row.Vapour))),0,0)
def Zll (p0:GFlash):AV:=.agg [(I (p0.Row.T)),(I (p0.Row.P)),(I (p0.Row.Liquid)),(I (p0.Row.Vapour)),(I (p0.Row.Silica))]
def Zlk (p1:GStream):AV:=.agg [(I (p1.Mass)),(I (p1.Heat)),(I (p1.Silica)),(I (p1.Gas))]
def Zcc (p0:GFlash):Slot:=.own 5 [[(I (p0.Row.T)),(I (p0.Row.P)),(I (p0.Row.Liquid)),(I (p0.Row.Vapour)),(I (p0.Row.Silica))]]
def Zcb (p1:GStream):Slot:=.own 4 [[(I (p1.Mass)),(I (p1.Heat)),(I (p1.Silica)),(I (p1.Gas))]]
theorem Qpp (N:Nat) (p0:GFlash) (p1:GStream) (r:GParts) (h:Qgl N p0 p1=some r):Spec Tryz.prog 145 [(.agg (Qx1 p0)),(.agg (Qaa p1))] [] (.agg (Qx0 r)) []:=by
  refine Qai Tryz.func145 rfl 0 (nle rfl) (fun X φ0 w0 hφ0 hd0=>?_)
  unfold Qgl at h
  refine wxz ?_
  obtain ⟨x2,hf1,h⟩:=bno h
  refine wx tbk [(2,rp [fu 149,(.tmp 7,(Zll p0)),(.tmp 8,(Zlk p1))] (I x2))] ⟨apc (first:=[]) (cap:=[]) (vs:=[(Zll p0),(Zlk p1)]) rfl Zei (Qm3 N (⟨(⟨p0.Row.T,p0.Row.P,p0.Row.Liquid,p0.Row.Vapour,p0.Row.Silica⟩:GRow)⟩:GFlash) p1 _ hf1) rfl rfl (nlc (NLt.agg _ (nlcc (nlcc (nlc nll nl0)))) (nlc (NLt.agg _ (nlcc (nlcc nl0))) nl0)) nll rfl,trivial⟩ ?_
  obtain ⟨k10,hk_k10,h⟩:=jko h
  refine wjn (τ:=Int×Int×Int×Int×Int×Int×Int) (fun t=>k10 t=some r) (fun ⟨y3,y4,y5,y6,y7,y8,y9⟩=>⟨mk 87 [(2,.ref 0 5 0 0),(3,.ref 1 4 0 0),(4,.ref 2 10 0 0)],[(Zcc p0),(Zcb p1),(.own 10 [[I y3,I y4,I 0,I y5,I y6,I y7,I y8,I y9,I 0,I 0]])]⟩) (fun t h=>?_) ?_
  ·subst hk_k10
   obtain ⟨y3,y4,y5,y6,y7,y8,y9⟩:=t
   obtain ⟨x11,hl12,h⟩:=bno h
   refine wx tbk [(9,rp [(.tmp 52,I p1.Silica),(.tmp 59,(I (w64 (y6 * p0.Row.Silica))))] (I x11))] ⟨Qgy hl12 (Qqf rfl),trivial⟩ ?_
   refine wxe ?_
   refine wsq ?_
   refine wxz ?_
   refine bfe h (fun hc13 h=>?_) fun hc13 h=>?_
   ·refine wft hc13 ?_
    obtain ⟨x14,hl15,h⟩:=bno h
    refine wx1 tbk [(11,rp [ci 0,(.tmp 83,(I (w64 (y7 - (w64 (y6 * p0.Row.Liquid))))))] (I x14))] ⟨Qgy hl15 (Qlz rfl),trivial⟩ ?_
    refine thn ?_
    refine wxz ?_
    refine Qag ?_
    obtain rfl:=osi h
    exact fend ⟨[(.agg [I y3,I y4,I 0,I y5,I y6,I y7,I x11,I y9,I x14,(I (w64 (p1.Silica - x11)))])],⟨Qbv (n:=2) (m:=10) (j:=0) (i:=0) (xs:=[[I y3,I y4,I 0,I y5,I y6,I y7,I x11,I y9,I x14,(I (w64 (p1.Silica - x11)))]]) (by kernel_rfl) (by kernel_rfl) Q1w (by decide) rfl (nle rfl) rfl,trivial⟩,rfl⟩ (NLt.agg _ (nlcc (nlcc (nlcc (nlcc (nlcc nl0))))))
   ·refine wfn hc13 ?_
    refine Qan ?_
    refine thn ?_
    refine wxz ?_
    refine Qag ?_
    obtain rfl:=osi h
    exact fend ⟨[(.agg [I y3,I y4,I 0,I y5,I y6,I y7,I x11,I y9,I 0,(I (w64 (p1.Silica - x11)))])],⟨Qbv (n:=2) (m:=10) (j:=0) (i:=0) (xs:=[[I y3,I y4,I 0,I y5,I y6,I y7,I x11,I y9,I 0,(I (w64 (p1.Silica - x11)))]]) (by kernel_rfl) (by kernel_rfl) Q1w (by decide) rfl (nle rfl) rfl,trivial⟩,rfl⟩ (NLt.agg _ (nlcc (nlcc (nlcc (nlcc (nlcc nl0))))))
  ·skip
   refine Qam ?_
   refine wxz ?_
   refine bfe h (fun hc16 h=>?_) fun hc16 h=>?_
   ·refine wft hc16 ?_
    refine wxz1 ?_
    refine bln ?_
    refine thn ?_
    exact ⟨(0,0,0,p1.Mass,p1.Heat,p1.Silica,p1.Gas),h,(mto (n:=87) [(2,.ref 0 5 0 0),(3,.ref 1 4 0 0),(4,.ref 2 10 0 0)] [0,1,2] [(Zcc p0),(Zcb p1),(.own 10 [[I 0,I 0,I 0,I 0,I p1.Mass,I p1.Heat,I p1.Silica,I p1.Gas,I 0,I 0]])] hφ0 (pc (.rn (rqr rfl)) (pc (.rn (rqr rfl)) (pc (.rn (rqr rfl)) pn))) (qc (spb (lcc (lcc (lc rwl ln)))) (qc (spb (lcc (lcc ln))) (qc (spb (lcc (lcc (lcc (lcc (lcc ln)))))) qn))))⟩
   ·refine wfn hc16 ?_
    refine wxz ?_
    refine bfe h (fun hc17 h=>?_) fun hc17 h=>?_
    ·refine wft hc17 ?_
     refine wx1 tbk [(5,rp [(.tmp 44,I x2),(.tmp 46,I p1.Heat),(.tmp 48,I p1.Gas)] (.agg [I x2,I p1.Heat,I 0,I p1.Gas]))] ⟨Qav (vs:=[I x2,I p1.Heat,I p1.Gas]) rfl ts63 tz63 rfl (by rfl) rfl,trivial⟩ ?_
     refine bln ?_
     refine thn ?_
     exact ⟨(x2,p1.Heat,p1.Gas,0,0,0,0),h,(mto (n:=87) [(2,.ref 0 5 0 0),(3,.ref 1 4 0 0),(4,.ref 2 10 0 0)] [0,1,2] [(Zcc p0),(Zcb p1),(.own 10 [[I x2,I p1.Heat,I 0,I p1.Gas,I 0,I 0,I 0,I 0,I 0,I 0]])] hφ0 (pc (.rn (rqr rfl)) (pc (.rn (rqr rfl)) (pc (.rn (rqr rfl)) pn))) (qc (spb (lcc (lcc (lc rwl ln)))) (qc (spb (lcc (lcc ln))) (qc (spb (lcc (lcc (lcc (lcc (lcc ln)))))) qn))))⟩
    ·refine wfn hc17 ?_
     refine wx tbk [(8,rp [(.tmp 10,I x2),(.tmp 15,(I (w64 (x2 * p0.Row.Vapour)))),(.tmp 17,I p1.Gas)] (.agg [I x2,(I (w64 (x2 * p0.Row.Vapour))),I 0,I p1.Gas]))] ⟨Qav (vs:=[I x2,(I (w64 (x2 * p0.Row.Vapour))),I p1.Gas]) rfl ts63 tz63 rfl (by rfl) rfl,trivial⟩ ?_
     refine wx1 tbk [(12,rp [(.tmp 23,(I (w64 (p1.Mass - x2)))),(.tmp 31,(I (w64 (p1.Heat - (w64 (x2 * p0.Row.Vapour))))))] (.agg [(I (w64 (p1.Mass - x2))),(I (w64 (p1.Heat - (w64 (x2 * p0.Row.Vapour))))),I 0,I 0]))] ⟨Qav (vs:=[(I (w64 (p1.Mass - x2))),(I (w64 (p1.Heat - (w64 (x2 * p0.Row.Vapour)))))]) rfl ts63 tz63 rfl (by rfl) rfl,trivial⟩ ?_
     refine bln ?_
     refine thn ?_
     exact ⟨(x2,w64 (x2 * p0.Row.Vapour),p1.Gas,w64 (p1.Mass - x2),w64 (p1.Heat - (w64 (x2 * p0.Row.Vapour))),0,0),h,(mto (n:=87) [(2,.ref 0 5 0 0),(3,.ref 1 4 0 0),(4,.ref 2 10 0 0)] [0,1,2] [(Zcc p0),(Zcb p1),(.own 10 [[I x2,(I (w64 (x2 * p0.Row.Vapour))),I 0,I p1.Gas,(I (w64 (p1.Mass - x2))),(I (w64 (p1.Heat - (w64 (x2 * p0.Row.Vapour))))),I 0,I 0,I 0,I 0]])] hφ0 (pc (.rn (rqr rfl)) (pc (.rn (rqr rfl)) (pc (.rn (rqr rfl)) pn))) (qc (spb (lcc (lcc (lc rwl ln)))) (qc (spb (lcc (lcc ln))) (qc (spb (lcc (lcc (lcc (lcc (lcc ln)))))) qn))))⟩
def Qjd (N:Nat) (p0:(List GRow)) (p1:Int) (p2:GStream):Option (GParts×Int):=
  (Qez N p0).bind fun x2=>
  bif (!x2) then
   some ((⟨(⟨0,0,0,0⟩:GStream),(⟨0,0,0,0⟩:GStream),0,0⟩:GParts),1)
  else
   (Qht N p0 p1).bind fun x5=>
   bif (!x5) then
    some ((⟨(⟨0,0,0,0⟩:GStream),(⟨0,0,0,0⟩:GStream),0,0⟩:GParts),2)
   else
    (Qdu N p2).bind fun x8=>
    bif (!x8) then
     some ((⟨(⟨0,0,0,0⟩:GStream),(⟨0,0,0,0⟩:GStream),0,0⟩:GParts),1)
    else
     (Qia N p0 p1).bind fun x11=>
     (Qgl N (⟨(⟨x11.Row.T,x11.Row.P,x11.Row.Liquid,x11.Row.Vapour,x11.Row.Silica⟩:GRow)⟩:GFlash) p2).bind fun x13=>
     some ((⟨(⟨x13.Steam.Mass,x13.Steam.Heat,x13.Steam.Silica,x13.Steam.Gas⟩:GStream),(⟨x13.Water.Mass,x13.Water.Heat,x13.Water.Silica,x13.Water.Gas⟩:GStream),x13.Rest,x13.Scale⟩:GParts),0)
def Q5q (p0:(List GRow)):AV:=.dat 5 ((p0:List GRow).map Qa0)
def Q5p:AV:=.agg [(I (0)),(I (0)),(I (0)),(I (0)),(I (0)),(I (0)),(I (0)),(I (0)),(I (0)),(I (0))]
def Zcd (p2:GStream):AV:=.agg [(I (p2.Mass)),(I (p2.Heat)),(I (p2.Silica)),(I (p2.Gas))]
def Zht (x11:GFlash):AV:=.agg [(I (x11.Row.T)),(I (x11.Row.P)),(I (x11.Row.Liquid)),(I (x11.Row.Vapour)),(I (x11.Row.Silica))]
def Zlm (x13:GParts):AV:=.agg [(I (x13.Steam.Mass)),(I (x13.Steam.Heat)),(I (x13.Steam.Silica)),(I (x13.Steam.Gas)),(I (x13.Water.Mass)),(I (x13.Water.Heat)),(I (x13.Water.Silica)),(I (x13.Water.Gas)),(I (x13.Rest)),(I (x13.Scale))]
theorem Qte (N:Nat) (p0:(List GRow)) (p1:Int) (p2:GStream) (r:(GParts×Int)) (h:Qjd N p0 p1 p2=some r):Spec Tryz.prog 135 [(.dat 5 (p0.map Qa0)),(I p1),(.agg (Qaa p2))] [] (.tup [(.agg (Qx0 r.1)),(I r.2)]) []:=by
  refine Qai Tryz.func135 rfl 0 (nle rfl) (fun X φ0 w0 hφ0 hd0=>?_)
  unfold Qjd at h
  refine wxz ?_
  refine wsq ?_
  refine Qam ?_
  obtain ⟨x2,hf1,h⟩:=bno h
  refine wx tbk [(1,rp [fu 122,(.tmp 9,(Q5q p0))] (B x2))] ⟨apc (first:=[]) (cap:=[]) (vs:=[(Q5q p0)]) rfl Q47 (Qjb N p0 _ hf1) rfl rfl (nlc (nld Qal _) nl0) nll rfl,trivial⟩ ?_
  refine bfe h (fun hc3 h=>?_) fun hc3 h=>?_
  ·refine wft hc3 ?_
   refine wx tbk [(0,rp [] Q5p)] ⟨Qav (vs:=[]) rfl Zi7 Zdb rfl (by rfl) rfl,trivial⟩ ?_
   refine Qag ?_
   refine Qao ?_
   refine Qah ?_
   obtain rfl:=osi h
   exact fend ⟨[Q5p,I 1],⟨Qbv (n:=1) (m:=10) (j:=0) (i:=0) (xs:=[[I 0,I 0,I 0,I 0,I 0,I 0,I 0,I 0,I 0,I 0]]) (by kernel_rfl) (by kernel_rfl) Q1w (by decide) rfl (nle rfl) rfl,rot,trivial⟩,rfl⟩ (NLt.tup _ (nlc (NLt.agg _ (nlcc (nlcc (nlcc (nlcc (nlcc nl0)))))) (nlc nll nl0)))
  ·refine wfn hc3 ?_
   obtain ⟨x5,hf4,h⟩:=bno h
   refine wx tbk [(2,rp [fu 143,(.tmp 14,(Q5q p0)),(.tmp 15,I p1)] (B x5))] ⟨apc (first:=[]) (cap:=[]) (vs:=[(Q5q p0),I p1]) rfl Zeo (Qop N p0 p1 _ hf4) rfl rfl (nlc (nld Qal _) (nlc nll nl0)) nll rfl,trivial⟩ ?_
   refine bfe h (fun hc6 h=>?_) fun hc6 h=>?_
   ·refine wft hc6 ?_
    refine wx tbk [(0,rp [] Q5p)] ⟨Qav (vs:=[]) rfl Zi7 Zdb rfl (by rfl) rfl,trivial⟩ ?_
    refine Qag ?_
    refine Qao ?_
    refine Qah ?_
    obtain rfl:=osi h
    exact fend ⟨[Q5p,I 2],⟨Qbv (n:=1) (m:=10) (j:=0) (i:=0) (xs:=[[I 0,I 0,I 0,I 0,I 0,I 0,I 0,I 0,I 0,I 0]]) (by kernel_rfl) (by kernel_rfl) Q1w (by decide) rfl (nle rfl) rfl,rot,trivial⟩,rfl⟩ (NLt.tup _ (nlc (NLt.agg _ (nlcc (nlcc (nlcc (nlcc (nlcc nl0)))))) (nlc nll nl0)))
   ·refine wfn hc6 ?_
    obtain ⟨x8,hf7,h⟩:=bno h
    refine wx tbk [(1,rp [fu 131,(.tmp 20,(Zcd p2))] (B x8))] ⟨apc (first:=[]) (cap:=[]) (vs:=[(Zcd p2)]) rfl Qnw (Qdm N p2 _ hf7) rfl rfl (nlc (NLt.agg _ (nlcc (nlcc nl0))) nl0) nll rfl,trivial⟩ ?_
    refine bfe h (fun hc9 h=>?_) fun hc9 h=>?_
    ·refine wft hc9 ?_
     refine wx tbk [(0,rp [] Q5p)] ⟨Qav (vs:=[]) rfl Zi7 Zdb rfl (by rfl) rfl,trivial⟩ ?_
     refine Qag ?_
     refine Qao ?_
     refine Qah ?_
     obtain rfl:=osi h
     exact fend ⟨[Q5p,I 1],⟨Qbv (n:=1) (m:=10) (j:=0) (i:=0) (xs:=[[I 0,I 0,I 0,I 0,I 0,I 0,I 0,I 0,I 0,I 0]]) (by kernel_rfl) (by kernel_rfl) Q1w (by decide) rfl (nle rfl) rfl,rot,trivial⟩,rfl⟩ (NLt.tup _ (nlc (NLt.agg _ (nlcc (nlcc (nlcc (nlcc (nlcc nl0)))))) (nlc nll nl0)))
    ·refine wfn hc9 ?_
     refine Qan ?_
     refine bln ?_
     refine thn ?_
     obtain ⟨x11,hf10,h⟩:=bno h
     obtain ⟨x13,hf12,h⟩:=bno h
     refine wxd tbk [(2,rp [fu 144,(.tmp 24,(Q5q p0)),(.tmp 25,I p1)] (Zht x11)),(4,rp [fu 145,(.tmp 26,(Zht x11)),(.tmp 27,(Zcd p2))] (Zlm x13))] ⟨apc (first:=[]) (cap:=[]) (vs:=[(Q5q p0),I p1]) rfl Zen (Qpq N p0 p1 _ hf10) rfl rfl (nlc (nld Qal _) (nlc nll nl0)) (NLt.agg _ (nlcc (nlcc (nlc nll nl0)))) rfl,apc (first:=[]) (cap:=[]) (vs:=[(Zht x11),(Zcd p2)]) rfl Zem (Qpp N (⟨(⟨x11.Row.T,x11.Row.P,x11.Row.Liquid,x11.Row.Vapour,x11.Row.Silica⟩:GRow)⟩:GFlash) p2 _ hf12) rfl rfl (nlc (NLt.agg _ (nlcc (nlcc (nlc nll nl0)))) (nlc (NLt.agg _ (nlcc (nlcc nl0))) nl0)) (NLt.agg _ (nlcc (nlcc (nlcc (nlcc (nlcc nl0)))))) rfl,trivial⟩ ?_
     refine Qag ?_
     obtain rfl:=osi h
     exact fend ⟨[(Zlm x13),I 0],⟨Qbv (n:=1) (m:=10) (j:=0) (i:=0) (xs:=[[I x13.Steam.Mass,I x13.Steam.Heat,I x13.Steam.Silica,I x13.Steam.Gas,I x13.Water.Mass,I x13.Water.Heat,I x13.Water.Silica,I x13.Water.Gas,I x13.Rest,I x13.Scale]]) (by kernel_rfl) (by kernel_rfl) Q1w (by decide) rfl (nle rfl) rfl,rot,trivial⟩,rfl⟩ (NLt.tup _ (nlc (NLt.agg _ (nlcc (nlcc (nlcc (nlcc (nlcc nl0)))))) (nlc nll nl0)))
def Qe1 (N:Nat) (p0:Int) (p1:GStream) (p2:(List Int)) (_p3:(List GRow)) (_p4:(List GElement)) (_p5:Nat) (p6:Nat) (_p7:Nat) (_p8:(List GStream)) (_p9:Int) (_p10:(List (List GStream))) (p11:(List GLost)) (_p12:(List Int)):Option ((List GStream)×(List GLost)):=
  (Qjc N p1 p2).bind fun x4=>
  chk (decide (0≤p0)&&decide (p0.toNat<p6))<|
  (p11[p0.toNat]?).bind fun x6=>
  chk (decide (0≤p0)&&decide (p0.toNat<p6))<|
  ((p11.set p0.toNat (⟨x4.2.1.Heat,x6.Silica,x6.Gas,x6.Scale⟩:GLost))[p0.toNat]?).bind fun x9=>
  chk (decide (0≤p0)&&decide (p0.toNat<p6))<|
  (((p11.set p0.toNat (⟨x4.2.1.Heat,x6.Silica,x6.Gas,x6.Scale⟩:GLost)).set p0.toNat (⟨x9.Heat,x4.2.1.Silica,x9.Gas,x9.Scale⟩:GLost))[p0.toNat]?).bind fun x12=>
  some (x4.1,((p11.set p0.toNat (⟨x4.2.1.Heat,x6.Silica,x6.Gas,x6.Scale⟩:GLost)).set p0.toNat (⟨x9.Heat,x4.2.1.Silica,x9.Gas,x9.Scale⟩:GLost)).set p0.toNat (⟨x12.Heat,x12.Silica,x4.2.1.Gas,x12.Scale⟩:GLost))
def Zhr (p1:GStream):AV:=.agg [(I (p1.Mass)),(I (p1.Heat)),(I (p1.Silica)),(I (p1.Gas))]
def Zhq (p2:(List Int)):AV:=.dat 1 ((p2:List Int).map Qak)
def Qsm (p3:(List GRow)) (p4:(List GElement)) (p5:Nat) (p6:Nat) (p7:Nat) (p8:(List GStream)) (p9:Int):Slot:=.own 7 [[(.dat 5 ((p3:List GRow).map Qa0)),(.dat 7 ((p4:List GElement).map Qad)),(.own 1 1 (0) (p5)),(.own 2 4 (0) (p6)),(.own 3 1 (0) (p7)),(.dat 4 ((p8:List GStream).map Qaa)),(I (p9))]]
def Q3f (p10:(List (List GStream))):Slot:=.own 1 ((p10:List (List GStream)).map Qaf)
def Q8c (p11:(List GLost)):Slot:=.own 4 ((p11:List GLost).map Qaw)
def Q3e (p12:(List Int)):Slot:=.own 1 ((p12:List Int).map Qak)
def Q3g (x4:((List GStream)×GLoss×Int)):AV:=.dat 4 ((x4.1:List GStream).map Qaa)
def Q8b (p11:(List GLost)) (p0:Int) (x4:((List GStream)×GLoss×Int)) (x6:GLost):Slot:=.own 4 ((p11.set p0.toNat (⟨x4.2.1.Heat,x6.Silica,x6.Gas,x6.Scale⟩:GLost):List GLost).map Qaw)
def Q8a (p11:(List GLost)) (p0:Int) (x4:((List GStream)×GLoss×Int)) (x6:GLost) (x9:GLost):Slot:=.own 4 (((p11.set p0.toNat (⟨x4.2.1.Heat,x6.Silica,x6.Gas,x6.Scale⟩:GLost)).set p0.toNat (⟨x9.Heat,x4.2.1.Silica,x9.Gas,x9.Scale⟩:GLost):List GLost).map Qaw)
def Zgc (p11:(List GLost)) (p0:Int) (x4:((List GStream)×GLoss×Int)) (x6:GLost) (x9:GLost) (x12:GLost):Slot:=.own 4 ((((p11.set p0.toNat (⟨x4.2.1.Heat,x6.Silica,x6.Gas,x6.Scale⟩:GLost)).set p0.toNat (⟨x9.Heat,x4.2.1.Silica,x9.Gas,x9.Scale⟩:GLost)).set p0.toNat (⟨x12.Heat,x12.Silica,x4.2.1.Gas,x12.Scale⟩:GLost):List GLost).map Qaw)
theorem Qjr (N:Nat) (p0:Int) (p1:GStream) (p2:(List Int)) (p3:(List GRow)) (p4:(List GElement)) (p5:Nat) (p6:Nat) (p7:Nat) (p8:(List GStream)) (p9:Int) (p10:(List (List GStream))) (p11:(List GLost)) (p12:(List Int)) (r:((List GStream)×(List GLost))) (h:Qe1 N p0 p1 p2 p3 p4 p5 p6 p7 p8 p9 p10 p11 p12=some r):Spec Tryz.prog 136 [(.ref 0 7 (0) 0),(I (p0)),(Zhr p1),(Zhq p2)] [(Qsm p3 p4 p5 p6 p7 p8 p9),(Q3f p10),(Q8c p11),(Q3e p12)] (.dat 4 ((r.1:List GStream).map Qaa)) [(Qsm p3 p4 p5 p6 p7 p8 p9),(Q3f p10),(.own 4 ((r.2:List GLost).map Qaw)),(Q3e p12)]:=by
  refine Qai Tryz.func136 rfl 4 (nle rfl) (fun X φ0 w0 hφ0 hd0=>?_)
  unfold Qe1 at h
  refine Qb2 ?_
  refine wxz ?_
  obtain ⟨x4,hf3,h⟩:=bno h
  refine wx tbk [(2,rp [fu 146,(.tmp 13,(Zhr p1)),(.tmp 14,(Zhq p2))] (.tup [(Q3g x4),(.agg [I x4.2.1.Heat,I x4.2.1.Silica,I x4.2.1.Gas]),I x4.2.2]))] ⟨apc (first:=[]) (cap:=[]) (vs:=[(Zhr p1),(Zhq p2)]) rfl Zel (Qtd N p1 p2 _ hf3) rfl rfl (nlc (NLt.agg _ (nlcc (nlcc nl0))) (nlc (nld Qae _) nl0)) (NLt.tup _ (nlc (nld Qac _) (nlc (NLt.agg _ (nlcc (nlc nll nl0))) (nlc nll nl0)))) rfl,trivial⟩ ?_
  obtain ⟨hi5,h⟩:=cko h
  obtain ⟨hi5a,hi5b⟩:=Qdv hi5
  obtain ⟨x6,hg7,h⟩:=bno h
  obtain ⟨hi8,h⟩:=cko h
  obtain ⟨hi8a,hi8b⟩:=Qdv hi8
  obtain ⟨x9,hg10,h⟩:=bno h
  obtain ⟨hi11,h⟩:=cko h
  obtain ⟨hi11a,hi11b⟩:=Qdv hi11
  obtain ⟨x12,hg13,h⟩:=bno h
  refine wxd tbk [(1,rb [(.tmp 19,.ref 0 7 0 0)] [(0,(Qsm p3 p4 p5 p6 p7 p8 p9))] (.ref 0 7 0 0)),(7,rb [(.tmp 25,.ref 0 7 0 0)] [(0,(Qsm p3 p4 p5 p6 p7 p8 p9))] (.ref 0 7 0 0)),(13,rb [(.tmp 31,.ref 0 7 0 0)] [(0,(Qsm p3 p4 p5 p6 p7 p8 p9))] (.ref 0 7 0 0)),(24,rb [(.tmp 23,(.own 2 4 (0) (p6))),(.tmp 24,I p0)] [(2,(Q8c p11))] (.ref 2 4 (p0.toNat) 0)),(26,⟨[(.tmp 44,(.ref 2 4 (p0.toNat) 0)),(.tmp 38,I x4.2.1.Heat)],[(2,(Q8c p11))],.any,[(2,(Q8b p11 p0 x4 x6))],false⟩),(27,rb [(.tmp 29,(.own 2 4 (0) (p6))),(.tmp 30,I p0)] [(2,(Q8b p11 p0 x4 x6))] (.ref 2 4 (p0.toNat) 0)),(29,⟨[(.tmp 46,(.ref 2 4 (p0.toNat) 1)),(.tmp 40,I x4.2.1.Silica)],[(2,(Q8b p11 p0 x4 x6))],.any,[(2,(Q8a p11 p0 x4 x6 x9))],false⟩),(30,rb [(.tmp 35,(.own 2 4 (0) (p6))),(.tmp 36,I p0)] [(2,(Q8a p11 p0 x4 x6 x9))] (.ref 2 4 (p0.toNat) 0)),(32,⟨[(.tmp 48,(.ref 2 4 (p0.toNat) 2)),(.tmp 42,I x4.2.1.Gas)],[(2,(Q8a p11 p0 x4 x6 x9))],.any,[(2,(Zgc p11 p0 x4 x6 x9 x12))],false⟩)] ⟨Qbi rfl,Qbi rfl,Qbi rfl,aio rfl Tryz.underlying32 ti82 (odt hi5a) (odt hi5b) (Nat.zero_add _),ast rfl ti3 (by rfl) (mgt Qaw hg7) (nle rfl) (Qgn Qaw rfl),aio rfl Tryz.underlying32 ti82 (odt hi8a) (odt hi8b) (Nat.zero_add _),ast rfl ti3 (by rfl) (mgt Qaw hg10) (nle rfl) (Qgn Qaw rfl),aio rfl Tryz.underlying32 ti82 (odt hi11a) (odt hi11b) (Nat.zero_add _),ast rfl ti3 (by rfl) (mgt Qaw hg13) (nle rfl) (Qgn Qaw rfl),trivial⟩ ?_
  refine wxz ?_
  refine wmr (mto (n:=50) (l':=[(8,(Q3g x4))]) (own':=[(Qsm p3 p4 p5 p6 p7 p8 p9),(Q3f p10),(.own 4 (((((p11.set p0.toNat (⟨x4.2.1.Heat,x6.Silica,x6.Gas,x6.Scale⟩:GLost)).set p0.toNat (⟨x9.Heat,x4.2.1.Silica,x9.Gas,x9.Scale⟩:GLost)).set p0.toNat (⟨x12.Heat,x12.Silica,x4.2.1.Gas,x12.Scale⟩:GLost)):List GLost).map Qaw)),(Q3e p12)]) [(8,(Q3g x4))] [0,1,2,3] [(Qsm p3 p4 p5 p6 p7 p8 p9),(Q3f p10),(Zgc p11 p0 x4 x6 x9 x12),(Q3e p12)] hφ0 (pc (rnd Qac) pn) (qc (spb (lc (rnd Qal) (lc (rnd Qab) (lc (.rn (Qa4 rfl)) (lc (.rn (Qa4 rfl)) (lc (.rn (Qa4 rfl)) (lc (rnd Qac) (lc rwl ln)))))))) (qc (spr Qaj) (qc (spr Qaq) (qc (spr Qae) qn))))) ?_
  refine Qag ?_
  obtain rfl:=osi h
  exact ⟨_,Mor.rfl,Qda (vs:=[(Q3g x4)]) ⟨rot,trivial⟩ rfl (NLt.of0 (nld Qac _)) (by kernel_rfl) (Qap (Qbj (nlc (NLt.of0 (nld Qal _)) (nlc (NLt.of0 (nld Qab _)) (nlc (NLt.own _ _ _ _ (by decide)) (nlc (NLt.own _ _ _ _ (by decide)) (nlc (NLt.own _ _ _ _ (by decide)) (nlc (NLt.of0 (nld Qac _)) (nlc (NLt.of0 nll) nl0)))))))) (Qap (Qck Qaj _) (Qap (Qck Qaq _) (Qap (Qck Qae _) Qbz))))⟩
def Qew (N:Nat) (p0:Int) (p1:GStream) (p2:(List GRow)) (p3:(List GElement)) (p4:Nat) (p5:Nat) (p6:Nat) (p7:(List GStream)) (p8:Int) (p9:(List (List GStream))) (p10:(List GLost)) (p11:(List Int)):Option ((List GStream)×Int×(List GLost)×(List Int)):=
  (getI p3 p0).bind fun x5=>
  (Qjd N p2 x5.Level p1).bind fun x10=>
  chk (decide (0≤p0)&&decide (p0.toNat<p5))<|
  (p10[p0.toNat]?).bind fun x12=>
  chk (decide (0≤p0)&&decide (p0.toNat<p6))<|
  (p11[p0.toNat]?).bind fun x15=>
  chk (decide (0≤p0)&&decide (p0.toNat<p6))<|
  (p11[p0.toNat]?).bind fun _=>
  bif (x5.Amount==0) then
   some ([(⟨x10.1.Steam.Mass,x10.1.Steam.Heat,x10.1.Steam.Silica,x10.1.Steam.Gas⟩:GStream),(⟨x10.1.Water.Mass,x10.1.Water.Heat,x10.1.Water.Silica,x10.1.Water.Gas⟩:GStream)],w64 (p8+x10.1.Steam.Mass),p10.set p0.toNat (⟨x12.Heat,x12.Silica,x12.Gas,x10.1.Scale⟩:GLost),p11.set p0.toNat (w64 (x15+x10.1.Scale)))
  else
   (Qe1 N p0 (⟨x10.1.Water.Mass,x10.1.Water.Heat,x10.1.Water.Silica,x10.1.Water.Gas⟩:GStream) ([w64 (1000 - x5.Amount),x5.Amount]) p2 p3 p4 p5 p6 p7 (w64 (p8+x10.1.Steam.Mass)) p9 (p10.set p0.toNat (⟨x12.Heat,x12.Silica,x12.Gas,x10.1.Scale⟩:GLost)) (p11.set p0.toNat (w64 (x15+x10.1.Scale)))).bind fun x22=>
   (getI x22.1 1).bind fun x23=>
   (Qfq N ([(⟨x10.1.Steam.Mass,x10.1.Steam.Heat,x10.1.Steam.Silica,x10.1.Steam.Gas⟩:GStream),x23])).bind fun x28=>
   (getI x22.1 0).bind fun x29=>
   some ([x28,x29],w64 (p8+x10.1.Steam.Mass),x22.2,p11.set p0.toNat (w64 (x15+x10.1.Scale)))
def Zhu (p1:GStream):AV:=.agg [(I (p1.Mass)),(I (p1.Heat)),(I (p1.Silica)),(I (p1.Gas))]
def Q08 (p2:(List GRow)):AV:=.dat 5 ((p2:List GRow).map Qa0)
def Q5r (p3:(List GElement)):AV:=.dat 7 ((p3:List GElement).map Qad)
def Q8h (p7:(List GStream)):AV:=.dat 4 ((p7:List GStream).map Qaa)
def Q07 (p2:(List GRow)) (p3:(List GElement)) (p4:Nat) (p5:Nat) (p6:Nat) (p7:(List GStream)) (p8:Int):Slot:=.own 7 [[(Q08 p2),(Q5r p3),(.own 1 1 (0) (p4)),(.own 2 4 (0) (p5)),(.own 3 1 (0) (p6)),(Q8h p7),(I (p8))]]
def Qob (p9:(List (List GStream))):Slot:=.own 1 ((p9:List (List GStream)).map Qaf)
def Q8i (p10:(List GLost)):Slot:=.own 4 ((p10:List GLost).map Qaw)
def Qyc (p11:(List Int)):Slot:=.own 1 ((p11:List Int).map Qak)
def Q3m (p10:(List GLost)) (p0:Int) (x12:GLost) (x10:(GParts×Int)):Slot:=.own 4 ((p10.set p0.toNat (⟨x12.Heat,x12.Silica,x12.Gas,x10.1.Scale⟩:GLost):List GLost).map Qaw)
def Qsn (p11:(List Int)) (p0:Int) (x15:Int) (x10:(GParts×Int)):Slot:=.own 1 ((p11.set p0.toNat (w64 (x15+x10.1.Scale)):List Int).map Qak)
def Q3l (x10:(GParts×Int)):AV:=.agg [(I (x10.1.Steam.Mass)),(I (x10.1.Steam.Heat)),(I (x10.1.Steam.Silica)),(I (x10.1.Steam.Gas))]
def Q8g (x10:(GParts×Int)):AV:=.agg [(I (x10.1.Water.Mass)),(I (x10.1.Water.Heat)),(I (x10.1.Water.Silica)),(I (x10.1.Water.Gas))]
def Q3k (x10:(GParts×Int)):AV:=.dat 4 (([(⟨x10.1.Steam.Mass,x10.1.Steam.Heat,x10.1.Steam.Silica,x10.1.Steam.Gas⟩:GStream),(⟨x10.1.Water.Mass,x10.1.Water.Heat,x10.1.Water.Silica,x10.1.Water.Gas⟩:GStream)]:List GStream).map Qaa)
def Qvf (p2:(List GRow)) (p3:(List GElement)) (p4:Nat) (p5:Nat) (p6:Nat) (p7:(List GStream)) (p8:Int) (x10:(GParts×Int)):Slot:=.own 7 [[(Q08 p2),(Q5r p3),(.own 1 1 (0) (p4)),(.own 2 4 (0) (p5)),(.own 3 1 (0) (p6)),(Q8h p7),(I (w64 (p8+x10.1.Steam.Mass)))]]
def Q8f (x5:GElement):AV:=.dat 1 (([w64 (1000 - x5.Amount),x5.Amount]:List Int).map Qak)
def Q3i (x22:((List GStream)×(List GLost))):AV:=.dat 4 ((x22.1:List GStream).map Qaa)
def Q3j (x22:((List GStream)×(List GLost))):Slot:=.own 4 ((x22.2:List GLost).map Qaw)
def Zge (x23:GStream):AV:=.agg [(I (x23.Mass)),(I (x23.Heat)),(I (x23.Silica)),(I (x23.Gas))]
def Q8e (x10:(GParts×Int)) (x23:GStream):AV:=.dat 4 (([(⟨x10.1.Steam.Mass,x10.1.Steam.Heat,x10.1.Steam.Silica,x10.1.Steam.Gas⟩:GStream),x23]:List GStream).map Qaa)
def Q8d (x28:GStream):AV:=.agg [(I (x28.Mass)),(I (x28.Heat)),(I (x28.Silica)),(I (x28.Gas))]
def Zgd (x29:GStream):AV:=.agg [(I (x29.Mass)),(I (x29.Heat)),(I (x29.Silica)),(I (x29.Gas))]
def Q3h (x28:GStream) (x29:GStream):AV:=.dat 4 (([x28,x29]:List GStream).map Qaa)
theorem Qlo (N:Nat) (p0:Int) (p1:GStream) (p2:(List GRow)) (p3:(List GElement)) (p4:Nat) (p5:Nat) (p6:Nat) (p7:(List GStream)) (p8:Int) (p9:(List (List GStream))) (p10:(List GLost)) (p11:(List Int)) (r:((List GStream)×Int×(List GLost)×(List Int))) (h:Qew N p0 p1 p2 p3 p4 p5 p6 p7 p8 p9 p10 p11=some r):Spec Tryz.prog 119 [(.ref 0 7 (0) 0),(I (p0)),(Zhu p1)] [(Q07 p2 p3 p4 p5 p6 p7 p8),(Qob p9),(Q8i p10),(Qyc p11)] (.dat 4 ((r.1:List GStream).map Qaa)) [(.own 7 [[(Q08 p2),(Q5r p3),(.own 1 1 (0) (p4)),(.own 2 4 (0) (p5)),(.own 3 1 (0) (p6)),(Q8h p7),(I (r.2.1))]]),(Qob p9),(.own 4 ((r.2.2.1:List GLost).map Qaw)),(.own 1 ((r.2.2.2:List Int).map Qak))]:=by
  refine Qai Tryz.func119 rfl 4 (nle rfl) (fun X φ0 w0 hφ0 hd0=>?_)
  unfold Qew at h
  refine Qb2 ?_
  refine wxz ?_
  obtain ⟨x5,hg6,h⟩:=bno h
  obtain ⟨hi7,hj8⟩:=gsm hg6
  refine wx tbk [(1,rb [(.tmp 11,.ref 0 7 0 0)] [(0,(Q07 p2 p3 p4 p5 p6 p7 p8))] (.ref 0 7 0 0)),(6,rp [(.tmp 15,(Q5r p3)),(.tmp 16,I p0)] (.dptr (Qad (x5)) 0))] ⟨Qbi rfl,aid rfl Tryz.underlying40 Qj1 rfl rfl hi7 (mgt Qad hj8) rfl,trivial⟩ ?_
  obtain ⟨x10,hf9,h⟩:=bno h
  refine wxd tbk [(1,rb [(.tmp 20,.ref 0 7 0 0)] [(0,(Q07 p2 p3 p4 p5 p6 p7 p8))] (.ref 0 7 0 0)),(8,rp [fu 135,(.tmp 24,(Q08 p2)),(.tmp 26,I x5.Level),(.tmp 27,(Zhu p1))] (.tup [(.agg [I x10.1.Steam.Mass,I x10.1.Steam.Heat,I x10.1.Steam.Silica,I x10.1.Steam.Gas,I x10.1.Water.Mass,I x10.1.Water.Heat,I x10.1.Water.Silica,I x10.1.Water.Gas,I x10.1.Rest,I x10.1.Scale]),I x10.2]))] ⟨Qbi rfl,apc (first:=[]) (cap:=[]) (vs:=[(Q08 p2),I x5.Level,(Zhu p1)]) rfl Zet (Qte N p2 x5.Level p1 _ hf9) rfl rfl (nlc (nld Qal _) (nlc nll (nlc (NLt.agg _ (nlcc (nlcc nl0))) nl0))) (NLt.tup _ (nlc (NLt.agg _ (nlcc (nlcc (nlcc (nlcc (nlcc nl0)))))) (nlc nll nl0))) rfl,trivial⟩ ?_
  obtain ⟨hi11,h⟩:=cko h
  obtain ⟨hi11a,hi11b⟩:=Qdv hi11
  obtain ⟨x12,hg13,h⟩:=bno h
  refine wxd tbk [(1,rb [(.tmp 31,.ref 0 7 0 0)] [(0,(Q07 p2 p3 p4 p5 p6 p7 p8))] (.ref 0 7 0 0)),(8,rb [(.tmp 35,(.own 2 4 (0) (p5))),(.tmp 36,I p0)] [(2,(Q8i p10))] (.ref 2 4 (p0.toNat) 0)),(10,⟨[(.tmp 40,(.ref 2 4 (p0.toNat) 3)),(.tmp 38,I x10.1.Scale)],[(2,(Q8i p10))],.any,[(2,(Q3m p10 p0 x12 x10))],false⟩)] ⟨Qbi rfl,aio rfl Tryz.underlying32 ti82 (odt hi11a) (odt hi11b) (Nat.zero_add _),ast rfl ti3 (by rfl) (mgt Qaw hg13) (nle rfl) (Qgn Qaw rfl),trivial⟩ ?_
  obtain ⟨hi14,h⟩:=cko h
  obtain ⟨hi14a,hi14b⟩:=Qdv hi14
  obtain ⟨x15,hg16,h⟩:=bno h
  obtain ⟨hi17,h⟩:=cko h
  obtain ⟨hi17a,hi17b⟩:=Qdv hi17
  obtain ⟨x18,hg19,h⟩:=bno h
  refine wxd tbk [(1,rb [(.tmp 41,.ref 0 7 0 0)] [(0,(Q07 p2 p3 p4 p5 p6 p7 p8))] (.ref 0 7 0 0)),(6,rb [(.tmp 45,(.own 3 1 (0) (p6))),(.tmp 46,I p0)] [(3,(Qyc p11))] (.ref 3 1 (p0.toNat) 0)),(7,rb [(.tmp 47,(.ref 3 1 (p0.toNat) 0))] [(3,(Qyc p11))] (I x15)),(11,rb [(.tmp 45,(.own 3 1 (0) (p6))),(.tmp 46,I p0)] [(3,(Qyc p11))] (.ref 3 1 (p0.toNat) 0)),(12,⟨[(.tmp 52,(.ref 3 1 (p0.toNat) 0)),(.tmp 51,(I (w64 (x15+x10.1.Scale))))],[(3,(Qyc p11))],.any,[(3,(Qsn p11 p0 x15 x10))],false⟩)] ⟨Qbi rfl,aio rfl Tryz.underlying27 ti3 (odt hi14a) (odt hi14b) (Nat.zero_add _),ald rfl ti3 (by decide) (mgt Qak hg16) (nle rfl) rfl,aio rfl Tryz.underlying27 ti3 (odt hi17a) (odt hi17b) (Nat.zero_add _),ast rfl ti3 (by rfl) (mgt Qak hg19) (nle rfl) (Qgn Qak rfl),trivial⟩ ?_
  refine wxd tbk [(1,rb [(.tmp 53,.ref 0 7 0 0)] [(0,(Q07 p2 p3 p4 p5 p6 p7 p8))] (.ref 0 7 0 0)),(8,rb [(.tmp 53,.ref 0 7 0 0)] [(0,(Q07 p2 p3 p4 p5 p6 p7 p8))] (.ref 0 7 0 0))] ⟨Qbi rfl,Qbi rfl,trivial⟩ ?_
  refine wsq ?_
  refine wxz ?_
  refine bfe h (fun hc20 h=>?_) fun hc20 h=>?_
  ·refine wft hc20 ?_
   refine wx tbk [(4,rp [(.tmp 67,(Q3l x10)),(.tmp 69,(Q8g x10))] (Q3k x10))] ⟨Qbn (vs:=[(Q3l x10),(Q8g x10)]) rfl Tryz.underlying45 ti63 tz63 rfl (by decide) rfl (by decide) (by rfl) (by rfl) (by rfl) rfl,trivial⟩ ?_
   refine wmr (mto (n:=93) (l':=[(6,(Q3k x10))]) (own':=[(.own 7 [[(Q08 p2),(Q5r p3),(.own 1 1 (0) (p4)),(.own 2 4 (0) (p5)),(.own 3 1 (0) (p6)),(Q8h p7),(I ((w64 (p8+x10.1.Steam.Mass))))]]),(Qob p9),(.own 4 (((p10.set p0.toNat (⟨x12.Heat,x12.Silica,x12.Gas,x10.1.Scale⟩:GLost)):List GLost).map Qaw)),(.own 1 (((p11.set p0.toNat (w64 (x15+x10.1.Scale))):List Int).map Qak))]) [(6,(Q3k x10))] [0,1,2,3] [(Qvf p2 p3 p4 p5 p6 p7 p8 x10),(Qob p9),(Q3m p10 p0 x12 x10),(Qsn p11 p0 x15 x10)] hφ0 (pc (rnd Qac) pn) (qc (spb (lc (rnd Qal) (lc (rnd Qab) (lc (.rn (Qa4 rfl)) (lc (.rn (Qa4 rfl)) (lc (.rn (Qa4 rfl)) (lc (rnd Qac) (lc rwl ln)))))))) (qc (spr Qaj) (qc (spr Qaq) (qc (spr Qae) qn))))) ?_
   refine Qag ?_
   refine Qah ?_
   obtain rfl:=osi h
   exact ⟨_,Mor.rfl,Qda (vs:=[(Q3k x10)]) ⟨rot,trivial⟩ rfl (NLt.of0 (nld Qac _)) (by kernel_rfl) (Qap (Qbj (nlc (NLt.of0 (nld Qal _)) (nlc (NLt.of0 (nld Qab _)) (nlc (NLt.own _ _ _ _ (by decide)) (nlc (NLt.own _ _ _ _ (by decide)) (nlc (NLt.own _ _ _ _ (by decide)) (nlc (NLt.of0 (nld Qac _)) (nlc (NLt.of0 nll) nl0)))))))) (Qap (Qck Qaj _) (Qap (Qck Qaq _) (Qap (Qck Qae _) Qbz))))⟩
  ·refine wfn hc20 ?_
   refine Qan ?_
   refine thn ?_
   obtain ⟨x22,hf21,h⟩:=bno h
   refine wx tbk [(9,rp [(.tmp 77,(I (w64 (1000 - x5.Amount)))),(.tmp 79,I x5.Amount)] (Q8f x5)),(10,⟨[fu 136,(.tmp 71,.ref 0 7 0 0),(.tmp 72,I p0),(.tmp 74,(Q8g x10)),(.tmp 80,(Q8f x5))],[(0,(Qvf p2 p3 p4 p5 p6 p7 p8 x10)),(1,(Qob p9)),(2,(Q3m p10 p0 x12 x10)),(3,(Qsn p11 p0 x15 x10))],(Q3i x22),[(0,(Qvf p2 p3 p4 p5 p6 p7 p8 x10)),(1,(Qob p9)),(2,(Q3j x22)),(3,(Qsn p11 p0 x15 x10))],false⟩)] ⟨Qbn (vs:=[(I (w64 (1000 - x5.Amount))),I x5.Amount]) rfl Tryz.underlying27 ti3 tz3 rfl (by decide) rfl (by decide) (by rfl) (by rfl) (by rfl) rfl,Qau (first:=[]) (cap:=[]) (vs:=[.ref 0 7 0 0,I p0,(.agg [(I ((⟨x10.1.Water.Mass,x10.1.Water.Heat,x10.1.Water.Silica,x10.1.Water.Gas⟩:GStream).Mass)),(I ((⟨x10.1.Water.Mass,x10.1.Water.Heat,x10.1.Water.Silica,x10.1.Water.Gas⟩:GStream).Heat)),(I ((⟨x10.1.Water.Mass,x10.1.Water.Heat,x10.1.Water.Silica,x10.1.Water.Gas⟩:GStream).Silica)),(I ((⟨x10.1.Water.Mass,x10.1.Water.Heat,x10.1.Water.Silica,x10.1.Water.Gas⟩:GStream).Gas))]),(Q8f x5)]) (σr:=[(Qvf p2 p3 p4 p5 p6 p7 p8 x10),(Qob p9),(Q3m p10 p0 x12 x10),(Qsn p11 p0 x15 x10)]) (σr':=[(Qvf p2 p3 p4 p5 p6 p7 p8 x10),(Qob p9),(Q3j x22),(Qsn p11 p0 x15 x10)]) (res':=(Q3i x22)) [0,1,2,3] rfl Q44 (Qjr N p0 (⟨x10.1.Water.Mass,x10.1.Water.Heat,x10.1.Water.Silica,x10.1.Water.Gas⟩:GStream) ([w64 (1000 - x5.Amount),x5.Amount]) p2 p3 p4 p5 p6 p7 (w64 (p8+x10.1.Steam.Mass)) p9 (p10.set p0.toNat (⟨x12.Heat,x12.Silica,x12.Gas,x10.1.Scale⟩:GLost)) (p11.set p0.toNat (w64 (x15+x10.1.Scale))) _ hf21) rfl (Qbx (rnc (Qbo rfl) (rnc (.plain _ nll) (rnc (.plain _ (NLt.agg _ (nlcc (nlcc nl0)))) (rnc (pld Qae) rn0))))) (slc (Qar (rnc (pld Qal) (rnc (pld Qab) (rnc (Qc5 rfl) (rnc (Qc5 rfl) (rnc (Qc5 rfl) (rnc (pld Qac) (rnc (.plain _ nll) rn0)))))))) (slc (Qbd Qaj) (slc (Qbd Qaq) (slc (Qbd Qae) Qat)))) (slc (Qar (rnc (pld Qal) (rnc (pld Qab) (rnc (Qdb rfl) (rnc (Qdb rfl) (rnc (Qdb rfl) (rnc (pld Qac) (rnc (.plain _ nll) rn0)))))))) (slc (Qbd Qaj) (slc (Qbd Qaq) (slc (Qbd Qae) Qat)))) (pld Qac) rfl rfl rfl,trivial⟩ ?_
   obtain ⟨x23,hg24,h⟩:=bno h
   obtain ⟨hi25,hj26⟩:=gsm hg24
   obtain ⟨x28,hf27,h⟩:=bno h
   obtain ⟨x29,hg30,h⟩:=bno h
   obtain ⟨hi31,hj32⟩:=gsm hg30
   refine wxd tbk [(3,rp [(.tmp 84,(Q3i x22)),ci 1] (.dptr (Qaa (x23)) 0)),(5,rp [(.tmp 83,(Q3l x10)),(.tmp 86,(Zge x23))] (Q8e x10 x23)),(6,rp [fu 76,(.tmp 87,(Q8e x10 x23))] (Q8d x28)),(8,rp [(.tmp 89,(Q3i x22)),ci 0] (.dptr (Qaa (x29)) 0)),(10,rp [(.tmp 88,(Q8d x28)),(.tmp 91,(Zgd x29))] (Q3h x28 x29))] ⟨aid rfl Tryz.underlying45 ti63 rfl rfl hi25 (mgt Qaa hj26) rfl,Qbn (vs:=[(Q3l x10),(Zge x23)]) rfl Tryz.underlying45 ti63 tz63 rfl (by decide) rfl (by decide) (by rfl) (by rfl) (by rfl) rfl,apc (first:=[]) (cap:=[]) (vs:=[(Q8e x10 x23)]) rfl Q2j (Qlf N ([(⟨x10.1.Steam.Mass,x10.1.Steam.Heat,x10.1.Steam.Silica,x10.1.Steam.Gas⟩:GStream),x23]) _ hf27) rfl rfl (nlc (nld Qac _) nl0) (NLt.agg _ (nlcc (nlcc nl0))) rfl,aid rfl Tryz.underlying45 ti63 rfl rfl hi31 (mgt Qaa hj32) rfl,Qbn (vs:=[(Q8d x28),(Zgd x29)]) rfl Tryz.underlying45 ti63 tz63 rfl (by decide) rfl (by decide) (by rfl) (by rfl) (by rfl) rfl,trivial⟩ ?_
   refine wmr (mto (n:=93) (l':=[(6,(Q3h x28 x29))]) (own':=[(.own 7 [[(Q08 p2),(Q5r p3),(.own 1 1 (0) (p4)),(.own 2 4 (0) (p5)),(.own 3 1 (0) (p6)),(Q8h p7),(I ((w64 (p8+x10.1.Steam.Mass))))]]),(Qob p9),(Q3j x22),(.own 1 (((p11.set p0.toNat (w64 (x15+x10.1.Scale))):List Int).map Qak))]) [(6,(Q3h x28 x29))] [0,1,2,3] [(Qvf p2 p3 p4 p5 p6 p7 p8 x10),(Qob p9),(Q3j x22),(Qsn p11 p0 x15 x10)] hφ0 (pc (rnd Qac) pn) (qc (spb (lc (rnd Qal) (lc (rnd Qab) (lc (.rn (Qa4 rfl)) (lc (.rn (Qa4 rfl)) (lc (.rn (Qa4 rfl)) (lc (rnd Qac) (lc rwl ln)))))))) (qc (spr Qaj) (qc (spr Qaq) (qc (spr Qae) qn))))) ?_
   refine Qag ?_
   obtain rfl:=osi h
   exact ⟨_,Mor.rfl,Qda (vs:=[(Q3h x28 x29)]) ⟨rot,trivial⟩ rfl (NLt.of0 (nld Qac _)) (by kernel_rfl) (Qap (Qbj (nlc (NLt.of0 (nld Qal _)) (nlc (NLt.of0 (nld Qab _)) (nlc (NLt.own _ _ _ _ (by decide)) (nlc (NLt.own _ _ _ _ (by decide)) (nlc (NLt.own _ _ _ _ (by decide)) (nlc (NLt.of0 (nld Qac _)) (nlc (NLt.of0 nll) nl0)))))))) (Qap (Qck Qaj _) (Qap (Qck Qaq _) (Qap (Qck Qae _) Qbz))))⟩
def Qg8 (N:Nat) (p0:Int) (p1:GStream) (p2:(List GRow)) (p3:(List GElement)) (p4:Nat) (p5:Nat) (p6:Nat) (p7:(List GStream)) (p8:Int) (p9:(List (List GStream))) (p10:(List GLost)) (p11:(List Int)):Option ((List GStream)×(List GLost)):=
  (getI p3 p0).bind fun x3=>
  (Qe1 N p0 p1 x3.Weights p2 p3 p4 p5 p6 p7 p8 p9 p10 p11).bind fun x8=>
  some (x8.1,x8.2)
def Zhp (p1:GStream):AV:=.agg [(I (p1.Mass)),(I (p1.Heat)),(I (p1.Silica)),(I (p1.Gas))]
def Qwm (p2:(List GRow)) (p3:(List GElement)) (p4:Nat) (p5:Nat) (p6:Nat) (p7:(List GStream)) (p8:Int):Slot:=.own 7 [[(.dat 5 ((p2:List GRow).map Qa0)),(.dat 7 ((p3:List GElement).map Qad)),(.own 1 1 (0) (p4)),(.own 2 4 (0) (p5)),(.own 3 1 (0) (p6)),(.dat 4 ((p7:List GStream).map Qaa)),(I (p8))]]
def Qya (p9:(List (List GStream))):Slot:=.own 1 ((p9:List (List GStream)).map Qaf)
def Zho (p10:(List GLost)):Slot:=.own 4 ((p10:List GLost).map Qaw)
def Qx9 (p11:(List Int)):Slot:=.own 1 ((p11:List Int).map Qak)
def Qyb (x8:((List GStream)×(List GLost))):AV:=.dat 4 ((x8.1:List GStream).map Qaa)
def Q3d (x8:((List GStream)×(List GLost))):Slot:=.own 4 ((x8.2:List GLost).map Qaw)
theorem Qne (N:Nat) (p0:Int) (p1:GStream) (p2:(List GRow)) (p3:(List GElement)) (p4:Nat) (p5:Nat) (p6:Nat) (p7:(List GStream)) (p8:Int) (p9:(List (List GStream))) (p10:(List GLost)) (p11:(List Int)) (r:((List GStream)×(List GLost))) (h:Qg8 N p0 p1 p2 p3 p4 p5 p6 p7 p8 p9 p10 p11=some r):Spec Tryz.prog 120 [(.ref 0 7 (0) 0),(I (p0)),(Zhp p1)] [(Qwm p2 p3 p4 p5 p6 p7 p8),(Qya p9),(Zho p10),(Qx9 p11)] (.dat 4 ((r.1:List GStream).map Qaa)) [(Qwm p2 p3 p4 p5 p6 p7 p8),(Qya p9),(.own 4 ((r.2:List GLost).map Qaw)),(Qx9 p11)]:=by
  refine Qai Tryz.func120 rfl 4 (nle rfl) (fun X φ0 w0 hφ0 hd0=>?_)
  unfold Qg8 at h
  refine Qb2 ?_
  refine wxz ?_
  obtain ⟨x3,hg4,h⟩:=bno h
  obtain ⟨hi5,hj6⟩:=gsm hg4
  obtain ⟨x8,hf7,h⟩:=bno h
  refine wxd tbk [(4,rb [(.tmp 10,.ref 0 7 0 0)] [(0,(Qwm p2 p3 p4 p5 p6 p7 p8))] (.ref 0 7 0 0)),(9,rp [(.tmp 14,(.dat 7 ((p3:List GElement).map Qad))),(.tmp 15,I p0)] (.dptr (Qad (x3)) 0)),(12,⟨[fu 136,(.tmp 7,.ref 0 7 0 0),(.tmp 8,I p0),(.tmp 9,(Zhp p1)),(.tmp 18,(.dat 1 ((x3.Weights:List Int).map Qak)))],[(0,(Qwm p2 p3 p4 p5 p6 p7 p8)),(1,(Qya p9)),(2,(Zho p10)),(3,(Qx9 p11))],(Qyb x8),[(0,(Qwm p2 p3 p4 p5 p6 p7 p8)),(1,(Qya p9)),(2,(Q3d x8)),(3,(Qx9 p11))],false⟩)] ⟨Qbi rfl,aid rfl Tryz.underlying40 Qj1 rfl rfl hi5 (mgt Qad hj6) rfl,Qau (first:=[]) (cap:=[]) (vs:=[.ref 0 7 0 0,I p0,(Zhp p1),(.dat 1 ((x3.Weights:List Int).map Qak))]) (σr:=[(Qwm p2 p3 p4 p5 p6 p7 p8),(Qya p9),(Zho p10),(Qx9 p11)]) (σr':=[(Qwm p2 p3 p4 p5 p6 p7 p8),(Qya p9),(Q3d x8),(Qx9 p11)]) (res':=(Qyb x8)) [0,1,2,3] rfl Q44 (Qjr N p0 p1 x3.Weights p2 p3 p4 p5 p6 p7 p8 p9 p10 p11 _ hf7) rfl (Qbx (rnc (Qbo rfl) (rnc (.plain _ nll) (rnc (.plain _ (NLt.agg _ (nlcc (nlcc nl0)))) (rnc (pld Qae) rn0))))) (slc (Qar (rnc (pld Qal) (rnc (pld Qab) (rnc (Qc5 rfl) (rnc (Qc5 rfl) (rnc (Qc5 rfl) (rnc (pld Qac) (rnc (.plain _ nll) rn0)))))))) (slc (Qbd Qaj) (slc (Qbd Qaq) (slc (Qbd Qae) Qat)))) (slc (Qar (rnc (pld Qal) (rnc (pld Qab) (rnc (Qdb rfl) (rnc (Qdb rfl) (rnc (Qdb rfl) (rnc (pld Qac) (rnc (.plain _ nll) rn0)))))))) (slc (Qbd Qaj) (slc (Qbd Qaq) (slc (Qbd Qae) Qat)))) (pld Qac) rfl rfl rfl,trivial⟩ ?_
  refine wmr (mto (n:=20) (l':=[(6,(Qyb x8))]) (own':=[(Qwm p2 p3 p4 p5 p6 p7 p8),(Qya p9),(Q3d x8),(Qx9 p11)]) [(6,(Qyb x8))] [0,1,2,3] [(Qwm p2 p3 p4 p5 p6 p7 p8),(Qya p9),(Q3d x8),(Qx9 p11)] hφ0 (pc (rnd Qac) pn) (qc (spb (lc (rnd Qal) (lc (rnd Qab) (lc (.rn (Qa4 rfl)) (lc (.rn (Qa4 rfl)) (lc (.rn (Qa4 rfl)) (lc (rnd Qac) (lc rwl ln)))))))) (qc (spr Qaj) (qc (spr Qaq) (qc (spr Qae) qn))))) ?_
  refine Qag ?_
  obtain rfl:=osi h
  exact ⟨_,Mor.rfl,Qda (vs:=[(Qyb x8)]) ⟨rot,trivial⟩ rfl (NLt.of0 (nld Qac _)) (by kernel_rfl) (Qap (Qbj (nlc (NLt.of0 (nld Qal _)) (nlc (NLt.of0 (nld Qab _)) (nlc (NLt.own _ _ _ _ (by decide)) (nlc (NLt.own _ _ _ _ (by decide)) (nlc (NLt.own _ _ _ _ (by decide)) (nlc (NLt.of0 (nld Qac _)) (nlc (NLt.of0 nll) nl0)))))))) (Qap (Qck Qaj _) (Qap (Qck Qaq _) (Qap (Qck Qae _) Qbz))))⟩
def Qct (N:Nat) (p0:Int) (p1:Int) (p2:(List GRow)) (p3:(List GElement)) (p4:Nat) (p5:Nat) (p6:Nat) (p7:(List GStream)) (p8:Int) (p9:(List (List GStream))) (p10:(List GLost)) (p11:(List Int)):Option ((Int×(List (List GStream))×(List GLost)×(List Int))⊕Int):=
  (Qgq N p0 p2 p3 p4 p5 p6 p7 p8 p9 p10 p11).bind fun _=>
  chk (decide (p4≤p9.length))<|
  chk (decide (p5≤p10.length))<|
  chk (decide (p6≤p11.length))<|
  (Qb0 N p2 p3 (p9.take p4) (p10.take p5) (p11.take p6) p7 p8 p0).bind fun x12=>
  (Qfq N x12).bind fun x14=>
  Qbf (fun _=>
    (getI p3 p0).bind fun x16=>
    bif (x16.Kind==0) then
     none
    else
     bif (x16.Kind==1) then
      (Qfh N p0 x14 p2 p3 p4 p5 p6 p7 p8 p9 p10 p11).bind fun x23=>
      chk (decide (0≤p0)&&decide (p0.toNat<p4))<|
      (p9[p0.toNat]?).bind fun _=>
      some (.inl (p8,p9.set p0.toNat x23,p10,p11))
     else
      bif (x16.Kind==2) then
       (Qfh N p0 x14 p2 p3 p4 p5 p6 p7 p8 p9 p10 p11).bind fun x29=>
       chk (decide (0≤p0)&&decide (p0.toNat<p4))<|
       (p9[p0.toNat]?).bind fun _=>
       some (.inl (p8,p9.set p0.toNat x29,p10,p11))
      else
       bif (x16.Kind==3) then
        (Qhk N p0 x14 p2 p3 p4 p5 p6 p7 p8 p9 p10 p11).bind fun x35=>
        chk (decide (0≤p0)&&decide (p0.toNat<p4))<|
        (p9[p0.toNat]?).bind fun _=>
        some (.inl (p8,p9.set p0.toNat x35.1,x35.2,p11))
       else
        bif (x16.Kind==4) then
         (Qew N p0 x14 p2 p3 p4 p5 p6 p7 p8 p9 p10 p11).bind fun x41=>
         chk (decide (0≤p0)&&decide (p0.toNat<p4))<|
         (p9[p0.toNat]?).bind fun _=>
         some (.inl (x41.2.1,p9.set p0.toNat x41.1,x41.2.2.1,x41.2.2.2))
        else
         bif (x16.Kind==5) then
          (Qg8 N p0 x14 p2 p3 p4 p5 p6 p7 p8 p9 p10 p11).bind fun x47=>
          chk (decide (0≤p0)&&decide (p0.toNat<p4))<|
          (p9[p0.toNat]?).bind fun _=>
          some (.inl (p8,p9.set p0.toNat x47.1,x47.2,p11))
         else
          bif (x16.Kind==6) then
           (Qfh N p0 x14 p2 p3 p4 p5 p6 p7 p8 p9 p10 p11).bind fun x53=>
           chk (decide (0≤p0)&&decide (p0.toNat<p4))<|
           (p9[p0.toNat]?).bind fun _=>
           some (.inl (p8,p9.set p0.toNat x53,p10,p11))
          else
           none) fun k15:Unit→Option ((Int×(List (List GStream))×(List GLost)×(List Int))⊕Int)=>
  bif (decide (x14.Mass>p1)) then
   some (.inr p0)
  else
   k15 ()
def Qsp (p2:(List GRow)):AV:=.dat 5 ((p2:List GRow).map Qa0)
def Qkj (p3:(List GElement)):AV:=.dat 7 ((p3:List GElement).map Qad)
def Qso (p7:(List GStream)):AV:=.dat 4 ((p7:List GStream).map Qaa)
def Qgi (p2:(List GRow)) (p3:(List GElement)) (p4:Nat) (p5:Nat) (p6:Nat) (p7:(List GStream)) (p8:Int):Slot:=.own 7 [[(Qsp p2),(Qkj p3),(.own 1 1 (0) (p4)),(.own 2 4 (0) (p5)),(.own 3 1 (0) (p6)),(Qso p7),(I (p8))]]
def Qfv (p9:(List (List GStream))):Slot:=.own 1 ((p9:List (List GStream)).map Qaf)
def Qhh (p10:(List GLost)):Slot:=.own 4 ((p10:List GLost).map Qaw)
def Qgh (p11:(List Int)):Slot:=.own 1 ((p11:List Int).map Qak)
def Zh0:AV:=.fn (.func 133) [] [(.ref 4 1 (0) 0),(.ref 5 1 (0) 0)]
def Zh1:Slot:=.own 1 [[(.ref 0 7 (0) 0)]]
def Q8p (x12:(List GStream)):AV:=.acc 6 63 4 ((x12:List GStream).map Qaa)
def Qh7 (x14:GStream):AV:=.agg [(I (x14.Mass)),(I (x14.Heat)),(I (x14.Silica)),(I (x14.Gas))]
def Qrk (x14:GStream):Slot:=.own 4 [[(I (x14.Mass)),(I (x14.Heat)),(I (x14.Silica)),(I (x14.Gas))]]
def Qmk:Slot:=.own 7 [[(.lit .nilFunc),(.fn (.func 117) [] []),(.fn (.func 117) [] []),(.fn (.func 118) [] []),(.fn (.func 119) [] []),(.fn (.func 120) [] []),(.fn (.func 117) [] [])]]
def Q8o (x23:(List GStream)):AV:=.dat 4 ((x23:List GStream).map Qaa)
def Q8n (x29:(List GStream)):AV:=.dat 4 ((x29:List GStream).map Qaa)
def Q3w (x35:((List GStream)×(List GLost))):Slot:=.own 4 ((x35.2:List GLost).map Qaw)
def Q3v (p2:(List GRow)) (p3:(List GElement)) (p4:Nat) (p5:Nat) (p6:Nat) (p7:(List GStream)) (x41:((List GStream)×Int×(List GLost)×(List Int))):Slot:=.own 7 [[(Qsp p2),(Qkj p3),(.own 1 1 (0) (p4)),(.own 2 4 (0) (p5)),(.own 3 1 (0) (p6)),(Qso p7),(I (x41.2.1))]]
def Q3u (x41:((List GStream)×Int×(List GLost)×(List Int))):Slot:=.own 4 ((x41.2.2.1:List GLost).map Qaw)
def Q3t (x41:((List GStream)×Int×(List GLost)×(List Int))):Slot:=.own 1 ((x41.2.2.2:List Int).map Qak)
def Q3s (x47:((List GStream)×(List GLost))):Slot:=.own 4 ((x47.2:List GLost).map Qaw)
def Q8m (x53:(List GStream)):AV:=.dat 4 ((x53:List GStream).map Qaa)
theorem Qik (N:Nat) (p0:Int) (p1:Int) (p2:(List GRow)) (p3:(List GElement)) (p4:Nat) (p5:Nat) (p6:Nat) (p7:(List GStream)) (p8:Int) (p9:(List (List GStream))) (p10:(List GLost)) (p11:(List Int)) (r:((Int×(List (List GStream))×(List GLost)×(List Int))⊕Int)) (h:Qct N p0 p1 p2 p3 p4 p5 p6 p7 p8 p9 p10 p11=some r):Zmz Tryz.prog 97 [(.ref 0 7 (0) 0),(I (p0)),(I (p1))] [(Qgi p2 p3 p4 p5 p6 p7 p8),(Qfv p9),(Qhh p10),(Qgh p11)]  ((Sum.elim (fun r=>.ret (.tup []) [(.own 7 [[(.dat 5 ((p2:List GRow).map Qa0)),(.dat 7 ((p3:List GElement).map Qad)),(.own 1 1 (0) (p4)),(.own 2 4 (0) (p5)),(.own 3 1 (0) (p6)),(.dat 4 ((p7:List GStream).map Qaa)),(I (r.1))]]),(.own 1 ((r.2.1:List (List GStream)).map Qaf)),(.own 4 ((r.2.2.1:List GLost).map Qaw)),(.own 1 ((r.2.2.2:List Int).map Qak))]) (fun r=>.pan (.iface 182 (.agg #[(.int .i64 (r))]))):((Int×(List (List GStream))×(List GLost)×(List Int))⊕Int)→Out) r):=by
  refine Qza Tryz.func97 rfl 4 (nle rfl) (fun X φ0 w0 hφ0 hd0=>?_)
  unfold Qct at h
  obtain ⟨x7,hf6,h⟩:=bno h
  obtain ⟨hz8,h⟩:=cko h
  obtain ⟨hz9,h⟩:=cko h
  obtain ⟨hz10,h⟩:=cko h
  obtain ⟨x12,hf11,h⟩:=bno h
  obtain ⟨x14,hf13,h⟩:=bno h
  refine wx tbk [(2,⟨[fu 116,(.tmp 8,.ref 0 7 0 0),(.tmp 9,I p0)],[(0,(Qgi p2 p3 p4 p5 p6 p7 p8)),(1,(Qfv p9)),(2,(Qhh p10)),(3,(Qgh p11)),(4,.unused),(5,.unused)],Zh0,[(0,(Qgi p2 p3 p4 p5 p6 p7 p8)),(1,(Qfv p9)),(2,(Qhh p10)),(3,(Qgh p11)),(4,Zh1),(5,.own 1 [[I p0]])],false⟩),(3,⟨[fu 115,(.tmp 10,Zh0)],[(4,Zh1),(0,(Qgi p2 p3 p4 p5 p6 p7 p8)),(1,(Qfv p9)),(2,(Qhh p10)),(3,(Qgh p11)),(5,.own 1 [[I p0]]),(6,.unused)],(Q8p x12),[(6,.tok)],false⟩),(4,rp [fu 76,(.tmp 11,(Q8p x12))] (Qh7 x14))] ⟨Qau (first:=[]) (cap:=[]) (vs:=[.ref 0 7 0 0,I p0]) (σr:=[(Qgi p2 p3 p4 p5 p6 p7 p8),(Qfv p9),(Qhh p10),(Qgh p11)]) (σr':=[(Qgi p2 p3 p4 p5 p6 p7 p8),(Qfv p9),(Qhh p10),(Qgh p11),Zh1,(.own 1 [[I p0]])]) (res':=Zh0) [0,1,2,3,4,5] rfl Ze6 (Qn6 N p0 p2 p3 p4 p5 p6 p7 p8 p9 p10 p11 _ hf6) rfl (Qbx (rnc (Qbo rfl) (rnc (.plain _ nll) rn0))) (slc (Qar (rnc (pld Qal) (rnc (pld Qab) (rnc (Qc5 rfl) (rnc (Qc5 rfl) (rnc (Qc5 rfl) (rnc (pld Qac) (rnc (.plain _ nll) rn0)))))))) (slc (Qbd Qaj) (slc (Qbd Qaq) (slc (Qbd Qae) Qat)))) (slc (Qar (rnc (pld Qal) (rnc (pld Qab) (rnc (Qdb rfl) (rnc (Qdb rfl) (rnc (Qdb rfl) (rnc (pld Qac) (rnc (.plain _ nll) rn0)))))))) (slc (Qbd Qaj) (slc (Qbd Qaq) (slc (Qbd Qae) (slc (Qar (rnc (Qbt rfl) rn0)) (slc (Qar (rnc (.plain _ nll) rn0)) Qat)))))) (Qbr rn0 (rnc (Qbt rfl) (rnc (Qbt rfl) rn0))) rfl rfl rfl,Qhl (rd':=[fu 115,(.tmp 10,(.fn (.func 133) [] [(.dptr [(.dptr [(Qsp p2),(Qkj p3),(.dat 1 ((p9.take p4:List (List GStream)).map Qaf)),(.dat 4 ((p10.take p5:List GLost).map Qaw)),(.dat 1 ((p11.take p6:List Int).map Qak)),(Qso p7),I p8] 0)] 0),(.dptr [I p0] 0)]))]) [(4,1,[[.ref 0 7 0 0]]),(0,7,[[(Qsp p2),(Qkj p3),(.own 1 1 (0) (p4)),(.own 2 4 (0) (p5)),(.own 3 1 (0) (p6)),(Qso p7),I p8]]),(1,1,(p9:List (List GStream)).map Qaf),(2,4,(p10:List GLost).map Qaw),(3,1,(p11:List Int).map Qak),(5,1,[[I p0]])] ⟨rfl,.same _,rfl,(Zfh trivial ⟨(Qp9 0 rfl (lc (Qp9 1 rfl (lc (.same _) (lc (.same _) (lc (Qug 2 rfl hz8) (lc (Qug 3 rfl hz9) (lc (Qug 4 rfl hz10) (lc (.same _) (lc (.same _) ln)))))))) ln)),(Qp9 5 rfl (lc (.same _) ln)),trivial⟩),trivial⟩ (by rfl) (.acc _ _ _ _ (nin rfl) (by simp) (Qxf Qt2 _)) (Qps .tok Qqw) (Qau (first:=[]) (cap:=[]) (vs:=[(.fn (.func 133) [] [(.dptr [(.dptr [(Qsp p2),(Qkj p3),(.dat 1 ((p9.take p4:List (List GStream)).map Qaf)),(.dat 4 ((p10.take p5:List GLost).map Qaw)),(.dat 1 ((p11.take p6:List Int).map Qak)),(Qso p7),I p8] 0)] 0),(.dptr [I p0] 0)])]) (σr:=[]) (σr':=[.tok]) (res':=(Q8p x12)) [6] rfl Ze7 (Qig N p2 p3 (p9.take p4) (p10.take p5) (p11.take p6) p7 p8 p0 _ hf11) rfl (Qbx (rnc (.plain _ (NLt.fn _ _ _ nl0 (nlc (NLt.dptr _ _ (nlc (NLt.dptr _ _ (nlc (nld Qal _) (nlc (nld Qab _) (nlc (nld Qaj _) (nlc (nld Qaq _) (nlc (nld Qae _) (nlc (nld Qac _) (nlc nll nl0)))))))) nl0)) (nlc (NLt.dptr _ _ (nlc nll nl0)) nl0)))) rn0)) Qat (slc .tok Qat) (Q9u rfl (Qa1 Qac _)) rfl rfl rfl),awk (rd':=(.func 76,(.fn (.func 76) [] []))::[(.tmp 11,(.dat 4 ((x12:List GStream).map Qaa)))]) ⟨rfl,lrf,rfl,Less.acc,trivial⟩ (apc (first:=[]) (cap:=[]) (vs:=[(.dat 4 ((x12:List GStream).map Qaa))]) rfl Q2j (Qlf N x12 _ hf13) rfl rfl (nlc (nld Qac _) nl0) (NLt.agg _ (nlcc (nlcc nl0))) rfl),trivial⟩ ?_
  obtain ⟨k15,hk_k15,h⟩:=jko h
  refine wjn (τ:=Unit) (fun t=>k15 t=some r) (fun _=>⟨mk 43 [(0,.ref 0 7 0 0),(1,I p0),(6,.ref 4 4 0 0)],[(Qgi p2 p3 p4 p5 p6 p7 p8),(Qfv p9),(Qhh p10),(Qgh p11),(Qrk x14)]⟩) (fun t h=>?_) ?_
  ·subst hk_k15
   refine wx tbk [(0,rp [fu 117,fu 117,fu 118,fu 119,fu 120,fu 117] (.agg [(.lit .nilFunc),(.fn (.func 117) [] []),(.fn (.func 117) [] []),(.fn (.func 118) [] []),(.fn (.func 119) [] []),(.fn (.func 120) [] []),(.fn (.func 117) [] [])]))] ⟨Qrw (vs:=[(.fn (.func 117) [] []),(.fn (.func 117) [] []),(.fn (.func 118) [] []),(.fn (.func 119) [] []),(.fn (.func 120) [] []),(.fn (.func 117) [] [])]) rfl Tryz.underlying209 Qpm Zl5 rfl (by rfl) rfl,trivial⟩ ?_
   obtain ⟨x16,hg17,h⟩:=bno h
   obtain ⟨hi18,hj19⟩:=gsm hg17
   refine bfe h (fun hb20 h=>?_) fun hb20 h=>?_
   ·cases h
   ·refine bfe h (fun hb21 h=>?_) fun hb21 h=>?_
    ·obtain ⟨x23,hf22,h⟩:=bno h
     obtain ⟨hi24,h⟩:=cko h
     obtain ⟨hi24a,hi24b⟩:=Qdv hi24
     obtain ⟨x25,hg26,h⟩:=bno h
     refine Qly 0 (.own 7 [[(Qsp p2),(Qkj p3),(.own 1 1 (0) (p4)),(.own 2 4 (0) (p5)),(.own 3 1 (0) (p6)),(Qso p7),I p8]]) [mv 0 (.ref 0 7 0 0),⟨[(.tmp 21,.ref 0 7 0 0)],[],.ref 0 7 0 0,[],false⟩,⟨[(.tmp 22,.ref 0 7 0 0)],[],.ref 0 7 0 2,[],false⟩,⟨[(.tmp 23,.ref 0 7 0 2)],[],.ref 0 7 0 2,[],false⟩,⟨[(.tmp 24,.ref 0 7 0 2)],[],(.own 1 1 (0) (p4)),[],false⟩,mv 1 (I p0),mv 0 (.ref 0 7 0 0),⟨[(.tmp 27,.ref 0 7 0 0)],[],.ref 0 7 0 0,[],false⟩,⟨[(.tmp 28,.ref 0 7 0 0)],[],.ref 0 7 0 0,[],false⟩,⟨[(.tmp 29,.ref 0 7 0 0)],[],.ref 0 7 0 1,[],false⟩,⟨[(.tmp 30,.ref 0 7 0 1)],[],(Qkj p3),[],false⟩,mv 1 (I p0),rp [(.tmp 31,(Qkj p3)),(.tmp 32,I p0)] (.dptr (Qad (x16)) 0),mv 33 (.dptr (Qad (x16)) 0),rp [(.tmp 34,(.dptr (Qad (x16)) 0))] (K .u8 (x16.Kind)),rb [(.tmp 7,.ref 5 7 0 0),(.tmp 35,(K .u8 (x16.Kind)))] [(5,Qmk)] (.ref 5 7 0 1),rb [(.tmp 36,.ref 5 7 0 1)] [(5,Qmk)] (.fn (.func 117) [] []),mv 0 (.ref 0 7 0 0),mv 1 (I p0),rb [(.tmp 6,.ref 4 4 0 0)] [(4,(Qrk x14))] (Qh7 x14),⟨[(.tmp 37,(.fn (.func 117) [] [])),(.tmp 38,.ref 0 7 0 0),(.tmp 39,I p0),(.tmp 40,(Qh7 x14))],[(0,(Qgi p2 p3 p4 p5 p6 p7 p8)),(1,(Qfv p9)),(2,(Qhh p10)),(3,(Qgh p11))],(Q8o x23),[(0,(Qgi p2 p3 p4 p5 p6 p7 p8)),(1,(Qfv p9)),(2,(Qhh p10)),(3,(Qgh p11))],false⟩,rb [(.tmp 25,(.own 1 1 (0) (p4))),(.tmp 26,I p0)] [(1,(Qfv p9))] (.ref 1 1 (p0.toNat) 0),⟨[(.tmp 42,(.ref 1 1 (p0.toNat) 0)),(.tmp 41,(Q8o x23))],[(1,(Qfv p9))],.any,[(1,(.own 1 ((p9.set p0.toNat x23:List (List GStream)).map Qaf)))],false⟩] (SImp.box ⟨lrf,lrf,lrf,lrf,lrf,lrf,lrf,trivial⟩) ⟨trivial,trivial,trivial,trivial,trivial,trivial,trivial,trivial,trivial,trivial,trivial,trivial,trivial,trivial,trivial,trivial,trivial,trivial,trivial,trivial,⟨(SImp.box ⟨lrf,lrf,lrf,lrf,lrf,lrf,lrf,trivial⟩),trivial,trivial,trivial,trivial⟩,trivial,⟨trivial,trivial⟩,trivial⟩ ?_ ?_
     ·exact ⟨hr_ (amv rfl),sf_ (Qbi rfl),sf_ (afa rfl Tryz.underlying140 rfl rfl ti34 (by decide) rfl),sf_ (afa rfl Tryz.underlying34 rfl rfl ti31 (by decide) rfl),sf_ (ald rfl ti31 (by decide) rfl (nle rfl) rfl),hr_ (amv rfl),hr_ (amv rfl),sf_ (Qbi rfl),sf_ (afa rfl Tryz.underlying140 rfl rfl ti42 (by decide) rfl),sf_ (afa rfl Tryz.underlying42 rfl rfl ti40 (by decide) rfl),sf_ (ald rfl ti40 (by decide) rfl (nle rfl) rfl),hr_ (amv rfl),hr_ (aid rfl Tryz.underlying40 Qj1 rfl rfl hi18 (mgt Qad hj19) rfl),hr_ (afd rfl Tryz.underlying133 rfl rfl ti5 (by decide) rfl),hr_ (ald_ rfl ti5 (by decide) (nle rfl) rfl),hr_ (Qkh hb21 (Qki rfl Tryz.underlying209 Qpm (by decide) (by decide) rfl)),hr_ (ald rfl Qpm (by decide) rfl (nle rfl) rfl),hr_ (amv rfl),hr_ (amv rfl),hr_ (ald rfl ti63 (by decide) rfl (nle rfl) rfl),hr_ (Qau (first:=[]) (cap:=[]) (vs:=[.ref 0 7 0 0,I p0,(Qh7 x14)]) (σr:=[(Qgi p2 p3 p4 p5 p6 p7 p8),(Qfv p9),(Qhh p10),(Qgh p11)]) (σr':=[(Qgi p2 p3 p4 p5 p6 p7 p8),(Qfv p9),(Qhh p10),(Qgh p11)]) (res':=(Q8o x23)) [0,1,2,3] rfl Qxu (Qhn N p0 x14 p2 p3 p4 p5 p6 p7 p8 p9 p10 p11 _ hf22) rfl (Qbx (rnc (Qbo rfl) (rnc (.plain _ nll) (rnc (.plain _ (NLt.agg _ (nlcc (nlcc nl0)))) rn0)))) (slc (Qar (rnc (pld Qal) (rnc (pld Qab) (rnc (Qc5 rfl) (rnc (Qc5 rfl) (rnc (Qc5 rfl) (rnc (pld Qac) (rnc (.plain _ nll) rn0)))))))) (slc (Qbd Qaj) (slc (Qbd Qaq) (slc (Qbd Qae) Qat)))) (slc (Qar (rnc (pld Qal) (rnc (pld Qab) (rnc (Qdb rfl) (rnc (Qdb rfl) (rnc (Qdb rfl) (rnc (pld Qac) (rnc (.plain _ nll) rn0)))))))) (slc (Qbd Qaj) (slc (Qbd Qaq) (slc (Qbd Qae) Qat)))) (pld Qac) rfl rfl rfl),hr_ (aio rfl Tryz.underlying31 ti45 (odt hi24a) (odt hi24b) (Nat.zero_add _)),hr_ (ast rfl ti45 (by rfl) (mgt Qaf hg26) (nle rfl) (Qgn Qaf rfl)),trivial⟩
     obtain rfl:=osi h
     exact ⟨_,(mto (n:=43) (l':=[]) (own':=[(Qgi p2 p3 p4 p5 p6 p7 p8),(.own 1 (((p9.set p0.toNat x23):List (List GStream)).map Qaf)),(Qhh p10),(Qgh p11)]) [] [0,1,2,3] [(Qgi p2 p3 p4 p5 p6 p7 p8),(.own 1 ((p9.set p0.toNat x23:List (List GStream)).map Qaf)),(Qhh p10),(Qgh p11)] hφ0 pn (qc (spb (lc (rnd Qal) (lc (rnd Qab) (lc (.rn (Qa4 rfl)) (lc (.rn (Qa4 rfl)) (lc (.rn (Qa4 rfl)) (lc (rnd Qac) (lc rwl ln)))))))) (qc (spr Qaj) (qc (spr Qaq) (qc (spr Qae) qn))))),Qk9 (vs:=[]) trivial rfl (NLt.tup _ nl0) (by kernel_rfl) (Qap (Qbj (nlc (NLt.of0 (nld Qal _)) (nlc (NLt.of0 (nld Qab _)) (nlc (NLt.own _ _ _ _ (by decide)) (nlc (NLt.own _ _ _ _ (by decide)) (nlc (NLt.own _ _ _ _ (by decide)) (nlc (NLt.of0 (nld Qac _)) (nlc (NLt.of0 nll) nl0)))))))) (Qap (Qck Qaj _) (Qap (Qck Qaq _) (Qap (Qck Qae _) Qbz))))⟩
    ·refine bfe h (fun hb27 h=>?_) fun hb27 h=>?_
     ·obtain ⟨x29,hf28,h⟩:=bno h
      obtain ⟨hi30,h⟩:=cko h
      obtain ⟨hi30a,hi30b⟩:=Qdv hi30
      obtain ⟨x31,hg32,h⟩:=bno h
      refine Qly 0 (.own 7 [[(Qsp p2),(Qkj p3),(.own 1 1 (0) (p4)),(.own 2 4 (0) (p5)),(.own 3 1 (0) (p6)),(Qso p7),I p8]]) [mv 0 (.ref 0 7 0 0),⟨[(.tmp 21,.ref 0 7 0 0)],[],.ref 0 7 0 0,[],false⟩,⟨[(.tmp 22,.ref 0 7 0 0)],[],.ref 0 7 0 2,[],false⟩,⟨[(.tmp 23,.ref 0 7 0 2)],[],.ref 0 7 0 2,[],false⟩,⟨[(.tmp 24,.ref 0 7 0 2)],[],(.own 1 1 (0) (p4)),[],false⟩,mv 1 (I p0),mv 0 (.ref 0 7 0 0),⟨[(.tmp 27,.ref 0 7 0 0)],[],.ref 0 7 0 0,[],false⟩,⟨[(.tmp 28,.ref 0 7 0 0)],[],.ref 0 7 0 0,[],false⟩,⟨[(.tmp 29,.ref 0 7 0 0)],[],.ref 0 7 0 1,[],false⟩,⟨[(.tmp 30,.ref 0 7 0 1)],[],(Qkj p3),[],false⟩,mv 1 (I p0),rp [(.tmp 31,(Qkj p3)),(.tmp 32,I p0)] (.dptr (Qad (x16)) 0),mv 33 (.dptr (Qad (x16)) 0),rp [(.tmp 34,(.dptr (Qad (x16)) 0))] (K .u8 (x16.Kind)),rb [(.tmp 7,.ref 5 7 0 0),(.tmp 35,(K .u8 (x16.Kind)))] [(5,Qmk)] (.ref 5 7 0 2),rb [(.tmp 36,.ref 5 7 0 2)] [(5,Qmk)] (.fn (.func 117) [] []),mv 0 (.ref 0 7 0 0),mv 1 (I p0),rb [(.tmp 6,.ref 4 4 0 0)] [(4,(Qrk x14))] (Qh7 x14),⟨[(.tmp 37,(.fn (.func 117) [] [])),(.tmp 38,.ref 0 7 0 0),(.tmp 39,I p0),(.tmp 40,(Qh7 x14))],[(0,(Qgi p2 p3 p4 p5 p6 p7 p8)),(1,(Qfv p9)),(2,(Qhh p10)),(3,(Qgh p11))],(Q8n x29),[(0,(Qgi p2 p3 p4 p5 p6 p7 p8)),(1,(Qfv p9)),(2,(Qhh p10)),(3,(Qgh p11))],false⟩,rb [(.tmp 25,(.own 1 1 (0) (p4))),(.tmp 26,I p0)] [(1,(Qfv p9))] (.ref 1 1 (p0.toNat) 0),⟨[(.tmp 42,(.ref 1 1 (p0.toNat) 0)),(.tmp 41,(Q8n x29))],[(1,(Qfv p9))],.any,[(1,(.own 1 ((p9.set p0.toNat x29:List (List GStream)).map Qaf)))],false⟩] (SImp.box ⟨lrf,lrf,lrf,lrf,lrf,lrf,lrf,trivial⟩) ⟨trivial,trivial,trivial,trivial,trivial,trivial,trivial,trivial,trivial,trivial,trivial,trivial,trivial,trivial,trivial,trivial,trivial,trivial,trivial,trivial,⟨(SImp.box ⟨lrf,lrf,lrf,lrf,lrf,lrf,lrf,trivial⟩),trivial,trivial,trivial,trivial⟩,trivial,⟨trivial,trivial⟩,trivial⟩ ?_ ?_
      ·exact ⟨hr_ (amv rfl),sf_ (Qbi rfl),sf_ (afa rfl Tryz.underlying140 rfl rfl ti34 (by decide) rfl),sf_ (afa rfl Tryz.underlying34 rfl rfl ti31 (by decide) rfl),sf_ (ald rfl ti31 (by decide) rfl (nle rfl) rfl),hr_ (amv rfl),hr_ (amv rfl),sf_ (Qbi rfl),sf_ (afa rfl Tryz.underlying140 rfl rfl ti42 (by decide) rfl),sf_ (afa rfl Tryz.underlying42 rfl rfl ti40 (by decide) rfl),sf_ (ald rfl ti40 (by decide) rfl (nle rfl) rfl),hr_ (amv rfl),hr_ (aid rfl Tryz.underlying40 Qj1 rfl rfl hi18 (mgt Qad hj19) rfl),hr_ (afd rfl Tryz.underlying133 rfl rfl ti5 (by decide) rfl),hr_ (ald_ rfl ti5 (by decide) (nle rfl) rfl),hr_ (Qkh hb27 (Qki rfl Tryz.underlying209 Qpm (by decide) (by decide) rfl)),hr_ (ald rfl Qpm (by decide) rfl (nle rfl) rfl),hr_ (amv rfl),hr_ (amv rfl),hr_ (ald rfl ti63 (by decide) rfl (nle rfl) rfl),hr_ (Qau (first:=[]) (cap:=[]) (vs:=[.ref 0 7 0 0,I p0,(Qh7 x14)]) (σr:=[(Qgi p2 p3 p4 p5 p6 p7 p8),(Qfv p9),(Qhh p10),(Qgh p11)]) (σr':=[(Qgi p2 p3 p4 p5 p6 p7 p8),(Qfv p9),(Qhh p10),(Qgh p11)]) (res':=(Q8n x29)) [0,1,2,3] rfl Qxu (Qhn N p0 x14 p2 p3 p4 p5 p6 p7 p8 p9 p10 p11 _ hf28) rfl (Qbx (rnc (Qbo rfl) (rnc (.plain _ nll) (rnc (.plain _ (NLt.agg _ (nlcc (nlcc nl0)))) rn0)))) (slc (Qar (rnc (pld Qal) (rnc (pld Qab) (rnc (Qc5 rfl) (rnc (Qc5 rfl) (rnc (Qc5 rfl) (rnc (pld Qac) (rnc (.plain _ nll) rn0)))))))) (slc (Qbd Qaj) (slc (Qbd Qaq) (slc (Qbd Qae) Qat)))) (slc (Qar (rnc (pld Qal) (rnc (pld Qab) (rnc (Qdb rfl) (rnc (Qdb rfl) (rnc (Qdb rfl) (rnc (pld Qac) (rnc (.plain _ nll) rn0)))))))) (slc (Qbd Qaj) (slc (Qbd Qaq) (slc (Qbd Qae) Qat)))) (pld Qac) rfl rfl rfl),hr_ (aio rfl Tryz.underlying31 ti45 (odt hi30a) (odt hi30b) (Nat.zero_add _)),hr_ (ast rfl ti45 (by rfl) (mgt Qaf hg32) (nle rfl) (Qgn Qaf rfl)),trivial⟩
      obtain rfl:=osi h
      exact ⟨_,(mto (n:=43) (l':=[]) (own':=[(Qgi p2 p3 p4 p5 p6 p7 p8),(.own 1 (((p9.set p0.toNat x29):List (List GStream)).map Qaf)),(Qhh p10),(Qgh p11)]) [] [0,1,2,3] [(Qgi p2 p3 p4 p5 p6 p7 p8),(.own 1 ((p9.set p0.toNat x29:List (List GStream)).map Qaf)),(Qhh p10),(Qgh p11)] hφ0 pn (qc (spb (lc (rnd Qal) (lc (rnd Qab) (lc (.rn (Qa4 rfl)) (lc (.rn (Qa4 rfl)) (lc (.rn (Qa4 rfl)) (lc (rnd Qac) (lc rwl ln)))))))) (qc (spr Qaj) (qc (spr Qaq) (qc (spr Qae) qn))))),Qk9 (vs:=[]) trivial rfl (NLt.tup _ nl0) (by kernel_rfl) (Qap (Qbj (nlc (NLt.of0 (nld Qal _)) (nlc (NLt.of0 (nld Qab _)) (nlc (NLt.own _ _ _ _ (by decide)) (nlc (NLt.own _ _ _ _ (by decide)) (nlc (NLt.own _ _ _ _ (by decide)) (nlc (NLt.of0 (nld Qac _)) (nlc (NLt.of0 nll) nl0)))))))) (Qap (Qck Qaj _) (Qap (Qck Qaq _) (Qap (Qck Qae _) Qbz))))⟩
     ·refine bfe h (fun hb33 h=>?_) fun hb33 h=>?_
      ·obtain ⟨x35,hf34,h⟩:=bno h
       obtain ⟨hi36,h⟩:=cko h
       obtain ⟨hi36a,hi36b⟩:=Qdv hi36
       obtain ⟨x37,hg38,h⟩:=bno h
       refine Qly 0 (.own 7 [[(Qsp p2),(Qkj p3),(.own 1 1 (0) (p4)),(.own 2 4 (0) (p5)),(.own 3 1 (0) (p6)),(Qso p7),I p8]]) [mv 0 (.ref 0 7 0 0),⟨[(.tmp 21,.ref 0 7 0 0)],[],.ref 0 7 0 0,[],false⟩,⟨[(.tmp 22,.ref 0 7 0 0)],[],.ref 0 7 0 2,[],false⟩,⟨[(.tmp 23,.ref 0 7 0 2)],[],.ref 0 7 0 2,[],false⟩,⟨[(.tmp 24,.ref 0 7 0 2)],[],(.own 1 1 (0) (p4)),[],false⟩,mv 1 (I p0),mv 0 (.ref 0 7 0 0),⟨[(.tmp 27,.ref 0 7 0 0)],[],.ref 0 7 0 0,[],false⟩,⟨[(.tmp 28,.ref 0 7 0 0)],[],.ref 0 7 0 0,[],false⟩,⟨[(.tmp 29,.ref 0 7 0 0)],[],.ref 0 7 0 1,[],false⟩,⟨[(.tmp 30,.ref 0 7 0 1)],[],(Qkj p3),[],false⟩,mv 1 (I p0),rp [(.tmp 31,(Qkj p3)),(.tmp 32,I p0)] (.dptr (Qad (x16)) 0),mv 33 (.dptr (Qad (x16)) 0),rp [(.tmp 34,(.dptr (Qad (x16)) 0))] (K .u8 (x16.Kind)),rb [(.tmp 7,.ref 5 7 0 0),(.tmp 35,(K .u8 (x16.Kind)))] [(5,Qmk)] (.ref 5 7 0 3),rb [(.tmp 36,.ref 5 7 0 3)] [(5,Qmk)] (.fn (.func 118) [] []),mv 0 (.ref 0 7 0 0),mv 1 (I p0),rb [(.tmp 6,.ref 4 4 0 0)] [(4,(Qrk x14))] (Qh7 x14),⟨[(.tmp 37,(.fn (.func 118) [] [])),(.tmp 38,.ref 0 7 0 0),(.tmp 39,I p0),(.tmp 40,(Qh7 x14))],[(0,(Qgi p2 p3 p4 p5 p6 p7 p8)),(1,(Qfv p9)),(2,(Qhh p10)),(3,(Qgh p11))],(.dat 4 ((x35.1:List GStream).map Qaa)),[(0,(Qgi p2 p3 p4 p5 p6 p7 p8)),(1,(Qfv p9)),(2,(Q3w x35)),(3,(Qgh p11))],false⟩,rb [(.tmp 25,(.own 1 1 (0) (p4))),(.tmp 26,I p0)] [(1,(Qfv p9))] (.ref 1 1 (p0.toNat) 0),⟨[(.tmp 42,(.ref 1 1 (p0.toNat) 0)),(.tmp 41,(.dat 4 ((x35.1:List GStream).map Qaa)))],[(1,(Qfv p9))],.any,[(1,(.own 1 ((p9.set p0.toNat x35.1:List (List GStream)).map Qaf)))],false⟩] (SImp.box ⟨lrf,lrf,lrf,lrf,lrf,lrf,lrf,trivial⟩) ⟨trivial,trivial,trivial,trivial,trivial,trivial,trivial,trivial,trivial,trivial,trivial,trivial,trivial,trivial,trivial,trivial,trivial,trivial,trivial,trivial,⟨(SImp.box ⟨lrf,lrf,lrf,lrf,lrf,lrf,lrf,trivial⟩),trivial,trivial,trivial,trivial⟩,trivial,⟨trivial,trivial⟩,trivial⟩ ?_ ?_
       ·exact ⟨hr_ (amv rfl),sf_ (Qbi rfl),sf_ (afa rfl Tryz.underlying140 rfl rfl ti34 (by decide) rfl),sf_ (afa rfl Tryz.underlying34 rfl rfl ti31 (by decide) rfl),sf_ (ald rfl ti31 (by decide) rfl (nle rfl) rfl),hr_ (amv rfl),hr_ (amv rfl),sf_ (Qbi rfl),sf_ (afa rfl Tryz.underlying140 rfl rfl ti42 (by decide) rfl),sf_ (afa rfl Tryz.underlying42 rfl rfl ti40 (by decide) rfl),sf_ (ald rfl ti40 (by decide) rfl (nle rfl) rfl),hr_ (amv rfl),hr_ (aid rfl Tryz.underlying40 Qj1 rfl rfl hi18 (mgt Qad hj19) rfl),hr_ (afd rfl Tryz.underlying133 rfl rfl ti5 (by decide) rfl),hr_ (ald_ rfl ti5 (by decide) (nle rfl) rfl),hr_ (Qkh hb33 (Qki rfl Tryz.underlying209 Qpm (by decide) (by decide) rfl)),hr_ (ald rfl Qpm (by decide) rfl (nle rfl) rfl),hr_ (amv rfl),hr_ (amv rfl),hr_ (ald rfl ti63 (by decide) rfl (nle rfl) rfl),hr_ (Qau (first:=[]) (cap:=[]) (vs:=[.ref 0 7 0 0,I p0,(Qh7 x14)]) (σr:=[(Qgi p2 p3 p4 p5 p6 p7 p8),(Qfv p9),(Qhh p10),(Qgh p11)]) (σr':=[(Qgi p2 p3 p4 p5 p6 p7 p8),(Qfv p9),(Q3w x35),(Qgh p11)]) (res':=(.dat 4 ((x35.1:List GStream).map Qaa))) [0,1,2,3] rfl Ze5 (Qn7 N p0 x14 p2 p3 p4 p5 p6 p7 p8 p9 p10 p11 _ hf34) rfl (Qbx (rnc (Qbo rfl) (rnc (.plain _ nll) (rnc (.plain _ (NLt.agg _ (nlcc (nlcc nl0)))) rn0)))) (slc (Qar (rnc (pld Qal) (rnc (pld Qab) (rnc (Qc5 rfl) (rnc (Qc5 rfl) (rnc (Qc5 rfl) (rnc (pld Qac) (rnc (.plain _ nll) rn0)))))))) (slc (Qbd Qaj) (slc (Qbd Qaq) (slc (Qbd Qae) Qat)))) (slc (Qar (rnc (pld Qal) (rnc (pld Qab) (rnc (Qdb rfl) (rnc (Qdb rfl) (rnc (Qdb rfl) (rnc (pld Qac) (rnc (.plain _ nll) rn0)))))))) (slc (Qbd Qaj) (slc (Qbd Qaq) (slc (Qbd Qae) Qat)))) (pld Qac) rfl rfl rfl),hr_ (aio rfl Tryz.underlying31 ti45 (odt hi36a) (odt hi36b) (Nat.zero_add _)),hr_ (ast rfl ti45 (by rfl) (mgt Qaf hg38) (nle rfl) (Qgn Qaf rfl)),trivial⟩
       obtain rfl:=osi h
       exact ⟨_,(mto (n:=43) (l':=[]) (own':=[(Qgi p2 p3 p4 p5 p6 p7 p8),(.own 1 (((p9.set p0.toNat x35.1):List (List GStream)).map Qaf)),(Q3w x35),(Qgh p11)]) [] [0,1,2,3] [(Qgi p2 p3 p4 p5 p6 p7 p8),(.own 1 ((p9.set p0.toNat x35.1:List (List GStream)).map Qaf)),(Q3w x35),(Qgh p11)] hφ0 pn (qc (spb (lc (rnd Qal) (lc (rnd Qab) (lc (.rn (Qa4 rfl)) (lc (.rn (Qa4 rfl)) (lc (.rn (Qa4 rfl)) (lc (rnd Qac) (lc rwl ln)))))))) (qc (spr Qaj) (qc (spr Qaq) (qc (spr Qae) qn))))),Qk9 (vs:=[]) trivial rfl (NLt.tup _ nl0) (by kernel_rfl) (Qap (Qbj (nlc (NLt.of0 (nld Qal _)) (nlc (NLt.of0 (nld Qab _)) (nlc (NLt.own _ _ _ _ (by decide)) (nlc (NLt.own _ _ _ _ (by decide)) (nlc (NLt.own _ _ _ _ (by decide)) (nlc (NLt.of0 (nld Qac _)) (nlc (NLt.of0 nll) nl0)))))))) (Qap (Qck Qaj _) (Qap (Qck Qaq _) (Qap (Qck Qae _) Qbz))))⟩
      ·refine bfe h (fun hb39 h=>?_) fun hb39 h=>?_
       ·obtain ⟨x41,hf40,h⟩:=bno h
        obtain ⟨hi42,h⟩:=cko h
        obtain ⟨hi42a,hi42b⟩:=Qdv hi42
        obtain ⟨x43,hg44,h⟩:=bno h
        refine Qly 0 (.own 7 [[(Qsp p2),(Qkj p3),(.own 1 1 (0) (p4)),(.own 2 4 (0) (p5)),(.own 3 1 (0) (p6)),(Qso p7),.any]]) [mv 0 (.ref 0 7 0 0),⟨[(.tmp 21,.ref 0 7 0 0)],[],.ref 0 7 0 0,[],false⟩,⟨[(.tmp 22,.ref 0 7 0 0)],[],.ref 0 7 0 2,[],false⟩,⟨[(.tmp 23,.ref 0 7 0 2)],[],.ref 0 7 0 2,[],false⟩,⟨[(.tmp 24,.ref 0 7 0 2)],[],(.own 1 1 (0) (p4)),[],false⟩,mv 1 (I p0),mv 0 (.ref 0 7 0 0),⟨[(.tmp 27,.ref 0 7 0 0)],[],.ref 0 7 0 0,[],false⟩,⟨[(.tmp 28,.ref 0 7 0 0)],[],.ref 0 7 0 0,[],false⟩,⟨[(.tmp 29,.ref 0 7 0 0)],[],.ref 0 7 0 1,[],false⟩,⟨[(.tmp 30,.ref 0 7 0 1)],[],(Qkj p3),[],false⟩,mv 1 (I p0),rp [(.tmp 31,(Qkj p3)),(.tmp 32,I p0)] (.dptr (Qad (x16)) 0),mv 33 (.dptr (Qad (x16)) 0),rp [(.tmp 34,(.dptr (Qad (x16)) 0))] (K .u8 (x16.Kind)),rb [(.tmp 7,.ref 5 7 0 0),(.tmp 35,(K .u8 (x16.Kind)))] [(5,Qmk)] (.ref 5 7 0 4),rb [(.tmp 36,.ref 5 7 0 4)] [(5,Qmk)] (.fn (.func 119) [] []),mv 0 (.ref 0 7 0 0),mv 1 (I p0),rb [(.tmp 6,.ref 4 4 0 0)] [(4,(Qrk x14))] (Qh7 x14),⟨[(.tmp 37,(.fn (.func 119) [] [])),(.tmp 38,.ref 0 7 0 0),(.tmp 39,I p0),(.tmp 40,(Qh7 x14))],[(0,(Qgi p2 p3 p4 p5 p6 p7 p8)),(1,(Qfv p9)),(2,(Qhh p10)),(3,(Qgh p11))],(.dat 4 ((x41.1:List GStream).map Qaa)),[(0,(Q3v p2 p3 p4 p5 p6 p7 x41)),(1,(Qfv p9)),(2,(Q3u x41)),(3,(Q3t x41))],false⟩,rb [(.tmp 25,(.own 1 1 (0) (p4))),(.tmp 26,I p0)] [(1,(Qfv p9))] (.ref 1 1 (p0.toNat) 0),⟨[(.tmp 42,(.ref 1 1 (p0.toNat) 0)),(.tmp 41,(.dat 4 ((x41.1:List GStream).map Qaa)))],[(1,(Qfv p9))],.any,[(1,(.own 1 ((p9.set p0.toNat x41.1:List (List GStream)).map Qaf)))],false⟩] (SImp.box ⟨lrf,lrf,lrf,lrf,lrf,lrf,Less.any,trivial⟩) ⟨trivial,trivial,trivial,trivial,trivial,trivial,trivial,trivial,trivial,trivial,trivial,trivial,trivial,trivial,trivial,trivial,trivial,trivial,trivial,trivial,⟨(SImp.box ⟨lrf,lrf,lrf,lrf,lrf,lrf,Less.any,trivial⟩),trivial,trivial,trivial,trivial⟩,trivial,⟨trivial,trivial⟩,trivial⟩ ?_ ?_
        ·exact ⟨hr_ (amv rfl),sf_ (Qbi rfl),sf_ (afa rfl Tryz.underlying140 rfl rfl ti34 (by decide) rfl),sf_ (afa rfl Tryz.underlying34 rfl rfl ti31 (by decide) rfl),sf_ (ald rfl ti31 (by decide) rfl (nle rfl) rfl),hr_ (amv rfl),hr_ (amv rfl),sf_ (Qbi rfl),sf_ (afa rfl Tryz.underlying140 rfl rfl ti42 (by decide) rfl),sf_ (afa rfl Tryz.underlying42 rfl rfl ti40 (by decide) rfl),sf_ (ald rfl ti40 (by decide) rfl (nle rfl) rfl),hr_ (amv rfl),hr_ (aid rfl Tryz.underlying40 Qj1 rfl rfl hi18 (mgt Qad hj19) rfl),hr_ (afd rfl Tryz.underlying133 rfl rfl ti5 (by decide) rfl),hr_ (ald_ rfl ti5 (by decide) (nle rfl) rfl),hr_ (Qkh hb39 (Qki rfl Tryz.underlying209 Qpm (by decide) (by decide) rfl)),hr_ (ald rfl Qpm (by decide) rfl (nle rfl) rfl),hr_ (amv rfl),hr_ (amv rfl),hr_ (ald rfl ti63 (by decide) rfl (nle rfl) rfl),hr_ (Qau (first:=[]) (cap:=[]) (vs:=[.ref 0 7 0 0,I p0,(Qh7 x14)]) (σr:=[(Qgi p2 p3 p4 p5 p6 p7 p8),(Qfv p9),(Qhh p10),(Qgh p11)]) (σr':=[(Q3v p2 p3 p4 p5 p6 p7 x41),(Qfv p9),(Q3u x41),(Q3t x41)]) (res':=(.dat 4 ((x41.1:List GStream).map Qaa))) [0,1,2,3] rfl Ze4 (Qlo N p0 x14 p2 p3 p4 p5 p6 p7 p8 p9 p10 p11 _ hf40) rfl (Qbx (rnc (Qbo rfl) (rnc (.plain _ nll) (rnc (.plain _ (NLt.agg _ (nlcc (nlcc nl0)))) rn0)))) (slc (Qar (rnc (pld Qal) (rnc (pld Qab) (rnc (Qc5 rfl) (rnc (Qc5 rfl) (rnc (Qc5 rfl) (rnc (pld Qac) (rnc (.plain _ nll) rn0)))))))) (slc (Qbd Qaj) (slc (Qbd Qaq) (slc (Qbd Qae) Qat)))) (slc (Qar (rnc (pld Qal) (rnc (pld Qab) (rnc (Qdb rfl) (rnc (Qdb rfl) (rnc (Qdb rfl) (rnc (pld Qac) (rnc (.plain _ nll) rn0)))))))) (slc (Qbd Qaj) (slc (Qbd Qaq) (slc (Qbd Qae) Qat)))) (pld Qac) rfl rfl rfl),hr_ (aio rfl Tryz.underlying31 ti45 (odt hi42a) (odt hi42b) (Nat.zero_add _)),hr_ (ast rfl ti45 (by rfl) (mgt Qaf hg44) (nle rfl) (Qgn Qaf rfl)),trivial⟩
        obtain rfl:=osi h
        exact ⟨_,(mto (n:=43) (l':=[]) (own':=[(Q3v p2 p3 p4 p5 p6 p7 x41),(.own 1 (((p9.set p0.toNat x41.1):List (List GStream)).map Qaf)),(Q3u x41),(Q3t x41)]) [] [0,1,2,3] [(Q3v p2 p3 p4 p5 p6 p7 x41),(.own 1 ((p9.set p0.toNat x41.1:List (List GStream)).map Qaf)),(Q3u x41),(Q3t x41)] hφ0 pn (qc (spb (lc (rnd Qal) (lc (rnd Qab) (lc (.rn (Qa4 rfl)) (lc (.rn (Qa4 rfl)) (lc (.rn (Qa4 rfl)) (lc (rnd Qac) (lc rwl ln)))))))) (qc (spr Qaj) (qc (spr Qaq) (qc (spr Qae) qn))))),Qk9 (vs:=[]) trivial rfl (NLt.tup _ nl0) (by kernel_rfl) (Qap (Qbj (nlc (NLt.of0 (nld Qal _)) (nlc (NLt.of0 (nld Qab _)) (nlc (NLt.own _ _ _ _ (by decide)) (nlc (NLt.own _ _ _ _ (by decide)) (nlc (NLt.own _ _ _ _ (by decide)) (nlc (NLt.of0 (nld Qac _)) (nlc (NLt.of0 nll) nl0)))))))) (Qap (Qck Qaj _) (Qap (Qck Qaq _) (Qap (Qck Qae _) Qbz))))⟩
       ·refine bfe h (fun hb45 h=>?_) fun hb45 h=>?_
        ·obtain ⟨x47,hf46,h⟩:=bno h
         obtain ⟨hi48,h⟩:=cko h
         obtain ⟨hi48a,hi48b⟩:=Qdv hi48
         obtain ⟨x49,hg50,h⟩:=bno h
         refine Qly 0 (.own 7 [[(Qsp p2),(Qkj p3),(.own 1 1 (0) (p4)),(.own 2 4 (0) (p5)),(.own 3 1 (0) (p6)),(Qso p7),I p8]]) [mv 0 (.ref 0 7 0 0),⟨[(.tmp 21,.ref 0 7 0 0)],[],.ref 0 7 0 0,[],false⟩,⟨[(.tmp 22,.ref 0 7 0 0)],[],.ref 0 7 0 2,[],false⟩,⟨[(.tmp 23,.ref 0 7 0 2)],[],.ref 0 7 0 2,[],false⟩,⟨[(.tmp 24,.ref 0 7 0 2)],[],(.own 1 1 (0) (p4)),[],false⟩,mv 1 (I p0),mv 0 (.ref 0 7 0 0),⟨[(.tmp 27,.ref 0 7 0 0)],[],.ref 0 7 0 0,[],false⟩,⟨[(.tmp 28,.ref 0 7 0 0)],[],.ref 0 7 0 0,[],false⟩,⟨[(.tmp 29,.ref 0 7 0 0)],[],.ref 0 7 0 1,[],false⟩,⟨[(.tmp 30,.ref 0 7 0 1)],[],(Qkj p3),[],false⟩,mv 1 (I p0),rp [(.tmp 31,(Qkj p3)),(.tmp 32,I p0)] (.dptr (Qad (x16)) 0),mv 33 (.dptr (Qad (x16)) 0),rp [(.tmp 34,(.dptr (Qad (x16)) 0))] (K .u8 (x16.Kind)),rb [(.tmp 7,.ref 5 7 0 0),(.tmp 35,(K .u8 (x16.Kind)))] [(5,Qmk)] (.ref 5 7 0 5),rb [(.tmp 36,.ref 5 7 0 5)] [(5,Qmk)] (.fn (.func 120) [] []),mv 0 (.ref 0 7 0 0),mv 1 (I p0),rb [(.tmp 6,.ref 4 4 0 0)] [(4,(Qrk x14))] (Qh7 x14),⟨[(.tmp 37,(.fn (.func 120) [] [])),(.tmp 38,.ref 0 7 0 0),(.tmp 39,I p0),(.tmp 40,(Qh7 x14))],[(0,(Qgi p2 p3 p4 p5 p6 p7 p8)),(1,(Qfv p9)),(2,(Qhh p10)),(3,(Qgh p11))],(.dat 4 ((x47.1:List GStream).map Qaa)),[(0,(Qgi p2 p3 p4 p5 p6 p7 p8)),(1,(Qfv p9)),(2,(Q3s x47)),(3,(Qgh p11))],false⟩,rb [(.tmp 25,(.own 1 1 (0) (p4))),(.tmp 26,I p0)] [(1,(Qfv p9))] (.ref 1 1 (p0.toNat) 0),⟨[(.tmp 42,(.ref 1 1 (p0.toNat) 0)),(.tmp 41,(.dat 4 ((x47.1:List GStream).map Qaa)))],[(1,(Qfv p9))],.any,[(1,(.own 1 ((p9.set p0.toNat x47.1:List (List GStream)).map Qaf)))],false⟩] (SImp.box ⟨lrf,lrf,lrf,lrf,lrf,lrf,lrf,trivial⟩) ⟨trivial,trivial,trivial,trivial,trivial,trivial,trivial,trivial,trivial,trivial,trivial,trivial,trivial,trivial,trivial,trivial,trivial,trivial,trivial,trivial,⟨(SImp.box ⟨lrf,lrf,lrf,lrf,lrf,lrf,lrf,trivial⟩),trivial,trivial,trivial,trivial⟩,trivial,⟨trivial,trivial⟩,trivial⟩ ?_ ?_
         ·exact ⟨hr_ (amv rfl),sf_ (Qbi rfl),sf_ (afa rfl Tryz.underlying140 rfl rfl ti34 (by decide) rfl),sf_ (afa rfl Tryz.underlying34 rfl rfl ti31 (by decide) rfl),sf_ (ald rfl ti31 (by decide) rfl (nle rfl) rfl),hr_ (amv rfl),hr_ (amv rfl),sf_ (Qbi rfl),sf_ (afa rfl Tryz.underlying140 rfl rfl ti42 (by decide) rfl),sf_ (afa rfl Tryz.underlying42 rfl rfl ti40 (by decide) rfl),sf_ (ald rfl ti40 (by decide) rfl (nle rfl) rfl),hr_ (amv rfl),hr_ (aid rfl Tryz.underlying40 Qj1 rfl rfl hi18 (mgt Qad hj19) rfl),hr_ (afd rfl Tryz.underlying133 rfl rfl ti5 (by decide) rfl),hr_ (ald_ rfl ti5 (by decide) (nle rfl) rfl),hr_ (Qkh hb45 (Qki rfl Tryz.underlying209 Qpm (by decide) (by decide) rfl)),hr_ (ald rfl Qpm (by decide) rfl (nle rfl) rfl),hr_ (amv rfl),hr_ (amv rfl),hr_ (ald rfl ti63 (by decide) rfl (nle rfl) rfl),hr_ (Qau (first:=[]) (cap:=[]) (vs:=[.ref 0 7 0 0,I p0,(Qh7 x14)]) (σr:=[(Qgi p2 p3 p4 p5 p6 p7 p8),(Qfv p9),(Qhh p10),(Qgh p11)]) (σr':=[(Qgi p2 p3 p4 p5 p6 p7 p8),(Qfv p9),(Q3s x47),(Qgh p11)]) (res':=(.dat 4 ((x47.1:List GStream).map Qaa))) [0,1,2,3] rfl Ze3 (Qne N p0 x14 p2 p3 p4 p5 p6 p7 p8 p9 p10 p11 _ hf46) rfl (Qbx (rnc (Qbo rfl) (rnc (.plain _ nll) (rnc (.plain _ (NLt.agg _ (nlcc (nlcc nl0)))) rn0)))) (slc (Qar (rnc (pld Qal) (rnc (pld Qab) (rnc (Qc5 rfl) (rnc (Qc5 rfl) (rnc (Qc5 rfl) (rnc (pld Qac) (rnc (.plain _ nll) rn0)))))))) (slc (Qbd Qaj) (slc (Qbd Qaq) (slc (Qbd Qae) Qat)))) (slc (Qar (rnc (pld Qal) (rnc (pld Qab) (rnc (Qdb rfl) (rnc (Qdb rfl) (rnc (Qdb rfl) (rnc (pld Qac) (rnc (.plain _ nll) rn0)))))))) (slc (Qbd Qaj) (slc (Qbd Qaq) (slc (Qbd Qae) Qat)))) (pld Qac) rfl rfl rfl),hr_ (aio rfl Tryz.underlying31 ti45 (odt hi48a) (odt hi48b) (Nat.zero_add _)),hr_ (ast rfl ti45 (by rfl) (mgt Qaf hg50) (nle rfl) (Qgn Qaf rfl)),trivial⟩
         obtain rfl:=osi h
         exact ⟨_,(mto (n:=43) (l':=[]) (own':=[(Qgi p2 p3 p4 p5 p6 p7 p8),(.own 1 (((p9.set p0.toNat x47.1):List (List GStream)).map Qaf)),(Q3s x47),(Qgh p11)]) [] [0,1,2,3] [(Qgi p2 p3 p4 p5 p6 p7 p8),(.own 1 ((p9.set p0.toNat x47.1:List (List GStream)).map Qaf)),(Q3s x47),(Qgh p11)] hφ0 pn (qc (spb (lc (rnd Qal) (lc (rnd Qab) (lc (.rn (Qa4 rfl)) (lc (.rn (Qa4 rfl)) (lc (.rn (Qa4 rfl)) (lc (rnd Qac) (lc rwl ln)))))))) (qc (spr Qaj) (qc (spr Qaq) (qc (spr Qae) qn))))),Qk9 (vs:=[]) trivial rfl (NLt.tup _ nl0) (by kernel_rfl) (Qap (Qbj (nlc (NLt.of0 (nld Qal _)) (nlc (NLt.of0 (nld Qab _)) (nlc (NLt.own _ _ _ _ (by decide)) (nlc (NLt.own _ _ _ _ (by decide)) (nlc (NLt.own _ _ _ _ (by decide)) (nlc (NLt.of0 (nld Qac _)) (nlc (NLt.of0 nll) nl0)))))))) (Qap (Qck Qaj _) (Qap (Qck Qaq _) (Qap (Qck Qae _) Qbz))))⟩
        ·refine bfe h (fun hb51 h=>?_) fun hb51 h=>?_
         ·obtain ⟨x53,hf52,h⟩:=bno h
          obtain ⟨hi54,h⟩:=cko h
          obtain ⟨hi54a,hi54b⟩:=Qdv hi54
          obtain ⟨x55,hg56,h⟩:=bno h
          refine Qly 0 (.own 7 [[(Qsp p2),(Qkj p3),(.own 1 1 (0) (p4)),(.own 2 4 (0) (p5)),(.own 3 1 (0) (p6)),(Qso p7),I p8]]) [mv 0 (.ref 0 7 0 0),⟨[(.tmp 21,.ref 0 7 0 0)],[],.ref 0 7 0 0,[],false⟩,⟨[(.tmp 22,.ref 0 7 0 0)],[],.ref 0 7 0 2,[],false⟩,⟨[(.tmp 23,.ref 0 7 0 2)],[],.ref 0 7 0 2,[],false⟩,⟨[(.tmp 24,.ref 0 7 0 2)],[],(.own 1 1 (0) (p4)),[],false⟩,mv 1 (I p0),mv 0 (.ref 0 7 0 0),⟨[(.tmp 27,.ref 0 7 0 0)],[],.ref 0 7 0 0,[],false⟩,⟨[(.tmp 28,.ref 0 7 0 0)],[],.ref 0 7 0 0,[],false⟩,⟨[(.tmp 29,.ref 0 7 0 0)],[],.ref 0 7 0 1,[],false⟩,⟨[(.tmp 30,.ref 0 7 0 1)],[],(Qkj p3),[],false⟩,mv 1 (I p0),rp [(.tmp 31,(Qkj p3)),(.tmp 32,I p0)] (.dptr (Qad (x16)) 0),mv 33 (.dptr (Qad (x16)) 0),rp [(.tmp 34,(.dptr (Qad (x16)) 0))] (K .u8 (x16.Kind)),rb [(.tmp 7,.ref 5 7 0 0),(.tmp 35,(K .u8 (x16.Kind)))] [(5,Qmk)] (.ref 5 7 0 6),rb [(.tmp 36,.ref 5 7 0 6)] [(5,Qmk)] (.fn (.func 117) [] []),mv 0 (.ref 0 7 0 0),mv 1 (I p0),rb [(.tmp 6,.ref 4 4 0 0)] [(4,(Qrk x14))] (Qh7 x14),⟨[(.tmp 37,(.fn (.func 117) [] [])),(.tmp 38,.ref 0 7 0 0),(.tmp 39,I p0),(.tmp 40,(Qh7 x14))],[(0,(Qgi p2 p3 p4 p5 p6 p7 p8)),(1,(Qfv p9)),(2,(Qhh p10)),(3,(Qgh p11))],(Q8m x53),[(0,(Qgi p2 p3 p4 p5 p6 p7 p8)),(1,(Qfv p9)),(2,(Qhh p10)),(3,(Qgh p11))],false⟩,rb [(.tmp 25,(.own 1 1 (0) (p4))),(.tmp 26,I p0)] [(1,(Qfv p9))] (.ref 1 1 (p0.toNat) 0),⟨[(.tmp 42,(.ref 1 1 (p0.toNat) 0)),(.tmp 41,(Q8m x53))],[(1,(Qfv p9))],.any,[(1,(.own 1 ((p9.set p0.toNat x53:List (List GStream)).map Qaf)))],false⟩] (SImp.box ⟨lrf,lrf,lrf,lrf,lrf,lrf,lrf,trivial⟩) ⟨trivial,trivial,trivial,trivial,trivial,trivial,trivial,trivial,trivial,trivial,trivial,trivial,trivial,trivial,trivial,trivial,trivial,trivial,trivial,trivial,⟨(SImp.box ⟨lrf,lrf,lrf,lrf,lrf,lrf,lrf,trivial⟩),trivial,trivial,trivial,trivial⟩,trivial,⟨trivial,trivial⟩,trivial⟩ ?_ ?_
          ·exact ⟨hr_ (amv rfl),sf_ (Qbi rfl),sf_ (afa rfl Tryz.underlying140 rfl rfl ti34 (by decide) rfl),sf_ (afa rfl Tryz.underlying34 rfl rfl ti31 (by decide) rfl),sf_ (ald rfl ti31 (by decide) rfl (nle rfl) rfl),hr_ (amv rfl),hr_ (amv rfl),sf_ (Qbi rfl),sf_ (afa rfl Tryz.underlying140 rfl rfl ti42 (by decide) rfl),sf_ (afa rfl Tryz.underlying42 rfl rfl ti40 (by decide) rfl),sf_ (ald rfl ti40 (by decide) rfl (nle rfl) rfl),hr_ (amv rfl),hr_ (aid rfl Tryz.underlying40 Qj1 rfl rfl hi18 (mgt Qad hj19) rfl),hr_ (afd rfl Tryz.underlying133 rfl rfl ti5 (by decide) rfl),hr_ (ald_ rfl ti5 (by decide) (nle rfl) rfl),hr_ (Qkh hb51 (Qki rfl Tryz.underlying209 Qpm (by decide) (by decide) rfl)),hr_ (ald rfl Qpm (by decide) rfl (nle rfl) rfl),hr_ (amv rfl),hr_ (amv rfl),hr_ (ald rfl ti63 (by decide) rfl (nle rfl) rfl),hr_ (Qau (first:=[]) (cap:=[]) (vs:=[.ref 0 7 0 0,I p0,(Qh7 x14)]) (σr:=[(Qgi p2 p3 p4 p5 p6 p7 p8),(Qfv p9),(Qhh p10),(Qgh p11)]) (σr':=[(Qgi p2 p3 p4 p5 p6 p7 p8),(Qfv p9),(Qhh p10),(Qgh p11)]) (res':=(Q8m x53)) [0,1,2,3] rfl Qxu (Qhn N p0 x14 p2 p3 p4 p5 p6 p7 p8 p9 p10 p11 _ hf52) rfl (Qbx (rnc (Qbo rfl) (rnc (.plain _ nll) (rnc (.plain _ (NLt.agg _ (nlcc (nlcc nl0)))) rn0)))) (slc (Qar (rnc (pld Qal) (rnc (pld Qab) (rnc (Qc5 rfl) (rnc (Qc5 rfl) (rnc (Qc5 rfl) (rnc (pld Qac) (rnc (.plain _ nll) rn0)))))))) (slc (Qbd Qaj) (slc (Qbd Qaq) (slc (Qbd Qae) Qat)))) (slc (Qar (rnc (pld Qal) (rnc (pld Qab) (rnc (Qdb rfl) (rnc (Qdb rfl) (rnc (Qdb rfl) (rnc (pld Qac) (rnc (.plain _ nll) rn0)))))))) (slc (Qbd Qaj) (slc (Qbd Qaq) (slc (Qbd Qae) Qat)))) (pld Qac) rfl rfl rfl),hr_ (aio rfl Tryz.underlying31 ti45 (odt hi54a) (odt hi54b) (Nat.zero_add _)),hr_ (ast rfl ti45 (by rfl) (mgt Qaf hg56) (nle rfl) (Qgn Qaf rfl)),trivial⟩
          obtain rfl:=osi h
          exact ⟨_,(mto (n:=43) (l':=[]) (own':=[(Qgi p2 p3 p4 p5 p6 p7 p8),(.own 1 (((p9.set p0.toNat x53):List (List GStream)).map Qaf)),(Qhh p10),(Qgh p11)]) [] [0,1,2,3] [(Qgi p2 p3 p4 p5 p6 p7 p8),(.own 1 ((p9.set p0.toNat x53:List (List GStream)).map Qaf)),(Qhh p10),(Qgh p11)] hφ0 pn (qc (spb (lc (rnd Qal) (lc (rnd Qab) (lc (.rn (Qa4 rfl)) (lc (.rn (Qa4 rfl)) (lc (.rn (Qa4 rfl)) (lc (rnd Qac) (lc rwl ln)))))))) (qc (spr Qaj) (qc (spr Qaq) (qc (spr Qae) qn))))),Qk9 (vs:=[]) trivial rfl (NLt.tup _ nl0) (by kernel_rfl) (Qap (Qbj (nlc (NLt.of0 (nld Qal _)) (nlc (NLt.of0 (nld Qab _)) (nlc (NLt.own _ _ _ _ (by decide)) (nlc (NLt.own _ _ _ _ (by decide)) (nlc (NLt.own _ _ _ _ (by decide)) (nlc (NLt.of0 (nld Qac _)) (nlc (NLt.of0 nll) nl0)))))))) (Qap (Qck Qaj _) (Qap (Qck Qaq _) (Qap (Qck Qae _) Qbz))))⟩
         ·cases h
  ·skip
   refine wxz ?_
   refine bfe h (fun hc57 h=>?_) fun hc57 h=>?_
   ·refine wft hc57 ?_
    refine Zfp 3 [mv 1 (I p0),rp [(.tmp 17,I p0)] (.agg [I p0]),rp [(.tmp 18,(.agg [I p0]))] (.lit (.iface 182 (.agg #[(.int .i64 (p0))]))),⟨[(.tmp 19,(.lit (.iface 182 (.agg #[(.int .i64 (p0))]))))],[],.any,[],false⟩] (by exact ⟨by kernel_rfl,by kernel_rfl⟩) rfl (by kernel_rfl) rfl (Q15 rfl) (⟨fun _ _=>amv rfl,fun _ _=>Qav (vs:=[I p0]) rfl Zm9 Zl6 rfl (by rfl) rfl,fun _ _=>awk (rd':=[(.tmp 18,.lit (.agg #[(.int .i64 (p0))]))]) ⟨rfl,(Less.lits [(.int .i64 (p0))]),trivial⟩ (Q20 rfl Tryz.underlying182),fun _ h=>absurd rfl h,trivial⟩) ?_
    obtain rfl:=osi h
    exact rfl
   ·refine wfn hc57 ?_
    refine Qan ?_
    refine thn ?_
    exact ⟨(),h,(mto (n:=43) [(0,.ref 0 7 0 0),(1,I p0),(6,.ref 7 4 0 0)] [0,1,2,3,7] [(Qgi p2 p3 p4 p5 p6 p7 p8),(Qfv p9),(Qhh p10),(Qgh p11),(Qrk x14)] hφ0 (pc (.rn (rqr rfl)) (pc rwl (pc (.rn (rqr rfl)) pn))) (qc (spb (lc (rnd Qal) (lc (rnd Qab) (lc (.rn (Qa4 rfl)) (lc (.rn (Qa4 rfl)) (lc (.rn (Qa4 rfl)) (lc (rnd Qac) (lc rwl ln)))))))) (qc (spr Qaj) (qc (spr Qaq) (qc (spr Qae) (qc (spb (lcc (lcc ln))) qn))))))⟩
theorem Qlq (N:Nat) (p0:Int) (p1:Int) (p2:(List GRow)) (p3:(List GElement)) (p4:Nat) (p5:Nat) (p6:Nat) (p7:(List GStream)) (p8:Int) (p9:(List (List GStream))) (p10:(List GLost)) (p11:(List Int)) (r:(Int×(List (List GStream))×(List GLost)×(List Int))) (h:Qct N p0 p1 p2 p3 p4 p5 p6 p7 p8 p9 p10 p11=some (.inl r)):Spec Tryz.prog 97 [.ref 0 7 0 0,I p0,I p1] [(Qgi p2 p3 p4 p5 p6 p7 p8),(Qfv p9),(Qhh p10),(Qgh p11)] (.tup []) [(.own 7 [[(.dat 5 ((p2:List GRow).map Qa0)),(.dat 7 ((p3:List GElement).map Qad)),(.own 1 1 (0) (p4)),(.own 2 4 (0) (p5)),(.own 3 1 (0) (p6)),(.dat 4 ((p7:List GStream).map Qaa)),I r.1]]),(.own 1 ((r.2.1:List (List GStream)).map Qaf)),(.own 4 ((r.2.2.1:List GLost).map Qaw)),(.own 1 ((r.2.2.2:List Int).map Qak))]:=Qik N p0 p1 p2 p3 p4 p5 p6 p7 p8 p9 p10 p11 _ h
theorem Qlp (N:Nat) (p0:Int) (p1:Int) (p2:(List GRow)) (p3:(List GElement)) (p4:Nat) (p5:Nat) (p6:Nat) (p7:(List GStream)) (p8:Int) (p9:(List (List GStream))) (p10:(List GLost)) (p11:(List Int)) (r:Int) (h:Qct N p0 p1 p2 p3 p4 p5 p6 p7 p8 p9 p10 p11=some (.inr r)):Zf1 Tryz.prog 97 [.ref 0 7 0 0,I p0,I p1] [(Qgi p2 p3 p4 p5 p6 p7 p8),(Qfv p9),(Qhh p10),(Qgh p11)] (.iface 182 (.agg #[(.int .i64 (r))])):=Qik N p0 p1 p2 p3 p4 p5 p6 p7 p8 p9 p10 p11 _ h
def Zlj:Slot:=.own 1 [[(.lit (.pointer none))]]
theorem Qpw (v0:Int):DPan Tryz.prog 96 [1,1] (.iface 182 (.agg #[(.int .i64 (v0))])) [[(.lit (.pointer none))],[(I (v0))]]:=by
  refine Qrt (t:=5) (args:=[.ref 0 1 0 0,.ref 1 1 0 0]) Tryz.func96 rfl (fun _ _=>rfl) (by kernel_rfl) Zjm 2 (nle rfl) (fun X φ0 w0 hφ0=>?_)
  refine Qb2 ?_
  refine Qam ?_
  refine wx tbk [(0,rp [(.tmp 5,(.lit (.iface 182 (.agg #[(.int .i64 (v0))])))),(.const .nilIface,(.lit .nilIface))] (B false))] ⟨Q2z rfl Tryz.underlying20,trivial⟩ ?_
  refine wfa ?_
  refine wx tbk [(0,rp [(.tmp 5,(.lit (.iface 182 (.agg #[(.int .i64 (v0))]))))] (.tup [(.agg [I v0]),B true]))] ⟨Q2v (r:=.lit (.tuple #[(.agg #[(.int .i64 (v0))]),(.bool true)])) (Less.trans Zan (Less.tup ⟨Zao (l:=[(.int .i64 (v0))]),lrf,trivial⟩)) (Qx4 rfl Tryz.underlying182),trivial⟩ ?_
  refine wtr ?_
  refine wxz ?_
  refine wxe1 ?_
  refine bln ?_
  exact ⟨_,(mto (n:=13) (l':=[]) (own':=[Zlj,(.own 1 [[I v0]])]) [] [0,1] [Zlj,(.own 1 [[I v0]])] hφ0 pn (qc (spb (lc rwl ln)) (qc (spb (lc rwl ln)) qn))),Qda (vs:=[]) trivial rfl (NLt.tup _ nl0) (by kernel_rfl) (Qap (Qbj (nlt0 (nlc nll nl0))) (Qap (Qbj (nlt0 (nlc nll nl0))) Qbz))⟩
end Go.Proofs.YtmbhnllcfmiajaaGreat
