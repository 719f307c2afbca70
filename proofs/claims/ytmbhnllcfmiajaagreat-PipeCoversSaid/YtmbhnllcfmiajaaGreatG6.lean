/-
  The texts X14, PCa6, PEr6, PCb6, PCc6, PCd6, PCe6 of the proof, one behind the other. No conditions.
-/
import Derived.Test.YtmbhnllcfmiajaaGreatG5
namespace Go.Proofs.YtmbhnllcfmiajaaGreat
open _root_.Go.Proofs.Tryz
section
set_option maxRecDepth 100000
set_option maxHeartbeats 4000000
open Go.RowKit
def Qfj (N:Nat) (k1:Unit→Option Bool) (p1:List (List Qaa)):Nat→Int→Option Bool
  |0,_=>none
  |n7+1,y5=>
    bif (decide (y5<(p1.length:Int))) then
     (getI p1 y5).bind fun x9=>
     bif (decide ((x9.length:Int)>25)) then
      some false
     else
      Qfj N k1 p1 n7 (w64 (y5+1))
    else
     k1 ()
def Qma (N:Nat) (p0:GNet) (p1:List (List Qaa)):Option Bool:=
  Qbi (fun _=>
    (Qmc N p0 ([])).bind fun x3=>
    bif x3 then
     some (decide ((p1.length:Int)≤8))
    else
     some false) fun k1:Unit→Option Bool=>
  Qfj N k1 p1 N 0
def Qve (p1:List (List Qaa)):AV:=.dat 1 (p1.map Qae)
def Qxv (p0:GNet):Slot:=.own 2 [[(.dat 5 (p0.Table.map Qav)),(.dat 7 (p0.Elements.map Qal))]]
def Zkr (p0:GNet):AV:=.agg [(.dat 5 (p0.Table.map Qav)),(.dat 7 (p0.Elements.map Qal))]
def Q3l (p0:GNet) (x3:Bool):List (Nat×Rec):=[(1,rp [fu 14,((.tmp 18),(Zkr p0)),((.const (.slice none 0 0)),nilS)] (B x3))]
def Zqb:AV:=.dat 4 (([]:List Qaa).map Qac)
theorem Qzt (N:Nat) (p0:GNet) (p1:List (List Qaa)) (r:Bool) (h:Qma N p0 p1=some r):Spec prog 39 [(.agg (Qgx p0)),(.dat 1 (p1.map Qae))] [] (B r) []:=by
  refine Qak func39 rfl 0 (nle rfl) (fun X φ0 w0 hφ0 hd0=>?_)
  unfold Qma at h
  refine wxz ?_
  obtain⟨k1,hk_k1,h⟩:=jko h
  refine wjn (τ:=Unit) (fun t=>k1 t=some r) (fun _=>⟨mk 25 [(1,(Qve p1)),(2,.ref 0 2 0 0)],[(Qxv p0)]⟩) (fun t h=>?_) ?_
  ·subst hk_k1
   obtain⟨x3,hf2,h⟩:=bno h
   refine hpre (A:=(Q3l p0 x3)) ⟨awk (rd':=(.func 14,(.fn (.func 14) [] []))::[(.tmp 18,(Zkr p0)),((.const (.slice none 0 0)),Zqb)]) ⟨rfl,lrf,rfl,lrf,rfl,Less.nil,tv⟩ (apv Zog (Qzu N p0 ([]) _ hf2) (nlc (NLt.agg _ (nlc (nld Qao _) (nlc (nld Qab _) nl0))) (nlc (nld Qaf _) nl0)) nll),tv⟩ fun q1_=>?_
   refine bfe h (fun hb4 h=>?_) fun hb4 h=>?_
   ·refine wx tbk (hcat (Q3l p0 x3) [(2,rp [(.tmp 19,B x3)] (B true)),(4,rp [(.tmp 20,B true),(.tmp 21,(Qve p1))] (I ((p1.length:Int))))]) (hap q1_ ⟨asb hb4 (amv rfl),ag_ (alq 1 Qae p1 underlying49),tv⟩)<|Qah ?_
    obtain rfl:=osi h
    exact fend ⟨[(B ((decide ((p1.length:Int)≤8))))],⟨rot,tv⟩,rfl⟩ nll
   ·exact wx tbk (hcat (Q3l p0 x3) [(2,rp [(.tmp 19,B x3)] (B false))]) (hap q1_ ⟨asb hb4 (amv rfl),tv⟩)<|Qah<|frb h
  ·skip
   refine wxz<|Qap ?_
   refine wmr (mto (n:=25) (l':=[(1,(Qve p1)),(2,.ref 0 2 0 0),(5,I 0)]) (own':=[(Qxv p0)]) [(1,(Qve p1)),(2,.ref 0 2 0 0),(5,I 0)] [0] [(Qxv p0)] hφ0 (pc (rnd Qai) (prr (pw pn))) (qb (lc (rnd Qao) (lc (rnd Qab) ln)) qn)) ?_
   refine Qbv (τ:=Int) (fun n t=>Qfj N k1 p1 n t=some r) (fun y5=>⟨mk 25 [(1,(Qve p1)),(2,.ref 0 2 0 0),(5,I y5)],[(Qxv p0)]⟩) (fun t h=>by rw[Qfj] at h;cases h) (fun n7 ih y5 h=>?_) N (0) h
   rw[Qfj] at h
   skip
   refine wsq<|wx tbk [(2,rp _ _)] ⟨alq 1 Qae p1 underlying49,tv⟩ ?_
   refine bfe h (fun hc8 h=>?_) fun hc8 h=>?_
   ·refine wft hc8<|Qaq<|thn<|wsq<|Qap ?_
    obtain⟨x9,hg10,h⟩:=bno h
    obtain⟨hi11,hj12⟩:=gsm hg10
    refine wx tbk [(2,rp _ _),(4,rp _ _)] ⟨aiq underlying49 ti28 Qae hi11 hj12,alq 4 Qac x9 underlying28,tv⟩ ?_
    refine bfe h (fun hc13 h=>?_) fun hc13 h=>?_
    ·exact wft hc13<|wxz<|Qah<|Qau<|Qaj<|Qaj<|Qau<|Qaj<|frb h
    ·exact wfn hc13<|Qaq<|bln<|thn<|wxz1<|thn<|arm (mto (n:=25) [(1,(Qve p1)),(2,.ref 0 2 0 0),(5,(I (w64 (y5+1))))] [0] [(Qxv p0)] hφ0 (pc (rnd Qai) (prr (pw pn))) (qb (lc (rnd Qao) (lc (rnd Qab) ln)) qn)) (ih (w64 (y5+1)) h)
   ·exact wfn hc8<|Qbg<|Qay<|Qay<|Qbf rfl<|thn<|⟨(),h,(mto (n:=25) [(1,(Qve p1)),(2,.ref 0 2 0 0)] [0] [(Qxv p0)] hφ0 (pc (rnd Qai) (prr pn)) (qb (lc (rnd Qao) (lc (rnd Qab) ln)) qn))⟩
def Qfe (N:Nat) (p0:List (List Qaa)) (k2:(List (List Qaa))→Option (List (List Qaa))):Nat→(List (List Qaa))→Int→Option (List (List Qaa))
  |0,_,_=>none
  |n7+1,y3,y4=>
    bif (decide (y4<(p0.length:Int))) then
     (getI p0 y4).bind fun x9=>
     (Qja N x9).bind fun x14=>
     chk (decide ((y3.length+([x14]).length)*24≤140737488355328))<|
     Qfe N p0 k2 n7 (y3++([x14])) (w64 (y4+1))
    else
     k2 (y3)
def Qjq (N:Nat) (p0:List (List Qaa)):Option (List (List Qaa)):=
  Qbi (fun y1=>
    some y1) fun k2:(List (List Qaa))→Option (List (List Qaa))=>
  Qfe N p0 k2 N ([]) 0
def Q59 (p0:List (List Qaa)):AV:=.dat 1 (p0.map Qae)
theorem Qpu (N:Nat) (p0 r:List (List Qaa)) (h:Qjq N p0=some r):Spec prog 41 [(.dat 1 (p0.map Qae))] [] (.dat 1 (r.map Qae)) []:=by
  refine Qak func41 rfl 0 (nle rfl) (fun X φ0 w0 hφ0 hd0=>?_)
  unfold Qjq at h
  refine wxz<|wxz ?_
  obtain⟨k2,hk_k2,h⟩:=jko h
  refine wjn (τ:=(List (List Qaa))) (fun t=>k2 t=some r) (fun y1=>⟨mk 20 [(3,(.acc 0 45 1 (y1.map Qae)))],[.tok]⟩) (fun y1 h=>?_) ?_
  ·subst hk_k2
   refine wxz<|Qah ?_
   obtain rfl:=osi h
   exact fend ⟨[(.dat 1 (y1.map Qae))],⟨Qdi (v:=(.acc 0 45 1 (y1.map Qae))) rot Less.acc,tv⟩,rfl⟩ (nld Qai _)
  ·skip
   refine wxz<|Qap ?_
   refine wmr (Mor.trans (Qnq 0 45 1 3 (by kernel_rfl) (by kernel_rfl)) (mto (n:=20) (l':=[(0,(Q59 p0)),(3,(.acc 0 45 1 ((([]):List (List Qaa)).map Qae))),(4,I 0)]) (own':=[.tok]) [(0,(Q59 p0)),(3,(.acc 0 45 1 (([]:List (List Qaa)).map Qae))),(4,I 0)] [0] [.tok] hφ0 (pc (rnd Qai) (pc (.rn (Qa3 rfl (Qa0 Qai _))) (pw pn))) (qc .tok qn))) ?_
   refine Qbv (τ:=(List (List Qaa))×Int) (fun n t=>Qfe N p0 k2 n t.1 t.2=some r) (fun ⟨y3,y4⟩=>⟨mk 20 [(0,(Q59 p0)),(3,(.acc 0 45 1 (y3.map Qae))),(4,I y4)],[.tok]⟩) (fun t h=>by rw[Qfe] at h;cases h) (fun n7 ih t h=>?_) N ([],0) h
   obtain⟨y3,y4⟩:=t
   rw[Qfe] at h
   skip
   refine wsq<|wx tbk [(2,rp _ _)] ⟨alq 1 Qae p0 underlying49,tv⟩ ?_
   refine bfe h (fun hc8 h=>?_) fun hc8 h=>?_
   ·refine wft hc8<|Qaq<|thn<|wsq<|Qap ?_
    obtain⟨x9,hg10,h⟩:=bno h
    obtain⟨hi11,hj12⟩:=gsm hg10
    obtain⟨x14,hf13,h⟩:=bno h
    obtain⟨ha15,h⟩:=cko h
    refine wx1 tbk [(3,rp _ _),(5,rp _ _),(6,rp [(.tmp 16,(.dat 4 (x14.map Qac)))] (.dat 1 (([x14]:List (List Qaa)).map Qae))),(7,⟨[(.tmp 11,(.acc 0 45 1 (y3.map Qae))),(.tmp 17,(.dat 1 (([x14]:List (List Qaa)).map Qae)))],[(0,.tok),(1,.unused)],(.acc 1 45 1 ((y3++([x14]):List (List Qaa)).map Qae)),[(0,.dead),(1,.tok)],false⟩)] ⟨aiq underlying49 ti28 Qae hi11 hj12,apv Zoe (Qtv N x9 _ hf13) (nlc (nld Qaf _) nl0) (nld Qaf _),Qbo (vs:=[(.dat 4 (x14.map Qac))]) rfl underlying31 ti45 tz45 rfl (by decide) rfl (by decide) (by rfl) (by rfl) (by rfl) rfl,Qd6 rfl underlying31 te45 (Base.acc _ _) rfl rfl (by rfl) (Qg2 Qae ha15) (Qg1 Qae ha15 (by decide)) (Qg0 Qae) rfl rfl,tv⟩<|bln<|thn<|wxz1<|thn ?_
    exact arm (mto (n:=20) [(0,(Q59 p0)),(3,(.acc 1 45 1 ((y3++([x14]):List (List Qaa)).map Qae))),(4,(I (w64 (y4+1))))] [1] [.tok] hφ0 (pc (rnd Qai) (pc (.rn (Qa3 rfl (Qa0 Qai _))) (pw pn))) (qc .tok qn)) (ih (y3++([x14]),w64 (y4+1)) h)
   ·exact wfn hc8<|Qbg<|Qay<|Qay<|Qbf rfl<|thn<|⟨(y3),h,(mto (n:=20) [(3,(.acc 0 45 1 (y3.map Qae)))] [0] [.tok] hφ0 (pc (.rn (Qa3 rfl (Qa0 Qai _))) pn) (qc .tok qn))⟩
def Qfq (N:Nat) (p0:GNet) (p2:List (List Qaa)) (k7:Unit→Option Int):Nat→Int→Option Int
  |0,_=>none
  |n10+1,y8=>
    bif (decide (y8<(p2.length:Int))) then
     (getI p2 y8).bind fun x12=>
     (Qi1 N p0 x12).bind fun x17=>
     bif (x17 != 0) then
      some x17
     else
      Qfq N p0 p2 k7 n10 (w64 (y8+1))
    else
     k7 ()
def Qkv (N:Nat) (p0:GNet) (p1:List Int) (p2:List (List Qaa)):Option Int:=
  (Qjl N p0 p1).bind fun x2=>
  bif (x2 != 0) then
   some x2
  else
   (Qc1 N (p2.length:Int) 1 6).bind fun x5=>
   bif (!x5) then
    some 3
   else
    Qbi (fun _=>
      some 0) fun k7:Unit→Option Int=>
    Qfq N p0 p2 k7 N 0
def Q56 (p2:List (List Qaa)):AV:=.dat 1 (p2.map Qae)
def Q57 (p0:GNet):Slot:=.own 2 [[(.dat 5 (p0.Table.map Qav)),(.dat 7 (p0.Elements.map Qal))]]
theorem Qqr (N:Nat) (p0:GNet) (p1:List Int) (p2:List (List Qaa)) (r:Int) (h:Qkv N p0 p1 p2=some r):Spec prog 77 [(.agg (Qgx p0)),(.dat 1 (p1.map Qad)),(.dat 1 (p2.map Qae))] [] (I r) []:=by
  refine Qak func77 rfl 0 (nle rfl) (fun X φ0 w0 hφ0 hd0=>?_)
  unfold Qkv at h
  refine wxz<|wsq ?_
  obtain⟨x2,hf1,h⟩:=bno h
  refine wx tbk [(2,rp _ _)] ⟨apv Zek (Qpp N p0 p1 _ hf1) (nlc (NLt.agg _ (nlc (nld Qao _) (nlc (nld Qab _) nl0))) (nlc (nld Qag _) nl0)) nll,tv⟩<|wxz ?_
  refine bfe h (fun hc3 h=>?_) fun hc3 h=>?_
  ·refine wft hc3<|wxz<|Qah<|Qaj ?_
   obtain rfl:=osi h
   exact fend ⟨[I x2],⟨rot,tv⟩,rfl⟩ nll
  ·refine wfn hc3<|Qaq<|thn<|wsq ?_
   obtain⟨x5,hf4,h⟩:=bno h
   refine wx tbk [(1,rp _ _),(2,rp _ _)] ⟨alq 1 Qae p2 underlying31,apv Qmx (Qdz N (p2.length:Int) 1 6 _ hf4) (nlcc (nlc nll nl0)) nll,tv⟩ ?_
   refine bfe h (fun hc6 h=>?_) fun hc6 h=>?_
   ·refine wft hc6<|wxz<|Qah<|Qaj ?_
    obtain rfl:=osi h
    exact fend ⟨[I 3],⟨rot,tv⟩,rfl⟩ nll
   ·refine wfn hc6<|Qaq<|thn ?_
    obtain⟨k7,hk_k7,h⟩:=jko h
    refine wjn (τ:=Unit) (fun t=>k7 t=some r) (fun _=>⟨mk 34 [],[]⟩) (fun t h=>?_) ?_
    ·subst hk_k7
     refine wxz<|Qah ?_
     obtain rfl:=osi h
     exact fend ⟨[I 0],⟨rot,tv⟩,rfl⟩ nll
    ·skip
     refine wx tbk [(1,rp _ _)] ⟨alq 1 Qae p2 underlying31,tv⟩<|Qap ?_
     refine wmr (mto (n:=34) (l':=[(3,.ref 0 2 0 0),(21,(Q56 p2)),(22,(I ((p2.length:Int)))),(23,I 0)]) (own':=[(Q57 p0)]) [(3,.ref 0 2 0 0),(21,(Q56 p2)),(22,(I ((p2.length:Int)))),(23,I 0)] [0] [(Q57 p0)] hφ0 (prr (pc (rnd Qai) (pw (pw pn)))) (qb (lc (rnd Qao) (lc (rnd Qab) ln)) qn)) ?_
     refine Qbv (τ:=Int) (fun n t=>Qfq N p0 p2 k7 n t=some r) (fun y8=>⟨mk 34 [(3,.ref 0 2 0 0),(21,(Q56 p2)),(22,(I ((p2.length:Int)))),(23,I y8)],[(Q57 p0)]⟩) (fun t h=>by rw[Qfq] at h;cases h) (fun n10 ih y8 h=>?_) N (0) h
     rw[Qfq] at h
     skip
     refine wxz<|wsq ?_
     refine bfe h (fun hc11 h=>?_) fun hc11 h=>?_
     ·refine wft hc11<|Qaq<|thn<|wsq<|Qap ?_
      obtain⟨x12,hg13,h⟩:=bno h
      obtain⟨hi14,hj15⟩:=gsm hg13
      refine wx tbk [(0,rp _ _)] ⟨aiq underlying31 ti45 Qae hi14 hj15,tv⟩ ?_
      obtain⟨x17,hf16,h⟩:=bno h
      refine wx tbk [(2,rp _ _)] ⟨apv Zef (Qo0 N p0 x12 _ hf16) (nlc (NLt.agg _ (nlc (nld Qao _) (nlc (nld Qab _) nl0))) (nlc (nld Qaf _) nl0)) nll,tv⟩<|wxz ?_
      refine bfe h (fun hc18 h=>?_) fun hc18 h=>?_
      ·refine wft hc18<|wxz<|Qah<|Qau<|Qaj<|Qaj<|Qau<|Qaj ?_
       obtain rfl:=osi h
       exact fend ⟨[I x17],⟨rot,tv⟩,rfl⟩ nll
      ·exact wfn hc18<|Qaq<|bln<|thn<|wxz1<|thn<|arm (mto (n:=34) [(3,.ref 0 2 0 0),(21,(Q56 p2)),(22,(I ((p2.length:Int)))),(23,(I (w64 (y8+1))))] [0] [(Q57 p0)] hφ0 (prr (pc (rnd Qai) (pw (pw pn)))) (qb (lc (rnd Qao) (lc (rnd Qab) ln)) qn)) (ih (w64 (y8+1)) h)
     ·exact wfn hc11<|Qbg<|Qay<|Qay<|Qbf rfl<|thn<|⟨(),h,(mto (n:=34) [] [] [] hφ0 pn qn)⟩
def Qdr (N:Nat) (p0:GNet) (p1:List Int) (k2:(List Qb8)→Option ((List Qb8)×Bool)) (p2:List (List Qaa)):Nat→(List Qb8)→Int→Option ((List Qb8)×Bool)
  |0,_,_=>none
  |n7+1,y3,y4=>
    bif (decide (y4<(p2.length:Int))) then
     (getI p2 y4).bind fun x9=>
     (Qgc N p0 p1 x9).bind (
      Sum.elim (fun x15=>
        bif (decide (x15≥0)) then
         some ([],false)
        else
         none)
      (fun x17=>
        bif (decide (x17.1≥0)) then
         some ([],false)
        else
         chk (decide ((p0.Elements.length:Int).toNat≤x17.2.2.1.length))<|
         chk (decide ((p0.Elements.length:Int).toNat≤x17.2.2.2.1.length))<|
         chk (decide (p1.length≤x17.2.2.2.2.length))<|
         chk (decide ((y3.length+([(⟨p0,(⟨x17.2.2.1.take ((p0.Elements.length:Int).toNat),x17.2.2.2.1.take ((p0.Elements.length:Int).toNat),x17.2.2.2.2.take p1.length⟩:Qfg),x9,x17.2.1⟩:Qb8)]).length)*8≤140737488355328))<|
         Qdr N p0 p1 k2 p2 n7 (y3++([(⟨p0,(⟨x17.2.2.1.take ((p0.Elements.length:Int).toNat),x17.2.2.2.1.take ((p0.Elements.length:Int).toNat),x17.2.2.2.2.take p1.length⟩:Qfg),x9,x17.2.1⟩:Qb8)])) (w64 (y4+1))))
    else
     k2 (y3)
def Qii (N:Nat) (p0:GNet) (p1:List Int) (p2:List (List Qaa)):Option ((List Qb8)×Bool):=
  Qbi (fun y1=>
    some (y1,true)) fun k2:(List Qb8)→Option ((List Qb8)×Bool)=>
  Qdr N p0 p1 k2 p2 N ([]) 0
def Qoy (p2:List (List Qaa)):AV:=.dat 1 (p2.map Qae)
def Qqp (p0:GNet):AV:=.dat 5 (p0.Table.map Qav)
def Qqo (p0:GNet):AV:=.dat 7 (p0.Elements.map Qal)
def Qoz (p0:GNet):Slot:=.own 2 [[(Qqp p0),(Qqo p0)]]
def Qmh (y3:List Qb8):AV:=.acc 1 136 1 (y3.map Qbr)
def Qqn (p0:GNet):AV:=.agg [(Qqp p0),(Qqo p0)]
def Qd2 (x9:List Qaa):AV:=.dat 4 (x9.map Qac)
def Zp9:Slot:=.own 1 [[(.lit (.pointer none))]]
def Zbn:AV:=.dat 1 (([]:List Qb8).map Qbr)
def Qpb:Slot:=.own 1 [[(.ref 4 7 (0) 0)]]
def Zbq (p0:GNet) (p1:List Int) (x9:List Qaa) (x17:(Int×Int×(List (List Qaa))×(List Qa9)×(List Int))):Slot:=.own 7 [[(Qqp p0),(Qqo p0),(.own 5 1 (0) ((p0.Elements.length:Int).toNat)),(.own 6 4 (0) ((p0.Elements.length:Int).toNat)),(.own 7 1 (0) p1.length),(Qd2 x9),(I x17.2.1)]]
def Qs7 (x17:(Int×Int×(List (List Qaa))×(List Qa9)×(List Int))):Slot:=.own 1 (x17.2.2.2.2.map Qad)
def Qq0 (x17:(Int×Int×(List (List Qaa))×(List Qa9)×(List Int))) (p0:GNet):AV:=.dat 1 ((x17.2.2.1.take ((p0.Elements.length:Int).toNat):List (List Qaa)).map Qae)
def Qvd (x17:(Int×Int×(List (List Qaa))×(List Qa9)×(List Int))) (p0:GNet):AV:=.dat 4 ((x17.2.2.2.1.take ((p0.Elements.length:Int).toNat):List Qa9).map Qax)
def Zbp (p0:GNet) (x17:(Int×Int×(List (List Qaa))×(List Qa9)×(List Int))) (p1:List Int) (x9:List Qaa):AV:=.dat 1 (([(⟨p0,(⟨x17.2.2.1.take ((p0.Elements.length:Int).toNat),x17.2.2.2.1.take ((p0.Elements.length:Int).toNat),x17.2.2.2.2.take p1.length⟩:Qfg),x9,x17.2.1⟩:Qb8)]:List Qb8).map Qbr)
def Zbo (y3:List Qb8) (p0:GNet) (x17:(Int×Int×(List (List Qaa))×(List Qa9)×(List Int))) (p1:List Int) (x9:List Qaa):AV:=.acc 8 136 1 ((y3++([(⟨p0,(⟨x17.2.2.1.take ((p0.Elements.length:Int).toNat),x17.2.2.2.1.take ((p0.Elements.length:Int).toNat),x17.2.2.2.2.take p1.length⟩:Qfg),x9,x17.2.1⟩:Qb8)]):List Qb8).map Qbr)
theorem Qn4 (N:Nat) (p0:GNet) (p1:List Int) (p2:List (List Qaa)) (r:((List Qb8)×Bool)) (h:Qii N p0 p1 p2=some r):Spec prog 78 [(.agg (Qgx p0)),(.dat 1 (p1.map Qad)),(.dat 1 (p2.map Qae))] [] (.tup [(.dat 1 (r.1.map Qbr)),(B r.2)]) []:=by
  refine Qak func78 rfl 0 (nle rfl) (fun X φ0 w0 hφ0 hd0=>?_)
  unfold Qii at h
  refine wxz<|wxz ?_
  obtain⟨k2,hk_k2,h⟩:=jko h
  refine wjn (τ:=(List Qb8)) (fun t=>k2 t=some r) (fun y1=>⟨mk 34 [(8,(.acc 0 136 1 (y1.map Qbr)))],[.tok]⟩) (fun y1 h=>?_) ?_
  ·subst hk_k2
   refine wxz<|Qah ?_
   obtain rfl:=osi h
   exact fend ⟨[(.dat 1 (y1.map Qbr)),B true],⟨Qdi (v:=(.acc 0 136 1 (y1.map Qbr))) rot Less.acc,rot,tv⟩,rfl⟩ (NLt.tup _ (nlc (nld Qb3 _) (nlc nll nl0)))
  ·skip
   refine wx tbk [(1,rp _ _)] ⟨alq 1 Qae p2 underlying31,tv⟩<|Qap ?_
   refine wmr (Mor.trans (Qnq 1 136 1 8 (by kernel_rfl) (by kernel_rfl)) (mto (n:=34) (l':=[(1,(.dat 1 (p1.map Qad))),(3,.ref 0 2 0 0),(8,(.acc 1 136 1 ((([]):List Qb8).map Qbr))),(13,(Qoy p2)),(14,(I ((p2.length:Int)))),(15,I 0)]) (own':=[(Qoz p0),.tok]) [(1,(.dat 1 (p1.map Qad))),(3,.ref 0 2 0 0),(8,(.acc 1 136 1 (([]:List Qb8).map Qbr))),(13,(Qoy p2)),(14,(I ((p2.length:Int)))),(15,I 0)] [0,1] [(Qoz p0),.tok] hφ0 (pc (rnd Qag) (prr (pc (.rn (Qa3 rfl (Qa0 Qb3 _))) (pc (rnd Qai) (pw (pw pn)))))) (qb (lc (rnd Qao) (lc (rnd Qab) ln)) (qc .tok qn)))) ?_
   refine Qbv (τ:=(List Qb8)×Int) (fun n t=>Qdr N p0 p1 k2 p2 n t.1 t.2=some r) (fun ⟨y3,y4⟩=>⟨mk 34 [(1,(.dat 1 (p1.map Qad))),(3,.ref 0 2 0 0),(8,(Qmh y3)),(13,(Qoy p2)),(14,(I ((p2.length:Int)))),(15,I y4)],[(Qoz p0),.tok]⟩) (fun t h=>by rw[Qdr] at h;cases h) (fun n7 ih t h=>?_) N ([],0) h
   obtain⟨y3,y4⟩:=t
   rw[Qdr] at h
   skip
   refine wxz<|wsq ?_
   refine bfe h (fun hc8 h=>?_) fun hc8 h=>?_
   ·refine wft hc8<|Qaq<|thn<|wsq<|Qap ?_
    obtain⟨x9,hg10,h⟩:=bno h
    obtain⟨hi11,hj12⟩:=gsm hg10
    refine wx tbk [(0,rp _ _)] ⟨aiq underlying31 ti45 Qae hi11 hj12,tv⟩ ?_
    obtain⟨x14,hf13,h⟩:=bno h
    rcases x14 with x15 |x17
    ·replace h:=Zmq h
     refine wx tbk [(3,⟨_,_,_,_,false⟩)] ⟨Qat (first:=[]) (cap:=[]) (vs:=[(Qqn p0),(.dat 1 (p1.map Qad)),(Qd2 x9)]) (σr:=[]) (σr':=[Zp9,(.own 1 [[I x15]])]) (res':=(.tup [(.lit (.pointer none)),I x15])) [2,3] rfl Qz5 (Qm9 N p0 p1 x9 _ hf13) rfl (Qbq (rnc (.plain _ (NLt.agg _ (nlc (nld Qao _) (nlc (nld Qab _) nl0)))) (rnc (pld Qag) (rnc (pld Qaf) rn0)))) Qas (slc (Qan (rnc (.plain _ nll) rn0)) (slc (Qan (rnc (.plain _ nll) rn0)) Qas)) (.plain _ (NLt.tup _ (nlcc nl0))) rfl rfl rfl,tv⟩<|wsq<|wxz ?_
     refine bfe h (fun hc16 h=>?_) fun hc16 h=>?_
     ·refine wft hc16<|wxz<|Qah<|Qaj<|Qau<|Qaj<|Qaj<|Qau<|Qaj ?_
      obtain rfl:=osi h
      exact fend ⟨[Zbn,B false],⟨Qdi (v:=nilS) rot Less.nil,rot,tv⟩,rfl⟩ (NLt.tup _ (nlc (nld Qb3 _) (nlc nll nl0)))
     ·refine wfn hc16<|Qaq<|thn ?_
      cases h
    ·replace h:=Zmp h
     refine wx tbk [(3,⟨_,_,_,_,false⟩)] ⟨Qat (first:=[]) (cap:=[]) (vs:=[(Qqn p0),(.dat 1 (p1.map Qad)),(Qd2 x9)]) (σr:=[]) (σr':=[Qpb,(.own 1 [[I x17.1]]),(Zbq p0 p1 x9 x17),(.own 1 (x17.2.2.1.map Qae)),(.own 4 (x17.2.2.2.1.map Qax)),(Qs7 x17)]) (res':=(.tup [.ref 4 7 0 0,I x17.1])) [2,3,4,5,6,7] rfl Qz5 (Qm8 N p0 p1 x9 _ hf13) rfl (Qbq (rnc (.plain _ (NLt.agg _ (nlc (nld Qao _) (nlc (nld Qab _) nl0)))) (rnc (pld Qag) (rnc (pld Qaf) rn0)))) Qas (slc (Qan (rnc (Qb4 rfl) rn0)) (slc (Qan (rnc (.plain _ nll) rn0)) (slc (Qan (rnc (pld Qao) (rnc (pld Qab) (rnc (Qdt rfl) (rnc (Qdt rfl) (rnc (Qdt rfl) (rnc (pld Qaf) (rnc (.plain _ nll) rn0)))))))) (slc (Qbm Qai) (slc (Qbm Qa2) (slc (Qbm Qag) Qas)))))) (Zky (rnc (Qb4 rfl) (rnc (.plain _ nll) rn0))) rfl rfl rfl,tv⟩<|wsq<|wxz ?_
     refine bfe h (fun hc18 h=>?_) fun hc18 h=>?_
     ·refine wft hc18<|wxz<|Qah<|Qaj<|Qau<|Qaj<|Qaj<|Qau<|Qaj ?_
      obtain rfl:=osi h
      exact fend ⟨[Zbn,B false],⟨Qdi (v:=nilS) rot Less.nil,rot,tv⟩,rfl⟩ (NLt.tup _ (nlc (nld Qb3 _) (nlc nll nl0)))
     ·refine wfn hc18<|Qaq<|thn ?_
      obtain⟨hz19,h⟩:=cko h
      refine wmr (Qzn [(Qoz p0),.tok,Qpb,(.own 1 [[I x17.1]]),(Zbq p0 p1 x9 x17),(.own 1 (x17.2.2.1.map Qae)),(.own 4 (x17.2.2.2.1.map Qax)),(Qs7 x17)] (Qzo (n:=34) (m:=1) (xs:=x17.2.2.1.map Qae) (l':=[(1,(.dat 1 (p1.map Qad))),(3,.ref 0 2 0 0),(8,(Qmh y3)),(10,(Qd2 x9)),(11,.ref 4 7 0 0),(12,I x17.1),(13,(Qoy p2)),(14,(I ((p2.length:Int)))),(15,I y4),(16,(B ((decide (y4<(p2.length:Int)))))),(17,(.dptr (Qae x9) 0)),(18,(Qd2 x9)),(19,(.tup [.ref 4 7 0 0,I x17.1])),(20,(Qqn p0)),(21,(.dat 1 (p1.map Qad))),(22,(Qd2 x9)),(23,(.tup [.ref 4 7 0 0,I x17.1])),(24,.ref 4 7 0 0),(25,I x17.1),(26,I x17.1),(27,(B ((decide (x17.1≥0)))))]) (own':=[(Qoz p0),.tok,Qpb,(.own 1 [[I x17.1]]),(.own 7 [[(Qqp p0),(Qqo p0),(Qq0 x17 p0),(.own 6 4 (0) ((p0.Elements.length:Int).toNat)),(.own 7 1 (0) p1.length),(Qd2 x9),I x17.2.1]]),.dead,(.own 4 (x17.2.2.2.1.map Qax)),(Qs7 x17)]) 5 [(1,(.dat 1 (p1.map Qad))),(3,.ref 0 2 0 0),(8,(Qmh y3)),(10,(Qd2 x9)),(11,.ref 4 7 0 0),(12,I x17.1),(13,(Qoy p2)),(14,(I ((p2.length:Int)))),(15,I y4),(16,(B ((decide (y4<(p2.length:Int)))))),(17,(.dptr (Qae x9) 0)),(18,(Qd2 x9)),(19,(.tup [.ref 4 7 0 0,I x17.1])),(20,(Qqn p0)),(21,(.dat 1 (p1.map Qad))),(22,(Qd2 x9)),(23,(.tup [.ref 4 7 0 0,I x17.1])),(24,.ref 4 7 0 0),(25,I x17.1),(26,I x17.1),(27,(B ((decide (x17.1≥0)))))] (by kernel_rfl) (by kernel_rfl) (by kernel_rfl) ⟨rfl,(.same _),rfl,(.same _),rfl,(.same _),rfl,(.same _),rfl,(.same _),rfl,(.same _),rfl,(.same _),rfl,(.same _),rfl,(.same _),rfl,(.same _),rfl,(.same _),rfl,(.same _),rfl,(.same _),rfl,(.same _),rfl,(.same _),rfl,(.same _),rfl,(.same _),rfl,(.same _),rfl,(.same _),rfl,(.same _),rfl,(.same _),tv⟩ (qc Qdw (qc Qdw (qc Qdw (qc Qdw (qc (Qu1 (lc (.same _) (lc (.same _) (lc (Qnr hz19) (lc (.same _) (lc (.same _) (lc (.same _) (lc (.same _) ln)))))))) (qc .dead (qc Qdw (qc Qdw qn)))))))))) ?_
      obtain⟨hz20,h⟩:=cko h
      refine wmr (Qzn [(Qoz p0),.tok,Qpb,(.own 1 [[I x17.1]]),(.own 7 [[(Qqp p0),(Qqo p0),(Qq0 x17 p0),(.own 6 4 (0) ((p0.Elements.length:Int).toNat)),(.own 7 1 (0) p1.length),(Qd2 x9),I x17.2.1]]),.dead,(.own 4 (x17.2.2.2.1.map Qax)),(Qs7 x17)] (Qzo (n:=34) (m:=4) (xs:=x17.2.2.2.1.map Qax) (l':=[(1,(.dat 1 (p1.map Qad))),(3,.ref 0 2 0 0),(8,(Qmh y3)),(10,(Qd2 x9)),(11,.ref 4 7 0 0),(12,I x17.1),(13,(Qoy p2)),(14,(I ((p2.length:Int)))),(15,I y4),(16,(B ((decide (y4<(p2.length:Int)))))),(17,(.dptr (Qae x9) 0)),(18,(Qd2 x9)),(19,(.tup [.ref 4 7 0 0,I x17.1])),(20,(Qqn p0)),(21,(.dat 1 (p1.map Qad))),(22,(Qd2 x9)),(23,(.tup [.ref 4 7 0 0,I x17.1])),(24,.ref 4 7 0 0),(25,I x17.1),(26,I x17.1),(27,(B ((decide (x17.1≥0)))))]) (own':=[(Qoz p0),.tok,Qpb,(.own 1 [[I x17.1]]),(.own 7 [[(Qqp p0),(Qqo p0),(Qq0 x17 p0),(Qvd x17 p0),(.own 7 1 (0) p1.length),(Qd2 x9),I x17.2.1]]),.dead,.dead,(Qs7 x17)]) 6 [(1,(.dat 1 (p1.map Qad))),(3,.ref 0 2 0 0),(8,(Qmh y3)),(10,(Qd2 x9)),(11,.ref 4 7 0 0),(12,I x17.1),(13,(Qoy p2)),(14,(I ((p2.length:Int)))),(15,I y4),(16,(B ((decide (y4<(p2.length:Int)))))),(17,(.dptr (Qae x9) 0)),(18,(Qd2 x9)),(19,(.tup [.ref 4 7 0 0,I x17.1])),(20,(Qqn p0)),(21,(.dat 1 (p1.map Qad))),(22,(Qd2 x9)),(23,(.tup [.ref 4 7 0 0,I x17.1])),(24,.ref 4 7 0 0),(25,I x17.1),(26,I x17.1),(27,(B ((decide (x17.1≥0)))))] (by kernel_rfl) (by kernel_rfl) (by kernel_rfl) ⟨rfl,(.same _),rfl,(.same _),rfl,(.same _),rfl,(.same _),rfl,(.same _),rfl,(.same _),rfl,(.same _),rfl,(.same _),rfl,(.same _),rfl,(.same _),rfl,(.same _),rfl,(.same _),rfl,(.same _),rfl,(.same _),rfl,(.same _),rfl,(.same _),rfl,(.same _),rfl,(.same _),rfl,(.same _),rfl,(.same _),rfl,(.same _),tv⟩ (qc Qdw (qc Qdw (qc Qdw (qc Qdw (qc (Qu1 (lc (.same _) (lc (.same _) (lc (.same _) (lc (Qnr hz20) (lc (.same _) (lc (.same _) (lc (.same _) ln)))))))) (qc Qdw (qc .dead (qc Qdw qn)))))))))) ?_
      obtain⟨hz21,h⟩:=cko h
      refine wmr (Qzn [(Qoz p0),.tok,Qpb,(.own 1 [[I x17.1]]),(.own 7 [[(Qqp p0),(Qqo p0),(Qq0 x17 p0),(Qvd x17 p0),(.own 7 1 (0) p1.length),(Qd2 x9),I x17.2.1]]),.dead,.dead,(Qs7 x17)] (Qzo (n:=34) (m:=1) (xs:=x17.2.2.2.2.map Qad) (l':=[(1,(.dat 1 (p1.map Qad))),(3,.ref 0 2 0 0),(8,(Qmh y3)),(10,(Qd2 x9)),(11,.ref 4 7 0 0),(12,I x17.1),(13,(Qoy p2)),(14,(I ((p2.length:Int)))),(15,I y4),(16,(B ((decide (y4<(p2.length:Int)))))),(17,(.dptr (Qae x9) 0)),(18,(Qd2 x9)),(19,(.tup [.ref 4 7 0 0,I x17.1])),(20,(Qqn p0)),(21,(.dat 1 (p1.map Qad))),(22,(Qd2 x9)),(23,(.tup [.ref 4 7 0 0,I x17.1])),(24,.ref 4 7 0 0),(25,I x17.1),(26,I x17.1),(27,(B ((decide (x17.1≥0)))))]) (own':=[(Qoz p0),.tok,Qpb,(.own 1 [[I x17.1]]),(.own 7 [[(Qqp p0),(Qqo p0),(Qq0 x17 p0),(Qvd x17 p0),(.dat 1 ((x17.2.2.2.2.take p1.length:List Int).map Qad)),(Qd2 x9),I x17.2.1]]),.dead,.dead,.dead]) 7 [(1,(.dat 1 (p1.map Qad))),(3,.ref 0 2 0 0),(8,(Qmh y3)),(10,(Qd2 x9)),(11,.ref 4 7 0 0),(12,I x17.1),(13,(Qoy p2)),(14,(I ((p2.length:Int)))),(15,I y4),(16,(B ((decide (y4<(p2.length:Int)))))),(17,(.dptr (Qae x9) 0)),(18,(Qd2 x9)),(19,(.tup [.ref 4 7 0 0,I x17.1])),(20,(Qqn p0)),(21,(.dat 1 (p1.map Qad))),(22,(Qd2 x9)),(23,(.tup [.ref 4 7 0 0,I x17.1])),(24,.ref 4 7 0 0),(25,I x17.1),(26,I x17.1),(27,(B ((decide (x17.1≥0)))))] (by kernel_rfl) (by kernel_rfl) (by kernel_rfl) ⟨rfl,(.same _),rfl,(.same _),rfl,(.same _),rfl,(.same _),rfl,(.same _),rfl,(.same _),rfl,(.same _),rfl,(.same _),rfl,(.same _),rfl,(.same _),rfl,(.same _),rfl,(.same _),rfl,(.same _),rfl,(.same _),rfl,(.same _),rfl,(.same _),rfl,(.same _),rfl,(.same _),rfl,(.same _),rfl,(.same _),rfl,(.same _),tv⟩ (qc Qdw (qc Qdw (qc Qdw (qc Qdw (qc (Qu1 (lc (.same _) (lc (.same _) (lc (.same _) (lc (.same _) (lc (Qnr hz21) (lc (.same _) (lc (.same _) ln)))))))) (qc Qdw (qc Qdw (qc .dead qn)))))))))) ?_
      refine wmr (Qzn [(Qoz p0),.tok,Qpb,(.own 1 [[I x17.1]]),(.own 7 [[(Qqp p0),(Qqo p0),(Qq0 x17 p0),(Qvd x17 p0),(.dat 1 ((x17.2.2.2.2.take p1.length:List Int).map Qad)),(Qd2 x9),I x17.2.1]]),.dead,.dead,.dead] (Qzo (n:=34) (m:=7) (xs:=[[(Qqp p0),(Qqo p0),(Qq0 x17 p0),(Qvd x17 p0),(.dat 1 ((x17.2.2.2.2.take p1.length:List Int).map Qad)),(Qd2 x9),I x17.2.1]]) (l':=[(1,(.dat 1 (p1.map Qad))),(3,.ref 0 2 0 0),(8,(Qmh y3)),(10,(Qd2 x9)),(11,(.dptr (Qfr (⟨p0,(⟨x17.2.2.1.take ((p0.Elements.length:Int).toNat),x17.2.2.2.1.take ((p0.Elements.length:Int).toNat),x17.2.2.2.2.take p1.length⟩:Qfg),x9,x17.2.1⟩:Qb8)) 0)),(12,I x17.1),(13,(Qoy p2)),(14,(I ((p2.length:Int)))),(15,I y4),(16,(B ((decide (y4<(p2.length:Int)))))),(17,(.dptr (Qae x9) 0)),(18,(Qd2 x9)),(19,.any),(20,(Qqn p0)),(21,(.dat 1 (p1.map Qad))),(22,(Qd2 x9)),(23,.any),(24,(.dptr (Qfr (⟨p0,(⟨x17.2.2.1.take ((p0.Elements.length:Int).toNat),x17.2.2.2.1.take ((p0.Elements.length:Int).toNat),x17.2.2.2.2.take p1.length⟩:Qfg),x9,x17.2.1⟩:Qb8)) 0)),(25,I x17.1),(26,I x17.1),(27,(B ((decide (x17.1≥0)))))]) (own':=[(Qoz p0),.tok,(.own 1 [[(.dptr (Qfr (⟨p0,(⟨x17.2.2.1.take ((p0.Elements.length:Int).toNat),x17.2.2.2.1.take ((p0.Elements.length:Int).toNat),x17.2.2.2.2.take p1.length⟩:Qfg),x9,x17.2.1⟩:Qb8)) 0)]]),(.own 1 [[I x17.1]]),.dead,.dead,.dead,.dead]) 4 [(1,(.dat 1 (p1.map Qad))),(3,.ref 0 2 0 0),(8,(Qmh y3)),(10,(Qd2 x9)),(11,.ref 4 7 0 0),(12,I x17.1),(13,(Qoy p2)),(14,(I ((p2.length:Int)))),(15,I y4),(16,(B ((decide (y4<(p2.length:Int)))))),(17,(.dptr (Qae x9) 0)),(18,(Qd2 x9)),(19,(.tup [.ref 4 7 0 0,I x17.1])),(20,(Qqn p0)),(21,(.dat 1 (p1.map Qad))),(22,(Qd2 x9)),(23,(.tup [.ref 4 7 0 0,I x17.1])),(24,.ref 4 7 0 0),(25,I x17.1),(26,I x17.1),(27,(B ((decide (x17.1≥0)))))] (by kernel_rfl) (by kernel_rfl) (by kernel_rfl) ⟨rfl,(.same _),rfl,(.same _),rfl,(.same _),rfl,(.same _),rfl,(.ptr _ _ rfl),rfl,(.same _),rfl,(.same _),rfl,(.same _),rfl,(.same _),rfl,(.same _),rfl,(.same _),rfl,(.same _),rfl,(.any _),rfl,(.same _),rfl,(.same _),rfl,(.same _),rfl,(.any _),rfl,(.ptr _ _ rfl),rfl,(.same _),rfl,(.same _),rfl,(.same _),tv⟩ (qc Qdw (qc Qdw (qc (Qu1 (lc (.ptr _ _ rfl) ln)) (qc Qdw (qc .dead (qc Qdw (qc Qdw (qc Qdw qn)))))))))) ?_
      obtain⟨ha22,h⟩:=cko h
      refine wx1 tbk [(2,rp [(.tmp 29,(.dptr (Qfr (⟨p0,(⟨x17.2.2.1.take ((p0.Elements.length:Int).toNat),x17.2.2.2.1.take ((p0.Elements.length:Int).toNat),x17.2.2.2.2.take p1.length⟩:Qfg),x9,x17.2.1⟩:Qb8)) 0))] (Zbp p0 x17 p1 x9)),(3,⟨[(.tmp 28,(Qmh y3)),(.tmp 30,(Zbp p0 x17 p1 x9))],[(1,.tok),(8,.unused)],(Zbo y3 p0 x17 p1 x9),[(1,.dead),(8,.tok)],false⟩)] ⟨Qbo (vs:=[(.dptr (Qfr (⟨p0,(⟨x17.2.2.1.take ((p0.Elements.length:Int).toNat),x17.2.2.2.1.take ((p0.Elements.length:Int).toNat),x17.2.2.2.2.take p1.length⟩:Qfg),x9,x17.2.1⟩:Qb8)) 0)]) rfl underlying168 Qkj Zqt rfl (by decide) rfl (by decide) (by rfl) (by rfl) (by rfl) rfl,Qd6 rfl underlying168 Zst (Base.acc _ _) rfl rfl (by rfl) (Qg2 Qbr ha22) (Qg1 Qbr ha22 (by decide)) (Qg0 Qbr) rfl rfl,tv⟩<|bln<|thn<|wxz1<|thn ?_
      exact arm (mto (n:=34) [(1,(.dat 1 (p1.map Qad))),(3,.ref 0 2 0 0),(8,(Zbo y3 p0 x17 p1 x9)),(13,(Qoy p2)),(14,(I ((p2.length:Int)))),(15,(I (w64 (y4+1))))] [0,8] [(Qoz p0),.tok] hφ0 (pc (rnd Qag) (prr (pc (.rn (Qa3 rfl (Qa0 Qb3 _))) (pc (rnd Qai) (pw (pw pn)))))) (qb (lc (rnd Qao) (lc (rnd Qab) ln)) (qc .tok qn))) (ih (y3++([(⟨p0,(⟨x17.2.2.1.take ((p0.Elements.length:Int).toNat),x17.2.2.2.1.take ((p0.Elements.length:Int).toNat),x17.2.2.2.2.take p1.length⟩:Qfg),x9,x17.2.1⟩:Qb8)]),w64 (y4+1)) h)
   ·exact wfn hc8<|Qbg<|Qay<|Qay<|Qbf rfl<|thn<|⟨(y3),h,(mto (n:=34) [(8,(Qmh y3))] [1] [.tok] hφ0 (pc (.rn (Qa3 rfl (Qa0 Qb3 _))) pn) (qc .tok qn))⟩
def Qnp (_N:Nat) (p0:Qaa):Option Int:=
  some p0.Mass
theorem Qtn (N:Nat) (p0:Qaa) (r:Int) (h:Qnp N p0=some r):Spec prog 82 [(.agg (Qac p0))] [] (I r) []:=by
  refine Qak func82 rfl 0 (nle rfl) (fun X φ0 w0 hφ0 hd0=>?_)
  unfold Qnp at h
  refine wxz<|wxz<|Qah ?_
  obtain rfl:=osi h
  exact fend ⟨[I p0.Mass],⟨rot,tv⟩,rfl⟩ nll
def Qei (N:Nat) (p0:Qb8) (p1 p2:Int):Option Int:=
  (getI p0.Tick.Out p1).bind fun x2=>
  (getI x2 p2).bind fun x6=>
  (Qnp N x6).bind fun x11=>
  some x11
def Q55:Slot:=.own 1 [[(.fn (.func 82) [] [])]]
theorem Qhi (N:Nat) (p0:Qb8) (p1 p2 r:Int) (h:Qei N p0 p1 p2=some r):Spec prog 81 [(.dptr (Qfr p0) 0),(.ref 0 1 (0) 0),(.ref 1 2 (0) 0)] [Q55,(.own 2 [[(I p1),(I p2)]])] (I r) [Q55,(.own 2 [[(I p1),(I p2)]])]:=by
  refine Qak func81 rfl 2 (nle rfl) (fun X φ0 w0 hφ0 hd0=>?_)
  unfold Qei at h
  refine Qby<|wxz ?_
  obtain⟨x2,hg3,h⟩:=bno h
  obtain⟨hi4,hj5⟩:=gsm hg3
  obtain⟨x6,hg7,h⟩:=bno h
  obtain⟨hi8,hj9⟩:=gsm hg7
  obtain⟨x11,hf10,h⟩:=bno h
  refine wxd tbk [(8,rp _ _),(12,rp _ _),(14,rp _ _)] ⟨aiq underlying31 ti45 Qae hi4 hj5,aiq underlying45 ti63 Qac hi8 hj9,apv Znt (Qtn N x6 _ hf10) (nlc (NLt.agg _ (nlcc (nlcc nl0))) nl0) nll,tv⟩ ?_
  refine wmr (mto (n:=20) (l':=[(4,I x11)]) (own':=[Q55,(.own 2 [[I p1,I p2]])]) [(4,I x11)] [0,1] [Q55,(.own 2 [[I p1,I p2]])] hφ0 (pw pn) (qb (lc (.rn (Qbl rn0 rn0)) ln) (qb (lcc ln) qn)))<|Qah ?_
  obtain rfl:=osi h
  exact⟨_,Mor.rfl,Qcy (vs:=[I x11]) ⟨rot,tv⟩ rfl (NLt.of0 nll) (by kernel_rfl) (Qar (Qa8 (nlc (NLt.of0 (NLt.fn _ _ _ nl0 nl0)) nl0)) (Qar (Qa8 (nlc (NLt.of0 nll) (nlc (NLt.of0 nll) nl0))) Qbx))⟩
def Qcq (N:Nat) (p0:List Qb8) (p1 p2:Int) (k14:Int×Int→Option Qbb):Nat→Int→Int→Int→Option Qbb
  |0,_,_,_=>none
  |n22+1,y16,y17,y18=>
    bif (decide (y16<((p0.drop (1:Int).toNat).length:Int))) then
     (getI (p0.drop (1:Int).toNat) y16).bind fun x24=>
     (Qei N x24 p1 p2).bind fun x29=>
     (Qei N x24 p1 p2).bind fun x31=>
     Qcq N p0 p1 p2 k14 n22 (w64 (y16+1)) (if x29<y17 then x29 else y17) (if x31>y18 then x31 else y18)
    else
     k14 (y17,y18)
def Qgu (N:Nat) (p0:List Qb8) (p1 p2:Int):Option Qbb:=
  (getI p0 0).bind fun x4=>
  (Qei N x4 p1 p2).bind fun x9=>
  (Qei N x4 p1 p2).bind fun x11=>
  Qbi (fun ⟨y12,y13⟩=>
    some (⟨y12,y13⟩:Qbb)) fun k14:Int×Int→Option Qbb=>
  chk (decide (0≤1)&&decide (1≤(p0.length:Int))&&decide ((p0.length:Int)≤(p0.length:Int)))<|
  Qcq N p0 p1 p2 k14 N 0 x9 x11
def Q04:AV:=.fn (.func 81) [] [(.ref 0 1 (0) 0),(.ref 1 2 (0) 0)]
def Qkr:Slot:=.own 1 [[(.fn (.func 82) [] [])]]
def Qkq (p1 p2:Int):Slot:=.own 2 [[(I p1),(I p2)]]
def Qxt:Slot:=.own 2 [[(I (0)),(I (0))]]
def Q03 (p0:List Qb8):AV:=.dat 1 ((p0.drop (1:Int).toNat:List Qb8).map Qbr)
theorem Qnl (N:Nat) (p0:List Qb8) (p1 p2:Int) (r:Qbb) (h:Qgu N p0 p1 p2=some r):Spec prog 80 [(.dat 1 (p0.map Qbr)),Q04] [Qkr,(Qkq p1 p2)] (.agg [(I r.Lo),(I r.Hi)]) [Qkr,(Qkq p1 p2),(.own 2 [[(I r.Lo),(I r.Hi)]])]:=by
  refine Qak func80 rfl 3 (nle rfl) (fun X φ0 w0 hφ0 hd0=>?_)
  unfold Qgu at h
  refine Qby<|wxz ?_
  obtain⟨x4,hg5,h⟩:=bno h
  obtain⟨hi6,hj7⟩:=gsm hg5
  obtain⟨x9,hf8,h⟩:=bno h
  obtain⟨x11,hf10,h⟩:=bno h
  refine wxd tbk [(2,rp _ _),(4,⟨_,_,_,_,false⟩),(7,rp _ _),(9,⟨_,_,_,_,false⟩),(10,rp _ _)] ⟨aiq underlying168 Qkj Qbr hi6 hj7,Qat (first:=[]) (cap:=[.ref 0 1 0 0,.ref 1 2 0 0]) (vs:=[(.dptr (Qfr x4) 0)]) (σr:=[Qkr,(Qkq p1 p2)]) (σr':=[Qkr,(Qkq p1 p2)]) (res':=(I x9)) [0,1] rfl Qi6 (Qhi N x4 p1 p2 _ hf8) rfl (Qbq (rnc (.plain _ (NLt.dptr _ _ (Qhj _))) (rnc (Qa4 rfl) (rnc (Qa4 rfl) rn0)))) (slc (Qan (rnc (.plain _ (NLt.fn _ _ _ nl0 nl0)) rn0)) (slc (Qan (rncc rn0)) Qas)) (slc (Qan (rnc (.plain _ (NLt.fn _ _ _ nl0 nl0)) rn0)) (slc (Qan (rncc rn0)) Qas)) (.plain _ nll) rfl rfl rfl,aiq underlying168 Qkj Qbr hi6 hj7,Qat (first:=[]) (cap:=[.ref 0 1 0 0,.ref 1 2 0 0]) (vs:=[(.dptr (Qfr x4) 0)]) (σr:=[Qkr,(Qkq p1 p2)]) (σr':=[Qkr,(Qkq p1 p2)]) (res':=(I x11)) [0,1] rfl Qi6 (Qhi N x4 p1 p2 _ hf10) rfl (Qbq (rnc (.plain _ (NLt.dptr _ _ (Qhj _))) (rnc (Qa4 rfl) (rnc (Qa4 rfl) rn0)))) (slc (Qan (rnc (.plain _ (NLt.fn _ _ _ nl0 nl0)) rn0)) (slc (Qan (rncc rn0)) Qas)) (slc (Qan (rnc (.plain _ (NLt.fn _ _ _ nl0 nl0)) rn0)) (slc (Qan (rncc rn0)) Qas)) (.plain _ nll) rfl rfl rfl,Qaz (vs:=[I x9,I x11]) rfl Qy6 Qxc rfl (by rfl) rfl,tv⟩ ?_
  obtain⟨k14,hk_k14,h⟩:=jko h
  refine wjn (τ:=Int×Int) (fun t=>k14 t=some r) (fun ⟨y12,y13⟩=>⟨mk 41 [(4,.ref 2 2 0 0),(5,.ref 3 2 0 0)],[Qkr,(Qkq p1 p2),Qxt,(.own 2 [[I y12,I y13]])]⟩) (fun t h=>?_) ?_
  ·subst hk_k14
   obtain⟨y12,y13⟩:=t
   refine wxz<|wmr (mto (n:=41) (l':=[(4,.ref 2 2 0 0)]) (own':=[Qkr,(Qkq p1 p2),(.own 2 [[(I (((⟨y12,y13⟩:Qbb).Lo))),(I (((⟨y12,y13⟩:Qbb).Hi)))]])]) [(4,.ref 2 2 0 0)] [0,1,2] [Qkr,(Qkq p1 p2),(.own 2 [[I y12,I y13]])] hφ0 (prr pn) (qb (lc (.rn (Qbl rn0 rn0)) ln) (qb (lcc ln) (qb (lcc ln) qn))))<|Qah ?_
   obtain rfl:=osi h
   exact⟨_,Mor.rfl,Qcy (vs:=[(.agg [(I ((⟨y12,y13⟩:Qbb).Lo)),(I ((⟨y12,y13⟩:Qbb).Hi))])]) ⟨Qbn (n:=2) (m:=2) (j:=0) (i:=0) (xs:=[[(I ((⟨y12,y13⟩:Qbb).Lo)),(I ((⟨y12,y13⟩:Qbb).Hi))]]) (by kernel_rfl) (by kernel_rfl) Qo3 (by decide) rfl (nle rfl) rfl,tv⟩ rfl (NLt.of0 (NLt.agg _ (nlcc nl0))) (by kernel_rfl) (Qar (Qa8 (nlc (NLt.of0 (NLt.fn _ _ _ nl0 nl0)) nl0)) (Qar (Qa8 (nlc (NLt.of0 nll) (nlc (NLt.of0 nll) nl0))) (Qar (Qa8 (nlc (NLt.of0 nll) (nlc (NLt.of0 nll) nl0))) Qbx)))⟩
  ·skip
   obtain⟨hs15,h⟩:=cko h
   refine wx tbk [(1,rp [(.tmp 19,(.dat 1 (p0.map Qbr))),ci 1] (Q03 p0)),(2,rp _ _)] ⟨Qit (k:=.i64) (k':=.i64) (lo:=some (.const (.int .i64 1))) (hi:=none) (l:=1) (hh:=((p0.length:Nat):Int)) rfl underlying168 Qkj rfl (fun e=>nomatch e) (fun _=>by simp) (Qt2 hs15) (Qt1 hs15) (Q5d Qbr hs15) (Zcu Qbr),alq 1 Qbr (p0.drop (1:Int).toNat) underlying168,tv⟩<|Qap ?_
   refine wmr (mto (n:=41) (l':=[(1,Q04),(4,.ref 2 2 0 0),(5,.ref 3 2 0 0),(20,(Q03 p0)),(21,(I (((p0.drop (1:Int).toNat).length:Int)))),(22,I 0)]) (own':=[Qkr,(Qkq p1 p2),Qxt,(.own 2 [[I x9,I x11]])]) [(1,Q04),(4,.ref 2 2 0 0),(5,.ref 3 2 0 0),(20,(Q03 p0)),(21,(I (((p0.drop (1:Int).toNat).length:Int)))),(22,I 0)] [0,1,2,3] [Qkr,(Qkq p1 p2),Qxt,(.own 2 [[I x9,I x11]])] hφ0 (pc (.rn (Qbl rn0 (rnc (rqr rfl) (rnc (rqr rfl) rn0)))) (prr (prr (pc (rnd Qb3) (pw (pw pn)))))) (qb (lc (.rn (Qbl rn0 rn0)) ln) (qb (lcc ln) (qb (lcc ln) (qb (lcc ln) qn))))) ?_
   refine Qbv (τ:=Int×Int×Int) (fun n t=>Qcq N p0 p1 p2 k14 n t.1 t.2.1 t.2.2=some r) (fun ⟨y16,y17,y18⟩=>⟨mk 41 [(1,Q04),(4,.ref 2 2 0 0),(5,.ref 3 2 0 0),(20,(Q03 p0)),(21,(I (((p0.drop (1:Int).toNat).length:Int)))),(22,I y16)],[Qkr,(Qkq p1 p2),Qxt,(.own 2 [[I y17,I y18]])]⟩) (fun t h=>by rw[Qcq] at h;cases h) (fun n22 ih t h=>?_) N (0,x9,x11) h
   obtain⟨y16,y17,y18⟩:=t
   rw[Qcq] at h
   skip
   refine wxz<|wsq ?_
   refine bfe h (fun hc23 h=>?_) fun hc23 h=>?_
   ·refine wft hc23<|Qaq<|thn<|wsq<|Qap ?_
    obtain⟨x24,hg25,h⟩:=bno h
    obtain⟨hi26,hj27⟩:=gsm hg25
    refine wx tbk [(0,rp _ _)] ⟨aiq underlying168 Qkj Qbr hi26 hj27,tv⟩ ?_
    obtain⟨x29,hf28,h⟩:=bno h
    obtain⟨x31,hf30,h⟩:=bno h
    refine wy1 tbk [(4,⟨_,_,_,_,false⟩),(5,rp [(.tmp 27,I y17),(.tmp 30,I x29)] (I ((if x29<y17 then x29 else y17)))),(10,⟨_,_,_,_,false⟩),(11,rp [(.tmp 33,I y18),(.tmp 36,I x31)] (I ((if x31>y18 then x31 else y18)))),(12,rp _ _)] ⟨Qat (first:=[]) (cap:=[.ref 0 1 0 0,.ref 1 2 0 0]) (vs:=[(.dptr (Qfr x24) 0)]) (σr:=[Qkr,(Qkq p1 p2)]) (σr':=[Qkr,(Qkq p1 p2)]) (res':=(I x29)) [0,1] rfl Qi6 (Qhi N x24 p1 p2 _ hf28) rfl (Qbq (rnc (.plain _ (NLt.dptr _ _ (Qhj _))) (rnc (Qa4 rfl) (rnc (Qa4 rfl) rn0)))) (slc (Qan (rnc (.plain _ (NLt.fn _ _ _ nl0 nl0)) rn0)) (slc (Qan (rncc rn0)) Qas)) (slc (Qan (rnc (.plain _ (NLt.fn _ _ _ nl0 nl0)) rn0)) (slc (Qan (rncc rn0)) Qas)) (.plain _ nll) rfl rfl rfl,Qki rfl,Qat (first:=[]) (cap:=[.ref 0 1 0 0,.ref 1 2 0 0]) (vs:=[(.dptr (Qfr x24) 0)]) (σr:=[Qkr,(Qkq p1 p2)]) (σr':=[Qkr,(Qkq p1 p2)]) (res':=(I x31)) [0,1] rfl Qi6 (Qhi N x24 p1 p2 _ hf30) rfl (Qbq (rnc (.plain _ (NLt.dptr _ _ (Qhj _))) (rnc (Qa4 rfl) (rnc (Qa4 rfl) rn0)))) (slc (Qan (rnc (.plain _ (NLt.fn _ _ _ nl0 nl0)) rn0)) (slc (Qan (rncc rn0)) Qas)) (slc (Qan (rnc (.plain _ (NLt.fn _ _ _ nl0 nl0)) rn0)) (slc (Qan (rncc rn0)) Qas)) (.plain _ nll) rfl rfl rfl,Qiu rfl,Qaz (vs:=[(I ((if x29<y17 then x29 else y17))),(I ((if x31>y18 then x31 else y18)))]) rfl Qy6 Qxc rfl (by rfl) rfl,tv⟩<|bln<|thn<|wxz1<|thn ?_
    exact arm (mto (n:=41) [(1,Q04),(4,.ref 2 2 0 0),(5,.ref 3 2 0 0),(20,(Q03 p0)),(21,(I (((p0.drop (1:Int).toNat).length:Int)))),(22,(I (w64 (y16+1))))] [0,1,2,3] [Qkr,(Qkq p1 p2),Qxt,(.own 2 [[(I ((if x29<y17 then x29 else y17))),(I ((if x31>y18 then x31 else y18)))]])] hφ0 (pc (.rn (Qbl rn0 (rnc (rqr rfl) (rnc (rqr rfl) rn0)))) (prr (prr (pc (rnd Qb3) (pw (pw pn)))))) (qb (lc (.rn (Qbl rn0 rn0)) ln) (qb (lcc ln) (qb (lcc ln) (qb (lcc ln) qn))))) (ih (w64 (y16+1),(if x29<y17 then x29 else y17),(if x31>y18 then x31 else y18)) h)
   ·exact wfn hc23<|Qbg<|Qay<|Qay<|Qbf rfl<|thn<|⟨(y17,y18),h,(mto (n:=41) [(4,.ref 2 2 0 0),(5,.ref 3 2 0 0)] [0,1,2,3] [Qkr,(Qkq p1 p2),Qxt,(.own 2 [[I y17,I y18]])] hφ0 (prr (prr pn)) (qb (lc (.rn (Qbl rn0 rn0)) ln) (qb (lcc ln) (qb (lcc ln) (qb (lcc ln) qn)))))⟩
def Qif (N:Nat) (p0:List Qb8) (p1 p2:Int):Option Qbb:=
  (Qgu N p0 p1 p2).bind fun x5=>
  some x5
def Q05 (p0:List Qb8):AV:=.dat 1 (p0.map Qbr)
def Qxu (p1 p2:Int):Slot:=.own 2 [[(I p1),(I p2)]]
def Zko:AV:=.fn (.func 81) [] [(.ref 2 1 (0) 0),(.ref 1 2 (0) 0)]
def Zkp:Slot:=.own 1 [[(.fn (.func 82) [] [])]]
def Zkn (x5:Qbb):AV:=.agg [(I x5.Lo),(I x5.Hi)]
def Zbm (x5:Qbb):Slot:=.own 2 [[(I x5.Lo),(I x5.Hi)]]
theorem Qre (N:Nat) (p0:List Qb8) (p1 p2:Int) (r:Qbb) (h:Qif N p0 p1 p2=some r):Spec prog 79 [(.fn (.func 82) [] []),(.ref 0 1 (0) 0),(.ref 1 2 (0) 0)] [(.own 1 [[(Q05 p0)]]),(Qxu p1 p2)] (.agg [(I r.Lo),(I r.Hi)]) [(.own 1 [[(Q05 p0)]]),(Qxu p1 p2),(.own 2 [[(I r.Lo),(I r.Hi)]])]:=by
  refine Qak func79 rfl 3 (nle rfl) (fun X φ0 w0 hφ0 hd0=>?_)
  unfold Qif at h
  refine Qby<|wxz ?_
  obtain⟨x5,hf4,h⟩:=bno h
  refine wx tbk [(1,rp [(.tmp 3,.ref 2 1 0 0),(.tmp 2,.ref 1 2 0 0)] Zko),(2,⟨_,_,_,_,false⟩)] ⟨Qew (fs:=[]) (cs:=[.ref 2 1 0 0,.ref 1 2 0 0]) rfl rfl rfl rfl,Qat (first:=[]) (cap:=[]) (vs:=[(Q05 p0),Zko]) (σr:=[Zkp,(Qxu p1 p2)]) (σr':=[Zkp,(Qxu p1 p2),(Zbm x5)]) (res':=(Zkn x5)) [2,1,4] rfl Qz3 (Qnl N p0 p1 p2 _ hf4) rfl (Qbq (rnc (pld Qb3) (rnc (Qbl rn0 (rnc (Qa4 rfl) (rnc (Qa4 rfl) rn0))) rn0))) (slc (Qan (rnc (.plain _ (NLt.fn _ _ _ nl0 nl0)) rn0)) (slc (Qan (rncc rn0)) Qas)) (slc (Qan (rnc (.plain _ (NLt.fn _ _ _ nl0 nl0)) rn0)) (slc (Qan (rncc rn0)) (slc (Qan (rncc rn0)) Qas))) (.plain _ (NLt.agg _ (nlcc nl0))) rfl rfl rfl,tv⟩ ?_
  refine wmr (mto (n:=8) (l':=[(4,.ref 2 2 0 0)]) (own':=[(.own 1 [[(Q05 p0)]]),(Qxu p1 p2),(Zbm x5)]) [(4,.ref 3 2 0 0)] [0,1,3] [(.own 1 [[(Q05 p0)]]),(Qxu p1 p2),(Zbm x5)] hφ0 (prr pn) (qb (lc (rnd Qb3) ln) (qb (lcc ln) (qb (lcc ln) qn))))<|Qah ?_
  obtain rfl:=osi h
  exact⟨_,Mor.rfl,Qcy (vs:=[(Zkn x5)]) ⟨Qbn (n:=2) (m:=2) (j:=0) (i:=0) (xs:=[[I x5.Lo,I x5.Hi]]) (by kernel_rfl) (by kernel_rfl) Qo3 (by decide) rfl (nle rfl) rfl,tv⟩ rfl (NLt.of0 (NLt.agg _ (nlcc nl0))) (by kernel_rfl) (Qar (Qa8 (nlc (NLt.of0 (nld Qb3 _)) nl0)) (Qar (Qa8 (nlc (NLt.of0 nll) (nlc (NLt.of0 nll) nl0))) (Qar (Qa8 (nlc (NLt.of0 nll) (nlc (NLt.of0 nll) nl0))) Qbx)))⟩
def Qno (_N:Nat) (p0:Qaa):Option Int:=
  some p0.Heat
theorem Qtm (N:Nat) (p0:Qaa) (r:Int) (h:Qno N p0=some r):Spec prog 83 [(.agg (Qac p0))] [] (I r) []:=by
  refine Qak func83 rfl 0 (nle rfl) (fun X φ0 w0 hφ0 hd0=>?_)
  unfold Qno at h
  refine wxz<|wxz<|Qah ?_
  obtain rfl:=osi h
  exact fend ⟨[I p0.Heat],⟨rot,tv⟩,rfl⟩ nll
def Qeh (N:Nat) (p0:Qb8) (p1 p2:Int):Option Int:=
  (getI p0.Tick.Out p1).bind fun x2=>
  (getI x2 p2).bind fun x6=>
  (Qno N x6).bind fun x11=>
  some x11
def Q54:Slot:=.own 1 [[(.fn (.func 83) [] [])]]
theorem Qhh (N:Nat) (p0:Qb8) (p1 p2 r:Int) (h:Qeh N p0 p1 p2=some r):Spec prog 81 [(.dptr (Qfr p0) 0),(.ref 0 1 (0) 0),(.ref 1 2 (0) 0)] [Q54,(.own 2 [[(I p1),(I p2)]])] (I r) [Q54,(.own 2 [[(I p1),(I p2)]])]:=by
  refine Qak func81 rfl 2 (nle rfl) (fun X φ0 w0 hφ0 hd0=>?_)
  unfold Qeh at h
  refine Qby<|wxz ?_
  obtain⟨x2,hg3,h⟩:=bno h
  obtain⟨hi4,hj5⟩:=gsm hg3
  obtain⟨x6,hg7,h⟩:=bno h
  obtain⟨hi8,hj9⟩:=gsm hg7
  obtain⟨x11,hf10,h⟩:=bno h
  refine wxd tbk [(8,rp _ _),(12,rp _ _),(14,rp _ _)] ⟨aiq underlying31 ti45 Qae hi4 hj5,aiq underlying45 ti63 Qac hi8 hj9,apv Zns (Qtm N x6 _ hf10) (nlc (NLt.agg _ (nlcc (nlcc nl0))) nl0) nll,tv⟩ ?_
  refine wmr (mto (n:=20) (l':=[(4,I x11)]) (own':=[Q54,(.own 2 [[I p1,I p2]])]) [(4,I x11)] [0,1] [Q54,(.own 2 [[I p1,I p2]])] hφ0 (pw pn) (qb (lc (.rn (Qbl rn0 rn0)) ln) (qb (lcc ln) qn)))<|Qah ?_
  obtain rfl:=osi h
  exact⟨_,Mor.rfl,Qcy (vs:=[I x11]) ⟨rot,tv⟩ rfl (NLt.of0 nll) (by kernel_rfl) (Qar (Qa8 (nlc (NLt.of0 (NLt.fn _ _ _ nl0 nl0)) nl0)) (Qar (Qa8 (nlc (NLt.of0 nll) (nlc (NLt.of0 nll) nl0))) Qbx))⟩
def Qcp (N:Nat) (p0:List Qb8) (p1 p2:Int) (k14:Int×Int→Option Qbb):Nat→Int→Int→Int→Option Qbb
  |0,_,_,_=>none
  |n22+1,y16,y17,y18=>
    bif (decide (y16<((p0.drop (1:Int).toNat).length:Int))) then
     (getI (p0.drop (1:Int).toNat) y16).bind fun x24=>
     (Qeh N x24 p1 p2).bind fun x29=>
     (Qeh N x24 p1 p2).bind fun x31=>
     Qcp N p0 p1 p2 k14 n22 (w64 (y16+1)) (if x29<y17 then x29 else y17) (if x31>y18 then x31 else y18)
    else
     k14 (y17,y18)
def Qgt (N:Nat) (p0:List Qb8) (p1 p2:Int):Option Qbb:=
  (getI p0 0).bind fun x4=>
  (Qeh N x4 p1 p2).bind fun x9=>
  (Qeh N x4 p1 p2).bind fun x11=>
  Qbi (fun ⟨y12,y13⟩=>
    some (⟨y12,y13⟩:Qbb)) fun k14:Int×Int→Option Qbb=>
  chk (decide (0≤1)&&decide (1≤(p0.length:Int))&&decide ((p0.length:Int)≤(p0.length:Int)))<|
  Qcp N p0 p1 p2 k14 N 0 x9 x11
def Q01:AV:=.fn (.func 81) [] [(.ref 0 1 (0) 0),(.ref 1 2 (0) 0)]
def Qkp:Slot:=.own 1 [[(.fn (.func 83) [] [])]]
def Qko (p1 p2:Int):Slot:=.own 2 [[(I p1),(I p2)]]
def Qxr:Slot:=.own 2 [[(I (0)),(I (0))]]
def Q00 (p0:List Qb8):AV:=.dat 1 ((p0.drop (1:Int).toNat:List Qb8).map Qbr)
theorem Qnk (N:Nat) (p0:List Qb8) (p1 p2:Int) (r:Qbb) (h:Qgt N p0 p1 p2=some r):Spec prog 80 [(.dat 1 (p0.map Qbr)),Q01] [Qkp,(Qko p1 p2)] (.agg [(I r.Lo),(I r.Hi)]) [Qkp,(Qko p1 p2),(.own 2 [[(I r.Lo),(I r.Hi)]])]:=by
  refine Qak func80 rfl 3 (nle rfl) (fun X φ0 w0 hφ0 hd0=>?_)
  unfold Qgt at h
  refine Qby<|wxz ?_
  obtain⟨x4,hg5,h⟩:=bno h
  obtain⟨hi6,hj7⟩:=gsm hg5
  obtain⟨x9,hf8,h⟩:=bno h
  obtain⟨x11,hf10,h⟩:=bno h
  refine wxd tbk [(2,rp _ _),(4,⟨_,_,_,_,false⟩),(7,rp _ _),(9,⟨_,_,_,_,false⟩),(10,rp _ _)] ⟨aiq underlying168 Qkj Qbr hi6 hj7,Qat (first:=[]) (cap:=[.ref 0 1 0 0,.ref 1 2 0 0]) (vs:=[(.dptr (Qfr x4) 0)]) (σr:=[Qkp,(Qko p1 p2)]) (σr':=[Qkp,(Qko p1 p2)]) (res':=(I x9)) [0,1] rfl Qi6 (Qhh N x4 p1 p2 _ hf8) rfl (Qbq (rnc (.plain _ (NLt.dptr _ _ (Qhj _))) (rnc (Qa4 rfl) (rnc (Qa4 rfl) rn0)))) (slc (Qan (rnc (.plain _ (NLt.fn _ _ _ nl0 nl0)) rn0)) (slc (Qan (rncc rn0)) Qas)) (slc (Qan (rnc (.plain _ (NLt.fn _ _ _ nl0 nl0)) rn0)) (slc (Qan (rncc rn0)) Qas)) (.plain _ nll) rfl rfl rfl,aiq underlying168 Qkj Qbr hi6 hj7,Qat (first:=[]) (cap:=[.ref 0 1 0 0,.ref 1 2 0 0]) (vs:=[(.dptr (Qfr x4) 0)]) (σr:=[Qkp,(Qko p1 p2)]) (σr':=[Qkp,(Qko p1 p2)]) (res':=(I x11)) [0,1] rfl Qi6 (Qhh N x4 p1 p2 _ hf10) rfl (Qbq (rnc (.plain _ (NLt.dptr _ _ (Qhj _))) (rnc (Qa4 rfl) (rnc (Qa4 rfl) rn0)))) (slc (Qan (rnc (.plain _ (NLt.fn _ _ _ nl0 nl0)) rn0)) (slc (Qan (rncc rn0)) Qas)) (slc (Qan (rnc (.plain _ (NLt.fn _ _ _ nl0 nl0)) rn0)) (slc (Qan (rncc rn0)) Qas)) (.plain _ nll) rfl rfl rfl,Qaz (vs:=[I x9,I x11]) rfl Qy6 Qxc rfl (by rfl) rfl,tv⟩ ?_
  obtain⟨k14,hk_k14,h⟩:=jko h
  refine wjn (τ:=Int×Int) (fun t=>k14 t=some r) (fun ⟨y12,y13⟩=>⟨mk 41 [(4,.ref 2 2 0 0),(5,.ref 3 2 0 0)],[Qkp,(Qko p1 p2),Qxr,(.own 2 [[I y12,I y13]])]⟩) (fun t h=>?_) ?_
  ·subst hk_k14
   obtain⟨y12,y13⟩:=t
   refine wxz<|wmr (mto (n:=41) (l':=[(4,.ref 2 2 0 0)]) (own':=[Qkp,(Qko p1 p2),(.own 2 [[(I (((⟨y12,y13⟩:Qbb).Lo))),(I (((⟨y12,y13⟩:Qbb).Hi)))]])]) [(4,.ref 2 2 0 0)] [0,1,2] [Qkp,(Qko p1 p2),(.own 2 [[I y12,I y13]])] hφ0 (prr pn) (qb (lc (.rn (Qbl rn0 rn0)) ln) (qb (lcc ln) (qb (lcc ln) qn))))<|Qah ?_
   obtain rfl:=osi h
   exact⟨_,Mor.rfl,Qcy (vs:=[(.agg [(I ((⟨y12,y13⟩:Qbb).Lo)),(I ((⟨y12,y13⟩:Qbb).Hi))])]) ⟨Qbn (n:=2) (m:=2) (j:=0) (i:=0) (xs:=[[(I ((⟨y12,y13⟩:Qbb).Lo)),(I ((⟨y12,y13⟩:Qbb).Hi))]]) (by kernel_rfl) (by kernel_rfl) Qo3 (by decide) rfl (nle rfl) rfl,tv⟩ rfl (NLt.of0 (NLt.agg _ (nlcc nl0))) (by kernel_rfl) (Qar (Qa8 (nlc (NLt.of0 (NLt.fn _ _ _ nl0 nl0)) nl0)) (Qar (Qa8 (nlc (NLt.of0 nll) (nlc (NLt.of0 nll) nl0))) (Qar (Qa8 (nlc (NLt.of0 nll) (nlc (NLt.of0 nll) nl0))) Qbx)))⟩
  ·skip
   obtain⟨hs15,h⟩:=cko h
   refine wx tbk [(1,rp [(.tmp 19,(.dat 1 (p0.map Qbr))),ci 1] (Q00 p0)),(2,rp _ _)] ⟨Qit (k:=.i64) (k':=.i64) (lo:=some (.const (.int .i64 1))) (hi:=none) (l:=1) (hh:=((p0.length:Nat):Int)) rfl underlying168 Qkj rfl (fun e=>nomatch e) (fun _=>by simp) (Qt2 hs15) (Qt1 hs15) (Q5d Qbr hs15) (Zcu Qbr),alq 1 Qbr (p0.drop (1:Int).toNat) underlying168,tv⟩<|Qap ?_
   refine wmr (mto (n:=41) (l':=[(1,Q01),(4,.ref 2 2 0 0),(5,.ref 3 2 0 0),(20,(Q00 p0)),(21,(I (((p0.drop (1:Int).toNat).length:Int)))),(22,I 0)]) (own':=[Qkp,(Qko p1 p2),Qxr,(.own 2 [[I x9,I x11]])]) [(1,Q01),(4,.ref 2 2 0 0),(5,.ref 3 2 0 0),(20,(Q00 p0)),(21,(I (((p0.drop (1:Int).toNat).length:Int)))),(22,I 0)] [0,1,2,3] [Qkp,(Qko p1 p2),Qxr,(.own 2 [[I x9,I x11]])] hφ0 (pc (.rn (Qbl rn0 (rnc (rqr rfl) (rnc (rqr rfl) rn0)))) (prr (prr (pc (rnd Qb3) (pw (pw pn)))))) (qb (lc (.rn (Qbl rn0 rn0)) ln) (qb (lcc ln) (qb (lcc ln) (qb (lcc ln) qn))))) ?_
   refine Qbv (τ:=Int×Int×Int) (fun n t=>Qcp N p0 p1 p2 k14 n t.1 t.2.1 t.2.2=some r) (fun ⟨y16,y17,y18⟩=>⟨mk 41 [(1,Q01),(4,.ref 2 2 0 0),(5,.ref 3 2 0 0),(20,(Q00 p0)),(21,(I (((p0.drop (1:Int).toNat).length:Int)))),(22,I y16)],[Qkp,(Qko p1 p2),Qxr,(.own 2 [[I y17,I y18]])]⟩) (fun t h=>by rw[Qcp] at h;cases h) (fun n22 ih t h=>?_) N (0,x9,x11) h
   obtain⟨y16,y17,y18⟩:=t
   rw[Qcp] at h
   skip
   refine wxz<|wsq ?_
   refine bfe h (fun hc23 h=>?_) fun hc23 h=>?_
   ·refine wft hc23<|Qaq<|thn<|wsq<|Qap ?_
    obtain⟨x24,hg25,h⟩:=bno h
    obtain⟨hi26,hj27⟩:=gsm hg25
    refine wx tbk [(0,rp _ _)] ⟨aiq underlying168 Qkj Qbr hi26 hj27,tv⟩ ?_
    obtain⟨x29,hf28,h⟩:=bno h
    obtain⟨x31,hf30,h⟩:=bno h
    refine wy1 tbk [(4,⟨_,_,_,_,false⟩),(5,rp [(.tmp 27,I y17),(.tmp 30,I x29)] (I ((if x29<y17 then x29 else y17)))),(10,⟨_,_,_,_,false⟩),(11,rp [(.tmp 33,I y18),(.tmp 36,I x31)] (I ((if x31>y18 then x31 else y18)))),(12,rp _ _)] ⟨Qat (first:=[]) (cap:=[.ref 0 1 0 0,.ref 1 2 0 0]) (vs:=[(.dptr (Qfr x24) 0)]) (σr:=[Qkp,(Qko p1 p2)]) (σr':=[Qkp,(Qko p1 p2)]) (res':=(I x29)) [0,1] rfl Qi6 (Qhh N x24 p1 p2 _ hf28) rfl (Qbq (rnc (.plain _ (NLt.dptr _ _ (Qhj _))) (rnc (Qa4 rfl) (rnc (Qa4 rfl) rn0)))) (slc (Qan (rnc (.plain _ (NLt.fn _ _ _ nl0 nl0)) rn0)) (slc (Qan (rncc rn0)) Qas)) (slc (Qan (rnc (.plain _ (NLt.fn _ _ _ nl0 nl0)) rn0)) (slc (Qan (rncc rn0)) Qas)) (.plain _ nll) rfl rfl rfl,Qki rfl,Qat (first:=[]) (cap:=[.ref 0 1 0 0,.ref 1 2 0 0]) (vs:=[(.dptr (Qfr x24) 0)]) (σr:=[Qkp,(Qko p1 p2)]) (σr':=[Qkp,(Qko p1 p2)]) (res':=(I x31)) [0,1] rfl Qi6 (Qhh N x24 p1 p2 _ hf30) rfl (Qbq (rnc (.plain _ (NLt.dptr _ _ (Qhj _))) (rnc (Qa4 rfl) (rnc (Qa4 rfl) rn0)))) (slc (Qan (rnc (.plain _ (NLt.fn _ _ _ nl0 nl0)) rn0)) (slc (Qan (rncc rn0)) Qas)) (slc (Qan (rnc (.plain _ (NLt.fn _ _ _ nl0 nl0)) rn0)) (slc (Qan (rncc rn0)) Qas)) (.plain _ nll) rfl rfl rfl,Qiu rfl,Qaz (vs:=[(I ((if x29<y17 then x29 else y17))),(I ((if x31>y18 then x31 else y18)))]) rfl Qy6 Qxc rfl (by rfl) rfl,tv⟩<|bln<|thn<|wxz1<|thn ?_
    exact arm (mto (n:=41) [(1,Q01),(4,.ref 2 2 0 0),(5,.ref 3 2 0 0),(20,(Q00 p0)),(21,(I (((p0.drop (1:Int).toNat).length:Int)))),(22,(I (w64 (y16+1))))] [0,1,2,3] [Qkp,(Qko p1 p2),Qxr,(.own 2 [[(I ((if x29<y17 then x29 else y17))),(I ((if x31>y18 then x31 else y18)))]])] hφ0 (pc (.rn (Qbl rn0 (rnc (rqr rfl) (rnc (rqr rfl) rn0)))) (prr (prr (pc (rnd Qb3) (pw (pw pn)))))) (qb (lc (.rn (Qbl rn0 rn0)) ln) (qb (lcc ln) (qb (lcc ln) (qb (lcc ln) qn))))) (ih (w64 (y16+1),(if x29<y17 then x29 else y17),(if x31>y18 then x31 else y18)) h)
   ·exact wfn hc23<|Qbg<|Qay<|Qay<|Qbf rfl<|thn<|⟨(y17,y18),h,(mto (n:=41) [(4,.ref 2 2 0 0),(5,.ref 3 2 0 0)] [0,1,2,3] [Qkp,(Qko p1 p2),Qxr,(.own 2 [[I y17,I y18]])] hφ0 (prr (prr pn)) (qb (lc (.rn (Qbl rn0 rn0)) ln) (qb (lcc ln) (qb (lcc ln) (qb (lcc ln) qn)))))⟩
def Qie (N:Nat) (p0:List Qb8) (p1 p2:Int):Option Qbb:=
  (Qgt N p0 p1 p2).bind fun x5=>
  some x5
def Q02 (p0:List Qb8):AV:=.dat 1 (p0.map Qbr)
def Qxs (p1 p2:Int):Slot:=.own 2 [[(I p1),(I p2)]]
def Zkl:AV:=.fn (.func 81) [] [(.ref 2 1 (0) 0),(.ref 1 2 (0) 0)]
def Zkm:Slot:=.own 1 [[(.fn (.func 83) [] [])]]
def Zkk (x5:Qbb):AV:=.agg [(I x5.Lo),(I x5.Hi)]
def Zbl (x5:Qbb):Slot:=.own 2 [[(I x5.Lo),(I x5.Hi)]]
theorem Qrd (N:Nat) (p0:List Qb8) (p1 p2:Int) (r:Qbb) (h:Qie N p0 p1 p2=some r):Spec prog 79 [(.fn (.func 83) [] []),(.ref 0 1 (0) 0),(.ref 1 2 (0) 0)] [(.own 1 [[(Q02 p0)]]),(Qxs p1 p2)] (.agg [(I r.Lo),(I r.Hi)]) [(.own 1 [[(Q02 p0)]]),(Qxs p1 p2),(.own 2 [[(I r.Lo),(I r.Hi)]])]:=by
  refine Qak func79 rfl 3 (nle rfl) (fun X φ0 w0 hφ0 hd0=>?_)
  unfold Qie at h
  refine Qby<|wxz ?_
  obtain⟨x5,hf4,h⟩:=bno h
  refine wx tbk [(1,rp [(.tmp 3,.ref 2 1 0 0),(.tmp 2,.ref 1 2 0 0)] Zkl),(2,⟨_,_,_,_,false⟩)] ⟨Qew (fs:=[]) (cs:=[.ref 2 1 0 0,.ref 1 2 0 0]) rfl rfl rfl rfl,Qat (first:=[]) (cap:=[]) (vs:=[(Q02 p0),Zkl]) (σr:=[Zkm,(Qxs p1 p2)]) (σr':=[Zkm,(Qxs p1 p2),(Zbl x5)]) (res':=(Zkk x5)) [2,1,4] rfl Qz3 (Qnk N p0 p1 p2 _ hf4) rfl (Qbq (rnc (pld Qb3) (rnc (Qbl rn0 (rnc (Qa4 rfl) (rnc (Qa4 rfl) rn0))) rn0))) (slc (Qan (rnc (.plain _ (NLt.fn _ _ _ nl0 nl0)) rn0)) (slc (Qan (rncc rn0)) Qas)) (slc (Qan (rnc (.plain _ (NLt.fn _ _ _ nl0 nl0)) rn0)) (slc (Qan (rncc rn0)) (slc (Qan (rncc rn0)) Qas))) (.plain _ (NLt.agg _ (nlcc nl0))) rfl rfl rfl,tv⟩ ?_
  refine wmr (mto (n:=8) (l':=[(4,.ref 2 2 0 0)]) (own':=[(.own 1 [[(Q02 p0)]]),(Qxs p1 p2),(Zbl x5)]) [(4,.ref 3 2 0 0)] [0,1,3] [(.own 1 [[(Q02 p0)]]),(Qxs p1 p2),(Zbl x5)] hφ0 (prr pn) (qb (lc (rnd Qb3) ln) (qb (lcc ln) (qb (lcc ln) qn))))<|Qah ?_
  obtain rfl:=osi h
  exact⟨_,Mor.rfl,Qcy (vs:=[(Zkk x5)]) ⟨Qbn (n:=2) (m:=2) (j:=0) (i:=0) (xs:=[[I x5.Lo,I x5.Hi]]) (by kernel_rfl) (by kernel_rfl) Qo3 (by decide) rfl (nle rfl) rfl,tv⟩ rfl (NLt.of0 (NLt.agg _ (nlcc nl0))) (by kernel_rfl) (Qar (Qa8 (nlc (NLt.of0 (nld Qb3 _)) nl0)) (Qar (Qa8 (nlc (NLt.of0 nll) (nlc (NLt.of0 nll) nl0))) (Qar (Qa8 (nlc (NLt.of0 nll) (nlc (NLt.of0 nll) nl0))) Qbx)))⟩
def Qnn (_N:Nat) (p0:Qaa):Option Int:=
  some p0.Silica
theorem Qtl (N:Nat) (p0:Qaa) (r:Int) (h:Qnn N p0=some r):Spec prog 84 [(.agg (Qac p0))] [] (I r) []:=by
  refine Qak func84 rfl 0 (nle rfl) (fun X φ0 w0 hφ0 hd0=>?_)
  unfold Qnn at h
  refine wxz<|wxz<|Qah ?_
  obtain rfl:=osi h
  exact fend ⟨[I p0.Silica],⟨rot,tv⟩,rfl⟩ nll
def Qeg (N:Nat) (p0:Qb8) (p1 p2:Int):Option Int:=
  (getI p0.Tick.Out p1).bind fun x2=>
  (getI x2 p2).bind fun x6=>
  (Qnn N x6).bind fun x11=>
  some x11
def Q53:Slot:=.own 1 [[(.fn (.func 84) [] [])]]
theorem Qhg (N:Nat) (p0:Qb8) (p1 p2 r:Int) (h:Qeg N p0 p1 p2=some r):Spec prog 81 [(.dptr (Qfr p0) 0),(.ref 0 1 (0) 0),(.ref 1 2 (0) 0)] [Q53,(.own 2 [[(I p1),(I p2)]])] (I r) [Q53,(.own 2 [[(I p1),(I p2)]])]:=by
  refine Qak func81 rfl 2 (nle rfl) (fun X φ0 w0 hφ0 hd0=>?_)
  unfold Qeg at h
  refine Qby<|wxz ?_
  obtain⟨x2,hg3,h⟩:=bno h
  obtain⟨hi4,hj5⟩:=gsm hg3
  obtain⟨x6,hg7,h⟩:=bno h
  obtain⟨hi8,hj9⟩:=gsm hg7
  obtain⟨x11,hf10,h⟩:=bno h
  refine wxd tbk [(8,rp _ _),(12,rp _ _),(14,rp _ _)] ⟨aiq underlying31 ti45 Qae hi4 hj5,aiq underlying45 ti63 Qac hi8 hj9,apv Znr (Qtl N x6 _ hf10) (nlc (NLt.agg _ (nlcc (nlcc nl0))) nl0) nll,tv⟩ ?_
  refine wmr (mto (n:=20) (l':=[(4,I x11)]) (own':=[Q53,(.own 2 [[I p1,I p2]])]) [(4,I x11)] [0,1] [Q53,(.own 2 [[I p1,I p2]])] hφ0 (pw pn) (qb (lc (.rn (Qbl rn0 rn0)) ln) (qb (lcc ln) qn)))<|Qah ?_
  obtain rfl:=osi h
  exact⟨_,Mor.rfl,Qcy (vs:=[I x11]) ⟨rot,tv⟩ rfl (NLt.of0 nll) (by kernel_rfl) (Qar (Qa8 (nlc (NLt.of0 (NLt.fn _ _ _ nl0 nl0)) nl0)) (Qar (Qa8 (nlc (NLt.of0 nll) (nlc (NLt.of0 nll) nl0))) Qbx))⟩
def Qco (N:Nat) (p0:List Qb8) (p1 p2:Int) (k14:Int×Int→Option Qbb):Nat→Int→Int→Int→Option Qbb
  |0,_,_,_=>none
  |n22+1,y16,y17,y18=>
    bif (decide (y16<((p0.drop (1:Int).toNat).length:Int))) then
     (getI (p0.drop (1:Int).toNat) y16).bind fun x24=>
     (Qeg N x24 p1 p2).bind fun x29=>
     (Qeg N x24 p1 p2).bind fun x31=>
     Qco N p0 p1 p2 k14 n22 (w64 (y16+1)) (if x29<y17 then x29 else y17) (if x31>y18 then x31 else y18)
    else
     k14 (y17,y18)
def Qgs (N:Nat) (p0:List Qb8) (p1 p2:Int):Option Qbb:=
  (getI p0 0).bind fun x4=>
  (Qeg N x4 p1 p2).bind fun x9=>
  (Qeg N x4 p1 p2).bind fun x11=>
  Qbi (fun ⟨y12,y13⟩=>
    some (⟨y12,y13⟩:Qbb)) fun k14:Int×Int→Option Qbb=>
  chk (decide (0≤1)&&decide (1≤(p0.length:Int))&&decide ((p0.length:Int)≤(p0.length:Int)))<|
  Qco N p0 p1 p2 k14 N 0 x9 x11
def Q0y:AV:=.fn (.func 81) [] [(.ref 0 1 (0) 0),(.ref 1 2 (0) 0)]
def Qkn:Slot:=.own 1 [[(.fn (.func 84) [] [])]]
def Qkm (p1 p2:Int):Slot:=.own 2 [[(I p1),(I p2)]]
def Qxp:Slot:=.own 2 [[(I (0)),(I (0))]]
def Q0x (p0:List Qb8):AV:=.dat 1 ((p0.drop (1:Int).toNat:List Qb8).map Qbr)
theorem Qnj (N:Nat) (p0:List Qb8) (p1 p2:Int) (r:Qbb) (h:Qgs N p0 p1 p2=some r):Spec prog 80 [(.dat 1 (p0.map Qbr)),Q0y] [Qkn,(Qkm p1 p2)] (.agg [(I r.Lo),(I r.Hi)]) [Qkn,(Qkm p1 p2),(.own 2 [[(I r.Lo),(I r.Hi)]])]:=by
  refine Qak func80 rfl 3 (nle rfl) (fun X φ0 w0 hφ0 hd0=>?_)
  unfold Qgs at h
  refine Qby<|wxz ?_
  obtain⟨x4,hg5,h⟩:=bno h
  obtain⟨hi6,hj7⟩:=gsm hg5
  obtain⟨x9,hf8,h⟩:=bno h
  obtain⟨x11,hf10,h⟩:=bno h
  refine wxd tbk [(2,rp _ _),(4,⟨_,_,_,_,false⟩),(7,rp _ _),(9,⟨_,_,_,_,false⟩),(10,rp _ _)] ⟨aiq underlying168 Qkj Qbr hi6 hj7,Qat (first:=[]) (cap:=[.ref 0 1 0 0,.ref 1 2 0 0]) (vs:=[(.dptr (Qfr x4) 0)]) (σr:=[Qkn,(Qkm p1 p2)]) (σr':=[Qkn,(Qkm p1 p2)]) (res':=(I x9)) [0,1] rfl Qi6 (Qhg N x4 p1 p2 _ hf8) rfl (Qbq (rnc (.plain _ (NLt.dptr _ _ (Qhj _))) (rnc (Qa4 rfl) (rnc (Qa4 rfl) rn0)))) (slc (Qan (rnc (.plain _ (NLt.fn _ _ _ nl0 nl0)) rn0)) (slc (Qan (rncc rn0)) Qas)) (slc (Qan (rnc (.plain _ (NLt.fn _ _ _ nl0 nl0)) rn0)) (slc (Qan (rncc rn0)) Qas)) (.plain _ nll) rfl rfl rfl,aiq underlying168 Qkj Qbr hi6 hj7,Qat (first:=[]) (cap:=[.ref 0 1 0 0,.ref 1 2 0 0]) (vs:=[(.dptr (Qfr x4) 0)]) (σr:=[Qkn,(Qkm p1 p2)]) (σr':=[Qkn,(Qkm p1 p2)]) (res':=(I x11)) [0,1] rfl Qi6 (Qhg N x4 p1 p2 _ hf10) rfl (Qbq (rnc (.plain _ (NLt.dptr _ _ (Qhj _))) (rnc (Qa4 rfl) (rnc (Qa4 rfl) rn0)))) (slc (Qan (rnc (.plain _ (NLt.fn _ _ _ nl0 nl0)) rn0)) (slc (Qan (rncc rn0)) Qas)) (slc (Qan (rnc (.plain _ (NLt.fn _ _ _ nl0 nl0)) rn0)) (slc (Qan (rncc rn0)) Qas)) (.plain _ nll) rfl rfl rfl,Qaz (vs:=[I x9,I x11]) rfl Qy6 Qxc rfl (by rfl) rfl,tv⟩ ?_
  obtain⟨k14,hk_k14,h⟩:=jko h
  refine wjn (τ:=Int×Int) (fun t=>k14 t=some r) (fun ⟨y12,y13⟩=>⟨mk 41 [(4,.ref 2 2 0 0),(5,.ref 3 2 0 0)],[Qkn,(Qkm p1 p2),Qxp,(.own 2 [[I y12,I y13]])]⟩) (fun t h=>?_) ?_
  ·subst hk_k14
   obtain⟨y12,y13⟩:=t
   refine wxz<|wmr (mto (n:=41) (l':=[(4,.ref 2 2 0 0)]) (own':=[Qkn,(Qkm p1 p2),(.own 2 [[(I (((⟨y12,y13⟩:Qbb).Lo))),(I (((⟨y12,y13⟩:Qbb).Hi)))]])]) [(4,.ref 2 2 0 0)] [0,1,2] [Qkn,(Qkm p1 p2),(.own 2 [[I y12,I y13]])] hφ0 (prr pn) (qb (lc (.rn (Qbl rn0 rn0)) ln) (qb (lcc ln) (qb (lcc ln) qn))))<|Qah ?_
   obtain rfl:=osi h
   exact⟨_,Mor.rfl,Qcy (vs:=[(.agg [(I ((⟨y12,y13⟩:Qbb).Lo)),(I ((⟨y12,y13⟩:Qbb).Hi))])]) ⟨Qbn (n:=2) (m:=2) (j:=0) (i:=0) (xs:=[[(I ((⟨y12,y13⟩:Qbb).Lo)),(I ((⟨y12,y13⟩:Qbb).Hi))]]) (by kernel_rfl) (by kernel_rfl) Qo3 (by decide) rfl (nle rfl) rfl,tv⟩ rfl (NLt.of0 (NLt.agg _ (nlcc nl0))) (by kernel_rfl) (Qar (Qa8 (nlc (NLt.of0 (NLt.fn _ _ _ nl0 nl0)) nl0)) (Qar (Qa8 (nlc (NLt.of0 nll) (nlc (NLt.of0 nll) nl0))) (Qar (Qa8 (nlc (NLt.of0 nll) (nlc (NLt.of0 nll) nl0))) Qbx)))⟩
  ·skip
   obtain⟨hs15,h⟩:=cko h
   refine wx tbk [(1,rp [(.tmp 19,(.dat 1 (p0.map Qbr))),ci 1] (Q0x p0)),(2,rp _ _)] ⟨Qit (k:=.i64) (k':=.i64) (lo:=some (.const (.int .i64 1))) (hi:=none) (l:=1) (hh:=((p0.length:Nat):Int)) rfl underlying168 Qkj rfl (fun e=>nomatch e) (fun _=>by simp) (Qt2 hs15) (Qt1 hs15) (Q5d Qbr hs15) (Zcu Qbr),alq 1 Qbr (p0.drop (1:Int).toNat) underlying168,tv⟩<|Qap ?_
   refine wmr (mto (n:=41) (l':=[(1,Q0y),(4,.ref 2 2 0 0),(5,.ref 3 2 0 0),(20,(Q0x p0)),(21,(I (((p0.drop (1:Int).toNat).length:Int)))),(22,I 0)]) (own':=[Qkn,(Qkm p1 p2),Qxp,(.own 2 [[I x9,I x11]])]) [(1,Q0y),(4,.ref 2 2 0 0),(5,.ref 3 2 0 0),(20,(Q0x p0)),(21,(I (((p0.drop (1:Int).toNat).length:Int)))),(22,I 0)] [0,1,2,3] [Qkn,(Qkm p1 p2),Qxp,(.own 2 [[I x9,I x11]])] hφ0 (pc (.rn (Qbl rn0 (rnc (rqr rfl) (rnc (rqr rfl) rn0)))) (prr (prr (pc (rnd Qb3) (pw (pw pn)))))) (qb (lc (.rn (Qbl rn0 rn0)) ln) (qb (lcc ln) (qb (lcc ln) (qb (lcc ln) qn))))) ?_
   refine Qbv (τ:=Int×Int×Int) (fun n t=>Qco N p0 p1 p2 k14 n t.1 t.2.1 t.2.2=some r) (fun ⟨y16,y17,y18⟩=>⟨mk 41 [(1,Q0y),(4,.ref 2 2 0 0),(5,.ref 3 2 0 0),(20,(Q0x p0)),(21,(I (((p0.drop (1:Int).toNat).length:Int)))),(22,I y16)],[Qkn,(Qkm p1 p2),Qxp,(.own 2 [[I y17,I y18]])]⟩) (fun t h=>by rw[Qco] at h;cases h) (fun n22 ih t h=>?_) N (0,x9,x11) h
   obtain⟨y16,y17,y18⟩:=t
   rw[Qco] at h
   skip
   refine wxz<|wsq ?_
   refine bfe h (fun hc23 h=>?_) fun hc23 h=>?_
   ·refine wft hc23<|Qaq<|thn<|wsq<|Qap ?_
    obtain⟨x24,hg25,h⟩:=bno h
    obtain⟨hi26,hj27⟩:=gsm hg25
    refine wx tbk [(0,rp _ _)] ⟨aiq underlying168 Qkj Qbr hi26 hj27,tv⟩ ?_
    obtain⟨x29,hf28,h⟩:=bno h
    obtain⟨x31,hf30,h⟩:=bno h
    refine wy1 tbk [(4,⟨_,_,_,_,false⟩),(5,rp [(.tmp 27,I y17),(.tmp 30,I x29)] (I ((if x29<y17 then x29 else y17)))),(10,⟨_,_,_,_,false⟩),(11,rp [(.tmp 33,I y18),(.tmp 36,I x31)] (I ((if x31>y18 then x31 else y18)))),(12,rp _ _)] ⟨Qat (first:=[]) (cap:=[.ref 0 1 0 0,.ref 1 2 0 0]) (vs:=[(.dptr (Qfr x24) 0)]) (σr:=[Qkn,(Qkm p1 p2)]) (σr':=[Qkn,(Qkm p1 p2)]) (res':=(I x29)) [0,1] rfl Qi6 (Qhg N x24 p1 p2 _ hf28) rfl (Qbq (rnc (.plain _ (NLt.dptr _ _ (Qhj _))) (rnc (Qa4 rfl) (rnc (Qa4 rfl) rn0)))) (slc (Qan (rnc (.plain _ (NLt.fn _ _ _ nl0 nl0)) rn0)) (slc (Qan (rncc rn0)) Qas)) (slc (Qan (rnc (.plain _ (NLt.fn _ _ _ nl0 nl0)) rn0)) (slc (Qan (rncc rn0)) Qas)) (.plain _ nll) rfl rfl rfl,Qki rfl,Qat (first:=[]) (cap:=[.ref 0 1 0 0,.ref 1 2 0 0]) (vs:=[(.dptr (Qfr x24) 0)]) (σr:=[Qkn,(Qkm p1 p2)]) (σr':=[Qkn,(Qkm p1 p2)]) (res':=(I x31)) [0,1] rfl Qi6 (Qhg N x24 p1 p2 _ hf30) rfl (Qbq (rnc (.plain _ (NLt.dptr _ _ (Qhj _))) (rnc (Qa4 rfl) (rnc (Qa4 rfl) rn0)))) (slc (Qan (rnc (.plain _ (NLt.fn _ _ _ nl0 nl0)) rn0)) (slc (Qan (rncc rn0)) Qas)) (slc (Qan (rnc (.plain _ (NLt.fn _ _ _ nl0 nl0)) rn0)) (slc (Qan (rncc rn0)) Qas)) (.plain _ nll) rfl rfl rfl,Qiu rfl,Qaz (vs:=[(I ((if x29<y17 then x29 else y17))),(I ((if x31>y18 then x31 else y18)))]) rfl Qy6 Qxc rfl (by rfl) rfl,tv⟩<|bln<|thn<|wxz1<|thn ?_
    exact arm (mto (n:=41) [(1,Q0y),(4,.ref 2 2 0 0),(5,.ref 3 2 0 0),(20,(Q0x p0)),(21,(I (((p0.drop (1:Int).toNat).length:Int)))),(22,(I (w64 (y16+1))))] [0,1,2,3] [Qkn,(Qkm p1 p2),Qxp,(.own 2 [[(I ((if x29<y17 then x29 else y17))),(I ((if x31>y18 then x31 else y18)))]])] hφ0 (pc (.rn (Qbl rn0 (rnc (rqr rfl) (rnc (rqr rfl) rn0)))) (prr (prr (pc (rnd Qb3) (pw (pw pn)))))) (qb (lc (.rn (Qbl rn0 rn0)) ln) (qb (lcc ln) (qb (lcc ln) (qb (lcc ln) qn))))) (ih (w64 (y16+1),(if x29<y17 then x29 else y17),(if x31>y18 then x31 else y18)) h)
   ·exact wfn hc23<|Qbg<|Qay<|Qay<|Qbf rfl<|thn<|⟨(y17,y18),h,(mto (n:=41) [(4,.ref 2 2 0 0),(5,.ref 3 2 0 0)] [0,1,2,3] [Qkn,(Qkm p1 p2),Qxp,(.own 2 [[I y17,I y18]])] hφ0 (prr (prr pn)) (qb (lc (.rn (Qbl rn0 rn0)) ln) (qb (lcc ln) (qb (lcc ln) (qb (lcc ln) qn)))))⟩
def Qid (N:Nat) (p0:List Qb8) (p1 p2:Int):Option Qbb:=
  (Qgs N p0 p1 p2).bind fun x5=>
  some x5
def Q0z (p0:List Qb8):AV:=.dat 1 (p0.map Qbr)
def Qxq (p1 p2:Int):Slot:=.own 2 [[(I p1),(I p2)]]
def Zki:AV:=.fn (.func 81) [] [(.ref 2 1 (0) 0),(.ref 1 2 (0) 0)]
def Zkj:Slot:=.own 1 [[(.fn (.func 84) [] [])]]
def Zkh (x5:Qbb):AV:=.agg [(I x5.Lo),(I x5.Hi)]
def Zbk (x5:Qbb):Slot:=.own 2 [[(I x5.Lo),(I x5.Hi)]]
theorem Qrc (N:Nat) (p0:List Qb8) (p1 p2:Int) (r:Qbb) (h:Qid N p0 p1 p2=some r):Spec prog 79 [(.fn (.func 84) [] []),(.ref 0 1 (0) 0),(.ref 1 2 (0) 0)] [(.own 1 [[(Q0z p0)]]),(Qxq p1 p2)] (.agg [(I r.Lo),(I r.Hi)]) [(.own 1 [[(Q0z p0)]]),(Qxq p1 p2),(.own 2 [[(I r.Lo),(I r.Hi)]])]:=by
  refine Qak func79 rfl 3 (nle rfl) (fun X φ0 w0 hφ0 hd0=>?_)
  unfold Qid at h
  refine Qby<|wxz ?_
  obtain⟨x5,hf4,h⟩:=bno h
  refine wx tbk [(1,rp [(.tmp 3,.ref 2 1 0 0),(.tmp 2,.ref 1 2 0 0)] Zki),(2,⟨_,_,_,_,false⟩)] ⟨Qew (fs:=[]) (cs:=[.ref 2 1 0 0,.ref 1 2 0 0]) rfl rfl rfl rfl,Qat (first:=[]) (cap:=[]) (vs:=[(Q0z p0),Zki]) (σr:=[Zkj,(Qxq p1 p2)]) (σr':=[Zkj,(Qxq p1 p2),(Zbk x5)]) (res':=(Zkh x5)) [2,1,4] rfl Qz3 (Qnj N p0 p1 p2 _ hf4) rfl (Qbq (rnc (pld Qb3) (rnc (Qbl rn0 (rnc (Qa4 rfl) (rnc (Qa4 rfl) rn0))) rn0))) (slc (Qan (rnc (.plain _ (NLt.fn _ _ _ nl0 nl0)) rn0)) (slc (Qan (rncc rn0)) Qas)) (slc (Qan (rnc (.plain _ (NLt.fn _ _ _ nl0 nl0)) rn0)) (slc (Qan (rncc rn0)) (slc (Qan (rncc rn0)) Qas))) (.plain _ (NLt.agg _ (nlcc nl0))) rfl rfl rfl,tv⟩ ?_
  refine wmr (mto (n:=8) (l':=[(4,.ref 2 2 0 0)]) (own':=[(.own 1 [[(Q0z p0)]]),(Qxq p1 p2),(Zbk x5)]) [(4,.ref 3 2 0 0)] [0,1,3] [(.own 1 [[(Q0z p0)]]),(Qxq p1 p2),(Zbk x5)] hφ0 (prr pn) (qb (lc (rnd Qb3) ln) (qb (lcc ln) (qb (lcc ln) qn))))<|Qah ?_
  obtain rfl:=osi h
  exact⟨_,Mor.rfl,Qcy (vs:=[(Zkh x5)]) ⟨Qbn (n:=2) (m:=2) (j:=0) (i:=0) (xs:=[[I x5.Lo,I x5.Hi]]) (by kernel_rfl) (by kernel_rfl) Qo3 (by decide) rfl (nle rfl) rfl,tv⟩ rfl (NLt.of0 (NLt.agg _ (nlcc nl0))) (by kernel_rfl) (Qar (Qa8 (nlc (NLt.of0 (nld Qb3 _)) nl0)) (Qar (Qa8 (nlc (NLt.of0 nll) (nlc (NLt.of0 nll) nl0))) (Qar (Qa8 (nlc (NLt.of0 nll) (nlc (NLt.of0 nll) nl0))) Qbx)))⟩
def Qnm (_N:Nat) (p0:Qaa):Option Int:=
  some p0.Gas
theorem Qtk (N:Nat) (p0:Qaa) (r:Int) (h:Qnm N p0=some r):Spec prog 85 [(.agg (Qac p0))] [] (I r) []:=by
  refine Qak func85 rfl 0 (nle rfl) (fun X φ0 w0 hφ0 hd0=>?_)
  unfold Qnm at h
  refine wxz<|wxz<|Qah ?_
  obtain rfl:=osi h
  exact fend ⟨[I p0.Gas],⟨rot,tv⟩,rfl⟩ nll
def Qef (N:Nat) (p0:Qb8) (p1 p2:Int):Option Int:=
  (getI p0.Tick.Out p1).bind fun x2=>
  (getI x2 p2).bind fun x6=>
  (Qnm N x6).bind fun x11=>
  some x11
def Q52:Slot:=.own 1 [[(.fn (.func 85) [] [])]]
theorem Qhf (N:Nat) (p0:Qb8) (p1 p2 r:Int) (h:Qef N p0 p1 p2=some r):Spec prog 81 [(.dptr (Qfr p0) 0),(.ref 0 1 (0) 0),(.ref 1 2 (0) 0)] [Q52,(.own 2 [[(I p1),(I p2)]])] (I r) [Q52,(.own 2 [[(I p1),(I p2)]])]:=by
  refine Qak func81 rfl 2 (nle rfl) (fun X φ0 w0 hφ0 hd0=>?_)
  unfold Qef at h
  refine Qby<|wxz ?_
  obtain⟨x2,hg3,h⟩:=bno h
  obtain⟨hi4,hj5⟩:=gsm hg3
  obtain⟨x6,hg7,h⟩:=bno h
  obtain⟨hi8,hj9⟩:=gsm hg7
  obtain⟨x11,hf10,h⟩:=bno h
  refine wxd tbk [(8,rp _ _),(12,rp _ _),(14,rp _ _)] ⟨aiq underlying31 ti45 Qae hi4 hj5,aiq underlying45 ti63 Qac hi8 hj9,apv Znq (Qtk N x6 _ hf10) (nlc (NLt.agg _ (nlcc (nlcc nl0))) nl0) nll,tv⟩ ?_
  refine wmr (mto (n:=20) (l':=[(4,I x11)]) (own':=[Q52,(.own 2 [[I p1,I p2]])]) [(4,I x11)] [0,1] [Q52,(.own 2 [[I p1,I p2]])] hφ0 (pw pn) (qb (lc (.rn (Qbl rn0 rn0)) ln) (qb (lcc ln) qn)))<|Qah ?_
  obtain rfl:=osi h
  exact⟨_,Mor.rfl,Qcy (vs:=[I x11]) ⟨rot,tv⟩ rfl (NLt.of0 nll) (by kernel_rfl) (Qar (Qa8 (nlc (NLt.of0 (NLt.fn _ _ _ nl0 nl0)) nl0)) (Qar (Qa8 (nlc (NLt.of0 nll) (nlc (NLt.of0 nll) nl0))) Qbx))⟩
def Qcn (N:Nat) (p0:List Qb8) (p1 p2:Int) (k14:Int×Int→Option Qbb):Nat→Int→Int→Int→Option Qbb
  |0,_,_,_=>none
  |n22+1,y16,y17,y18=>
    bif (decide (y16<((p0.drop (1:Int).toNat).length:Int))) then
     (getI (p0.drop (1:Int).toNat) y16).bind fun x24=>
     (Qef N x24 p1 p2).bind fun x29=>
     (Qef N x24 p1 p2).bind fun x31=>
     Qcn N p0 p1 p2 k14 n22 (w64 (y16+1)) (if x29<y17 then x29 else y17) (if x31>y18 then x31 else y18)
    else
     k14 (y17,y18)
def Qgr (N:Nat) (p0:List Qb8) (p1 p2:Int):Option Qbb:=
  (getI p0 0).bind fun x4=>
  (Qef N x4 p1 p2).bind fun x9=>
  (Qef N x4 p1 p2).bind fun x11=>
  Qbi (fun ⟨y12,y13⟩=>
    some (⟨y12,y13⟩:Qbb)) fun k14:Int×Int→Option Qbb=>
  chk (decide (0≤1)&&decide (1≤(p0.length:Int))&&decide ((p0.length:Int)≤(p0.length:Int)))<|
  Qcn N p0 p1 p2 k14 N 0 x9 x11
def Q0v:AV:=.fn (.func 81) [] [(.ref 0 1 (0) 0),(.ref 1 2 (0) 0)]
def Qkl:Slot:=.own 1 [[(.fn (.func 85) [] [])]]
def Qkk (p1 p2:Int):Slot:=.own 2 [[(I p1),(I p2)]]
def Qxn:Slot:=.own 2 [[(I (0)),(I (0))]]
def Q0u (p0:List Qb8):AV:=.dat 1 ((p0.drop (1:Int).toNat:List Qb8).map Qbr)
theorem Qni (N:Nat) (p0:List Qb8) (p1 p2:Int) (r:Qbb) (h:Qgr N p0 p1 p2=some r):Spec prog 80 [(.dat 1 (p0.map Qbr)),Q0v] [Qkl,(Qkk p1 p2)] (.agg [(I r.Lo),(I r.Hi)]) [Qkl,(Qkk p1 p2),(.own 2 [[(I r.Lo),(I r.Hi)]])]:=by
  refine Qak func80 rfl 3 (nle rfl) (fun X φ0 w0 hφ0 hd0=>?_)
  unfold Qgr at h
  refine Qby<|wxz ?_
  obtain⟨x4,hg5,h⟩:=bno h
  obtain⟨hi6,hj7⟩:=gsm hg5
  obtain⟨x9,hf8,h⟩:=bno h
  obtain⟨x11,hf10,h⟩:=bno h
  refine wxd tbk [(2,rp _ _),(4,⟨_,_,_,_,false⟩),(7,rp _ _),(9,⟨_,_,_,_,false⟩),(10,rp _ _)] ⟨aiq underlying168 Qkj Qbr hi6 hj7,Qat (first:=[]) (cap:=[.ref 0 1 0 0,.ref 1 2 0 0]) (vs:=[(.dptr (Qfr x4) 0)]) (σr:=[Qkl,(Qkk p1 p2)]) (σr':=[Qkl,(Qkk p1 p2)]) (res':=(I x9)) [0,1] rfl Qi6 (Qhf N x4 p1 p2 _ hf8) rfl (Qbq (rnc (.plain _ (NLt.dptr _ _ (Qhj _))) (rnc (Qa4 rfl) (rnc (Qa4 rfl) rn0)))) (slc (Qan (rnc (.plain _ (NLt.fn _ _ _ nl0 nl0)) rn0)) (slc (Qan (rncc rn0)) Qas)) (slc (Qan (rnc (.plain _ (NLt.fn _ _ _ nl0 nl0)) rn0)) (slc (Qan (rncc rn0)) Qas)) (.plain _ nll) rfl rfl rfl,aiq underlying168 Qkj Qbr hi6 hj7,Qat (first:=[]) (cap:=[.ref 0 1 0 0,.ref 1 2 0 0]) (vs:=[(.dptr (Qfr x4) 0)]) (σr:=[Qkl,(Qkk p1 p2)]) (σr':=[Qkl,(Qkk p1 p2)]) (res':=(I x11)) [0,1] rfl Qi6 (Qhf N x4 p1 p2 _ hf10) rfl (Qbq (rnc (.plain _ (NLt.dptr _ _ (Qhj _))) (rnc (Qa4 rfl) (rnc (Qa4 rfl) rn0)))) (slc (Qan (rnc (.plain _ (NLt.fn _ _ _ nl0 nl0)) rn0)) (slc (Qan (rncc rn0)) Qas)) (slc (Qan (rnc (.plain _ (NLt.fn _ _ _ nl0 nl0)) rn0)) (slc (Qan (rncc rn0)) Qas)) (.plain _ nll) rfl rfl rfl,Qaz (vs:=[I x9,I x11]) rfl Qy6 Qxc rfl (by rfl) rfl,tv⟩ ?_
  obtain⟨k14,hk_k14,h⟩:=jko h
  refine wjn (τ:=Int×Int) (fun t=>k14 t=some r) (fun ⟨y12,y13⟩=>⟨mk 41 [(4,.ref 2 2 0 0),(5,.ref 3 2 0 0)],[Qkl,(Qkk p1 p2),Qxn,(.own 2 [[I y12,I y13]])]⟩) (fun t h=>?_) ?_
  ·subst hk_k14
   obtain⟨y12,y13⟩:=t
   refine wxz<|wmr (mto (n:=41) (l':=[(4,.ref 2 2 0 0)]) (own':=[Qkl,(Qkk p1 p2),(.own 2 [[(I (((⟨y12,y13⟩:Qbb).Lo))),(I (((⟨y12,y13⟩:Qbb).Hi)))]])]) [(4,.ref 2 2 0 0)] [0,1,2] [Qkl,(Qkk p1 p2),(.own 2 [[I y12,I y13]])] hφ0 (prr pn) (qb (lc (.rn (Qbl rn0 rn0)) ln) (qb (lcc ln) (qb (lcc ln) qn))))<|Qah ?_
   obtain rfl:=osi h
   exact⟨_,Mor.rfl,Qcy (vs:=[(.agg [(I ((⟨y12,y13⟩:Qbb).Lo)),(I ((⟨y12,y13⟩:Qbb).Hi))])]) ⟨Qbn (n:=2) (m:=2) (j:=0) (i:=0) (xs:=[[(I ((⟨y12,y13⟩:Qbb).Lo)),(I ((⟨y12,y13⟩:Qbb).Hi))]]) (by kernel_rfl) (by kernel_rfl) Qo3 (by decide) rfl (nle rfl) rfl,tv⟩ rfl (NLt.of0 (NLt.agg _ (nlcc nl0))) (by kernel_rfl) (Qar (Qa8 (nlc (NLt.of0 (NLt.fn _ _ _ nl0 nl0)) nl0)) (Qar (Qa8 (nlc (NLt.of0 nll) (nlc (NLt.of0 nll) nl0))) (Qar (Qa8 (nlc (NLt.of0 nll) (nlc (NLt.of0 nll) nl0))) Qbx)))⟩
  ·skip
   obtain⟨hs15,h⟩:=cko h
   refine wx tbk [(1,rp [(.tmp 19,(.dat 1 (p0.map Qbr))),ci 1] (Q0u p0)),(2,rp _ _)] ⟨Qit (k:=.i64) (k':=.i64) (lo:=some (.const (.int .i64 1))) (hi:=none) (l:=1) (hh:=((p0.length:Nat):Int)) rfl underlying168 Qkj rfl (fun e=>nomatch e) (fun _=>by simp) (Qt2 hs15) (Qt1 hs15) (Q5d Qbr hs15) (Zcu Qbr),alq 1 Qbr (p0.drop (1:Int).toNat) underlying168,tv⟩<|Qap ?_
   refine wmr (mto (n:=41) (l':=[(1,Q0v),(4,.ref 2 2 0 0),(5,.ref 3 2 0 0),(20,(Q0u p0)),(21,(I (((p0.drop (1:Int).toNat).length:Int)))),(22,I 0)]) (own':=[Qkl,(Qkk p1 p2),Qxn,(.own 2 [[I x9,I x11]])]) [(1,Q0v),(4,.ref 2 2 0 0),(5,.ref 3 2 0 0),(20,(Q0u p0)),(21,(I (((p0.drop (1:Int).toNat).length:Int)))),(22,I 0)] [0,1,2,3] [Qkl,(Qkk p1 p2),Qxn,(.own 2 [[I x9,I x11]])] hφ0 (pc (.rn (Qbl rn0 (rnc (rqr rfl) (rnc (rqr rfl) rn0)))) (prr (prr (pc (rnd Qb3) (pw (pw pn)))))) (qb (lc (.rn (Qbl rn0 rn0)) ln) (qb (lcc ln) (qb (lcc ln) (qb (lcc ln) qn))))) ?_
   refine Qbv (τ:=Int×Int×Int) (fun n t=>Qcn N p0 p1 p2 k14 n t.1 t.2.1 t.2.2=some r) (fun ⟨y16,y17,y18⟩=>⟨mk 41 [(1,Q0v),(4,.ref 2 2 0 0),(5,.ref 3 2 0 0),(20,(Q0u p0)),(21,(I (((p0.drop (1:Int).toNat).length:Int)))),(22,I y16)],[Qkl,(Qkk p1 p2),Qxn,(.own 2 [[I y17,I y18]])]⟩) (fun t h=>by rw[Qcn] at h;cases h) (fun n22 ih t h=>?_) N (0,x9,x11) h
   obtain⟨y16,y17,y18⟩:=t
   rw[Qcn] at h
   skip
   refine wxz<|wsq ?_
   refine bfe h (fun hc23 h=>?_) fun hc23 h=>?_
   ·refine wft hc23<|Qaq<|thn<|wsq<|Qap ?_
    obtain⟨x24,hg25,h⟩:=bno h
    obtain⟨hi26,hj27⟩:=gsm hg25
    refine wx tbk [(0,rp _ _)] ⟨aiq underlying168 Qkj Qbr hi26 hj27,tv⟩ ?_
    obtain⟨x29,hf28,h⟩:=bno h
    obtain⟨x31,hf30,h⟩:=bno h
    refine wy1 tbk [(4,⟨_,_,_,_,false⟩),(5,rp [(.tmp 27,I y17),(.tmp 30,I x29)] (I ((if x29<y17 then x29 else y17)))),(10,⟨_,_,_,_,false⟩),(11,rp [(.tmp 33,I y18),(.tmp 36,I x31)] (I ((if x31>y18 then x31 else y18)))),(12,rp _ _)] ⟨Qat (first:=[]) (cap:=[.ref 0 1 0 0,.ref 1 2 0 0]) (vs:=[(.dptr (Qfr x24) 0)]) (σr:=[Qkl,(Qkk p1 p2)]) (σr':=[Qkl,(Qkk p1 p2)]) (res':=(I x29)) [0,1] rfl Qi6 (Qhf N x24 p1 p2 _ hf28) rfl (Qbq (rnc (.plain _ (NLt.dptr _ _ (Qhj _))) (rnc (Qa4 rfl) (rnc (Qa4 rfl) rn0)))) (slc (Qan (rnc (.plain _ (NLt.fn _ _ _ nl0 nl0)) rn0)) (slc (Qan (rncc rn0)) Qas)) (slc (Qan (rnc (.plain _ (NLt.fn _ _ _ nl0 nl0)) rn0)) (slc (Qan (rncc rn0)) Qas)) (.plain _ nll) rfl rfl rfl,Qki rfl,Qat (first:=[]) (cap:=[.ref 0 1 0 0,.ref 1 2 0 0]) (vs:=[(.dptr (Qfr x24) 0)]) (σr:=[Qkl,(Qkk p1 p2)]) (σr':=[Qkl,(Qkk p1 p2)]) (res':=(I x31)) [0,1] rfl Qi6 (Qhf N x24 p1 p2 _ hf30) rfl (Qbq (rnc (.plain _ (NLt.dptr _ _ (Qhj _))) (rnc (Qa4 rfl) (rnc (Qa4 rfl) rn0)))) (slc (Qan (rnc (.plain _ (NLt.fn _ _ _ nl0 nl0)) rn0)) (slc (Qan (rncc rn0)) Qas)) (slc (Qan (rnc (.plain _ (NLt.fn _ _ _ nl0 nl0)) rn0)) (slc (Qan (rncc rn0)) Qas)) (.plain _ nll) rfl rfl rfl,Qiu rfl,Qaz (vs:=[(I ((if x29<y17 then x29 else y17))),(I ((if x31>y18 then x31 else y18)))]) rfl Qy6 Qxc rfl (by rfl) rfl,tv⟩<|bln<|thn<|wxz1<|thn ?_
    exact arm (mto (n:=41) [(1,Q0v),(4,.ref 2 2 0 0),(5,.ref 3 2 0 0),(20,(Q0u p0)),(21,(I (((p0.drop (1:Int).toNat).length:Int)))),(22,(I (w64 (y16+1))))] [0,1,2,3] [Qkl,(Qkk p1 p2),Qxn,(.own 2 [[(I ((if x29<y17 then x29 else y17))),(I ((if x31>y18 then x31 else y18)))]])] hφ0 (pc (.rn (Qbl rn0 (rnc (rqr rfl) (rnc (rqr rfl) rn0)))) (prr (prr (pc (rnd Qb3) (pw (pw pn)))))) (qb (lc (.rn (Qbl rn0 rn0)) ln) (qb (lcc ln) (qb (lcc ln) (qb (lcc ln) qn))))) (ih (w64 (y16+1),(if x29<y17 then x29 else y17),(if x31>y18 then x31 else y18)) h)
   ·exact wfn hc23<|Qbg<|Qay<|Qay<|Qbf rfl<|thn<|⟨(y17,y18),h,(mto (n:=41) [(4,.ref 2 2 0 0),(5,.ref 3 2 0 0)] [0,1,2,3] [Qkl,(Qkk p1 p2),Qxn,(.own 2 [[I y17,I y18]])] hφ0 (prr (prr pn)) (qb (lc (.rn (Qbl rn0 rn0)) ln) (qb (lcc ln) (qb (lcc ln) (qb (lcc ln) qn)))))⟩
def Qic (N:Nat) (p0:List Qb8) (p1 p2:Int):Option Qbb:=
  (Qgr N p0 p1 p2).bind fun x5=>
  some x5
def Q0w (p0:List Qb8):AV:=.dat 1 (p0.map Qbr)
def Qxo (p1 p2:Int):Slot:=.own 2 [[(I p1),(I p2)]]
def Zkf:AV:=.fn (.func 81) [] [(.ref 2 1 (0) 0),(.ref 1 2 (0) 0)]
def Zkg:Slot:=.own 1 [[(.fn (.func 85) [] [])]]
def Zke (x5:Qbb):AV:=.agg [(I x5.Lo),(I x5.Hi)]
def Zbj (x5:Qbb):Slot:=.own 2 [[(I x5.Lo),(I x5.Hi)]]
theorem Qrb (N:Nat) (p0:List Qb8) (p1 p2:Int) (r:Qbb) (h:Qic N p0 p1 p2=some r):Spec prog 79 [(.fn (.func 85) [] []),(.ref 0 1 (0) 0),(.ref 1 2 (0) 0)] [(.own 1 [[(Q0w p0)]]),(Qxo p1 p2)] (.agg [(I r.Lo),(I r.Hi)]) [(.own 1 [[(Q0w p0)]]),(Qxo p1 p2),(.own 2 [[(I r.Lo),(I r.Hi)]])]:=by
  refine Qak func79 rfl 3 (nle rfl) (fun X φ0 w0 hφ0 hd0=>?_)
  unfold Qic at h
  refine Qby<|wxz ?_
  obtain⟨x5,hf4,h⟩:=bno h
  refine wx tbk [(1,rp [(.tmp 3,.ref 2 1 0 0),(.tmp 2,.ref 1 2 0 0)] Zkf),(2,⟨_,_,_,_,false⟩)] ⟨Qew (fs:=[]) (cs:=[.ref 2 1 0 0,.ref 1 2 0 0]) rfl rfl rfl rfl,Qat (first:=[]) (cap:=[]) (vs:=[(Q0w p0),Zkf]) (σr:=[Zkg,(Qxo p1 p2)]) (σr':=[Zkg,(Qxo p1 p2),(Zbj x5)]) (res':=(Zke x5)) [2,1,4] rfl Qz3 (Qni N p0 p1 p2 _ hf4) rfl (Qbq (rnc (pld Qb3) (rnc (Qbl rn0 (rnc (Qa4 rfl) (rnc (Qa4 rfl) rn0))) rn0))) (slc (Qan (rnc (.plain _ (NLt.fn _ _ _ nl0 nl0)) rn0)) (slc (Qan (rncc rn0)) Qas)) (slc (Qan (rnc (.plain _ (NLt.fn _ _ _ nl0 nl0)) rn0)) (slc (Qan (rncc rn0)) (slc (Qan (rncc rn0)) Qas))) (.plain _ (NLt.agg _ (nlcc nl0))) rfl rfl rfl,tv⟩ ?_
  refine wmr (mto (n:=8) (l':=[(4,.ref 2 2 0 0)]) (own':=[(.own 1 [[(Q0w p0)]]),(Qxo p1 p2),(Zbj x5)]) [(4,.ref 3 2 0 0)] [0,1,3] [(.own 1 [[(Q0w p0)]]),(Qxo p1 p2),(Zbj x5)] hφ0 (prr pn) (qb (lc (rnd Qb3) ln) (qb (lcc ln) (qb (lcc ln) qn))))<|Qah ?_
  obtain rfl:=osi h
  exact⟨_,Mor.rfl,Qcy (vs:=[(Zke x5)]) ⟨Qbn (n:=2) (m:=2) (j:=0) (i:=0) (xs:=[[I x5.Lo,I x5.Hi]]) (by kernel_rfl) (by kernel_rfl) Qo3 (by decide) rfl (nle rfl) rfl,tv⟩ rfl (NLt.of0 (NLt.agg _ (nlcc nl0))) (by kernel_rfl) (Qar (Qa8 (nlc (NLt.of0 (nld Qb3 _)) nl0)) (Qar (Qa8 (nlc (NLt.of0 nll) (nlc (NLt.of0 nll) nl0))) (Qar (Qa8 (nlc (NLt.of0 nll) (nlc (NLt.of0 nll) nl0))) Qbx)))⟩
def Qdo (N:Nat) (x5:((List Qb8)×Bool)) (k8:(List Qb5)→Option ((List Qb5)×Int)):(List Qa6)→(List Qb5)→Option ((List Qb5)×Int)
  |[],y13=>
    k8 (y13)
  |x16::q17,y13=>
    (Qif N x5.1 x16.Element x16.Outlet).bind fun x26=>
    (Qie N x5.1 x16.Element x16.Outlet).bind fun x28=>
    (Qid N x5.1 x16.Element x16.Outlet).bind fun x30=>
    (Qic N x5.1 x16.Element x16.Outlet).bind fun x32=>
    chk (decide ((y13.length+([(⟨x26,x28,x30,x32⟩:Qb5)]).length)*64≤140737488355328))<|
    Qdo N x5 k8 q17 (y13++([(⟨x26,x28,x30,x32⟩:Qb5)]))
def Qlr (N:Nat) (p0:GNet) (p1:List Int) (p2:List (List Qaa)):Option ((List Qb5)×Int):=
  (Qkv N p0 p1 p2).bind fun x2=>
  bif (x2 != 0) then
   some ([],x2)
  else
   (Qii N p0 p1 p2).bind fun x5=>
   bif (!x5.2) then
    some ([],11)
   else
    Qbi (fun y7=>
      some (y7,0)) fun k8:(List Qb5)→Option ((List Qb5)×Int)=>
    (Qg4 N p0).bind fun x10=>
    (Qg3 N p0.Table p0.Elements x10).bind fun q11=>
    Qdo N x5 k8 q11 ([])
def Zqa (p0:GNet):AV:=.agg [(.dat 5 (p0.Table.map Qav)),(.dat 7 (p0.Elements.map Qal))]
def Zbr:AV:=.dat 8 (([]:List Qb5).map Qbs)
def Qnt (x5:((List Qb8)×Bool)):AV:=.dat 1 (x5.1.map Qbr)
def Zkq:AV:=.fn (.func 110) [] [(.ref 3 2 (0) 0),(.ref 4 1 (0) 0)]
def Q58 (p0:GNet):Slot:=.own 2 [[(.dat 5 (p0.Table.map Qav)),(.dat 7 (p0.Elements.map Qal))]]
def Zl8:AV:=.fn (.func 79) [] [(.ref 0 1 (0) 0),(.ref 7 2 (0) 0)]
def Qpc (x16:Qa6):Slot:=.own 2 [[(I x16.Element),(I x16.Outlet)]]
def Zbw (x26:Qbb):AV:=.agg [(I x26.Lo),(I x26.Hi)]
def Zbv (x28:Qbb):AV:=.agg [(I x28.Lo),(I x28.Hi)]
def Zbu (x30:Qbb):AV:=.agg [(I x30.Lo),(I x30.Hi)]
def Zbt (x32:Qbb):AV:=.agg [(I x32.Lo),(I x32.Hi)]
def Zbs (x26 x28:Qbb) (x30 x32:Qbb):AV:=.agg [(I x26.Lo),(I x26.Hi),(I x28.Lo),(I x28.Hi),(I x30.Lo),(I x30.Hi),(I x32.Lo),(I x32.Hi)]
theorem Qv4 (N:Nat) (p0:GNet) (p1:List Int) (p2:List (List Qaa)) (r:((List Qb5)×Int)) (h:Qlr N p0 p1 p2=some r):Spec prog 40 [(.agg (Qgx p0)),(.dat 1 (p1.map Qad)),(.dat 1 (p2.map Qae))] [] (.tup [(.dat 8 (r.1.map Qbs)),(I r.2)]) []:=by
  refine Qak func40 rfl 0 (nle rfl) (fun X φ0 w0 hφ0 hd0=>?_)
  unfold Qlr at h
  refine wxz<|wsq ?_
  obtain⟨x2,hf1,h⟩:=bno h
  refine wx tbk [(3,rp _ _)] ⟨apv Zeh (Qqr N p0 p1 p2 _ hf1) (nlc (NLt.agg _ (nlc (nld Qao _) (nlc (nld Qab _) nl0))) (nlc (nld Qag _) (nlc (nld Qai _) nl0))) nll,tv⟩<|wxz ?_
  refine bfe h (fun hc3 h=>?_) fun hc3 h=>?_
  ·refine wft hc3<|wxz<|Qah<|Qaj ?_
   obtain rfl:=osi h
   exact fend ⟨[Zbr,I x2],⟨Qdi (v:=nilS) rot Less.nil,rot,tv⟩,rfl⟩ (NLt.tup _ (nlc (nld Qdb _) (nlc nll nl0)))
  ·refine wfn hc3<|Qaq<|thn ?_
   obtain⟨x5,hf4,h⟩:=bno h
   refine wx tbk [(3,rp _ _)] ⟨apv Zeg (Qn4 N p0 p1 p2 _ hf4) (nlc (NLt.agg _ (nlc (nld Qao _) (nlc (nld Qab _) nl0))) (nlc (nld Qag _) (nlc (nld Qai _) nl0))) (NLt.tup _ (nlc (nld Qb3 _) (nlc nll nl0))),tv⟩<|wsq<|wxz ?_
   refine bfe h (fun hc6 h=>?_) fun hc6 h=>?_
   ·refine wft hc6<|wxz<|Qah<|Qaj ?_
    obtain rfl:=osi h
    exact fend ⟨[Zbr,I 11],⟨Qdi (v:=nilS) rot Less.nil,rot,tv⟩,rfl⟩ (NLt.tup _ (nlc (nld Qdb _) (nlc nll nl0)))
   ·refine wfn hc6<|Qaq<|thn<|wxz ?_
    obtain⟨k8,hk_k8,h⟩:=jko h
    refine wjn (τ:=(List Qb5)) (fun t=>k8 t=some r) (fun y7=>⟨mk 47 [(11,.ref 0 1 0 0)],[(.own 1 [[(.acc 1 110 8 (y7.map Qbs))]]),.tok]⟩) (fun y7 h=>?_) ?_
    ·subst hk_k8
     refine wxz<|Qah ?_
     obtain rfl:=osi h
     exact fend ⟨[(.dat 8 (y7.map Qbs)),I 0],⟨Qdi (v:=(.acc 1 110 8 (y7.map Qbs))) rot Less.acc,rot,tv⟩,rfl⟩ (NLt.tup _ (nlc (nld Qdb _) (nlc nll nl0)))
    ·skip
     obtain⟨x10,hf9,h⟩:=bno h
     refine wx tbk [(1,⟨_,_,_,_,false⟩)] ⟨Qat (first:=[]) (cap:=[]) (vs:=[(Zqa p0)]) (σr:=[]) (σr':=[(Q58 p0),(.own 1 [[(.mp 5)]]),(Qd3 x10)]) (res':=Zkq) [3,4,5] rfl Zei (Qmu N p0 _ hf9) rfl (Qbq (rnc (.plain _ (NLt.agg _ (nlc (nld Qao _) (nlc (nld Qab _) nl0)))) rn0)) Qas (slc (Qan (rnc (pld Qao) (rnc (pld Qab) rn0))) (slc (Qan (rnc (Q6o rfl) rn0)) (slc Qp3 Qas))) (Qbl rn0 (rnc (Qb4 rfl) (rnc (Qb4 rfl) rn0))) rfl rfl rfl,tv⟩<|Qap ?_
     obtain⟨q11,hL12,h⟩:=bno h
     refine wmr (mto (n:=47) (l':=[(9,.ref 0 1 0 0),(11,.ref 1 1 0 0),(31,(.fn (.func 110) [] [.ref 2 2 0 0,.ref 3 1 0 0]))]) (own':=[(.own 1 [[(Qnt x5)]]),(.own 1 [[nilS]]),(Q58 p0),(.own 1 [[(.mp 4)]]),(Qd3 x10)]) [(9,.ref 1 1 0 0),(11,.ref 2 1 0 0),(31,Zkq)] [1,2,3,4,5] [(.own 1 [[(Qnt x5)]]),(.own 1 [[nilS]]),(Q58 p0),(.own 1 [[(.mp 5)]]),(Qd3 x10)] hφ0 (prr (prr (pc (.rn (Qbl rn0 (rnc (rqr rfl) (rnc (rqr rfl) rn0)))) pn))) (qb (lc (rnd Qb3) ln) (qb (lc rwl ln) (qb (lc (rnd Qao) (lc (rnd Qab) ln)) (qb (lc (.rn (Qji rfl)) ln) (qc Qfz qn)))))) ?_
     refine wmr (Qna (n:=5) (ty:=110) (m:=8) (q:=1) (mq:=1) (c:=[nilS]) 0 (by kernel_rfl) (by kernel_rfl) (by kernel_rfl) (by decide)) ?_
     refine Qtz (τ:=((List Qb5))) (kb:=5) (caps:=[.ref 2 2 0 0,.ref 3 1 0 0]) (σr:=[(Q58 p0),(.own 1 [[(.mp 4)]]),(Qd3 x10)]) (encs:=fun x=>[(.agg #[(.int .i64 x.Element),(.int .i64 x.Outlet)])]) (fun x=>[(.agg [I x.Element,I x.Outlet])]) [2,3,4] (fun n hn=>hφ0 n (Nat.le_trans (nle rfl) hn)) hd0 (Qmt N p0.Table p0.Elements x10 _ hL12) Q7h (by kernel_rfl) (by kernel_rfl) (Qbq (rnc (Qb4 rfl) (rnc (Qb4 rfl) rn0))) (slc (Qan (rnc (pld Qao) (rnc (pld Qab) rn0))) (slc (Qan (rnc (Q6o rfl) rn0)) (slc Qp3 Qas))) (by kernel_rfl) (fun _=>rfl) (fun x=>⟨(Less.unlits [(.int .i64 x.Element),(.int .i64 x.Outlet)]),tv⟩) (Zdk (Qom (NLt.ref _ _ _ _ (by decide)) (Qom (NLt.ref _ _ _ _ (by decide)) (Qom (NLt.fn _ _ _ nl0 (nlc (NLt.ref _ _ _ _ (by decide)) (nlc (NLt.ref _ _ _ _ (by decide)) nl0))) Q4f)))) (fun y13=>[(.own 1 [[(Qnt x5)]]),(.own 1 [[(.acc 5 110 8 (y13.map Qbs))]]),.dead,.dead,.dead,.tok]) (fun _=>rfl) (fun _=>rfl) (fun l t=>Qdo N x5 k8 l t=some r) ([]) h (by kernel_rfl) ?_ ?_
     ·intro l18 o19 X22 φ23 w24 hφ21 x16 q17 y13 h
      rw[Qdo] at h
      refine wxz1 ?_
      refine⟨by kernel_rfl,fun o20=>?_⟩
      refine Qap<|wx tbk [(0,rp [(.tmp 9,.ref 0 1 0 0),(.tmp 12,.ref 7 2 0 0)] Zl8)] ⟨Qew (fs:=[]) (cs:=[.ref 0 1 0 0,.ref 7 2 0 0]) rfl rfl rfl rfl,tv⟩ ?_
      obtain⟨x26,hf25,h⟩:=bno h
      obtain⟨x28,hf27,h⟩:=bno h
      obtain⟨x30,hf29,h⟩:=bno h
      obtain⟨x32,hf31,h⟩:=bno h
      obtain⟨ha33,h⟩:=cko h
      refine wy1 tbk [(2,⟨_,_,_,_,false⟩),(4,⟨_,_,_,_,false⟩),(6,⟨_,_,_,_,false⟩),(8,⟨_,_,_,_,false⟩),(9,rp _ _),(10,rp [(.tmp 43,(Zbs x26 x28 x30 x32))] (.dat 8 (([(⟨x26,x28,x30,x32⟩:Qb5)]:List Qb5).map Qbs))),(11,⟨[(.tmp 34,(.acc 5 110 8 (y13.map Qbs))),(.tmp 44,(.dat 8 (([(⟨x26,x28,x30,x32⟩:Qb5)]:List Qb5).map Qbs)))],[(5,.tok),(12,.unused)],(.acc 12 110 8 ((y13++([(⟨x26,x28,x30,x32⟩:Qb5)]):List Qb5).map Qbs)),[(5,.dead),(12,.tok)],false⟩)] ⟨Qat (first:=[]) (cap:=[.ref 0 1 0 0,.ref 7 2 0 0]) (vs:=[(.fn (.func 82) [] [])]) (σr:=[(.own 1 [[(Qnt x5)]]),(Qpc x16)]) (σr':=[(.own 1 [[(Qnt x5)]]),(Qpc x16),(.own 2 [[I x26.Lo,I x26.Hi]])]) (res':=(Zbw x26)) [0,7,8] rfl Qz4 (Qre N x5.1 x16.Element x16.Outlet _ hf25) rfl (Qbq (rnc (.plain _ (NLt.fn _ _ _ nl0 nl0)) (rnc (Qa4 rfl) (rnc (Qa4 rfl) rn0)))) (slc (Qan (rnc (pld Qb3) rn0)) (slc (Qan (rncc rn0)) Qas)) (slc (Qan (rnc (pld Qb3) rn0)) (slc (Qan (rncc rn0)) (slc (Qan (rncc rn0)) Qas))) (.plain _ (NLt.agg _ (nlcc nl0))) rfl rfl rfl,Qat (first:=[]) (cap:=[.ref 0 1 0 0,.ref 7 2 0 0]) (vs:=[(.fn (.func 83) [] [])]) (σr:=[(.own 1 [[(Qnt x5)]]),(Qpc x16)]) (σr':=[(.own 1 [[(Qnt x5)]]),(Qpc x16),(.own 2 [[I x28.Lo,I x28.Hi]])]) (res':=(Zbv x28)) [0,7,9] rfl Qz4 (Qrd N x5.1 x16.Element x16.Outlet _ hf27) rfl (Qbq (rnc (.plain _ (NLt.fn _ _ _ nl0 nl0)) (rnc (Qa4 rfl) (rnc (Qa4 rfl) rn0)))) (slc (Qan (rnc (pld Qb3) rn0)) (slc (Qan (rncc rn0)) Qas)) (slc (Qan (rnc (pld Qb3) rn0)) (slc (Qan (rncc rn0)) (slc (Qan (rncc rn0)) Qas))) (.plain _ (NLt.agg _ (nlcc nl0))) rfl rfl rfl,Qat (first:=[]) (cap:=[.ref 0 1 0 0,.ref 7 2 0 0]) (vs:=[(.fn (.func 84) [] [])]) (σr:=[(.own 1 [[(Qnt x5)]]),(Qpc x16)]) (σr':=[(.own 1 [[(Qnt x5)]]),(Qpc x16),(.own 2 [[I x30.Lo,I x30.Hi]])]) (res':=(Zbu x30)) [0,7,10] rfl Qz4 (Qrc N x5.1 x16.Element x16.Outlet _ hf29) rfl (Qbq (rnc (.plain _ (NLt.fn _ _ _ nl0 nl0)) (rnc (Qa4 rfl) (rnc (Qa4 rfl) rn0)))) (slc (Qan (rnc (pld Qb3) rn0)) (slc (Qan (rncc rn0)) Qas)) (slc (Qan (rnc (pld Qb3) rn0)) (slc (Qan (rncc rn0)) (slc (Qan (rncc rn0)) Qas))) (.plain _ (NLt.agg _ (nlcc nl0))) rfl rfl rfl,Qat (first:=[]) (cap:=[.ref 0 1 0 0,.ref 7 2 0 0]) (vs:=[(.fn (.func 85) [] [])]) (σr:=[(.own 1 [[(Qnt x5)]]),(Qpc x16)]) (σr':=[(.own 1 [[(Qnt x5)]]),(Qpc x16),(.own 2 [[I x32.Lo,I x32.Hi]])]) (res':=(Zbt x32)) [0,7,11] rfl Qz4 (Qrb N x5.1 x16.Element x16.Outlet _ hf31) rfl (Qbq (rnc (.plain _ (NLt.fn _ _ _ nl0 nl0)) (rnc (Qa4 rfl) (rnc (Qa4 rfl) rn0)))) (slc (Qan (rnc (pld Qb3) rn0)) (slc (Qan (rncc rn0)) Qas)) (slc (Qan (rnc (pld Qb3) rn0)) (slc (Qan (rncc rn0)) (slc (Qan (rncc rn0)) Qas))) (.plain _ (NLt.agg _ (nlcc nl0))) rfl rfl rfl,Qaz (vs:=[(Zbw x26),(Zbv x28),(Zbu x30),(Zbt x32)]) rfl Zsf Zmi rfl (by rfl) rfl,Qbo (vs:=[(Zbs x26 x28 x30 x32)]) rfl underlying96 Q8j Zmi rfl (by decide) rfl (by decide) (by rfl) (by rfl) (by rfl) rfl,Qd6 rfl underlying96 Zsw (Base.acc _ _) rfl rfl (by rfl) (Qg2 Qbs ha33) (Qg1 Qbs ha33 (by decide)) (Qg0 Qbs) rfl rfl,tv⟩<|bln ?_
      exact⟨(y13++([(⟨x26,x28,x30,x32⟩:Qb5)])),h,Zc5 (own':=[(.own 1 [[(Qnt x5)]]),(.own 1 [[(.acc 5 110 8 (((y13++([(⟨x26,x28,x30,x32⟩:Qb5)])):List Qb5).map Qbs))]]),.dead,.dead,.dead,.tok,(.far (farL l18 o20))]) [0,1,2,3,4,12,6] [(.own 1 [[(Qnt x5)]]),(.own 1 [[(.acc 12 110 8 ((y13++([(⟨x26,x28,x30,x32⟩:Qb5)]):List Qb5).map Qbs))]]),.dead,.dead,.dead,.tok,(.far (farL l18 o20))] (by kernel_rfl) (by kernel_rfl) ⟨(spb (lc (rnd Qb3) ln)),(spb (lc (.rn (Qa3 rfl (Qa0 Qdb _))) ln)),.dead,.dead,.dead,.tok,.far _,tv⟩⟩
     ·intro y13 h
      rw[Qdo] at h
      exact bln<|thn<|⟨(y13),h,(mto (n:=47) [(11,.ref 1 1 0 0)] [1,5] [(.own 1 [[(.acc 5 110 8 (y13.map Qbs))]]),.tok] hφ0 (prr pn) (qb (lc (.rn (Qa3 rfl (Qa0 Qdb _))) ln) (qc .tok qn)))⟩
def Qfc (N:Nat) (y2:Int) (k6:Unit→Option (Int×Int)) (x7:Qb8):Nat→Int→Option (Int×Int)
  |0,_=>none
  |n13+1,y11=>
    bif (decide (y11<(x7.Tick.Lost.length:Int))) then
     (getI x7.Tick.Lost y11).bind fun x15=>
     bif (decide (x15.Scale>0)) then
      some (y2,y11)
     else
      Qfc N y2 k6 x7 n13 (w64 (y11+1))
    else
     k6 ()
def Qfd (N:Nat) (p0:List Qb8) (k1:Unit→Option (Int×Int)):Nat→Int→Option (Int×Int)
  |0,_=>none
  |n4+1,y2=>
    bif (decide (y2<(p0.length:Int))) then
     Qbi (fun _=>
       Qfd N p0 k1 n4 (w64 (y2+1))) fun k6:Unit→Option (Int×Int)=>
     (getI p0 y2).bind fun x7=>
     Qfc N y2 k6 x7 N 0
    else
     k1 ()
def Qlp (N:Nat) (p0:List Qb8):Option (Int×Int):=
  Qbi (fun _=>
    some ((-1),(-1))) fun k1:Unit→Option (Int×Int)=>
  Qfd N p0 k1 N 0
def Qqm (p0:List Qb8):AV:=.dat 1 (p0.map Qbr)
def Qyw (x7:Qb8):AV:=.dat 4 (x7.Tick.Lost.map Qax)
theorem Qv2 (N:Nat) (p0:List Qb8) (r:(Int×Int)) (h:Qlp N p0=some r):Spec prog 86 [(.dat 1 (p0.map Qbr))] [] (.tup [(I r.1),(I r.2)]) []:=by
  refine Qak func86 rfl 0 (nle rfl) (fun X φ0 w0 hφ0 hd0=>?_)
  unfold Qlp at h
  refine wxz ?_
  obtain⟨k1,hk_k1,h⟩:=jko h
  refine wjn (τ:=Unit) (fun t=>k1 t=some r) (fun _=>⟨mk 33 [],[]⟩) (fun t h=>?_) ?_
  ·subst hk_k1
   refine wxz<|Qah ?_
   obtain rfl:=osi h
   exact fend ⟨[(I ((-1))),(I ((-1)))],⟨rot,rot,tv⟩,rfl⟩ (NLt.tup _ (nlcc nl0))
  ·skip
   refine wx tbk [(1,rp _ _)] ⟨alq 1 Qbr p0 underlying168,tv⟩<|Qap ?_
   refine wmr (mto (n:=33) (l':=[(8,(Qqm p0)),(9,(I ((p0.length:Int)))),(10,I 0)]) (own':=[]) [(8,(Qqm p0)),(9,(I ((p0.length:Int)))),(10,I 0)] [] [] hφ0 (pc (rnd Qb3) (pw (pw pn))) qn) ?_
   refine Qbv (τ:=Int) (fun n t=>Qfd N p0 k1 n t=some r) (fun y2=>⟨mk 33 [(8,(Qqm p0)),(9,(I ((p0.length:Int)))),(10,I y2)],[]⟩) (fun t h=>by rw[Qfd] at h;cases h) (fun n4 ih y2 h=>?_) N (0) h
   rw[Qfd] at h
   skip
   refine wxz<|wsq ?_
   refine bfe h (fun hc5 h=>?_) fun hc5 h=>?_
   ·refine wft hc5<|Qaq<|thn ?_
    obtain⟨k6,hk_k6,h⟩:=jko h
    refine wjn (τ:=Unit) (fun t=>k6 t=some r) (fun _=>⟨mk 33 [(8,(Qqm p0)),(9,(I ((p0.length:Int)))),(10,I y2)],[]⟩) (fun t h=>?_) ?_
    ·subst hk_k6
     exact wxz1<|thn<|arm (mto (n:=33) [(8,(Qqm p0)),(9,(I ((p0.length:Int)))),(10,(I (w64 (y2+1))))] [] [] hφ0 (pc (rnd Qb3) (pw (pw pn))) qn) (ih (w64 (y2+1)) h)
    ·skip
     refine Qap ?_
     obtain⟨x7,hg8,h⟩:=bno h
     obtain⟨hi9,hj10⟩:=gsm hg8
     refine wx tbk [(1,rp _ _)] ⟨aiq underlying168 Qkj Qbr hi9 hj10,tv⟩ ?_
     refine wx tbk [(5,rp _ _)] ⟨alq 4 Qax x7.Tick.Lost underlying32,tv⟩<|Qap ?_
     refine wmr (mto (n:=33) (l':=[(4,I y2),(8,(Qqm p0)),(9,(I ((p0.length:Int)))),(10,I y2),(19,(Qyw x7)),(20,(I ((x7.Tick.Lost.length:Int)))),(21,I 0)]) (own':=[]) [(4,I y2),(8,(Qqm p0)),(9,(I ((p0.length:Int)))),(10,I y2),(19,(Qyw x7)),(20,(I ((x7.Tick.Lost.length:Int)))),(21,I 0)] [] [] hφ0 (pw (pc (rnd Qb3) (pw (pw (pc (rnd Qa2) (pw (pw pn))))))) qn) ?_
     refine Qbv (τ:=Int) (fun n t=>Qfc N y2 k6 x7 n t=some r) (fun y11=>⟨mk 33 [(4,I y2),(8,(Qqm p0)),(9,(I ((p0.length:Int)))),(10,I y2),(19,(Qyw x7)),(20,(I ((x7.Tick.Lost.length:Int)))),(21,I y11)],[]⟩) (fun t h=>by rw[Qfc] at h;cases h) (fun n13 ih y11 h=>?_) N (0) h
     rw[Qfc] at h
     skip
     refine wxz<|wsq ?_
     refine bfe h (fun hc14 h=>?_) fun hc14 h=>?_
     ·refine wft hc14<|Qaq<|thn<|wsq<|Qap ?_
      obtain⟨x15,hg16,h⟩:=bno h
      obtain⟨hi17,hj18⟩:=gsm hg16
      refine wx tbk [(1,rp _ _)] ⟨aiq underlying32 ti82 Qax hi17 hj18,tv⟩<|wxz ?_
      refine bfe h (fun hc19 h=>?_) fun hc19 h=>?_
      ·refine wft hc19<|wxz<|Qah<|Qau<|Qaj<|Qaj<|Qau<|Qau<|Qaj<|Qaj ?_
       refine Qau<|Qaj ?_
       obtain rfl:=osi h
       exact fend ⟨[I y2,I y11],⟨rot,rot,tv⟩,rfl⟩ (NLt.tup _ (nlcc nl0))
      ·exact wfn hc19<|Qaq<|bln<|thn<|wxz1<|thn<|arm (mto (n:=33) [(4,I y2),(8,(Qqm p0)),(9,(I ((p0.length:Int)))),(10,I y2),(19,(Qyw x7)),(20,(I ((x7.Tick.Lost.length:Int)))),(21,(I (w64 (y11+1))))] [] [] hφ0 (pw (pc (rnd Qb3) (pw (pw (pc (rnd Qa2) (pw (pw pn))))))) qn) (ih (w64 (y11+1)) h)
     ·exact wfn hc14<|Qbg<|Qay<|Qay<|Qbf rfl<|bln<|thn<|⟨(),h,(mto (n:=33) [(8,(Qqm p0)),(9,(I ((p0.length:Int)))),(10,I y2)] [] [] hφ0 (pc (rnd Qb3) (pw (pw pn))) qn)⟩
   ·exact wfn hc5<|Qbg<|Qay<|Qay<|Qbf rfl<|thn<|⟨(),h,(mto (n:=33) [] [] [] hφ0 pn qn)⟩
def Qlq (N:Nat) (p0:GNet) (p1:List Int) (p2:List (List Qaa)):Option (Int×Int×Int):=
  (Qkv N p0 p1 p2).bind fun x2=>
  bif (x2 != 0) then
   some (0,0,x2)
  else
   (Qii N p0 p1 p2).bind fun x5=>
   bif (!x5.2) then
    some (0,0,11)
   else
    (Qlp N x5.1).bind fun x8=>
    some (x8.1,x8.2,0)
theorem Qv3 (N:Nat) (p0:GNet) (p1:List Int) (p2:List (List Qaa)) (r:(Int×Int×Int)) (h:Qlq N p0 p1 p2=some r):Spec prog 42 [(.agg (Qgx p0)),(.dat 1 (p1.map Qad)),(.dat 1 (p2.map Qae))] [] (.tup [(I r.1),(I r.2.1),(I r.2.2)]) []:=by
  refine Qak func42 rfl 0 (nle rfl) (fun X φ0 w0 hφ0 hd0=>?_)
  unfold Qlq at h
  refine wxz<|wsq ?_
  obtain⟨x2,hf1,h⟩:=bno h
  refine wx tbk [(3,rp _ _)] ⟨apv Zeh (Qqr N p0 p1 p2 _ hf1) (nlc (NLt.agg _ (nlc (nld Qao _) (nlc (nld Qab _) nl0))) (nlc (nld Qag _) (nlc (nld Qai _) nl0))) nll,tv⟩<|wxz ?_
  refine bfe h (fun hc3 h=>?_) fun hc3 h=>?_
  ·refine wft hc3<|wxz<|Qah<|Qaj ?_
   obtain rfl:=osi h
   exact fend ⟨[I 0,I 0,I x2],⟨rot,rot,rot,tv⟩,rfl⟩ (NLt.tup _ (nlcc (nlc nll nl0)))
  ·refine wfn hc3<|Qaq<|thn ?_
   obtain⟨x5,hf4,h⟩:=bno h
   refine wx tbk [(3,rp _ _)] ⟨apv Zeg (Qn4 N p0 p1 p2 _ hf4) (nlc (NLt.agg _ (nlc (nld Qao _) (nlc (nld Qab _) nl0))) (nlc (nld Qag _) (nlc (nld Qai _) nl0))) (NLt.tup _ (nlc (nld Qb3 _) (nlc nll nl0))),tv⟩<|wsq<|wxz ?_
   refine bfe h (fun hc6 h=>?_) fun hc6 h=>?_
   ·refine wft hc6<|wxz<|Qah<|Qaj ?_
    obtain rfl:=osi h
    exact fend ⟨[I 0,I 0,I 11],⟨rot,rot,rot,tv⟩,rfl⟩ (NLt.tup _ (nlcc (nlc nll nl0)))
   ·refine wfn hc6<|Qaq<|thn ?_
    obtain⟨x8,hf7,h⟩:=bno h
    refine wx tbk [(1,rp _ _)] ⟨apv Znp (Qv2 N x5.1 _ hf7) (nlc (nld Qb3 _) nl0) (NLt.tup _ (nlcc nl0)),tv⟩<|wxz<|Qah ?_
    obtain rfl:=osi h
    exact fend ⟨[I x8.1,I x8.2,I 0],⟨rot,rot,rot,tv⟩,rfl⟩ (NLt.tup _ (nlcc (nlc nll nl0)))
def Qdm (N:Nat) (p0:GNet) (p1:List (List Qaa)) (k2:Unit→Option Int):Nat→Int→Option Int
  |0,_=>none
  |n5+1,y3=>
    bif (decide (y3<(p1.length:Int))) then
     (getI p1 y3).bind fun x7=>
     (Qib N p0 x7).bind fun x12=>
     bif (x12 != 0) then
      some x12
     else
      Qdm N p0 p1 k2 n5 (w64 (y3+1))
    else
     k2 ()
def Qiy (N:Nat) (p0:GNet) (p1:List (List Qaa)):Option Int:=
  Qbi (fun _=>
    Qbi (fun _=>
      some 0) fun k2:Unit→Option Int=>
    Qdm N p0 p1 k2 N 0) fun k1:Unit→Option Int=>
  bif (decide ((p1.length:Int)<1)) then
   some 3
  else
   bif (decide ((p1.length:Int)>6)) then
    some 3
   else
    k1 ()
def Qvc (p1:List (List Qaa)):AV:=.dat 1 (p1.map Qae)
def Zp7 (p0:GNet):AV:=.dat 7 (p0.Elements.map Qal)
def Qxm (p0:GNet):Slot:=.own 2 [[(.dat 5 (p0.Table.map Qav)),(Zp7 p0)]]
theorem Qqd (N:Nat) (p0:GNet) (p1:List (List Qaa)) (r:Int) (h:Qiy N p0 p1=some r):Spec prog 87 [(.agg (Qgx p0)),(.dat 1 (p1.map Qae))] [] (I r) []:=by
  refine Qak func87 rfl 0 (nle rfl) (fun X φ0 w0 hφ0 hd0=>?_)
  unfold Qiy at h
  refine wxz ?_
  obtain⟨k1,hk_k1,h⟩:=jko h
  refine wjn (τ:=Unit) (fun t=>k1 t=some r) (fun _=>⟨mk 30 [(1,(Qvc p1)),(2,.ref 0 2 0 0)],[(Qxm p0)]⟩) (fun t h=>?_) ?_
  ·subst hk_k1
   obtain⟨k2,hk_k2,h⟩:=jko h
   refine wjn (τ:=Unit) (fun t=>k2 t=some r) (fun _=>⟨mk 30 [],[]⟩) (fun t h=>?_) ?_
   ·subst hk_k2
    refine wxz<|Qah ?_
    obtain rfl:=osi h
    exact fend ⟨[I 0],⟨rot,tv⟩,rfl⟩ nll
   ·skip
    refine wxz<|Qap ?_
    refine wmr (mto (n:=30) (l':=[(1,(Qvc p1)),(2,.ref 0 2 0 0),(5,I 0)]) (own':=[(Qxm p0)]) [(1,(Qvc p1)),(2,.ref 0 2 0 0),(5,I 0)] [0] [(Qxm p0)] hφ0 (pc (rnd Qai) (prr (pw pn))) (qb (lc (rnd Qao) (lc (rnd Qab) ln)) qn)) ?_
    refine Qbv (τ:=Int) (fun n t=>Qdm N p0 p1 k2 n t=some r) (fun y3=>⟨mk 30 [(1,(Qvc p1)),(2,.ref 0 2 0 0),(5,I y3)],[(Qxm p0)]⟩) (fun t h=>by rw[Qdm] at h;cases h) (fun n5 ih y3 h=>?_) N (0) h
    rw[Qdm] at h
    skip
    refine wsq<|wx tbk [(2,rp _ _)] ⟨alq 1 Qae p1 underlying49,tv⟩ ?_
    refine bfe h (fun hc6 h=>?_) fun hc6 h=>?_
    ·refine wft hc6<|Qaq<|thn<|wsq<|Qap ?_
     obtain⟨x7,hg8,h⟩:=bno h
     obtain⟨hi9,hj10⟩:=gsm hg8
     obtain⟨x12,hf11,h⟩:=bno h
     refine wxd tbk [(3,rp _ _),(5,rp _ _)] ⟨aiq underlying49 ti28 Qae hi9 hj10,apv Zny (Qq9 N p0 x7 _ hf11) (nlc (NLt.agg _ (nlc (nld Qao _) (nlc (nld Qab _) nl0))) (nlc (nld Qaf _) nl0)) nll,tv⟩<|wxz ?_
     refine bfe h (fun hc13 h=>?_) fun hc13 h=>?_
     ·refine wft hc13<|wxz<|Qah<|Qau<|Qaj<|Qaj<|Qau<|Qaj ?_
      obtain rfl:=osi h
      exact fend ⟨[I x12],⟨rot,tv⟩,rfl⟩ nll
     ·exact wfn hc13<|Qaq<|bln<|thn<|wxz1<|thn<|arm (mto (n:=30) [(1,(Qvc p1)),(2,.ref 0 2 0 0),(5,(I (w64 (y3+1))))] [0] [(Qxm p0)] hφ0 (pc (rnd Qai) (prr (pw pn))) (qb (lc (rnd Qao) (lc (rnd Qab) ln)) qn)) (ih (w64 (y3+1)) h)
    ·exact wfn hc6<|Qbg<|Qay<|Qay<|Qbf rfl<|thn<|⟨(),h,(mto (n:=30) [] [] [] hφ0 pn qn)⟩
  ·skip
   refine bfe h (fun hb14 h=>?_) fun hb14 h=>?_
   ·refine wx tbk [(1,rp _ _),(3,rp [(.tmp 9,(B ((decide ((p1.length:Int)<1)))))] (B true))] ⟨alq 1 Qae p1 underlying49,asb hb14 (amv rfl),tv⟩<|wtr<|wxz<|Qah<|Qaj ?_
    obtain rfl:=osi h
    exact fend ⟨[I 3],⟨rot,tv⟩,rfl⟩ nll
   ·refine wx tbk [(1,rp _ _),(3,rp [(.tmp 9,(B ((decide ((p1.length:Int)<1)))))] (B false)),(5,rp [(.tmp 10,B false),(.tmp 11,(Qvc p1))] (I ((p1.length:Int))))] ⟨alq 1 Qae p1 underlying49,asb hb14 (amv rfl),ag_ (alq 1 Qae p1 underlying49),tv⟩ ?_
    refine bfe h (fun hc15 h=>?_) fun hc15 h=>?_
    ·refine wft hc15<|wxz<|Qah<|Qaj ?_
     obtain rfl:=osi h
     exact fend ⟨[I 3],⟨rot,tv⟩,rfl⟩ nll
    ·exact wfn hc15<|Qaq<|thn<|⟨(),h,(mto (n:=30) [(1,(Qvc p1)),(2,.ref 0 2 0 0)] [0] [(Qxm p0)] hφ0 (pc (rnd Qai) (prr pn)) (qb (lc (rnd Qao) (lc (rnd Qab) ln)) qn))⟩
def Qkd (N:Nat) (p0:GNet) (p1:List Int) (p2:List (List Qaa)):Option Int:=
  (Qll N p0).bind fun x2=>
  bif (!x2) then
   some 1
  else
   (Qhu N p0 p1).bind fun x5=>
   bif (!x5) then
    some 1
   else
    (Qiy N p0 p2).bind fun x8=>
    some x8
def Zkd (p0:GNet):AV:=.agg [(.dat 5 (p0.Table.map Qav)),(.dat 7 (p0.Elements.map Qal))]
def Zbi (p0:GNet) (x2:Bool):List (Nat×Rec):=[(1,rp [fu 28,((.tmp 7),(Zkd p0))] (B x2))]
theorem Qut (N:Nat) (p0:GNet) (p1:List Int) (p2:List (List Qaa)) (r:Int) (h:Qkd N p0 p1 p2=some r):Spec prog 43 [(.agg (Qgx p0)),(.dat 1 (p1.map Qad)),(.dat 1 (p2.map Qae))] [] (I r) []:=by
  refine Qak func43 rfl 0 (nle rfl) (fun X φ0 w0 hφ0 hd0=>?_)
  unfold Qkd at h
  refine wxz<|wsq ?_
  obtain⟨x2,hf1,h⟩:=bno h
  refine hpre (A:=(Zbi p0 x2)) ⟨apv Zod (Qvu N p0 _ hf1) (nlc (NLt.agg _ (nlc (nld Qao _) (nlc (nld Qab _) nl0))) nl0) nll,tv⟩ fun q1_=>?_
  refine bfe h (fun hb3 h=>?_) fun hb3 h=>?_
  ·refine wx tbk (hcat (Zbi p0 x2) [(3,rp [(.tmp 9,(B ((!x2))))] (B true))]) (hap q1_ ⟨asb hb3 (amv rfl),tv⟩)<|wtr<|wxz<|Qah<|Qaj ?_
   obtain rfl:=osi h
   exact fend ⟨[I 1],⟨rot,tv⟩,rfl⟩ nll
  ·obtain⟨x5,hf4,h⟩:=bno h
   refine wx tbk (hcat (Zbi p0 x2) [(3,rp [(.tmp 9,(B ((!x2))))] (B false)),(6,rp [(.tmp 10,B false),fu 33,(.tmp 11,(Zkd p0)),(.tmp 12,(.dat 1 (p1.map Qad)))] (B x5))]) (hap q1_ ⟨asb hb3 (amv rfl),ag_ (apv Zob (Qqc N p0 p1 _ hf4) (nlc (NLt.agg _ (nlc (nld Qao _) (nlc (nld Qab _) nl0))) (nlc (nld Qag _) nl0)) nll),tv⟩) ?_
   refine bfe h (fun hc6 h=>?_) fun hc6 h=>?_
   ·refine wft hc6<|wxz<|Qah<|Qaj ?_
    obtain rfl:=osi h
    exact fend ⟨[I 1],⟨rot,tv⟩,rfl⟩ nll
   ·refine wfn hc6<|Qaq<|thn ?_
    obtain⟨x8,hf7,h⟩:=bno h
    refine wx tbk [(2,rp _ _)] ⟨apv Zno (Qqd N p0 p2 _ hf7) (nlc (NLt.agg _ (nlc (nld Qao _) (nlc (nld Qab _) nl0))) (nlc (nld Qai _) nl0)) nll,tv⟩<|Qah ?_
    obtain rfl:=osi h
    exact fend ⟨[I x8],⟨rot,tv⟩,rfl⟩ nll
def Qh5 (_N:Nat) (p0:Qbb) (p1:Int) (p2:Bool):Option Qbb:=
  bif p2 then
   some (⟨p1,p1⟩:Qbb)
  else
   some (⟨(if p1<p0.Lo then p1 else p0.Lo),(if p1>p0.Hi then p1 else p0.Hi)⟩:Qbb)
def Zp4 (p1:Int) (p0:Qbb):AV:=.agg [(I ((if p1<p0.Lo then p1 else p0.Lo))),(I ((if p1>p0.Hi then p1 else p0.Hi)))]
theorem Qj4 (N:Nat) (p0:Qbb) (p1:Int) (p2:Bool) (r:Qbb) (h:Qh5 N p0 p1 p2=some r):Spec prog 88 [(.agg (Ql6 p0)),(I p1),(B p2)] [] (.agg (Ql6 r)) []:=by
  refine Qak func88 rfl 0 (nle rfl) (fun X φ0 w0 hφ0 hd0=>?_)
  unfold Qh5 at h
  refine wxz<|wsq<|wxz ?_
  refine bfe h (fun hc1 h=>?_) fun hc1 h=>?_
  ·refine wft hc1<|wx tbk [(2,rp _ _)] ⟨Qaz (vs:=[I p1,I p1]) rfl Zqv Zmh rfl (by rfl) rfl,tv⟩<|Qah<|Qaj ?_
   obtain rfl:=osi h
   exact fend ⟨[(.agg [I p1,I p1])],⟨Qbn (n:=1) (m:=2) (j:=0) (i:=0) (xs:=[[I p1,I p1]]) (by kernel_rfl) (by kernel_rfl) Qvk (by decide) rfl (nle rfl) rfl,tv⟩,rfl⟩ (NLt.agg _ (nlcc nl0))
  ·refine wfn hc1<|Qaq<|thn ?_
   refine wx tbk [(3,rp [(.tmp 12,I p0.Lo),(.tmp 13,I p1)] (I ((if p1<p0.Lo then p1 else p0.Lo)))),(7,rp [(.tmp 16,I p0.Hi),(.tmp 17,I p1)] (I ((if p1>p0.Hi then p1 else p0.Hi)))),(8,rp _ _)] ⟨Qki rfl,Qiu rfl,Qaz (vs:=[(I ((if p1<p0.Lo then p1 else p0.Lo))),(I ((if p1>p0.Hi then p1 else p0.Hi)))]) rfl Zqv Zmh rfl (by rfl) rfl,tv⟩<|Qah ?_
   obtain rfl:=osi h
   exact fend ⟨[(Zp4 p1 p0)],⟨Qbn (n:=1) (m:=2) (j:=0) (i:=0) (xs:=[[(I ((if p1<p0.Lo then p1 else p0.Lo))),(I ((if p1>p0.Hi then p1 else p0.Hi)))]]) (by kernel_rfl) (by kernel_rfl) Qvk (by decide) rfl (nle rfl) rfl,tv⟩,rfl⟩ (NLt.agg _ (nlcc nl0))
def Qep (N:Nat) (x5:List Qa6) (y10:Int) (k17:(List Qb5)→Option ((List Qb5)×Bool)) (x23:(Qfg×Int×Int)):Nat→Int→(List Qb5)→Option ((List Qb5)×Bool)
  |0,_,_=>none
  |n29+1,y25,y26=>
    bif (decide (y25<(x5.length:Int))) then
     (getI x5 y25).bind fun x31=>
     (getI x23.1.Out x31.Element).bind fun x35=>
     (getI x35 x31.Outlet).bind fun x39=>
     chk (decide (0≤y25)&&decide (y25.toNat<(x5.length:Int).toNat))<|
     (y26[y25.toNat]?).bind fun x44=>
     (Qh5 N (⟨x44.Mass.Lo,x44.Mass.Hi⟩:Qbb) x39.Mass (y10==0)).bind fun x47=>
     (Qh5 N (⟨x44.Heat.Lo,x44.Heat.Hi⟩:Qbb) x39.Heat (y10==0)).bind fun x49=>
     (Qh5 N (⟨x44.Silica.Lo,x44.Silica.Hi⟩:Qbb) x39.Silica (y10==0)).bind fun x51=>
     (Qh5 N (⟨x44.Gas.Lo,x44.Gas.Hi⟩:Qbb) x39.Gas (y10==0)).bind fun x53=>
     chk (decide (0≤y25)&&decide (y25.toNat<(x5.length:Int).toNat))<|
     (y26[y25.toNat]?).bind fun _=>
     Qep N x5 y10 k17 x23 n29 (w64 (y25+1)) (y26.set y25.toNat (⟨x47,x49,x51,x53⟩:Qb5))
    else
     k17 (y26)
def Qeq (N:Nat) (p0:GNet) (p1:List Int) (p2:List (List Qaa)) (x5:List Qa6) (k8:(List Qb5)→Option ((List Qb5)×Bool)):Nat→Int→(List Qb5)→Option ((List Qb5)×Bool)
  |0,_,_=>none
  |n14+1,y10,y11=>
    bif (decide (y10<(p2.length:Int))) then
     Qbi (fun y16=>
       Qeq N p0 p1 p2 x5 k8 n14 (w64 (y10+1)) y16) fun k17:(List Qb5)→Option ((List Qb5)×Bool)=>
     (getI p2 y10).bind fun x18=>
     (Qn0 N p0 p1 x18).bind fun x23=>
     bif (decide (x23.2.2≥0)) then
      some ([],false)
     else
      Qep N x5 y10 k17 x23 N 0 y11
    else
     k8 (y11)
def Qj6 (N:Nat) (p0:GNet) (p1:List Int) (p2:List (List Qaa)):Option ((List Qb5)×Bool):=
  (Qmn N p0).bind fun x5=>
  chk (decide (0≤(x5.length:Int))&&decide (64*(x5.length:Int)≤281474976710656)&&decide ((x5.length:Int)≤9223372036854775807))<|
  Qbi (fun y7=>
    chk (decide ((x5.length:Int).toNat≤y7.length))<|
    some (y7.take ((x5.length:Int).toNat),true)) fun k8:(List Qb5)→Option ((List Qb5)×Bool)=>
  Qeq N p0 p1 p2 x5 k8 N 0 (List.replicate (x5.length:Int).toNat (⟨⟨0,0⟩,⟨0,0⟩,⟨0,0⟩,⟨0,0⟩⟩:Qb5))
def Qk1 (x5:List Qa6):AV:=.dat 2 (x5.map Qaw)
def Q51 (x5:List Qa6):Slot:=.own 8 ((List.replicate (x5.length:Int).toNat (⟨⟨0,0⟩,⟨0,0⟩,⟨0,0⟩,⟨0,0⟩⟩:Qb5):List Qb5).map Qbs)
def Quw (y7:List Qb5) (x5:List Qa6):AV:=.dat 8 ((y7.take ((x5.length:Int).toNat):List Qb5).map Qbs)
def Qqk (p2:List (List Qaa)):AV:=.dat 1 (p2.map Qae)
def Qql (p0:GNet):Slot:=.own 2 [[(.dat 5 (p0.Table.map Qav)),(.dat 7 (p0.Elements.map Qal))]]
def Q50:AV:=.dat 8 (([]:List Qb5).map Qbs)
def Quv (x23:(Qfg×Int×Int)):Slot:=.own 3 [[(.dat 1 (x23.1.Out.map Qae)),(.dat 4 (x23.1.Lost.map Qax)),(.dat 1 (x23.1.State.map Qad))]]
def Qp0 (y26:List Qb5):Slot:=.own 8 (y26.map Qbs)
theorem Qus (N:Nat) (p0:GNet) (p1:List Int) (p2:List (List Qaa)) (r:((List Qb5)×Bool)) (h:Qj6 N p0 p1 p2=some r):Spec prog 44 [(.agg (Qgx p0)),(.dat 1 (p1.map Qad)),(.dat 1 (p2.map Qae))] [] (.tup [(.dat 8 (r.1.map Qbs)),(B r.2)]) []:=by
  refine Qak func44 rfl 0 (nle rfl) (fun X φ0 w0 hφ0 hd0=>?_)
  unfold Qj6 at h
  refine Qby<|wxz ?_
  obtain⟨x5,hf4,h⟩:=bno h
  refine wx tbk [(1,rp _ _)] ⟨apv Zoa (Qxh N p0 _ hf4) (nlc (NLt.agg _ (nlc (nld Qao _) (nlc (nld Qab _) nl0))) nl0) (nld Qa1 _),tv⟩ ?_
  obtain⟨hm6,h⟩:=cko h
  refine wx tbk [(1,rp _ _),(2,⟨[(.tmp 20,(I ((x5.length:Int)))),(.tmp 20,(I ((x5.length:Int))))],[(1,.unused)],(.own 1 8 (0) ((x5.length:Int).toNat)),[(1,(Q51 x5))],false⟩)] ⟨alq 2 Qaw x5 underlying57,Qmd rfl underlying102 Zsv Zmg rfl (Qt2 hm6) rfl (Qt1 hm6) (Qyp hm6) (Qvq Qbs rfl),tv⟩ ?_
  obtain⟨k8,hk_k8,h⟩:=jko h
  refine wjn (τ:=(List Qb5)) (fun t=>k8 t=some r) (fun y7=>⟨mk 100 [(9,(.own 0 8 (0) ((x5.length:Int).toNat)))],[(.own 8 (y7.map Qbs))]⟩) (fun y7 h=>?_) ?_
  ·subst hk_k8
   refine wxz ?_
   obtain⟨hz9,h⟩:=cko h
   refine wmr (Q6y (n:=100) (l':=[(6,(Quw y7 x5)),(7,B true)]) 0 [(6,(.own 0 8 (0) ((x5.length:Int).toNat))),(7,B true)] (by kernel_rfl) (by kernel_rfl) (by kernel_rfl) ⟨rfl,(Qnr hz9),rfl,(.same _),tv⟩ rfl) ?_
   refine wmr (mto (n:=100) (l':=[(6,(Quw y7 x5)),(7,B true)]) (own':=[]) [(6,(Quw y7 x5)),(7,B true)] [] [] hφ0 (pc (rnd Qdb) (pw pn)) qn)<|Qah ?_
   obtain rfl:=osi h
   exact⟨_,Mor.rfl,Qcy (vs:=[(Quw y7 x5),B true]) ⟨rot,rot,tv⟩ rfl (NLt.tup _ (nlc (nld Qdb _) (nlc nll nl0))) (by kernel_rfl) Qbx⟩
  ·skip
   refine wxz<|Qap ?_
   refine wmr (mto (n:=100) (l':=[(1,(.dat 1 (p1.map Qad))),(2,(Qqk p2)),(3,.ref 0 2 0 0),(8,(Qk1 x5)),(9,(.own 1 8 (0) ((x5.length:Int).toNat))),(10,I 0)]) (own':=[(Qql p0),(.own 8 (((List.replicate (x5.length:Int).toNat (⟨⟨0,0⟩,⟨0,0⟩,⟨0,0⟩,⟨0,0⟩⟩:Qb5)):List Qb5).map Qbs))]) [(1,(.dat 1 (p1.map Qad))),(2,(Qqk p2)),(3,.ref 0 2 0 0),(8,(Qk1 x5)),(9,(.own 1 8 (0) ((x5.length:Int).toNat))),(10,I 0)] [0,1] [(Qql p0),(Q51 x5)] hφ0 (pc (rnd Qag) (pc (rnd Qai) (prr (pc (rnd Qa1) (pc (.rn (Qa7 rfl)) (pw pn)))))) (qb (lc (rnd Qao) (lc (rnd Qab) ln)) (qc (spr Qdb) qn))) ?_
   refine Qbv (τ:=Int×(List Qb5)) (fun n t=>Qeq N p0 p1 p2 x5 k8 n t.1 t.2=some r) (fun ⟨y10,y11⟩=>⟨mk 100 [(1,(.dat 1 (p1.map Qad))),(2,(Qqk p2)),(3,.ref 0 2 0 0),(8,(Qk1 x5)),(9,(.own 1 8 (0) ((x5.length:Int).toNat))),(10,I y10)],[(Qql p0),(.own 8 (y11.map Qbs))]⟩) (fun t h=>by rw[Qeq] at h;cases h) (fun n14 ih t h=>?_) N (0,List.replicate (x5.length:Int).toNat (⟨⟨0,0⟩,⟨0,0⟩,⟨0,0⟩,⟨0,0⟩⟩:Qb5)) h
   obtain⟨y10,y11⟩:=t
   rw[Qeq] at h
   skip
   refine wsq<|wx tbk [(2,rp _ _)] ⟨alq 1 Qae p2 underlying49,tv⟩ ?_
   refine bfe h (fun hc15 h=>?_) fun hc15 h=>?_
   ·refine wft hc15<|Qaq<|thn ?_
    obtain⟨k17,hk_k17,h⟩:=jko h
    refine wjn (τ:=(List Qb5)) (fun t=>k17 t=some r) (fun y16=>⟨mk 100 [(1,(.dat 1 (p1.map Qad))),(2,(Qqk p2)),(3,.ref 0 2 0 0),(8,(Qk1 x5)),(9,(.own 1 8 (0) ((x5.length:Int).toNat))),(10,I y10)],[(Qql p0),(.own 8 (y16.map Qbs))]⟩) (fun y16 h=>?_) ?_
    ·subst hk_k17
     exact wxz1<|thn<|arm (mto (n:=100) [(1,(.dat 1 (p1.map Qad))),(2,(Qqk p2)),(3,.ref 0 2 0 0),(8,(Qk1 x5)),(9,(.own 1 8 (0) ((x5.length:Int).toNat))),(10,(I (w64 (y10+1))))] [0,1] [(Qql p0),(.own 8 (y16.map Qbs))] hφ0 (pc (rnd Qag) (pc (rnd Qai) (prr (pc (rnd Qa1) (pc (.rn (Qa7 rfl)) (pw pn)))))) (qb (lc (rnd Qao) (lc (rnd Qab) ln)) (qc (spr Qdb) qn))) (ih (w64 (y10+1),y16) h)
    ·skip
     refine Qap ?_
     obtain⟨x18,hg19,h⟩:=bno h
     obtain⟨hi20,hj21⟩:=gsm hg19
     obtain⟨x23,hf22,h⟩:=bno h
     refine wxd tbk [(4,rp _ _),(6,rp _ _)] ⟨aiq underlying49 ti28 Qae hi20 hj21,apv Zeq (Qt9 N p0 p1 x18 _ hf22) (nlc (NLt.agg _ (nlc (nld Qao _) (nlc (nld Qab _) nl0))) (nlc (nld Qag _) (nlc (nld Qaf _) nl0))) (NLt.tup _ (nlc (NLt.agg _ (nlc (nld Qai _) (nlc (nld Qa2 _) (nlc (nld Qag _) nl0)))) (nlcc nl0))),tv⟩<|wsq<|wxz ?_
     refine bfe h (fun hc24 h=>?_) fun hc24 h=>?_
     ·refine wft hc24<|wxz ?_
      refine wmr (mto (n:=100) (l':=[(6,Q50),(7,B false)]) (own':=[]) [(6,nilS),(7,B false)] [] [] hφ0 (pc (.nil _) (pw pn)) qn)<|Qah<|Qaj<|Qau<|Qaj<|Qaj<|Qau<|Qaj ?_
      obtain rfl:=osi h
      exact⟨_,Mor.rfl,Qcy (vs:=[Q50,B false]) ⟨rot,rot,tv⟩ rfl (NLt.tup _ (nlc (nld Qdb _) (nlc nll nl0))) (by kernel_rfl) Qbx⟩
     ·refine wfn hc24<|Qaq<|thn<|wxz<|Qap ?_
      refine wmr (mto (n:=100) (l':=[(1,(.dat 1 (p1.map Qad))),(2,(Qqk p2)),(3,.ref 0 2 0 0),(8,(Qk1 x5)),(9,(.own 1 8 (0) ((x5.length:Int).toNat))),(10,I y10),(11,.ref 2 3 0 0),(14,I 0)]) (own':=[(Qql p0),(.own 8 (y11.map Qbs)),(Quv x23)]) [(1,(.dat 1 (p1.map Qad))),(2,(Qqk p2)),(3,.ref 0 2 0 0),(8,(Qk1 x5)),(9,(.own 1 8 (0) ((x5.length:Int).toNat))),(10,I y10),(11,.ref 2 3 0 0),(14,I 0)] [0,1,2] [(Qql p0),(.own 8 (y11.map Qbs)),(Quv x23)] hφ0 (pc (rnd Qag) (pc (rnd Qai) (prr (pc (rnd Qa1) (pc (.rn (Qa7 rfl)) (pw (prr (pw pn)))))))) (qb (lc (rnd Qao) (lc (rnd Qab) ln)) (qc (spr Qdb) (qb (lc (rnd Qai) (lc (rnd Qa2) (lc (rnd Qag) ln))) qn)))) ?_
      refine Qbv (τ:=Int×(List Qb5)) (fun n t=>Qep N x5 y10 k17 x23 n t.1 t.2=some r) (fun ⟨y25,y26⟩=>⟨mk 100 [(1,(.dat 1 (p1.map Qad))),(2,(Qqk p2)),(3,.ref 0 2 0 0),(8,(Qk1 x5)),(9,(.own 1 8 (0) ((x5.length:Int).toNat))),(10,I y10),(11,.ref 2 3 0 0),(14,I y25)],[(Qql p0),(Qp0 y26),(Quv x23)]⟩) (fun t h=>by rw[Qep] at h;cases h) (fun n29 ih t h=>?_) N (0,y11) h
      obtain⟨y25,y26⟩:=t
      rw[Qep] at h
      skip
      refine wsq<|wx tbk [(2,rp _ _)] ⟨alq 2 Qaw x5 underlying57,tv⟩ ?_
      refine bfe h (fun hc30 h=>?_) fun hc30 h=>?_
      ·refine wft hc30<|Qaq<|thn<|wsq<|Qap ?_
       obtain⟨x31,hg32,h⟩:=bno h
       obtain⟨hi33,hj34⟩:=gsm hg32
       obtain⟨x35,hg36,h⟩:=bno h
       obtain⟨hi37,hj38⟩:=gsm hg36
       obtain⟨x39,hg40,h⟩:=bno h
       obtain⟨hi41,hj42⟩:=gsm hg40
       refine wxd tbk [(4,rp _ _),(7,rp _ _),(11,rp _ _),(14,rp _ _)] ⟨aiq underlying57 ti61 Qaw hi33 hj34,aiq underlying49 ti28 Qae hi37 hj38,aiq underlying57 ti61 Qaw hi33 hj34,aiq underlying28 ti89 Qac hi41 hj42,tv⟩ ?_
       obtain⟨hi43,h⟩:=cko h
       obtain⟨hi43a,hi43b⟩:=Qea hi43
       obtain⟨x44,hg45,h⟩:=bno h
       refine wx tbk [(2,rb [(.tmp 63,(.own 1 8 (0) ((x5.length:Int).toNat))),(.tmp 64,I y25)] [(1,(Qp0 y26))] (.ref 1 8 y25.toNat 0)),(3,rb [(.tmp 65,(.ref 1 8 y25.toNat 0))] [(1,(Qp0 y26))] (.agg [I x44.Mass.Lo,I x44.Mass.Hi,I x44.Heat.Lo,I x44.Heat.Hi,I x44.Silica.Lo,I x44.Silica.Hi,I x44.Gas.Lo,I x44.Gas.Hi]))] ⟨aio rfl underlying102 Qy7 (odt hi43a) (odt hi43b) (Nat.zero_add _),ald rfl Qy7 (by decide) (mgt Qbs hg45) (nle rfl) rfl,tv⟩ ?_
       obtain⟨x47,hf46,h⟩:=bno h
       obtain⟨x49,hf48,h⟩:=bno h
       obtain⟨x51,hf50,h⟩:=bno h
       obtain⟨x53,hf52,h⟩:=bno h
       obtain⟨hi54,h⟩:=cko h
       obtain⟨hi54a,hi54b⟩:=Qea hi54
       obtain⟨x55,hg56,h⟩:=bno h
       refine wy1 tbk [(8,rp _ _),(15,rp _ _),(22,rp _ _),(29,rp _ _),(30,rp _ _),(31,rb [(.tmp 67,(.own 1 8 (0) ((x5.length:Int).toNat))),(.tmp 68,I y25)] [(1,(Qp0 y26))] (.ref 1 8 y25.toNat 0)),(32,⟨[(.tmp 98,(.ref 1 8 y25.toNat 0)),(.tmp 97,(.agg [I x47.Lo,I x47.Hi,I x49.Lo,I x49.Hi,I x51.Lo,I x51.Hi,I x53.Lo,I x53.Hi]))],[(1,(Qp0 y26))],.any,[(1,(.own 8 ((y26.set y25.toNat (⟨x47,x49,x51,x53⟩:Qb5):List Qb5).map Qbs)))],false⟩)] ⟨apv Qz2 (Qj4 N (⟨x44.Mass.Lo,x44.Mass.Hi⟩:Qbb) x39.Mass (y10==0) _ hf46) (nlc (NLt.agg _ (nlcc nl0)) (nlcc nl0)) (NLt.agg _ (nlcc nl0)),apv Qz2 (Qj4 N (⟨x44.Heat.Lo,x44.Heat.Hi⟩:Qbb) x39.Heat (y10==0) _ hf48) (nlc (NLt.agg _ (nlcc nl0)) (nlcc nl0)) (NLt.agg _ (nlcc nl0)),apv Qz2 (Qj4 N (⟨x44.Silica.Lo,x44.Silica.Hi⟩:Qbb) x39.Silica (y10==0) _ hf50) (nlc (NLt.agg _ (nlcc nl0)) (nlcc nl0)) (NLt.agg _ (nlcc nl0)),apv Qz2 (Qj4 N (⟨x44.Gas.Lo,x44.Gas.Hi⟩:Qbb) x39.Gas (y10==0) _ hf52) (nlc (NLt.agg _ (nlcc nl0)) (nlcc nl0)) (NLt.agg _ (nlcc nl0)),Qaz (vs:=[(.agg [I x47.Lo,I x47.Hi]),(.agg [I x49.Lo,I x49.Hi]),(.agg [I x51.Lo,I x51.Hi]),(.agg [I x53.Lo,I x53.Hi])]) rfl Zse Zmg rfl (by rfl) rfl,aio rfl underlying102 Qy7 (odt hi54a) (odt hi54b) (Nat.zero_add _),ast rfl Qy7 (by rfl) (mgt Qbs hg56) (nle rfl) (Qhk Qbs rfl),tv⟩<|bln<|thn<|wxz1<|thn ?_
       exact arm (mto (n:=100) [(1,(.dat 1 (p1.map Qad))),(2,(Qqk p2)),(3,.ref 0 2 0 0),(8,(Qk1 x5)),(9,(.own 1 8 (0) ((x5.length:Int).toNat))),(10,I y10),(11,.ref 2 3 0 0),(14,(I (w64 (y25+1))))] [0,1,2] [(Qql p0),(.own 8 ((y26.set y25.toNat (⟨x47,x49,x51,x53⟩:Qb5):List Qb5).map Qbs)),(Quv x23)] hφ0 (pc (rnd Qag) (pc (rnd Qai) (prr (pc (rnd Qa1) (pc (.rn (Qa7 rfl)) (pw (prr (pw pn)))))))) (qb (lc (rnd Qao) (lc (rnd Qab) ln)) (qc (spr Qdb) (qb (lc (rnd Qai) (lc (rnd Qa2) (lc (rnd Qag) ln))) qn)))) (ih (w64 (y25+1),y26.set y25.toNat (⟨x47,x49,x51,x53⟩:Qb5)) h)
      ·exact wfn hc30<|Qbg<|Qay<|Qay<|Qbf rfl<|bln<|thn<|⟨(y26),h,(mto (n:=100) [(1,(.dat 1 (p1.map Qad))),(2,(Qqk p2)),(3,.ref 0 2 0 0),(8,(Qk1 x5)),(9,(.own 1 8 (0) ((x5.length:Int).toNat))),(10,I y10)] [0,1] [(Qql p0),(Qp0 y26)] hφ0 (pc (rnd Qag) (pc (rnd Qai) (prr (pc (rnd Qa1) (pc (.rn (Qa7 rfl)) (pw pn)))))) (qb (lc (rnd Qao) (lc (rnd Qab) ln)) (qc (spr Qdb) qn)))⟩
   ·exact wfn hc15<|Qbg<|Qay<|Qay<|Qbf rfl<|thn<|⟨(y11),h,(mto (n:=100) [(9,(.own 1 8 (0) ((x5.length:Int).toNat)))] [1] [(.own 8 (y11.map Qbs))] hφ0 (pc (.rn (Qa7 rfl)) pn) (qc (spr Qdb) qn))⟩
def Qdk (N:Nat) (y6:Int) (k14:Int×Int→Option (Int×Int×Bool)) (x20:(Qfg×Int×Int)):Nat→Int→Int→Int→Option (Int×Int×Bool)
  |0,_,_,_=>none
  |n28+1,y22,y23,y24=>
    bif (decide (y24<(x20.1.Lost.length:Int))) then
     bif (decide (y22<0)) then
      (getI x20.1.Lost y24).bind fun x31=>
      bif (decide (x31.Scale>0)) then
       Qdk N y6 k14 x20 n28 y6 y24 (w64 (y24+1))
      else
       Qdk N y6 k14 x20 n28 y22 y23 (w64 (y24+1))
     else
      Qdk N y6 k14 x20 n28 y22 y23 (w64 (y24+1))
    else
     k14 (y22,y23)
def Qc5 (N:Nat) (p0:GNet) (p1:List Int) (p2:List (List Qaa)) (k3:Int×Int→Option (Int×Int×Bool)):Nat→Int→Int→Int→Option (Int×Int×Bool)
  |0,_,_,_=>none
  |n10+1,y4,y5,y6=>
    bif (decide (y6<(p2.length:Int))) then
     Qbi (fun ⟨y12,y13⟩=>
       Qc5 N p0 p1 p2 k3 n10 y12 y13 (w64 (y6+1))) fun k14:Int×Int→Option (Int×Int×Bool)=>
     (getI p2 y6).bind fun x15=>
     (Qn0 N p0 p1 x15).bind fun x20=>
     bif (decide (x20.2.2≥0)) then
      some (0,0,false)
     else
      Qdk N y6 k14 x20 N y4 y5 0
    else
     k3 (y4,y5)
def Qj5 (N:Nat) (p0:GNet) (p1:List Int) (p2:List (List Qaa)):Option (Int×Int×Bool):=
  Qbi (fun ⟨y1,y2⟩=>
    some (y1,y2,true)) fun k3:Int×Int→Option (Int×Int×Bool)=>
  Qc5 N p0 p1 p2 k3 N (-1) (-1) 0
def Qow (p2:List (List Qaa)):AV:=.dat 1 (p2.map Qae)
def Zp3 (p0:GNet):AV:=.dat 7 (p0.Elements.map Qal)
def Qox (p0:GNet):Slot:=.own 2 [[(.dat 5 (p0.Table.map Qav)),(Zp3 p0)]]
def Qs6 (x20:(Qfg×Int×Int)):Slot:=.own 3 [[(.dat 1 (x20.1.Out.map Qae)),(.dat 4 (x20.1.Lost.map Qax)),(.dat 1 (x20.1.State.map Qad))]]
theorem Qur (N:Nat) (p0:GNet) (p1:List Int) (p2:List (List Qaa)) (r:(Int×Int×Bool)) (h:Qj5 N p0 p1 p2=some r):Spec prog 45 [(.agg (Qgx p0)),(.dat 1 (p1.map Qad)),(.dat 1 (p2.map Qae))] [] (.tup [(I r.1),(I r.2.1),(B r.2.2)]) []:=by
  refine Qak func45 rfl 0 (nle rfl) (fun X φ0 w0 hφ0 hd0=>?_)
  unfold Qj5 at h
  refine wxz<|wxz ?_
  obtain⟨k3,hk_k3,h⟩:=jko h
  refine wjn (τ:=Int×Int) (fun t=>k3 t=some r) (fun ⟨y1,y2⟩=>⟨mk 57 [(9,I y1),(10,I y2)],[]⟩) (fun t h=>?_) ?_
  ·subst hk_k3
   obtain⟨y1,y2⟩:=t
   refine wxz<|Qah ?_
   obtain rfl:=osi h
   exact fend ⟨[I y1,I y2,B true],⟨rot,rot,rot,tv⟩,rfl⟩ (NLt.tup _ (nlcc (nlc nll nl0)))
  ·skip
   refine wxz<|Qap ?_
   refine wmr (mto (n:=57) (l':=[(1,(.dat 1 (p1.map Qad))),(2,(Qow p2)),(3,.ref 0 2 0 0),(9,(I ((-1)))),(10,(I ((-1)))),(11,I 0)]) (own':=[(Qox p0)]) [(1,(.dat 1 (p1.map Qad))),(2,(Qow p2)),(3,.ref 0 2 0 0),(9,(I ((-1)))),(10,(I ((-1)))),(11,I 0)] [0] [(Qox p0)] hφ0 (pc (rnd Qag) (pc (rnd Qai) (prr (pw (pw (pw pn)))))) (qb (lc (rnd Qao) (lc (rnd Qab) ln)) qn)) ?_
   refine Qbv (τ:=Int×Int×Int) (fun n t=>Qc5 N p0 p1 p2 k3 n t.1 t.2.1 t.2.2=some r) (fun ⟨y4,y5,y6⟩=>⟨mk 57 [(1,(.dat 1 (p1.map Qad))),(2,(Qow p2)),(3,.ref 0 2 0 0),(9,I y4),(10,I y5),(11,I y6)],[(Qox p0)]⟩) (fun t h=>by rw[Qc5] at h;cases h) (fun n10 ih t h=>?_) N ((-1),(-1),0) h
   obtain⟨y4,y5,y6⟩:=t
   rw[Qc5] at h
   skip
   refine wsq<|wx tbk [(2,rp _ _)] ⟨alq 1 Qae p2 underlying49,tv⟩ ?_
   refine bfe h (fun hc11 h=>?_) fun hc11 h=>?_
   ·refine wft hc11<|Qaq<|thn ?_
    obtain⟨k14,hk_k14,h⟩:=jko h
    refine wjn (τ:=Int×Int) (fun t=>k14 t=some r) (fun ⟨y12,y13⟩=>⟨mk 57 [(1,(.dat 1 (p1.map Qad))),(2,(Qow p2)),(3,.ref 0 2 0 0),(9,I y12),(10,I y13),(11,I y6)],[(Qox p0)]⟩) (fun t h=>?_) ?_
    ·subst hk_k14
     obtain⟨y12,y13⟩:=t
     exact wxz1<|thn<|arm (mto (n:=57) [(1,(.dat 1 (p1.map Qad))),(2,(Qow p2)),(3,.ref 0 2 0 0),(9,I y12),(10,I y13),(11,(I (w64 (y6+1))))] [0] [(Qox p0)] hφ0 (pc (rnd Qag) (pc (rnd Qai) (prr (pw (pw (pw pn)))))) (qb (lc (rnd Qao) (lc (rnd Qab) ln)) qn)) (ih (y12,y13,w64 (y6+1)) h)
    ·skip
     refine Qap ?_
     obtain⟨x15,hg16,h⟩:=bno h
     obtain⟨hi17,hj18⟩:=gsm hg16
     obtain⟨x20,hf19,h⟩:=bno h
     refine wxd tbk [(4,rp _ _),(6,rp _ _)] ⟨aiq underlying49 ti28 Qae hi17 hj18,apv Zeq (Qt9 N p0 p1 x15 _ hf19) (nlc (NLt.agg _ (nlc (nld Qao _) (nlc (nld Qab _) nl0))) (nlc (nld Qag _) (nlc (nld Qaf _) nl0))) (NLt.tup _ (nlc (NLt.agg _ (nlc (nld Qai _) (nlc (nld Qa2 _) (nlc (nld Qag _) nl0)))) (nlcc nl0))),tv⟩<|wsq<|wxz ?_
     refine bfe h (fun hc21 h=>?_) fun hc21 h=>?_
     ·refine wft hc21<|wxz<|Qah<|Qaj<|Qau<|Qaj<|Qaj<|Qau<|Qaj ?_
      obtain rfl:=osi h
      exact fend ⟨[I 0,I 0,B false],⟨rot,rot,rot,tv⟩,rfl⟩ (NLt.tup _ (nlcc (nlc nll nl0)))
     ·refine wfn hc21<|Qaq<|thn<|wxz<|Qap ?_
      refine wmr (mto (n:=57) (l':=[(1,(.dat 1 (p1.map Qad))),(2,(Qow p2)),(3,.ref 0 2 0 0),(9,I y4),(10,I y5),(11,I y6),(12,.ref 1 3 0 0),(15,I 0)]) (own':=[(Qox p0),(Qs6 x20)]) [(1,(.dat 1 (p1.map Qad))),(2,(Qow p2)),(3,.ref 0 2 0 0),(9,I y4),(10,I y5),(11,I y6),(12,.ref 1 3 0 0),(15,I 0)] [0,1] [(Qox p0),(Qs6 x20)] hφ0 (pc (rnd Qag) (pc (rnd Qai) (prr (pw (pw (pw (prr (pw pn)))))))) (qb (lc (rnd Qao) (lc (rnd Qab) ln)) (qb (lc (rnd Qai) (lc (rnd Qa2) (lc (rnd Qag) ln))) qn))) ?_
      refine Qbv (τ:=Int×Int×Int) (fun n t=>Qdk N y6 k14 x20 n t.1 t.2.1 t.2.2=some r) (fun ⟨y22,y23,y24⟩=>⟨mk 57 [(1,(.dat 1 (p1.map Qad))),(2,(Qow p2)),(3,.ref 0 2 0 0),(9,I y22),(10,I y23),(11,I y6),(12,.ref 1 3 0 0),(15,I y24)],[(Qox p0),(Qs6 x20)]⟩) (fun t h=>by rw[Qdk] at h;cases h) (fun n28 ih t h=>?_) N (y4,y5,0) h
      obtain⟨y22,y23,y24⟩:=t
      rw[Qdk] at h
      skip
      refine wsq<|wx tbk [(3,rp _ _)] ⟨alq 4 Qax x20.1.Lost underlying50,tv⟩ ?_
      refine bfe h (fun hc29 h=>?_) fun hc29 h=>?_
      ·refine wft hc29<|Qaq<|thn<|wsq<|Qap ?_
       refine bfe h (fun hb30 h=>?_) fun hb30 h=>?_
       ·obtain⟨x31,hg32,h⟩:=bno h
        obtain⟨hi33,hj34⟩:=gsm hg32
        refine wx tbk [(2,rp [(.tmp 43,(B ((decide (y22<0)))))] (B true)),(6,rp [(.tmp 44,B true),(.tmp 46,(.dat 4 (x20.1.Lost.map Qax))),(.tmp 47,I y24)] (.dptr (Qax x31) 0))] ⟨asb hb30 (amv rfl),ag_ (aiq underlying50 ti90 Qax hi33 hj34),tv⟩ ?_
        refine bfe h (fun hc35 h=>?_) fun hc35 h=>?_
        ·exact wft hc35<|wxz1<|bln<|thn<|wxz1<|thn<|arm (mto (n:=57) [(1,(.dat 1 (p1.map Qad))),(2,(Qow p2)),(3,.ref 0 2 0 0),(9,I y6),(10,I y24),(11,I y6),(12,.ref 1 3 0 0),(15,(I (w64 (y24+1))))] [0,1] [(Qox p0),(Qs6 x20)] hφ0 (pc (rnd Qag) (pc (rnd Qai) (prr (pw (pw (pw (prr (pw pn)))))))) (qb (lc (rnd Qao) (lc (rnd Qab) ln)) (qb (lc (rnd Qai) (lc (rnd Qa2) (lc (rnd Qag) ln))) qn))) (ih (y6,y24,w64 (y24+1)) h)
        ·exact wfn hc35<|Qaq<|bln<|thn<|wxz1<|thn<|arm (mto (n:=57) [(1,(.dat 1 (p1.map Qad))),(2,(Qow p2)),(3,.ref 0 2 0 0),(9,I y22),(10,I y23),(11,I y6),(12,.ref 1 3 0 0),(15,(I (w64 (y24+1))))] [0,1] [(Qox p0),(Qs6 x20)] hφ0 (pc (rnd Qag) (pc (rnd Qai) (prr (pw (pw (pw (prr (pw pn)))))))) (qb (lc (rnd Qao) (lc (rnd Qab) ln)) (qb (lc (rnd Qai) (lc (rnd Qa2) (lc (rnd Qag) ln))) qn))) (ih (y22,y23,w64 (y24+1)) h)
       ·exact wx tbk [(2,rp [(.tmp 43,(B ((decide (y22<0)))))] (B false))] ⟨asb hb30 (amv rfl),tv⟩<|wfa<|Qaq<|bln<|thn<|wxz1<|thn<|arm (mto (n:=57) [(1,(.dat 1 (p1.map Qad))),(2,(Qow p2)),(3,.ref 0 2 0 0),(9,I y22),(10,I y23),(11,I y6),(12,.ref 1 3 0 0),(15,(I (w64 (y24+1))))] [0,1] [(Qox p0),(Qs6 x20)] hφ0 (pc (rnd Qag) (pc (rnd Qai) (prr (pw (pw (pw (prr (pw pn)))))))) (qb (lc (rnd Qao) (lc (rnd Qab) ln)) (qb (lc (rnd Qai) (lc (rnd Qa2) (lc (rnd Qag) ln))) qn))) (ih (y22,y23,w64 (y24+1)) h)
      ·exact wfn hc29<|Qbg<|Qay<|Qay<|Qbf rfl<|bln<|thn<|⟨(y22,y23),h,(mto (n:=57) [(1,(.dat 1 (p1.map Qad))),(2,(Qow p2)),(3,.ref 0 2 0 0),(9,I y22),(10,I y23),(11,I y6)] [0] [(Qox p0)] hφ0 (pc (rnd Qag) (pc (rnd Qai) (prr (pw (pw (pw pn)))))) (qb (lc (rnd Qao) (lc (rnd Qab) ln)) qn))⟩
   ·exact wfn hc11<|Qbg<|Qay<|Qay<|Qbf rfl<|thn<|⟨(y4,y5),h,(mto (n:=57) [(9,I y4),(10,I y5)] [] [] hφ0 (pw (pw pn)) qn)⟩
def Qiq (_N:Nat) (p0:Qbb):Option Qbb:=
  some p0
theorem Qke (N:Nat) (p0 r:Qbb) (h:Qiq N p0=some r):Spec prog 46 [(.agg (Ql6 p0))] [] (.agg (Ql6 r)) []:=by
  refine Qak func46 rfl 0 (nle rfl) (fun X φ0 w0 hφ0 hd0=>?_)
  unfold Qiq at h
  refine wxz<|wx tbk [(4,rp _ _)] ⟨Qaz (vs:=[I p0.Lo,I p0.Hi]) rfl Qy6 Qxc rfl (by rfl) rfl,tv⟩<|Qah ?_
  obtain rfl:=osi h
  exact fend ⟨[(.agg [I p0.Lo,I p0.Hi])],⟨Qbn (n:=1) (m:=2) (j:=0) (i:=0) (xs:=[[I p0.Lo,I p0.Hi]]) (by kernel_rfl) (by kernel_rfl) Qo3 (by decide) rfl (nle rfl) rfl,tv⟩,rfl⟩ (NLt.agg _ (nlcc nl0))
def Qc2 (N:Nat) (x9:((List Qb5)×Int)) (y21:List Qb5) (k26:Unit→Option Bool):Nat→Int→Option Bool
  |0,_=>none
  |n31+1,y29=>
    bif (decide (y29<(y21.length:Int))) then
     (getI x9.1 y29).bind fun x33=>
     (getI y21 y29).bind fun x37=>
     (Qiq N (⟨x37.Mass.Lo,x37.Mass.Hi⟩:Qbb)).bind fun x42=>
     bif (!(([x33.Mass.Lo,x33.Mass.Hi]:List Int)==[x42.Lo,x42.Hi])) then
      some false
     else
      (Qiq N (⟨x37.Heat.Lo,x37.Heat.Hi⟩:Qbb)).bind fun x45=>
      bif (!(([x33.Heat.Lo,x33.Heat.Hi]:List Int)==[x45.Lo,x45.Hi])) then
       some false
      else
       (Qiq N (⟨x37.Silica.Lo,x37.Silica.Hi⟩:Qbb)).bind fun x48=>
       bif (!(([x33.Silica.Lo,x33.Silica.Hi]:List Int)==[x48.Lo,x48.Hi])) then
        some false
       else
        (Qiq N (⟨x37.Gas.Lo,x37.Gas.Hi⟩:Qbb)).bind fun x51=>
        bif (!(([x33.Gas.Lo,x33.Gas.Hi]:List Int)==[x51.Lo,x51.Hi])) then
         some false
        else
         Qc2 N x9 y21 k26 n31 (w64 (y29+1))
    else
     k26 ()
def Qi2 (N:Nat) (p0:GNet) (p1:List Int) (p2:List (List Qaa)):Option Bool:=
  Qbi (fun _=>
    (Qmb N p0).bind fun x3=>
    (Qkx N p1).bind fun x5=>
    (Qjq N p2).bind fun x7=>
    (Qlr N x3 x5 x7).bind fun x9=>
    (Qmb N p0).bind fun x11=>
    (Qkx N p1).bind fun x13=>
    (Qjq N p2).bind fun x15=>
    (Qlq N x11 x13 x15).bind fun x17=>
    (Qkd N p0 p1 p2).bind fun x19=>
    Qbi (fun ⟨y20,y21,y22,y23⟩=>
      Qbi (fun _=>
        Qbi (fun _=>
          (Qjp 2000 ).bind fun x28=>
          some x28) fun k26:Unit→Option Bool=>
        Qc2 N x9 y21 k26 N 0) fun k25:Unit→Option Bool=>
      bif (x9.2 != y20) then
       some false
      else
       bif (x17.2.2 != y20) then
        some false
       else
        bif (x17.1 != y22) then
         some false
        else
         bif (x17.2.1 != y23) then
          some false
         else
          bif ((x9.1.length:Int) != (y21.length:Int)) then
           some false
          else
           k25 ()) fun k24:Int×(List Qb5)×Int×Int→Option Bool=>
    bif (x19==0) then
     (Qj6 N p0 p1 p2).bind fun x60=>
     (Qj5 N p0 p1 p2).bind fun x62=>
     bif (!x60.2) then
      k24 (11,x60.1,0,0)
     else
      k24 (x19,x60.1,x62.1,x62.2.1)
    else
     k24 (x19,[],0,0)) fun k1:Unit→Option Bool=>
  (Qma N p0 p2).bind fun x65=>
  bif (!x65) then
   (Qjp 2000 ).bind fun x68=>
   some x68
  else
   bif (decide ((p1.length:Int)>25)) then
    (Qjp 2000 ).bind fun x71=>
    some x71
   else
    k1 ()
def Zbx (p2:List (List Qaa)):AV:=.dat 1 (p2.map Qae)
def Zby (p0:GNet):AV:=.dat 7 (p0.Elements.map Qal)
def Zqc (p0:GNet):AV:=.agg [(.dat 5 (p0.Table.map Qav)),(Zby p0)]
def Qmi (x9:((List Qb5)×Int)):AV:=.dat 8 (x9.1.map Qbs)
def Qlx (y21:List Qb5):AV:=.dat 8 (y21.map Qbs)
def Q3q (x9:((List Qb5)×Int)) (y29:Int) (x33:Qb5) (y21:List Qb5) (x37:Qb5) (x42:Qbb):List (Nat×Rec):=[(2,rp [((.tmp 103),(Qmi x9)),((.tmp 104),(I y29))] (.dptr (Qbs x33) 0)),(7,rp [((.tmp 108),(Qlx y21)),((.tmp 109),(I y29))] (.dptr (Qbs x37) 0)),(10,rp [fu 46,((.tmp 112),(.agg [(I x37.Mass.Lo),(I x37.Mass.Hi)]))] (.agg [(I x42.Lo),(I x42.Hi)])),(11,rp [((.tmp 107),(.agg [(I x33.Mass.Lo),(I x33.Mass.Hi)])),((.tmp 113),(.agg [(I x42.Lo),(I x42.Hi)]))] (B ((!(([x33.Mass.Lo,x33.Mass.Hi]:List Int)==[x42.Lo,x42.Hi])))))]
def Q3p x9 y29 x33 y21 x37 x42 (x45:Qbb):=hcat (Q3q x9 y29 x33 y21 x37 x42) [(12,rp [((.tmp 114),(B ((!(([x33.Mass.Lo,x33.Mass.Hi]:List Int)==[x42.Lo,x42.Hi])))))] (B false)),(15,rp [((.tmp 115),(B false)),((.tmp 116),(Qmi x9)),((.tmp 117),(I y29))] (.dptr (Qbs x33) 0)),(20,rp [((.tmp 115),(B false)),((.tmp 121),(Qlx y21)),((.tmp 122),(I y29))] (.dptr (Qbs x37) 0)),(23,rp [((.tmp 115),(B false)),fu 46,((.tmp 125),(.agg [(I x37.Heat.Lo),(I x37.Heat.Hi)]))] (.agg [(I x45.Lo),(I x45.Hi)])),(24,rp [((.tmp 115),(B false)),((.tmp 120),(.agg [(I x33.Heat.Lo),(I x33.Heat.Hi)])),((.tmp 126),(.agg [(I x45.Lo),(I x45.Hi)]))] (B ((!(([x33.Heat.Lo,x33.Heat.Hi]:List Int)==[x45.Lo,x45.Hi])))))]
def Q3o x9 y29 x33 y21 x37 x42 x45 (x48:Qbb):=hcat (Q3p x9 y29 x33 y21 x37 x42 x45) [(26,rp [((.tmp 128),(B ((!(([x33.Heat.Lo,x33.Heat.Hi]:List Int)==[x45.Lo,x45.Hi])))))] (B false)),(29,rp [((.tmp 129),(B false)),((.tmp 130),(Qmi x9)),((.tmp 131),(I y29))] (.dptr (Qbs x33) 0)),(34,rp [((.tmp 129),(B false)),((.tmp 135),(Qlx y21)),((.tmp 136),(I y29))] (.dptr (Qbs x37) 0)),(37,rp [((.tmp 129),(B false)),fu 46,((.tmp 139),(.agg [(I x37.Silica.Lo),(I x37.Silica.Hi)]))] (.agg [(I x48.Lo),(I x48.Hi)])),(38,rp [((.tmp 129),(B false)),((.tmp 134),(.agg [(I x33.Silica.Lo),(I x33.Silica.Hi)])),((.tmp 140),(.agg [(I x48.Lo),(I x48.Hi)]))] (B ((!(([x33.Silica.Lo,x33.Silica.Hi]:List Int)==[x48.Lo,x48.Hi])))))]
def Q3n (x9:((List Qb5)×Int)) (y20:Int):List (Nat×Rec):=[(3,rp [((.tmp 74),(B ((x9.2 != y20))))] (B false))]
def Qyy x9 y20 (x17:(Int×Int×Int)):=hcat (Q3n x9 y20) [(8,rp [((.tmp 79),(B ((x17.2.2 != y20))))] (B false))]
def Q3m (p0:GNet) (p2:List (List Qaa)) (x65:Bool):List (Nat×Rec):=[(2,rp [fu 39,((.tmp 18),(Zqc p0)),((.tmp 19),(Zbx p2))] (B x65))]
theorem Qqj (N:Nat) (p0:GNet) (p1:List Int) (p2:List (List Qaa)) (r:Bool) (h:Qi2 N p0 p1 p2=some r):Spec prog 9 [(.agg (Qgx p0)),(.dat 1 (p1.map Qad)),(.dat 1 (p2.map Qae))] [] (B r) []:=by
  refine Qak func9 rfl 0 (nle rfl) (fun X φ0 w0 hφ0 hd0=>?_)
  unfold Qi2 at h
  refine wxz ?_
  obtain⟨k1,hk_k1,h⟩:=jko h
  refine wjn (τ:=Unit) (fun t=>k1 t=some r) (fun _=>⟨mk 158 [(1,(.dat 1 (p1.map Qad))),(2,(Zbx p2)),(3,.ref 0 2 0 0)],[(.own 2 [[(.dat 5 (p0.Table.map Qav)),(Zby p0)]])]⟩) (fun t h=>?_) ?_
  ·subst hk_k1
   obtain⟨x3,hf2,h⟩:=bno h
   obtain⟨x5,hf4,h⟩:=bno h
   obtain⟨x7,hf6,h⟩:=bno h
   obtain⟨x9,hf8,h⟩:=bno h
   refine wx tbk [(1,rp _ _),(3,rp _ _),(5,rp _ _),(6,rp _ _)] ⟨apv Zes (Qsl N p0 _ hf2) (nlc (NLt.agg _ (nlc (nld Qao _) (nlc (nld Qab _) nl0))) nl0) (NLt.agg _ (nlc (nld Qao _) (nlc (nld Qab _) nl0))),apv Zer (Qqt N p1 _ hf4) (nlc (nld Qag _) nl0) (nld Qag _),apv Zep (Qpu N p2 _ hf6) (nlc (nld Qai _) nl0) (nld Qai _),apv Zn8 (Qv4 N x3 x5 x7 _ hf8) (nlc (NLt.agg _ (nlc (nld Qao _) (nlc (nld Qab _) nl0))) (nlc (nld Qag _) (nlc (nld Qai _) nl0))) (NLt.tup _ (nlc (nld Qdb _) (nlc nll nl0))),tv⟩ ?_
   obtain⟨x11,hf10,h⟩:=bno h
   obtain⟨x13,hf12,h⟩:=bno h
   obtain⟨x15,hf14,h⟩:=bno h
   obtain⟨x17,hf16,h⟩:=bno h
   refine wx tbk [(1,rp _ _),(3,rp _ _),(5,rp _ _),(6,rp _ _)] ⟨apv Zes (Qsl N p0 _ hf10) (nlc (NLt.agg _ (nlc (nld Qao _) (nlc (nld Qab _) nl0))) nl0) (NLt.agg _ (nlc (nld Qao _) (nlc (nld Qab _) nl0))),apv Zer (Qqt N p1 _ hf12) (nlc (nld Qag _) nl0) (nld Qag _),apv Zep (Qpu N p2 _ hf14) (nlc (nld Qai _) nl0) (nld Qai _),apv Zn7 (Qv3 N x11 x13 x15 _ hf16) (nlc (NLt.agg _ (nlc (nld Qao _) (nlc (nld Qab _) nl0))) (nlc (nld Qag _) (nlc (nld Qai _) nl0))) (NLt.tup _ (nlcc (nlc nll nl0))),tv⟩ ?_
   obtain⟨x19,hf18,h⟩:=bno h
   refine wx tbk [(3,rp _ _)] ⟨apv Zn6 (Qut N p0 p1 p2 _ hf18) (nlc (NLt.agg _ (nlc (nld Qao _) (nlc (nld Qab _) nl0))) (nlc (nld Qag _) (nlc (nld Qai _) nl0))) nll,tv⟩<|wxz<|wxz ?_
   obtain⟨k24,hk_k24,h⟩:=jko h
   refine wjn (τ:=Int×(List Qb5)×Int×Int) (fun t=>k24 t=some r) (fun ⟨y20,y21,y22,y23⟩=>⟨mk 158 [(7,(Qmi x9)),(8,I x9.2),(9,I x17.1),(10,I x17.2.1),(11,I x17.2.2),(12,I y20),(13,(Qlx y21)),(14,I y22),(15,I y23)],[]⟩) (fun t h=>?_) ?_
   ·subst hk_k24
    obtain⟨y20,y21,y22,y23⟩:=t
    obtain⟨k25,hk_k25,h⟩:=jko h
    refine wjn (τ:=Unit) (fun t=>k25 t=some r) (fun _=>⟨mk 158 [(7,(Qmi x9)),(13,(Qlx y21))],[]⟩) (fun t h=>?_) ?_
    ·subst hk_k25
     obtain⟨k26,hk_k26,h⟩:=jko h
     refine wjn (τ:=Unit) (fun t=>k26 t=some r) (fun _=>⟨mk 158 [],[]⟩) (fun t h=>?_) ?_
     ·subst hk_k26
      obtain⟨x28,hf27,h⟩:=bno h
      exact wx tbk [(0,rp _ _)] ⟨apv Q4s (Qmv 2000  _ hf27) nl0 nll,tv⟩<|Qah<|frb h
     ·skip
      refine wxz<|Qap ?_
      refine wmr (mto (n:=158) (l':=[(7,(Qmi x9)),(13,(Qlx y21)),(17,I 0)]) (own':=[]) [(7,(Qmi x9)),(13,(Qlx y21)),(17,I 0)] [] [] hφ0 (pc (rnd Qdb) (pc (rnd Qdb) (pw pn))) qn) ?_
      refine Qbv (τ:=Int) (fun n t=>Qc2 N x9 y21 k26 n t=some r) (fun y29=>⟨mk 158 [(7,(Qmi x9)),(13,(Qlx y21)),(17,I y29)],[]⟩) (fun t h=>by rw[Qc2] at h;cases h) (fun n31 ih y29 h=>?_) N (0) h
      rw[Qc2] at h
      skip
      refine wsq<|wx tbk [(2,rp _ _)] ⟨alq 8 Qbs y21 underlying102,tv⟩ ?_
      refine bfe h (fun hc32 h=>?_) fun hc32 h=>?_
      ·refine wft hc32<|Qaq<|thn<|wsq<|Qap ?_
       obtain⟨x33,hg34,h⟩:=bno h
       obtain⟨hi35,hj36⟩:=gsm hg34
       obtain⟨x37,hg38,h⟩:=bno h
       obtain⟨hi39,hj40⟩:=gsm hg38
       obtain⟨x42,hf41,h⟩:=bno h
       refine hpre (A:=(Q3q x9 y29 x33 y21 x37 x42)) ⟨aiq underlying96 Q8j Qbs hi35 hj36,aiq underlying102 Qy7 Qbs hi39 hj40,apv Qz6 (Qke N (⟨x37.Mass.Lo,x37.Mass.Hi⟩:Qbb) _ hf41) (nlc (NLt.agg _ (nlcc nl0)) nl0) (NLt.agg _ (nlcc nl0)),Qs0 (ls:=[x33.Mass.Lo,x33.Mass.Hi]) (ks:=[x42.Lo,x42.Hi]) rfl rfl Q69 (by kernel_rfl) rfl rfl,tv⟩ fun q1_=>?_
       refine bfe h (fun hb43 h=>?_) fun hb43 h=>?_
       ·exact wxd tbk (hcat (Q3q x9 y29 x33 y21 x37 x42) [(12,rp [(.tmp 114,(B ((!(([x33.Mass.Lo,x33.Mass.Hi]:List Int)==[x42.Lo,x42.Hi])))))] (B true))]) (hap q1_ ⟨asb hb43 (amv rfl),tv⟩)<|wtr<|wxz<|Qah<|Qau<|Qaj<|Qaj<|Qau<|Qaj<|frb h
       ·obtain⟨x45,hf44,h⟩:=bno h
        refine hpre (A:=(Q3p x9 y29 x33 y21 x37 x42 x45)) (hap q1_ ⟨asb hb43 (amv rfl),ag_ (aiq underlying96 Q8j Qbs hi35 hj36),ag_ (aiq underlying102 Qy7 Qbs hi39 hj40),ag_ (apv Qz6 (Qke N (⟨x37.Heat.Lo,x37.Heat.Hi⟩:Qbb) _ hf44) (nlc (NLt.agg _ (nlcc nl0)) nl0) (NLt.agg _ (nlcc nl0))),ag_ (Qs0 (ls:=[x33.Heat.Lo,x33.Heat.Hi]) (ks:=[x45.Lo,x45.Hi]) rfl rfl Q69 (by kernel_rfl) rfl rfl),tv⟩) fun q2_=>?_
        refine bfe h (fun hb46 h=>?_) fun hb46 h=>?_
        ·exact wxd tbk (hcat (Q3p x9 y29 x33 y21 x37 x42 x45) [(26,rp [(.tmp 128,(B ((!(([x33.Heat.Lo,x33.Heat.Hi]:List Int)==[x45.Lo,x45.Hi])))))] (B true))]) (hap q2_ ⟨asb hb46 (amv rfl),tv⟩)<|wtr<|wxz<|Qah<|Qau<|Qaj<|Qaj<|Qau<|Qaj<|frb h
        ·obtain⟨x48,hf47,h⟩:=bno h
         refine hpre (A:=(Q3o x9 y29 x33 y21 x37 x42 x45 x48)) (hap q2_ ⟨asb hb46 (amv rfl),ag_ (aiq underlying96 Q8j Qbs hi35 hj36),ag_ (aiq underlying102 Qy7 Qbs hi39 hj40),ag_ (apv Qz6 (Qke N (⟨x37.Silica.Lo,x37.Silica.Hi⟩:Qbb) _ hf47) (nlc (NLt.agg _ (nlcc nl0)) nl0) (NLt.agg _ (nlcc nl0))),ag_ (Qs0 (ls:=[x33.Silica.Lo,x33.Silica.Hi]) (ks:=[x48.Lo,x48.Hi]) rfl rfl Q69 (by kernel_rfl) rfl rfl),tv⟩) fun q3_=>?_
         refine bfe h (fun hb49 h=>?_) fun hb49 h=>?_
         ·exact wxd tbk (hcat (Q3o x9 y29 x33 y21 x37 x42 x45 x48) [(40,rp [(.tmp 142,(B ((!(([x33.Silica.Lo,x33.Silica.Hi]:List Int)==[x48.Lo,x48.Hi])))))] (B true))]) (hap q3_ ⟨asb hb49 (amv rfl),tv⟩)<|wtr<|wxz<|Qah<|Qau<|Qaj<|Qaj<|Qau<|Qaj<|frb h
         ·obtain⟨x51,hf50,h⟩:=bno h
          refine wxd tbk (hcat (Q3o x9 y29 x33 y21 x37 x42 x45 x48) [(40,rp [(.tmp 142,(B ((!(([x33.Silica.Lo,x33.Silica.Hi]:List Int)==[x48.Lo,x48.Hi])))))] (B false)),(43,rp [(.tmp 143,B false),(.tmp 144,(Qmi x9)),(.tmp 145,I y29)] (.dptr (Qbs x33) 0)),(48,rp [(.tmp 143,B false),(.tmp 149,(Qlx y21)),(.tmp 150,I y29)] (.dptr (Qbs x37) 0)),(51,rp [(.tmp 143,B false),fu 46,(.tmp 153,(.agg [I x37.Gas.Lo,I x37.Gas.Hi]))] (.agg [I x51.Lo,I x51.Hi])),(52,rp [(.tmp 143,B false),(.tmp 148,(.agg [I x33.Gas.Lo,I x33.Gas.Hi])),(.tmp 154,(.agg [I x51.Lo,I x51.Hi]))] (B ((!(([x33.Gas.Lo,x33.Gas.Hi]:List Int)==[x51.Lo,x51.Hi])))))]) (hap q3_ ⟨asb hb49 (amv rfl),ag_ (aiq underlying96 Q8j Qbs hi35 hj36),ag_ (aiq underlying102 Qy7 Qbs hi39 hj40),ag_ (apv Qz6 (Qke N (⟨x37.Gas.Lo,x37.Gas.Hi⟩:Qbb) _ hf50) (nlc (NLt.agg _ (nlcc nl0)) nl0) (NLt.agg _ (nlcc nl0))),ag_ (Qs0 (ls:=[x33.Gas.Lo,x33.Gas.Hi]) (ks:=[x51.Lo,x51.Hi]) rfl rfl Q69 (by kernel_rfl) rfl rfl),tv⟩) ?_
          refine bfe h (fun hc52 h=>?_) fun hc52 h=>?_
          ·exact wft hc52<|wxz<|Qah<|Qau<|Qaj<|Qaj<|Qau<|Qaj<|frb h
          ·exact wfn hc52<|Qaq<|bln<|thn<|wxz1<|thn<|arm (mto (n:=158) [(7,(Qmi x9)),(13,(Qlx y21)),(17,(I (w64 (y29+1))))] [] [] hφ0 (pc (rnd Qdb) (pc (rnd Qdb) (pw pn))) qn) (ih (w64 (y29+1)) h)
      ·exact wfn hc32<|Qbg<|Qay<|Qay<|Qbf rfl<|thn<|⟨(),h,(mto (n:=158) [] [] [] hφ0 pn qn)⟩
    ·skip
     refine bfe h (fun hb53 h=>?_) fun hb53 h=>?_
     ·exact wx tbk [(3,rp [(.tmp 74,(B ((x9.2 != y20))))] (B true))] ⟨asb hb53 (amv rfl),tv⟩<|wtr<|wxz<|Qah<|Qaj<|frb h
     ·refine hpre (A:=(Q3n x9 y20)) ⟨asb hb53 (amv rfl),tv⟩ fun q4_=>?_
      refine bfe h (fun hb54 h=>?_) fun hb54 h=>?_
      ·exact wx tbk (hcat (Q3n x9 y20) [(8,rp [(.tmp 79,(B ((x17.2.2 != y20))))] (B true))]) (hap q4_ ⟨asb hb54 (amv rfl),tv⟩)<|wtr<|wxz<|Qah<|Qaj<|frb h
      ·refine hpre (A:=(Qyy x9 y20 x17)) (hap q4_ ⟨asb hb54 (amv rfl),tv⟩) fun q5_=>?_
       refine bfe h (fun hb55 h=>?_) fun hb55 h=>?_
       ·exact wx tbk (hcat (Qyy x9 y20 x17) [(13,rp [(.tmp 84,(B ((x17.1 != y22))))] (B true))]) (hap q5_ ⟨asb hb55 (amv rfl),tv⟩)<|wtr<|wxz<|Qah<|Qaj<|frb h
       ·refine bfe h (fun hb56 h=>?_) fun hb56 h=>?_
        ·exact wx tbk (hcat (Qyy x9 y20 x17) [(13,rp [(.tmp 84,(B ((x17.1 != y22))))] (B false)),(18,rp [(.tmp 89,(B ((x17.2.1 != y23))))] (B true))]) (hap q5_ ⟨asb hb55 (amv rfl),asb hb56 (amv rfl),tv⟩)<|wtr<|wxz<|Qah<|Qaj<|frb h
        ·refine wx tbk (hcat (Qyy x9 y20 x17) [(13,rp [(.tmp 84,(B ((x17.1 != y22))))] (B false)),(18,rp [(.tmp 89,(B ((x17.2.1 != y23))))] (B false)),(20,rp [(.tmp 90,B false),(.tmp 91,(Qmi x9))] (I ((x9.1.length:Int)))),(22,rp [(.tmp 90,B false),(.tmp 93,(Qlx y21))] (I ((y21.length:Int))))]) (hap q5_ ⟨asb hb55 (amv rfl),asb hb56 (amv rfl),ag_ (alq 8 Qbs x9.1 underlying96),ag_ (alq 8 Qbs y21 underlying102),tv⟩) ?_
         refine bfe h (fun hc57 h=>?_) fun hc57 h=>?_
         ·exact wft hc57<|wxz<|Qah<|Qaj<|frb h
         ·exact wfn hc57<|Qaq<|thn<|⟨(),h,(mto (n:=158) [(7,(Qmi x9)),(13,(Qlx y21))] [] [] hφ0 (pc (rnd Qdb) (pc (rnd Qdb) pn)) qn)⟩
   ·skip
    refine wxz ?_
    refine bfe h (fun hc58 h=>?_) fun hc58 h=>?_
    ·refine wft hc58<|wxz ?_
     obtain⟨x60,hf59,h⟩:=bno h
     refine wx tbk [(3,rp _ _)] ⟨apv Zn5 (Qus N p0 p1 p2 _ hf59) (nlc (NLt.agg _ (nlc (nld Qao _) (nlc (nld Qab _) nl0))) (nlc (nld Qag _) (nlc (nld Qai _) nl0))) (NLt.tup _ (nlc (nld Qdb _) (nlc nll nl0))),tv⟩ ?_
     obtain⟨x62,hf61,h⟩:=bno h
     refine wx tbk [(3,rp _ _)] ⟨apv Zn4 (Qur N p0 p1 p2 _ hf61) (nlc (NLt.agg _ (nlc (nld Qao _) (nlc (nld Qab _) nl0))) (nlc (nld Qag _) (nlc (nld Qai _) nl0))) (NLt.tup _ (nlcc (nlc nll nl0))),tv⟩<|wxz ?_
     refine bfe h (fun hc63 h=>?_) fun hc63 h=>?_
     ·exact wft hc63<|wxz1<|thn<|⟨(11,x60.1,0,0),h,(mto (n:=158) [(7,(Qmi x9)),(8,I x9.2),(9,I x17.1),(10,I x17.2.1),(11,I x17.2.2),(12,I 11),(13,(.dat 8 (x60.1.map Qbs))),(14,I 0),(15,I 0)] [] [] hφ0 (pc (rnd Qdb) (pw (pw (pw (pw (pw (pc (rnd Qdb) (pw (pw pn))))))))) qn)⟩
     ·exact wfn hc63<|Qaq<|thn<|⟨(x19,x60.1,x62.1,x62.2.1),h,(mto (n:=158) [(7,(Qmi x9)),(8,I x9.2),(9,I x17.1),(10,I x17.2.1),(11,I x17.2.2),(12,I x19),(13,(.dat 8 (x60.1.map Qbs))),(14,I x62.1),(15,I x62.2.1)] [] [] hφ0 (pc (rnd Qdb) (pw (pw (pw (pw (pw (pc (rnd Qdb) (pw (pw pn))))))))) qn)⟩
    ·exact wfn hc58<|Qaq<|thn<|⟨(x19,[],0,0),h,(mto (n:=158) [(7,(Qmi x9)),(8,I x9.2),(9,I x17.1),(10,I x17.2.1),(11,I x17.2.2),(12,I x19),(13,nilS),(14,I 0),(15,I 0)] [] [] hφ0 (pc (rnd Qdb) (pw (pw (pw (pw (pw (pc (.nil _) (pw (pw pn))))))))) qn)⟩
  ·skip
   obtain⟨x65,hf64,h⟩:=bno h
   refine hpre (A:=(Q3m p0 p2 x65)) ⟨apv Zn9 (Qzt N p0 p2 _ hf64) (nlc (NLt.agg _ (nlc (nld Qao _) (nlc (nld Qab _) nl0))) (nlc (nld Qai _) nl0)) nll,tv⟩ fun q6_=>?_
   refine bfe h (fun hb66 h=>?_) fun hb66 h=>?_
   ·refine wx tbk (hcat (Q3m p0 p2 x65) [(4,rp [(.tmp 21,(B ((!x65))))] (B true))]) (hap q6_ ⟨asb hb66 (amv rfl),tv⟩)<|wtr ?_
    obtain⟨x68,hf67,h⟩:=bno h
    exact wx tbk [(0,rp _ _)] ⟨apv Q4s (Qmv 2000  _ hf67) nl0 nll,tv⟩<|Qah<|Qaj<|frb h
   ·refine wx tbk (hcat (Q3m p0 p2 x65) [(4,rp [(.tmp 21,(B ((!x65))))] (B false)),(6,rp [(.tmp 22,B false),(.tmp 23,(.dat 1 (p1.map Qad)))] (I ((p1.length:Int))))]) (hap q6_ ⟨asb hb66 (amv rfl),ag_ (alq 1 Qad p1 underlying27),tv⟩) ?_
    refine bfe h (fun hc69 h=>?_) fun hc69 h=>?_
    ·refine wft hc69 ?_
     obtain⟨x71,hf70,h⟩:=bno h
     exact wx tbk [(0,rp _ _)] ⟨apv Q4s (Qmv 2000  _ hf70) nl0 nll,tv⟩<|Qah<|Qaj<|frb h
    ·exact wfn hc69<|Qaq<|thn<|⟨(),h,(mto (n:=158) [(1,(.dat 1 (p1.map Qad))),(2,(Zbx p2)),(3,.ref 0 2 0 0)] [0] [(.own 2 [[(.dat 5 (p0.Table.map Qav)),(Zby p0)]])] hφ0 (pc (rnd Qag) (pc (rnd Qai) (prr pn))) (qb (lc (rnd Qao) (lc (rnd Qab) ln)) qn))⟩
end
section
open Go.RowKit
theorem Q9g (N:Nat) (l:List (List Qaa)) (k:List (List Qaa)→Option (List (List Qaa))) (hN:1001≤N) (hl:l.length≤1000) (hc:∀c∈l,c.length≤1000):∀(m i:Nat) (acc:List (List Qaa)),(l.drop i).length<m→acc.length=i→Qfe N l k m acc i=k (acc++l.drop i):=by
 intro m
 induction m with
 |zero=>intro i _ h;cases h
 |succ m ih=>
  intro i acc h ha
  rw[Qfe]
  cases hd:l.drop i with
  |nil=>
   have:=Qbw hd
   simp[show ¬((i:Int)<l.length) from by omega]
  |cons p q=>
   obtain⟨hg,hd',hlt⟩:=Qbh hd
   simp only[dlI hlt,cond_true,Qb0 hg,Option.bind_some,Q8l (hc p (List.mem_of_getElem? hg)) hN,chk]
   rw[show decide ((acc.length+[p].length)*24≤140737488355328)=true by simp;omega,cond_true,w64S (i:=i) (by omega),
    ih (i+1) _ (dlt hd hd' h) (by simp[ha]),hd',List.append_assoc]
   rfl
theorem Zi9 {N:Nat}{l:List (List Qaa)}(hN:1001≤N) (hl:l.length≤1000) (hc:∀c∈l,c.length≤1000):Qjq N l=some l:=by
 unfold Qjq
 rw[Qft]
 refine(Q9g N l _ hN hl hc N 0 [] (by simp;omega) rfl).trans ?_
 rw[List.drop_zero,List.nil_append]
theorem Zd9 (N:Nat) (l:List (List Qaa)) (k:Unit→Option Bool) (hl:l.length≤9223372036854775807):∀(m i:Nat),(l.drop i).length<m→Qfj N k l m i=bif (l.drop i).all (fun c=>decide (c.length≤25)) then k () else some false:=by
 intro m
 induction m with
 |zero=>intro i h;cases h
 |succ m ih=>
  intro i h
  rw[Qfj]
  cases hd:l.drop i with
  |nil=>
   have:=Qbw hd
   simp[show ¬((i:Int)<l.length) from by omega]
  |cons p q=>
   obtain⟨hg,hd',hlt⟩:=Qbh hd
   simp only[dlI hlt,cond_true,Qb0 hg,Option.bind_some,List.all_cons]
   by_cases hp:p.length≤25
   ·rw[decide_eq_false (show ¬((p.length:Int)>25) by omega),decide_eq_true hp,cond_false,Bool.true_and,w64S (i:=i) (by omega),ih (i+1) (dlt hd hd' h),hd']
   ·rw[decide_eq_true (show(p.length:Int)>25 by omega),decide_eq_false hp]
    rfl
theorem Znh {N:Nat}{n:GNet}{l:List (List Qaa)}(hn:(n.Elements.length:Int)≤9223372036854775807) (hl:l.length≤9223372036854775807) (hN:n.Elements.length+1001≤N) (hN2:l.length<N):Qma N n l=some false∨(Qma N n l=some true∧Ql8 n∧l.length≤8∧∀c∈l,c.length≤25):=by
 unfold Qma
 rw[Qft]
 have hloop:=fun k=>Zd9 N l k hl N 0 (by simp;omega)
 simp only[List.drop_zero] at hloop
 rw[show ∀k,Qfj N k l N 0=_ from hloop]
 cases ha:l.all (fun c=>decide (c.length≤25)) with
 |false=>exact .inl rfl
 |true=>
  rw[cond_true]
  rcases Zra (N:=N) (n:=n) (ws:=[]) hn (by omega) with e |⟨e,hs,_⟩
  ·rw[e];exact .inl rfl
  ·rw[e,Option.bind_some,cond_true]
   by_cases h8:l.length≤8
   ·rw[decide_eq_true (show(l.length:Int)≤8 by omega)]
    exact .inr ⟨rfl,hs,h8,fun c hc=>by simpa using List.all_eq_true.1 ha c hc⟩
   ·rw[decide_eq_false (show ¬((l.length:Int)≤8) by omega)]
    exact .inl rfl
def Q2i (n:GNet):List (List Qaa)→Int
 |[]=>0
 |c::l=>if fedI n c=0 then Q2i n l else fedI n c
def Qjr (n:GNet) (st:List Int) (l:List (List Qaa)):Int:=bif netB n&&stB n st then(bif btw l.length 1 6 then Q2i n l else 3) else 1
section
variable {N : Nat} {n : GNet} (hs : Ql8 n) (hN : 1001 ≤ N) {l : List (List Qaa)} (hl : l.length ≤ 1000) (hc : ∀ c ∈ l, c.length ≤ 1000)
include hs hN hl hc
theorem Q4k (k:Unit→Option Int) (hk:k ()=some 0):∀(m i:Nat),(l.drop i).length<m→Qfq N n l k m i=some (Q2i n (l.drop i)):=by
 intro m
 induction m with
 |zero=>intro i h;cases h
 |succ m ih=>
  intro i h
  rw[Qfq]
  cases hd:l.drop i with
  |nil=>
   have:=Qbw hd
   rw[decide_eq_false (show ¬((i:Int)<(l.length:Int)) by omega),cond_false,hk]
   rfl
  |cons p q=>
   obtain⟨hg,hd',hlt⟩:=Qbh hd
   simp only[dlI hlt,cond_true,Qb0 hg,Option.bind_some,Zrb hs hN (hc p (List.mem_of_getElem? hg))]
   rw[w64S (i:=i) (by omega),ih (i+1) (dlt hd hd' h),hd',Q2i]
   by_cases h0:fedI n p=0
   ·rw[h0,if_pos rfl];rfl
   ·rw[if_neg h0,show(fedI n p != 0)=true by simpa using h0,cond_true]
theorem Q63 {st:List Int}(hl2:st.length≤1000):Qkv N n st l=some (Qjr n st l):=by
 unfold Qkv Qjr
 rw[Zcr hs hN hl2,Option.bind_some]
 cases netB n&&stB n st with
 |false=>rfl
 |true=>
  rw[cond_true,cond_true,bne_self_eq_false,cond_false,Qku,Option.bind_some]
  cases btw (l.length:Int) 1 6 with
  |false=>rfl
  |true=>
   rw[Bool.not_true,cond_false,Qft,cond_true]
   refine(Q4k hs hN hl hc _ rfl N 0 (by simp;omega)).trans ?_
   rw[List.drop_zero]
theorem Q2j (k:Unit→Option Int) (hk:k ()=some 0):∀(m i:Nat),(l.drop i).length<m→Qdm N n l k m i=some (Q2i n (l.drop i)):=by
 intro m
 induction m with
 |zero=>intro i h;cases h
 |succ m ih=>
  intro i h
  rw[Qdm]
  cases hd:l.drop i with
  |nil=>
   have:=Qbw hd
   rw[decide_eq_false (show ¬((i:Int)<(l.length:Int)) by omega),cond_false,hk]
   rfl
  |cons p q=>
   obtain⟨hg,hd',hlt⟩:=Qbh hd
   simp only[dlI hlt,cond_true,Qb0 hg,Option.bind_some,Q2v hs hN (hc p (List.mem_of_getElem? hg))]
   rw[w64S (i:=i) (by omega),ih (i+1) (dlt hd hd' h),hd',Q2i]
   by_cases h0:fedI n p=0
   ·rw[h0,if_pos rfl];rfl
   ·rw[if_neg h0,show(fedI n p != 0)=true by simpa using h0,cond_true]
theorem Zea {st:List Int}(hl2:st.length≤1000):Qkd N n st l=some (Qjr n st l):=by
 unfold Qkd Qjr
 rw[Zm7 hs hN,Option.bind_some]
 cases netB n with
 |false=>rfl
 |true=>
  rw[Bool.not_true,cond_false,Q8t (n:=n) hl2 hN,Option.bind_some]
  cases stB n st with
  |false=>rfl
  |true=>
   rw[Bool.not_true,cond_false]
   unfold Qiy btw
   rw[Qft]
   by_cases h1:(l.length:Int)<1
   ·rw[decide_eq_true h1,decide_eq_false (show ¬1≤(l.length:Int) by omega)];rfl
   ·rw[decide_eq_false h1,decide_eq_true (show 1≤(l.length:Int) by omega),cond_false]
    by_cases h6:(l.length:Int)>6
    ·rw[decide_eq_true h6,decide_eq_false (show ¬(l.length:Int)≤6 by omega)];rfl
    ·rw[decide_eq_false h6,decide_eq_true (show(l.length:Int)≤6 by omega),cond_false,Qft]
     have:=Q2j hs hN hl hc (fun _=>some 0) rfl N 0 (by simp;omega)
     rw[List.drop_zero] at this
     exact congrArg (fun o:Option Int=>o.bind fun x8=>some x8) this
end
def Qhr (n:GNet) (c:List Qaa) (r:Q0k):Qb8:=⟨n,⟨r.1,r.2.1,r.2.2.1⟩,c,r.2.2.2⟩
def Qjt (n:GNet) (st:List Int):List (List Qaa)→Option (List Qb8)
 |[]=>some []
 |c::l=>Qsv (Qxd n st c) (fun _=>none) (fun r=>(Qjt n st l).map (Qhr n c r :: ·))
theorem Q67 {n:GNet}:∀{l:List (List Qaa)},Q2i n l=0→∀c∈l,FedV n c
 |[],_,c,h=>by cases h
 |d::l,h0,c,h=>by
  rw[Q2i] at h0
  by_cases hd:fedI n d=0
  ·rw[if_pos hd] at h0
   rcases List.mem_cons.1 h with rfl |h
   ·exact Zni hd
   ·exact Q67 h0 c h
  ·rw[if_neg hd] at h0
   exact absurd h0 hd
def Zi5 (n:GNet) (st:List Int) (l:List (List Qaa)):List Qb8×Bool:=match Qjt n st l with |some w=>(w,true) |none=>([],false)
theorem Zez {N:Nat}{n:GNet}(hs:Ql8 n) (hN:1001≤N) (hv:NetV n) {st:List Int}(hst:StV n st) {l:List (List Qaa)}(hl:l.length≤1000) (hf:∀c∈l,FedV n c):∀(m i:Nat) (acc:List Qb8),(l.drop i).length<m→acc.length=i →
  Qdr N n st (fun y=>some (y,true)) l m acc i=some (match Qjt n st (l.drop i) with |some w=>(acc++w,true) |none=>([],false)):=by
 intro m
 induction m with
 |zero=>intro i _ h;cases h
 |succ m ih=>
  intro i acc h ha
  rw[Qdr]
  cases hd:l.drop i with
  |nil=>
   have:=Qbw hd
   rw[decide_eq_false (show ¬((i:Int)<(l.length:Int)) by omega),cond_false,Qjt]
   simp
  |cons c q=>
   obtain⟨hg,hd',hlt⟩:=Qbh hd
   have hfc:=hf c (List.mem_of_getElem? hg)
   rw[decide_eq_true (show(i:Int)<(l.length:Int) by omega),cond_true,Qb0 hg,Option.bind_some,Ztc hs hN hv hfc hst,Qjt]
   cases hT:Qxd n st c with
   |inl a=>
    simp only[Qsv,Option.bind_some,Sum.elim_inl]
    rw[decide_eq_true (show(a:Int)≥0 by omega),cond_true]
   |inr r=>
    have hR:=Quz hv hfc hst hT
    have e1:=hR.inv.lo
    have e2:=hR.inv.ll
    have e0:=Qxy hst
    have e3:r.2.2.1.length=n.Elements.length:=by rw[hR.ss,List.length_zipWith];omega
    simp only[Qsv,Option.bind_some,Sum.elim_inr,show decide ((-1:Int)≥0)=false from rfl,cond_false,chk,Int.toNat_natCast]
    rw[show decide (n.Elements.length≤r.1.length)=true by simp;omega,show decide (n.Elements.length≤r.2.1.length)=true by simp;omega,show decide (st.length≤r.2.2.1.length)=true by simp;omega,List.take_of_length_le (by omega),List.take_of_length_le (by omega),List.take_of_length_le (by omega),cond_true,cond_true,cond_true]
    have hih:=ih (i+1) (acc++[Qhr n c r]) (dlt hd hd' h) (by simp[ha])
    rw[hd'] at hih
    show(bif decide ((acc.length+[Qhr n c r].length)*8≤140737488355328) then Qdr N n st (fun y=>some (y,true)) l m (acc++[Qhr n c r]) (w64 ((i:Int)+1)) else none)=_
    rw[show decide ((acc.length+[Qhr n c r].length)*8≤140737488355328)=true by simp;omega,cond_true,w64S (i:=i) (by omega),hih]
    cases Qjt n st q with
    |none=>rfl
    |some w=>simp
theorem Ze0 {N:Nat}{n:GNet}(hs:Ql8 n) (hN:1001≤N) (hv:NetV n) {st:List Int}(hst:StV n st) {l:List (List Qaa)}(hl:l.length≤1000) (hf:∀c∈l,FedV n c):Qii N n st l=some (Zi5 n st l):=by
 unfold Qii
 rw[Qft]
 refine(Zez hs hN hv hst hl hf N 0 [] (by simp;omega) rfl).trans ?_
 unfold Zi5
 rw[List.drop_zero]
 cases Qjt n st l<;>rfl
def fstL:Nat→List Qa9→Option Nat
 |_,[]=>none
 |i,x::l=>if x.Scale>0 then some i else fstL (i+1) l
def unsL:Nat→List Qb8→Int×Int
 |_,[]=>(-1,-1)
 |k,w::l=>match fstL 0 w.Tick.Lost with |some i=>((k:Int),(i:Int)) |none=>unsL (k+1) l
end
section
open Go.RowKit
section
variable {N : Nat} {n : GNet} (hs : Ql8 n) (hN : 1001 ≤ N)
include hs
theorem Q1u (k:List Qa6→Option (List Qa6)):∀(m i:Nat) (u:List Qa6),(n.Elements.drop i).length<m→u.length≤25*i →
  Qfn N n k m u i=k (u++(n.Elements.drop i).flatMap fun x=>x.From):=by
 intro m
 induction m with
 |zero=>intro i _ h;cases h
 |succ m ih=>
  intro i u h hu
  rw[Qfn]
  cases hd:n.Elements.drop i with
  |nil=>
   have:=Qbw hd
   simp[show ¬((i:Int)<n.Elements.length) from by omega]
  |cons x l=>
   obtain⟨hg,hd',hlt⟩:=Qbh hd
   have e0:=hs.e
   have hx:=hs.x x (List.mem_of_getElem? hg)
   simp only[dlI hlt,cond_true,Qb0 hg,Option.bind_some,chk]
   rw[show decide ((u.length+x.From.length)*16≤140737488355328)=true by simp;omega,cond_true,w64S (i:=i) (by omega),ih (i+1) _ (dlt hd hd' h) (by simp;omega),hd',List.flatMap_cons,List.append_assoc]
include hN
theorem Qzg {i:Nat}{x:Qam}(hx:n.Elements[i]? = some x) (u:List Qa6) (hu:u.length≤1000) (k:List Qa6×List Qa6→Option (List Qa6)):∀(m j:Nat) (acc:List Qa6),(outl x).toNat-j<m→j≤(outl x).toNat→acc.length≤25*i+j →
  Qes N n i k m u acc j=k (u,acc++((List.range' j ((outl x).toNat-j)).map (fun k:Nat=>(⟨(i:Int),(k:Int)⟩:Qa6))).filter fun p=>!(u.map pq).contains (pq p)):=by
 intro m
 induction m with
 |zero=>intro j _ h;cases h
 |succ m ih=>
  intro j acc h hj ha
  have e0:=hs.e
  have hi:i<n.Elements.length:=(List.getElem?_eq_some_iff.1 hx).1
  obtain⟨o0,o1⟩:=Qtp (hs.x x (List.mem_of_getElem? hx)).2
  rw[Qes]
  simp only[Qb0 hx,Option.bind_some,Zdb]
  by_cases hlt:j<(outl x).toNat
  ·rw[show decide ((j:Int)<outl x)=true by rw[decide_eq_true_eq];omega,cond_true,Q7v hN hu,Option.bind_some,w64S (i:=j) (by omega),show(outl x).toNat-j=((outl x).toNat-(j+1))+1 by omega,List.range'_succ,List.map_cons,List.filter_cons]
   cases hc:(u.map pq).contains (pq ⟨(i:Int),(j:Int)⟩) with
   |true=>
    simp only[Bool.not_true,cond_false]
    rw[ih (j+1) acc (by omega) (by omega) (by omega)]
    simp
   |false=>
    simp only[Bool.not_false,cond_true,chk]
    rw[show decide ((acc.length+[(⟨(i:Int),(j:Int)⟩:Qa6)].length)*16≤140737488355328)=true by simp;omega,cond_true,ih (j+1) _ (by omega) (by omega) (by simp;omega)]
    simp
  ·rw[show decide ((j:Int)<outl x)=false by rw[decide_eq_false_iff_not];omega,cond_false,show(outl x).toNat-j=0 by omega]
   simp
theorem Q1v (u:List Qa6) (hu:u.length≤1000) (k:List Qa6→Option (List Qa6)):∀(m i:Nat) (acc:List Qa6),(n.Elements.drop i).length<m→acc.length≤25*i →
  Qfo N n k m u acc i=k (acc++(Qmo i (n.Elements.drop i)).filter fun p=>!(u.map pq).contains (pq p)):=by
 intro m
 induction m with
 |zero=>intro i _ h;cases h
 |succ m ih=>
  intro i acc h ha
  rw[Qfo]
  cases hd:n.Elements.drop i with
  |nil=>
   have:=Qbw hd
   simp[show ¬((i:Int)<n.Elements.length) from by omega,Qmo]
  |cons x l=>
   obtain⟨hg,hd',hlt⟩:=Qbh hd
   have e0:=hs.e
   obtain⟨o0,o1⟩:=Qtp (hs.x x (List.mem_of_getElem? hg)).2
   simp only[dlI hlt,cond_true,Qbi]
   have hlen:=List.length_filter_le (fun p=>!(u.map pq).contains (pq p)) ((List.range' 0 (outl x).toNat).map (fun k:Nat=>(⟨(i:Int),(k:Int)⟩:Qa6)))
   simp only[List.length_map,List.length_range'] at hlen
   refine(Qzg hs hN hg u hu _ N 0 acc (by omega) (Nat.zero_le _) (by omega)).trans ?_
   dsimp only
   rw[w64S (i:=i) (by omega),ih (i+1) _ (dlt hd hd' h) (by rw[List.length_append,Nat.sub_zero];omega),hd',Qmo,List.filter_append,Nat.sub_zero,List.range_eq_range',List.append_assoc]
theorem Q8v:Qmn N n=some (Qim n):=by
 have e0:=hs.e
 unfold Qmn
 simp only[Qbi]
 refine(Q1u hs _ N 0 [] (by simp;omega) (by simp)).trans ?_
 rw[List.drop_zero,List.nil_append]
 have hu:(n.Elements.flatMap fun x=>x.From).length≤1000:=by
  have:∀l:List Qam,(∀x∈l,x.From.length≤25)→(l.flatMap fun x=>x.From).length≤25*l.length:=by
   intro l
   induction l with
   |nil=>intro _;simp
   |cons a l ih=>
    intro h
    have h1:=ih fun x hx=>h x (List.mem_cons_of_mem _ hx)
    have h2:=h a List.mem_cons_self
    simp only[List.flatMap_cons,List.length_append,List.length_cons]
    omega
  have:=this n.Elements fun x hx=>(hs.x x hx).1
  omega
 have hm:((n.Elements.flatMap fun x=>x.From).map pq)=Q3v n:=by
  unfold Q3v
  rw[List.map_flatMap]
 refine(Q1v hs hN _ hu _ N 0 [] (by simp;omega) (by simp)).trans ?_
 rw[List.drop_zero,List.nil_append,hm]
 rfl
end
end
section
open Go.RowKit
def wdR (r:Qbb) (v:Int):Qbb:=⟨if v<r.Lo then v else r.Lo,if v>r.Hi then v else r.Hi⟩
def rngF (f:Qb8→Int):List Qb8→Qbb
 |[]=>⟨0,0⟩
 |w::l=>l.foldl (fun r x=>wdR r (f x)) ⟨f w,f w⟩
theorem Zg8 (f:Qb8→Int) {W:List Qb8}(h:W≠[]) (x:Qb8):rngF f (W++[x])=wdR (rngF f W) (f x):=by
 cases W with
 |nil=>exact absurd rfl h
 |cons w l=>rw[List.cons_append,rngF,rngF,List.foldl_append];rfl
def Has (w:Qb8) (p:Qa6):Prop:=∃r,getI w.Tick.Out p.Element=some r∧getI r p.Outlet=some (Qd1 w.Tick.Out p)
theorem Zla (N:Nat) {w:Qb8}{p:Qa6}(h:Has w p):Qei N w p.Element p.Outlet=some (Qd1 w.Tick.Out p).Mass:=by
 obtain⟨r,h1,h2⟩:=h
 unfold Qei
 rw[h1,Option.bind_some,h2,Option.bind_some]
 rfl
def Q2k (p:Qa6) (w:Qb8):Int:=(Qd1 w.Tick.Out p).Mass
theorem Q8s (N:Nat) (W:List Qb8) (p:Qa6) (hl:W.length≤1000) (hh:∀w∈W,Has w p) (k:Int×Int→Option Qbb):∀(m i:Nat) (r:Qbb),((W.drop 1).drop i).length<m→Qcq N W p.Element p.Outlet k m i r.Lo r.Hi=k ((((W.drop 1).drop i).foldl (fun r x=>wdR r (Q2k p x)) r).Lo,(((W.drop 1).drop i).foldl (fun r x=>wdR r (Q2k p x)) r).Hi):=by
 intro m
 induction m with
 |zero=>intro i _ h;cases h
 |succ m ih=>
  intro i r h
  rw[Qcq,show(1:Int).toNat=1 from rfl]
  have hl1:(W.drop 1).length≤1000:=by rw[List.length_drop];omega
  cases hd:(W.drop 1).drop i with
  |nil=>
   have:=Qbw hd
   rw[decide_eq_false (show ¬((i:Int)<((W.drop 1).length:Int)) by omega),cond_false]
   rfl
  |cons w q=>
   obtain⟨hg,hd',hlt⟩:=Qbh hd
   have hw:=hh w (List.mem_of_mem_drop (List.mem_of_getElem? hg))
   rw[decide_eq_true (show(i:Int)<((W.drop 1).length:Int) by omega),cond_true,Qb0 hg,Option.bind_some,Zla N hw,Option.bind_some,Option.bind_some,w64S (i:=i) (by omega)]
   have:=ih (i+1) (wdR r (Q2k p w)) (dlt hd hd' h)
   rw[hd'] at this
   exact this
theorem Zg3 {N:Nat}(hN:1001≤N) {W:List Qb8}{p:Qa6}(hl:W.length≤1000) (hne:W≠[]) (hh:∀w∈W,Has w p):Qif N W p.Element p.Outlet=some (rngF (Q2k p) W):=by
 cases W with
 |nil=>exact absurd rfl hne
 |cons w l=>
  have hw:=hh w List.mem_cons_self
  unfold Qif Qgu
  rw[show getI (w::l) 0=some w from rfl,Option.bind_some,Zla N hw,Option.bind_some,Option.bind_some,Qft]
  simp only[chk]
  rw[show(decide ((0:Nat)≤1)&&decide ((1:Int)≤(((w::l).length:Nat):Int))&&decide ((((w::l).length:Nat):Int)≤(((w::l).length:Nat):Int)))=true by simp;omega,cond_true]
  have:=Q8s N (w::l) p hl hh (fun y=>some (⟨y.1,y.2⟩:Qbb)) N 0 ⟨Q2k p w,Q2k p w⟩ (by simp at hl ⊢;omega)
  rw[show(w::l).drop 1=l from rfl,List.drop_zero] at this
  exact congrArg (fun o=>o.bind fun x5=>some x5) this
theorem Zk9 (N:Nat) {w:Qb8}{p:Qa6}(h:Has w p):Qeh N w p.Element p.Outlet=some (Qd1 w.Tick.Out p).Heat:=by
 obtain⟨r,h1,h2⟩:=h
 unfold Qeh
 rw[h1,Option.bind_some,h2,Option.bind_some]
 rfl
def Q2l (p:Qa6) (w:Qb8):Int:=(Qd1 w.Tick.Out p).Heat
theorem Q8r (N:Nat) (W:List Qb8) (p:Qa6) (hl:W.length≤1000) (hh:∀w∈W,Has w p) (k:Int×Int→Option Qbb):∀(m i:Nat) (r:Qbb),((W.drop 1).drop i).length<m→Qcp N W p.Element p.Outlet k m i r.Lo r.Hi=k ((((W.drop 1).drop i).foldl (fun r x=>wdR r (Q2l p x)) r).Lo,(((W.drop 1).drop i).foldl (fun r x=>wdR r (Q2l p x)) r).Hi):=by
 intro m
 induction m with
 |zero=>intro i _ h;cases h
 |succ m ih=>
  intro i r h
  rw[Qcp,show(1:Int).toNat=1 from rfl]
  have hl1:(W.drop 1).length≤1000:=by rw[List.length_drop];omega
  cases hd:(W.drop 1).drop i with
  |nil=>
   have:=Qbw hd
   rw[decide_eq_false (show ¬((i:Int)<((W.drop 1).length:Int)) by omega),cond_false]
   rfl
  |cons w q=>
   obtain⟨hg,hd',hlt⟩:=Qbh hd
   have hw:=hh w (List.mem_of_mem_drop (List.mem_of_getElem? hg))
   rw[decide_eq_true (show(i:Int)<((W.drop 1).length:Int) by omega),cond_true,Qb0 hg,Option.bind_some,Zk9 N hw,Option.bind_some,Option.bind_some,w64S (i:=i) (by omega)]
   have:=ih (i+1) (wdR r (Q2l p w)) (dlt hd hd' h)
   rw[hd'] at this
   exact this
theorem Zg2 {N:Nat}(hN:1001≤N) {W:List Qb8}{p:Qa6}(hl:W.length≤1000) (hne:W≠[]) (hh:∀w∈W,Has w p):Qie N W p.Element p.Outlet=some (rngF (Q2l p) W):=by
 cases W with
 |nil=>exact absurd rfl hne
 |cons w l=>
  have hw:=hh w List.mem_cons_self
  unfold Qie Qgt
  rw[show getI (w::l) 0=some w from rfl,Option.bind_some,Zk9 N hw,Option.bind_some,Option.bind_some,Qft]
  simp only[chk]
  rw[show(decide ((0:Nat)≤1)&&decide ((1:Int)≤(((w::l).length:Nat):Int))&&decide ((((w::l).length:Nat):Int)≤(((w::l).length:Nat):Int)))=true by simp;omega,cond_true]
  have:=Q8r N (w::l) p hl hh (fun y=>some (⟨y.1,y.2⟩:Qbb)) N 0 ⟨Q2l p w,Q2l p w⟩ (by simp at hl ⊢;omega)
  rw[show(w::l).drop 1=l from rfl,List.drop_zero] at this
  exact congrArg (fun o=>o.bind fun x5=>some x5) this
theorem Zk8 (N:Nat) {w:Qb8}{p:Qa6}(h:Has w p):Qeg N w p.Element p.Outlet=some (Qd1 w.Tick.Out p).Silica:=by
 obtain⟨r,h1,h2⟩:=h
 unfold Qeg
 rw[h1,Option.bind_some,h2,Option.bind_some]
 rfl
def Qpv (p:Qa6) (w:Qb8):Int:=(Qd1 w.Tick.Out p).Silica
theorem Q8q (N:Nat) (W:List Qb8) (p:Qa6) (hl:W.length≤1000) (hh:∀w∈W,Has w p) (k:Int×Int→Option Qbb):∀(m i:Nat) (r:Qbb),((W.drop 1).drop i).length<m→Qco N W p.Element p.Outlet k m i r.Lo r.Hi=k ((((W.drop 1).drop i).foldl (fun r x=>wdR r (Qpv p x)) r).Lo,(((W.drop 1).drop i).foldl (fun r x=>wdR r (Qpv p x)) r).Hi):=by
 intro m
 induction m with
 |zero=>intro i _ h;cases h
 |succ m ih=>
  intro i r h
  rw[Qco,show(1:Int).toNat=1 from rfl]
  have hl1:(W.drop 1).length≤1000:=by rw[List.length_drop];omega
  cases hd:(W.drop 1).drop i with
  |nil=>
   have:=Qbw hd
   rw[decide_eq_false (show ¬((i:Int)<((W.drop 1).length:Int)) by omega),cond_false]
   rfl
  |cons w q=>
   obtain⟨hg,hd',hlt⟩:=Qbh hd
   have hw:=hh w (List.mem_of_mem_drop (List.mem_of_getElem? hg))
   rw[decide_eq_true (show(i:Int)<((W.drop 1).length:Int) by omega),cond_true,Qb0 hg,Option.bind_some,Zk8 N hw,Option.bind_some,Option.bind_some,w64S (i:=i) (by omega)]
   have:=ih (i+1) (wdR r (Qpv p w)) (dlt hd hd' h)
   rw[hd'] at this
   exact this
theorem Zg1 {N:Nat}(hN:1001≤N) {W:List Qb8}{p:Qa6}(hl:W.length≤1000) (hne:W≠[]) (hh:∀w∈W,Has w p):Qid N W p.Element p.Outlet=some (rngF (Qpv p) W):=by
 cases W with
 |nil=>exact absurd rfl hne
 |cons w l=>
  have hw:=hh w List.mem_cons_self
  unfold Qid Qgs
  rw[show getI (w::l) 0=some w from rfl,Option.bind_some,Zk8 N hw,Option.bind_some,Option.bind_some,Qft]
  simp only[chk]
  rw[show(decide ((0:Nat)≤1)&&decide ((1:Int)≤(((w::l).length:Nat):Int))&&decide ((((w::l).length:Nat):Int)≤(((w::l).length:Nat):Int)))=true by simp;omega,cond_true]
  have:=Q8q N (w::l) p hl hh (fun y=>some (⟨y.1,y.2⟩:Qbb)) N 0 ⟨Qpv p w,Qpv p w⟩ (by simp at hl ⊢;omega)
  rw[show(w::l).drop 1=l from rfl,List.drop_zero] at this
  exact congrArg (fun o=>o.bind fun x5=>some x5) this
theorem Zk7 (N:Nat) {w:Qb8}{p:Qa6}(h:Has w p):Qef N w p.Element p.Outlet=some (Qd1 w.Tick.Out p).Gas:=by
 obtain⟨r,h1,h2⟩:=h
 unfold Qef
 rw[h1,Option.bind_some,h2,Option.bind_some]
 rfl
def fGas (p:Qa6) (w:Qb8):Int:=(Qd1 w.Tick.Out p).Gas
theorem Q8p (N:Nat) (W:List Qb8) (p:Qa6) (hl:W.length≤1000) (hh:∀w∈W,Has w p) (k:Int×Int→Option Qbb):∀(m i:Nat) (r:Qbb),((W.drop 1).drop i).length<m→Qcn N W p.Element p.Outlet k m i r.Lo r.Hi=k ((((W.drop 1).drop i).foldl (fun r x=>wdR r (fGas p x)) r).Lo,(((W.drop 1).drop i).foldl (fun r x=>wdR r (fGas p x)) r).Hi):=by
 intro m
 induction m with
 |zero=>intro i _ h;cases h
 |succ m ih=>
  intro i r h
  rw[Qcn,show(1:Int).toNat=1 from rfl]
  have hl1:(W.drop 1).length≤1000:=by rw[List.length_drop];omega
  cases hd:(W.drop 1).drop i with
  |nil=>
   have:=Qbw hd
   rw[decide_eq_false (show ¬((i:Int)<((W.drop 1).length:Int)) by omega),cond_false]
   rfl
  |cons w q=>
   obtain⟨hg,hd',hlt⟩:=Qbh hd
   have hw:=hh w (List.mem_of_mem_drop (List.mem_of_getElem? hg))
   rw[decide_eq_true (show(i:Int)<((W.drop 1).length:Int) by omega),cond_true,Qb0 hg,Option.bind_some,Zk7 N hw,Option.bind_some,Option.bind_some,w64S (i:=i) (by omega)]
   have:=ih (i+1) (wdR r (fGas p w)) (dlt hd hd' h)
   rw[hd'] at this
   exact this
theorem Zg0 {N:Nat}(hN:1001≤N) {W:List Qb8}{p:Qa6}(hl:W.length≤1000) (hne:W≠[]) (hh:∀w∈W,Has w p):Qic N W p.Element p.Outlet=some (rngF (fGas p) W):=by
 cases W with
 |nil=>exact absurd rfl hne
 |cons w l=>
  have hw:=hh w List.mem_cons_self
  unfold Qic Qgr
  rw[show getI (w::l) 0=some w from rfl,Option.bind_some,Zk7 N hw,Option.bind_some,Option.bind_some,Qft]
  simp only[chk]
  rw[show(decide ((0:Nat)≤1)&&decide ((1:Int)≤(((w::l).length:Nat):Int))&&decide ((((w::l).length:Nat):Int)≤(((w::l).length:Nat):Int)))=true by simp;omega,cond_true]
  have:=Q8p N (w::l) p hl hh (fun y=>some (⟨y.1,y.2⟩:Qbb)) N 0 ⟨fGas p w,fGas p w⟩ (by simp at hl ⊢;omega)
  rw[show(w::l).drop 1=l from rfl,List.drop_zero] at this
  exact congrArg (fun o=>o.bind fun x5=>some x5) this
def covW (W:List Qb8) (p:Qa6):Qb5:=⟨rngF (Q2k p) W,rngF (Q2l p) W,rngF (Qpv p) W,rngF (fGas p) W⟩
theorem Quf {N:Nat}(hN:1001≤N) {W:List Qb8}(b:Bool) (hl:W.length≤1000) (hne:W≠[]) (k:List Qb5→Option (List Qb5×Int)):∀(q:List Qa6) (y:List Qb5),(∀p∈q,∀w∈W,Has w p)→y.length+q.length≤1000→Qdo N (W,b) k q y=k (y++q.map (covW W))
 |[],y,_,_=>by simp[Qdo]
 |p::q,y,hh,hy=>by
  have hp:=hh p List.mem_cons_self
  have hc:decide ((y.length+[covW W p].length)*64≤140737488355328)=true:=by simp at hy ⊢;omega
  rw[Qdo]
  rw[Zg3 hN hl hne hp,Option.bind_some,Zg2 hN hl hne hp,Option.bind_some,Zg1 hN hl hne hp,Option.bind_some,Zg0 hN hl hne hp,Option.bind_some]
  show(bif decide ((y.length+[covW W p].length)*64≤140737488355328) then Qdo N (W,b) k q (y++[covW W p]) else none)=_
  rw[hc,cond_true,Quf hN b hl hne k q _ (fun z hz=>hh z (List.mem_cons_of_mem _ hz)) (by simp at hy ⊢;omega)]
  simp
end
section
open Go.RowKit
def Zow:Qb5:=⟨⟨0,0⟩,⟨0,0⟩,⟨0,0⟩,⟨0,0⟩⟩
def Qm0 (n:GNet) (P:List Qb8):List Qb5:=if P=[] then List.replicate (Qim n).length Zow else(Qim n).map (covW P)
theorem Qs4 (n:GNet) (P:List Qb8):(Qm0 n P).length=(Qim n).length:=by
 unfold Qm0
 split<;>simp
theorem Zgs (N:Nat) (r:Qbb) (v:Int) (b:Bool):Qh5 N r v b=some (bif b then⟨v,v⟩ else wdR r v):=by
 unfold Qh5
 cases b<;>rfl
theorem Zk3 {n:GNet}{ws:List Qaa}{r:Q0k}(hI:InvT n ws n.Elements.length r.1 r.2.1) {p:Qa6}(hp:p∈Qim n) (c:List Qaa):Has (Qhr n c r) p:=by
 obtain⟨h1,h2,q,h3,h4⟩:=Zm3 hI hp
 exact⟨q,by show getI r.1 p.Element=_;unfold getI;rw[if_pos h1,h3],by unfold getI;rw[if_pos h2,h4];rfl⟩
theorem Q0a (P:List Qb8) (w:Qb8) (p:Qa6) (o:Qb5) (ho:P≠[]→o=covW P p) (f:Qa6→Qb8→Int) (g:Qb5→Qbb) (hg:g (covW P p)=rngF (f p) P):(bif decide (P=[]) then(⟨f p w,f p w⟩:Qbb) else wdR (g o) (f p w))=rngF (f p) (P++[w]):=by
 by_cases h:P=[]
 ·subst h;rfl
 ·rw[decide_eq_false h,cond_false,ho h,hg,Zg8 _ h]
section
variable {N : Nat} {n : GNet} (hs : Ql8 n) (hN : 1001 ≤ N)
include hs
theorem Q9b (P:List Qb8) (c:List Qaa) (r:Q0k) (y e:Int) (hh:∀p∈Qim n,Has (Qhr n c r) p) (k:List Qb5→Option (List Qb5×Bool)):∀(m j:Nat),((Qim n).drop j).length<m→j≤(Qim n).length →
  Qep N (Qim n) (P.length:Int) k (⟨r.1,r.2.1,r.2.2.1⟩,y,e) m j (((Qim n).take j).map (covW (P++[Qhr n c r]))++(Qm0 n P).drop j)=k ((Qim n).map (covW (P++[Qhr n c r]))):=by
 have hE:=Qpw hs
 intro m
 induction m with
 |zero=>intro j h;cases h
 |succ m ih=>
  intro j h hj
  rw[Qep]
  cases hd:(Qim n).drop j with
  |nil=>
   have:=Qbw hd
   rw[decide_eq_false (show ¬((j:Int)<((Qim n).length:Int)) by omega),cond_false,List.take_of_length_le (by omega),List.drop_of_length_le (by rw[Qs4];omega),List.append_nil]
  |cons p q=>
   obtain⟨hg,hd',hlt⟩:=Qbh hd
   obtain⟨row,h1,h2⟩:=hh p (List.mem_of_getElem? hg)
   have hlj:(((Qim n).take j).map (covW (P++[Qhr n c r]))).length=j:=by rw[List.length_map,List.length_take];omega
   have hla:j<(Qm0 n P).length:=by rw[Qs4];exact hlt
   rw[show(Qm0 n P).drop j=(Qm0 n P)[j]::(Qm0 n P).drop (j+1) from List.drop_eq_getElem_cons hla]
   have ho:P≠[]→(Qm0 n P)[j]=covW P p:=fun hP=>by
    have e:(Qm0 n P)[j]? = some (covW P p):=by
     unfold Qm0
     rw[if_neg hP,List.getElem?_map,hg]
     rfl
    rw[List.getElem?_eq_getElem hla] at e
    exact Option.some.inj e
   generalize (Qm0 n P)[j]=o at ho
   have hb:((P.length:Int)==0)=decide (P=[]):=by
    cases P with
    |nil=>rfl
    |cons a l=>rw[decide_eq_false (by simp),beq_eq_false_iff_ne];simp;omega
   have hget:(((Qim n).take j).map (covW (P++[Qhr n c r]))++o::(Qm0 n P).drop (j+1))[j]? = some o:=by
    rw[List.getElem?_append_right (by omega),hlj,Nat.sub_self];rfl
   have hset:∀v,(((Qim n).take j).map (covW (P++[Qhr n c r]))++o::(Qm0 n P).drop (j+1)).set j v=((Qim n).take j).map (covW (P++[Qhr n c r]))++v::(Qm0 n P).drop (j+1):=fun v=>by
    rw[List.set_append_right _ _ (by omega),hlj,Nat.sub_self,List.set_cons_zero]
   have c1:=Q0a P (Qhr n c r) p o ho Q2k (fun z=>z.Mass) rfl
   have c2:=Q0a P (Qhr n c r) p o ho Q2l (fun z=>z.Heat) rfl
   have c3:=Q0a P (Qhr n c r) p o ho Qpv (fun z=>z.Silica) rfl
   have c4:=Q0a P (Qhr n c r) p o ho fGas (fun z=>z.Gas) rfl
   have h1':getI r.1 p.Element=some row:=h1
   have h2':getI row p.Outlet=some (Qd1 r.1 p):=h2
   rw[decide_eq_true (show(j:Int)<((Qim n).length:Int) by omega),cond_true,Qb0 hg,Option.bind_some]
   simp only[h1',h2',Option.bind_some,chk,Int.toNat_natCast,hget,Zgs,hset,hb]
   rw[show(decide ((0:Int)≤(j:Int))&&decide (j<(Qim n).length))=true by simp;omega]
   simp only[cond_true]
   have hv:(⟨bif decide (P=[]) then(⟨(Qd1 r.1 p).Mass,(Qd1 r.1 p).Mass⟩:Qbb) else wdR ⟨o.Mass.Lo,o.Mass.Hi⟩ (Qd1 r.1 p).Mass,bif decide (P=[]) then(⟨(Qd1 r.1 p).Heat,(Qd1 r.1 p).Heat⟩:Qbb) else wdR ⟨o.Heat.Lo,o.Heat.Hi⟩ (Qd1 r.1 p).Heat,bif decide (P=[]) then(⟨(Qd1 r.1 p).Silica,(Qd1 r.1 p).Silica⟩:Qbb) else wdR ⟨o.Silica.Lo,o.Silica.Hi⟩ (Qd1 r.1 p).Silica,bif decide (P=[]) then(⟨(Qd1 r.1 p).Gas,(Qd1 r.1 p).Gas⟩:Qbb) else wdR ⟨o.Gas.Lo,o.Gas.Hi⟩ (Qd1 r.1 p).Gas⟩:Qb5)=covW (P++[Qhr n c r]) p:=by
    unfold covW
    rw[←c1,←c2,←c3,←c4]
    rfl
   rw[hv,w64S (i:=j) (by omega)]
   have:=ih (j+1) (dlt hd hd' h) hlt
   rw[Qk8 hg,List.map_append,List.append_assoc] at this
   exact this
end
end
section
open Go.RowKit
section
variable {N : Nat} {n : GNet} (hs : Ql8 n) (hN : 1001 ≤ N) (hv : NetV n) {st : List Int} (hst : StV n st) {l : List (List Qaa)} (hl : l.length ≤ 1000) (hf : ∀ c ∈ l, FedV n c)
include hs hN hv hst hl hf
theorem Ze1 (k:List Qb5→Option (List Qb5×Bool)):∀(m i:Nat) (P:List Qb8),(l.drop i).length<m→P.length=i →
  Qeq N n st l (Qim n) k m i (Qm0 n P)=match Qjt n st (l.drop i) with |some w=>k (Qm0 n (P++w)) |none=>some ([],false):=by
 have hE:=Qpw hs
 intro m
 induction m with
 |zero=>intro i _ h;cases h
 |succ m ih=>
  intro i P h hP
  rw[Qeq]
  cases hd:l.drop i with
  |nil=>
   have:=Qbw hd
   rw[decide_eq_false (show ¬((i:Int)<(l.length:Int)) by omega),cond_false,Qjt]
   simp
  |cons c q=>
   obtain⟨hg,hd',hlt⟩:=Qbh hd
   have hfc:=hf c (List.mem_of_getElem? hg)
   rw[decide_eq_true (show(i:Int)<(l.length:Int) by omega),cond_true,Qft,Qb0 hg,Option.bind_some,Q6p hs hN hv hfc hst,Option.bind_some,Qjt]
   cases hT:Qxd n st c with
   |inl a=>
    dsimp only[Qsv]
    show(bif decide ((a:Int)≥0) then _ else _)=_
    rw[decide_eq_true (show(a:Int)≥0 by omega),cond_true]
   |inr r=>
    have hR:=Quz hv hfc hst hT
    dsimp only[Qsv]
    show(bif decide ((-1:Int)≥0) then _ else _)=_
    rw[show decide ((-1:Int)≥0)=false from rfl,cond_false]
    have hin:=fun k'=>Q9b (N:=N) hs P c r r.2.2.2 (-1) (fun p hp=>Zk3 hR.inv hp c) k' N 0 (by simp;omega) (Nat.zero_le _)
    simp only[List.take_zero,List.map_nil,List.nil_append,List.drop_zero,hP] at hin
    refine(hin _).trans ?_
    have hih:=ih (i+1) (P++[Qhr n c r]) (dlt hd hd' h) (by simp[hP])
    rw[hd',show Qm0 n (P++[Qhr n c r])=(Qim n).map (covW (P++[Qhr n c r])) by unfold Qm0;rw[if_neg (by simp)]] at hih
    rw[w64S (i:=i) (by omega),hih]
    cases Qjt n st q with
    |none=>rfl
    |some w=>simp
theorem Zoj:Qj6 N n st l=some (match Qjt n st l with |some w=>(Qm0 n w,true) |none=>([],false)):=by
 have hE:=Qpw hs
 unfold Qj6
 rw[Q8v hs hN,Option.bind_some]
 simp only[chk,Int.toNat_natCast]
 rw[show(decide ((0:Int)≤((Qim n).length:Int))&&decide (64*((Qim n).length:Int)≤281474976710656)&&decide (((Qim n).length:Int)≤9223372036854775807))=true by simp;omega,cond_true,Qft]
 have:=fun k=>Ze1 hs hN hv hst hl hf k N 0 [] (by simp;omega) rfl
 rw[List.drop_zero,show Qm0 n []=List.replicate (Qim n).length Zow from rfl] at this
 refine(this _).trans ?_
 cases Qjt n st l with
 |none=>rfl
 |some w=>
  show(bif decide ((Qim n).length≤(Qm0 n ([]++w)).length) then _ else _)=_
  rw[List.nil_append,Qs4,decide_eq_true (Nat.le_refl _),cond_true,List.take_of_length_le (by rw[Qs4];exact Nat.le_refl _)]
omit hs hN hv hst hl hf in
theorem Q8e (t:Qfg) (e:Int×Int) (y:Int) (hy:0≤y) (hL:t.Lost.length≤1000) (k:Int×Int→Option (Int×Int×Bool)):∀(m j:Nat) (a b:Int),(t.Lost.drop j).length<m →
  Qdk N y k (t,e) m a b j=k (if a<0 then(match fstL j (t.Lost.drop j) with |some q=>(y,(q:Int)) |none=>(a,b)) else(a,b)):=by
 intro m
 induction m with
 |zero=>intro j _ _ h;cases h
 |succ m ih=>
  intro j a b h
  rw[Qdk]
  cases hd:t.Lost.drop j with
  |nil=>
   have:=Qbw hd
   rw[decide_eq_false (show ¬((j:Int)<(t.Lost.length:Int)) by omega),cond_false,fstL]
   split<;>rfl
  |cons x q=>
   obtain⟨hg,hd',hlt⟩:=Qbh hd
   have hlen:(t.Lost.drop (j+1)).length<m:=by rw[hd'];rw[hd] at h;simp at h;omega
   rw[decide_eq_true (show(j:Int)<(t.Lost.length:Int) by omega),cond_true,w64S (i:=j) (by omega)]
   by_cases ha:a<0
   ·rw[decide_eq_true ha,cond_true,Qb0 hg,Option.bind_some,if_pos ha,fstL]
    by_cases hx:x.Scale>0
    ·rw[decide_eq_true hx,cond_true,ih (j+1) y j hlen,if_neg (by omega),if_pos hx]
    ·rw[decide_eq_false hx,cond_false,ih (j+1) a b hlen,if_pos ha,if_neg hx,hd']
   ·rw[decide_eq_false ha,cond_false,ih (j+1) a b hlen,if_neg ha,if_neg ha]
theorem Zci (k:Int×Int→Option (Int×Int×Bool)):∀(m i:Nat) (a b:Int),(l.drop i).length<m→(a<0→a=-1∧b=-1) →
  Qc5 N n st l k m a b i=match Qjt n st (l.drop i) with |some w=>k (if a<0 then unsL i w else(a,b)) |none=>some (0,0,false):=by
 intro m
 induction m with
 |zero=>intro i _ _ h;cases h
 |succ m ih=>
  intro i a b h hab
  rw[Qc5]
  cases hd:l.drop i with
  |nil=>
   have:=Qbw hd
   rw[decide_eq_false (show ¬((i:Int)<(l.length:Int)) by omega),cond_false,Qjt]
   by_cases ha:a<0
   ·obtain⟨rfl,rfl⟩:=hab ha;rfl
   ·simp[ha]
  |cons c q=>
   obtain⟨hg,hd',hlt⟩:=Qbh hd
   have hfc:=hf c (List.mem_of_getElem? hg)
   rw[decide_eq_true (show(i:Int)<(l.length:Int) by omega),cond_true,Qft,Qb0 hg,Option.bind_some,Q6p hs hN hv hfc hst,Option.bind_some,Qjt]
   cases hT:Qxd n st c with
   |inl a'=>
    dsimp only[Qsv]
    show(bif decide ((a':Int)≥0) then _ else _)=_
    rw[decide_eq_true (show(a':Int)≥0 by omega),cond_true]
   |inr r=>
    have hR:=Quz hv hfc hst hT
    have hll:=hR.inv.ll
    have e0:=hs.e
    dsimp only[Qsv]
    show(bif decide ((-1:Int)≥0) then _ else _)=_
    rw[show decide ((-1:Int)≥0)=false from rfl,cond_false]
    refine(Q8e ⟨r.1,r.2.1,r.2.2.1⟩ _ (i:Int) (by omega) (by dsimp only;omega) _ N 0 a b (by dsimp only;simp;omega)).trans ?_
    have hlen:(l.drop (i+1)).length<m:=by rw[hd'];rw[hd] at h;simp at h;omega
    rw[List.drop_zero]
    by_cases ha:a<0
    ·rw[if_pos ha]
     cases hfi:fstL 0 r.2.1 with
     |some z=>
      have:=ih (i+1) (i:Int) (z:Int) hlen (fun h=>by omega)
      rw[hd'] at this
      show Qc5 N n st l k m (i:Int) (z:Int) (w64 ((i:Int)+1))=_
      rw[w64S (i:=i) (by omega),this]
      cases Qjt n st q with
      |none=>rfl
      |some w=>
       show k (if (i:Int)<0 then unsL (i+1) w else((i:Int),(z:Int)))=k (if a<0 then unsL i (Qhr n c r::w) else(a,b))
       rw[if_neg (show ¬(i:Int)<0 by omega),if_pos ha,unsL,show fstL 0 (Qhr n c r).Tick.Lost=some z from hfi]
     |none=>
      have:=ih (i+1) a b hlen hab
      rw[hd'] at this
      show Qc5 N n st l k m a b (w64 ((i:Int)+1))=_
      rw[w64S (i:=i) (by omega),this]
      cases Qjt n st q with
      |none=>rfl
      |some w=>
       show k (if a<0 then unsL (i+1) w else(a,b))=k (if a<0 then unsL i (Qhr n c r::w) else(a,b))
       rw[if_pos ha,if_pos ha,unsL,show fstL 0 (Qhr n c r).Tick.Lost=none from hfi]
    ·rw[if_neg ha]
     have:=ih (i+1) a b hlen hab
     rw[hd'] at this
     show Qc5 N n st l k m a b (w64 ((i:Int)+1))=_
     rw[w64S (i:=i) (by omega),this]
     cases Qjt n st q with
     |none=>rfl
     |some w=>
      show k (if a<0 then unsL (i+1) w else(a,b))=k (if a<0 then unsL i (Qhr n c r::w) else(a,b))
      rw[if_neg ha,if_neg ha]
theorem Zmc:Qj5 N n st l=some (match Qjt n st l with |some w=>((unsL 0 w).1,(unsL 0 w).2,true) |none=>(0,0,false)):=by
 unfold Qj5
 rw[Qft]
 refine(Zci hs hN hv hst hl hf _ N 0 (-1) (-1) (by simp;omega) (fun _=>⟨rfl,rfl⟩)).trans ?_
 rw[List.drop_zero]
 cases Qjt n st l<;>rfl
end
end
section
open Go.RowKit
theorem Q8f (N:Nat) (y:Int) (w:Qb8) (hL:w.Tick.Lost.length≤1000) (k:Unit→Option (Int×Int)):∀(m j:Nat),(w.Tick.Lost.drop j).length<m→Qfc N y k w m j=match fstL j (w.Tick.Lost.drop j) with |some q=>some (y,(q:Int)) |none=>k ():=by
 intro m
 induction m with
 |zero=>intro j h;cases h
 |succ m ih=>
  intro j h
  rw[Qfc]
  cases hd:w.Tick.Lost.drop j with
  |nil=>
   have:=Qbw hd
   rw[decide_eq_false (show ¬((j:Int)<(w.Tick.Lost.length:Int)) by omega),cond_false,fstL]
  |cons x q=>
   obtain⟨hg,hd',hlt⟩:=Qbh hd
   rw[decide_eq_true (show(j:Int)<(w.Tick.Lost.length:Int) by omega),cond_true,Qb0 hg,Option.bind_some,fstL]
   by_cases hx:x.Scale>0
   ·rw[decide_eq_true hx,cond_true,if_pos hx]
   ·rw[decide_eq_false hx,cond_false,if_neg hx,w64S (i:=j) (by omega),ih (j+1) (dlt hd hd' h),hd']
theorem Zcj {N:Nat}(hN:1001≤N) (W:List Qb8) (hl:W.length≤1000) (hL:∀w∈W,w.Tick.Lost.length≤1000):∀(m i:Nat),(W.drop i).length<m→Qfd N W (fun _=>some (-1,-1)) m i=some (unsL i (W.drop i)):=by
 intro m
 induction m with
 |zero=>intro i h;cases h
 |succ m ih=>
  intro i h
  rw[Qfd]
  cases hd:W.drop i with
  |nil=>
   have:=Qbw hd
   rw[decide_eq_false (show ¬((i:Int)<(W.length:Int)) by omega),cond_false,unsL]
  |cons w q=>
   obtain⟨hg,hd',hlt⟩:=Qbh hd
   have hw:=hL w (List.mem_of_getElem? hg)
   rw[decide_eq_true (show(i:Int)<(W.length:Int) by omega),cond_true,Qft,Qb0 hg,Option.bind_some]
   refine(Q8f N (i:Int) w hw _ N 0 (by simp;omega)).trans ?_
   rw[List.drop_zero,unsL]
   cases fstL 0 w.Tick.Lost with
   |some z=>rfl
   |none=>
    dsimp only
    rw[w64S (i:=i) (by omega),ih (i+1) (dlt hd hd' h),hd']
theorem Zmd {N:Nat}(hN:1001≤N) {W:List Qb8}(hl:W.length≤1000) (hL:∀w∈W,w.Tick.Lost.length≤1000):Qlp N W=some (unsL 0 W):=by
 unfold Qlp
 rw[Qft]
 have:=Zcj hN W hl hL N 0 (by simp;omega)
 rw[List.drop_zero] at this
 exact this
theorem Qsr {n:GNet}(hs:Ql8 n) (hv:NetV n) {st:List Int}(hst:StV n st):∀{l:List (List Qaa)}{W:List Qb8},(∀c∈l,FedV n c)→Qjt n st l=some W→W.length=l.length∧∀w∈W,w.Tick.Lost.length≤1000∧∀p∈Qim n,Has w p
 |[],W,_,h=>by rw[Qjt] at h;cases h;simp
 |c::l,W,hf,h=>by
  have hfc:=hf c List.mem_cons_self
  rw[Qjt] at h
  cases hT:Qxd n st c with
  |inl a=>rw[hT] at h;cases h
  |inr r=>
   rw[hT] at h
   have hR:=Quz hv hfc hst hT
   have hll:=hR.inv.ll
   have e0:=hs.e
   have h':(Qjt n st l).map (Qhr n c r :: ·)=some W:=h
   rw[Option.map_eq_some_iff] at h'
   obtain⟨W',h1,rfl⟩:=h'
   obtain⟨a,b⟩:=Qsr hs hv hst (fun d hd=>hf d (List.mem_cons_of_mem _ hd)) h1
   refine⟨by simp[a],fun w hw=>?_⟩
   rcases List.mem_cons.1 hw with rfl |hw
   ·exact⟨by show r.2.1.length≤1000;omega,fun p hp=>Zk3 hR.inv hp c⟩
   ·exact b w hw
theorem Q2u (N:Nat) (L:List Qb5) (e:Int) (hl:L.length≤1000) (k:Unit→Option Bool):∀(m i:Nat),(L.drop i).length<m→Qc2 N (L,e) L k m i=k ():=by
 intro m
 induction m with
 |zero=>intro i h;cases h
 |succ m ih=>
  intro i h
  rw[Qc2]
  cases hd:L.drop i with
  |nil=>
   have:=Qbw hd
   rw[decide_eq_false (show ¬((i:Int)<(L.length:Int)) by omega),cond_false]
  |cons x q=>
   obtain⟨hg,hd',hlt⟩:=Qbh hd
   simp only[show decide ((i:Int)<(L.length:Int))=true from by simpa using hlt,cond_true,Qb0 hg,Option.bind_some,Qiq,beq_self_eq_true,Bool.not_true,cond_false]
   rw[w64S (i:=i) (by omega),ih (i+1) (dlt hd hd' h)]
def covA (n:GNet) (st:List Int) (l:List (List Qaa)):List Qb5×Int:=if Qjr n st l=0 then(match Qjt n st l with |some W=>((Qim n).map (covW W),0) |none=>([],11)) else([],Qjr n st l)
def unsA (n:GNet) (st:List Int) (l:List (List Qaa)):Int×Int×Int:=if Qjr n st l=0 then(match Qjt n st l with |some W=>((unsL 0 W).1,(unsL 0 W).2,0) |none=>(0,0,11)) else(0,0,Qjr n st l)
theorem Qwi {n:GNet}{st:List Int}{l:List (List Qaa)}(h:Qjr n st l=0):NetV n∧StV n st∧(∀c∈l,FedV n c)∧1≤l.length:=by
 unfold Qjr at h
 cases hb:netB n&&stB n st with
 |false=>rw[hb] at h;cases h
 |true=>
  rw[hb,cond_true] at h
  rw[Bool.and_eq_true] at hb
  cases h6:btw (l.length:Int) 1 6 with
  |false=>rw[h6] at h;cases h
  |true=>
   rw[h6,cond_true] at h
   have:=Qgb.1 h6
   exact⟨Zm6 hb.1,Zq0 hb.2,Q67 h,by omega⟩
section
variable {N : Nat} {n : GNet} (hs : Ql8 n) (hN : 1001 ≤ N) {l : List (List Qaa)} (hl : l.length ≤ 1000) (hc : ∀ c ∈ l, c.length ≤ 1000) {st : List Int} (hl2 : st.length ≤ 1000)
include hs hN hl hc hl2
theorem Zok:Qlr N n st l=some (covA n st l):=by
 have hE:=Qpw hs
 unfold Qlr covA
 rw[Q63 hs hN hl hc hl2,Option.bind_some]
 by_cases hg:Qjr n st l=0
 ·obtain⟨hv,hst,hf,h1⟩:=Qwi hg
  rw[if_pos hg,hg,bne_self_eq_false,cond_false,Ze0 hs hN hv hst hl hf,Option.bind_some]
  unfold Zi5
  cases hd:Qjt n st l with
  |none=>rfl
  |some W=>
   obtain⟨a,b⟩:=Qsr hs hv hst hf hd
   dsimp only
   rw[Bool.not_true,cond_false,Qft,Zmb hs hv hN,Option.bind_some,Zi4 hs hN,Option.bind_some]
   refine(Quf hN true (by omega) (fun h=>by rw[h] at a;simp at a;omega) _ (Qim n) [] (fun p hp w hw=>(b w hw).2 p hp) (by simp;omega)).trans ?_
   rfl
 ·rw[if_neg hg,show(Qjr n st l != 0)=true by simpa using hg,cond_true]
theorem Zme:Qlq N n st l=some (unsA n st l):=by
 unfold Qlq unsA
 rw[Q63 hs hN hl hc hl2,Option.bind_some]
 by_cases hg:Qjr n st l=0
 ·obtain⟨hv,hst,hf,h1⟩:=Qwi hg
  rw[if_pos hg,hg,bne_self_eq_false,cond_false,Ze0 hs hN hv hst hl hf,Option.bind_some]
  unfold Zi5
  cases hd:Qjt n st l with
  |none=>rfl
  |some W=>
   obtain⟨a,b⟩:=Qsr hs hv hst hf hd
   dsimp only
   rw[Bool.not_true,cond_false,Zmd hN (by omega) fun w hw=>(b w hw).1,Option.bind_some]
 ·rw[if_neg hg,show(Qjr n st l != 0)=true by simpa using hg,cond_true]
end
theorem Q9a (n:GNet) (s:List Int) (l:List (List Qaa)) (gn:Zd7 n) (_:Q4l s) (gl:Qub l):Qi2 (n.Elements.length+s.length+l.length+2000) n s l=some true:=by
 generalize hNN:n.Elements.length+s.length+l.length+2000=N
 have hN:1001≤N:=by omega
 have hn:(n.Elements.length:Int)≤9223372036854775807:=by
  have:=gn.2.1
  rw[Q2b] at this
  omega
 have hll:l.length≤9223372036854775807:=by
  have:=gl.1
  rw[Q2b] at this
  omega
 unfold Qi2
 simp only[Zcg,Option.bind_some]
 rw[Qft]
 rcases Znh (N:=N) (n:=n) (l:=l) hn hll (by omega) (by omega) with e |⟨e,hs,h8,hc⟩
 ·rw[e,Option.bind_some,Bool.not_false,cond_true]
 rw[e,Option.bind_some,Bool.not_true,cond_false]
 by_cases h25:(s.length:Int)>25
 ·rw[decide_eq_true h25,cond_true]
 have s1:s.length≤1000:=by omega
 have hc':∀c∈l,c.length≤1000:=fun c h=>by have:=hc c h;omega
 have hE:=Qpw hs
 rw[decide_eq_false h25,cond_false,Zq6 hs hN,Znc N s1,Zi9 hN (by omega) hc',Option.bind_some,Option.bind_some,Option.bind_some,Zok hs hN (by omega) hc' s1,Option.bind_some,Option.bind_some,Option.bind_some,Option.bind_some,Zme hs hN (by omega) hc' s1,Option.bind_some,Zea hs hN (by omega) hc' s1,Option.bind_some,Qft]
 have fin:∀(a:List Qb5×Int) (b:Int×Int×Int),a.1.length≤1000→a.2=b.2.2→(bif (a.2 != a.2) then some false else bif (b.2.2 != a.2) then some false else bif (b.1 != b.1) then some false else bif (b.2.1 != b.2.1) then some false else bif ((a.1.length:Int) != (a.1.length:Int)) then some false else Qc2 N a a.1 (fun _=>some true) N 0)=some true:=fun a b hl' hab=>by
  rw[bne_self_eq_false,bne_self_eq_false,bne_self_eq_false,bne_self_eq_false,←hab,bne_self_eq_false,cond_false,cond_false,cond_false,cond_false,cond_false]
  exact Q2u N a.1 a.2 hl' (fun _=>some true) N 0 (by simp;omega)
 by_cases hg:Qjr n s l=0
 ·obtain⟨hv,hst,hf,h1⟩:=Qwi hg
  have r1:=Zoj hs hN hv hst (show l.length≤1000 by omega) hf
  have r2:=Zmc hs hN hv hst (show l.length≤1000 by omega) hf
  cases hd:Qjt n s l with
  |none=>
   rw[hd] at r1 r2
   rw[hg,beq_self_eq_true,cond_true,r1,Option.bind_some,r2,Option.bind_some,show covA n s l=([],11) by unfold covA;rw[if_pos hg,hd],show unsA n s l=(0,0,11) by unfold unsA;rw[if_pos hg,hd]]
   exact fin ([],11) (0,0,11) (by simp) rfl
  |some W=>
   obtain⟨a,_⟩:=Qsr hs hv hst hf hd
   have hW:W≠[]:=fun h=>by rw[h] at a;simp at a;omega
   have hacc:Qm0 n W=(Qim n).map (covW W):=by unfold Qm0;rw[if_neg hW]
   rw[hd] at r1 r2
   dsimp only at r1 r2
   rw[hacc] at r1
   rw[hg,beq_self_eq_true,cond_true,r1,Option.bind_some,r2,Option.bind_some,show covA n s l=((Qim n).map (covW W),0) by unfold covA;rw[if_pos hg,hd],show unsA n s l=((unsL 0 W).1,(unsL 0 W).2,0) by unfold unsA;rw[if_pos hg,hd]]
   have hL:((Qim n).map (covW W)).length≤1000:=by rw[List.length_map];omega
   clear r1 r2 hacc
   generalize (Qim n).map (covW W)=L at hL
   generalize unsL 0 W=u
   obtain⟨u1,u2⟩:=u
   show(bif !true then _ else _)=_
   rw[Bool.not_true,cond_false]
   show Qbi _ _=_
   rw[Qft]
   show(bif ((0:Int) != 0) then _ else bif ((0:Int) != 0) then _ else bif (u1 != u1) then _ else bif (u2 != u2) then _ else bif ((L.length:Int) != (L.length:Int)) then _ else _)=_
   rw[bne_self_eq_false,bne_self_eq_false,bne_self_eq_false,bne_self_eq_false,cond_false,cond_false,cond_false,cond_false,cond_false,Qft]
   exact Q2u N L 0 hL (fun _=>some true) N 0 (by simp;omega)
 ·have ec:covA n s l=([],Qjr n s l):=by unfold covA;rw[if_neg hg]
  have eu:unsA n s l=(0,0,Qjr n s l):=by unfold unsA;rw[if_neg hg]
  rw[show(Qjr n s l==0)=false by simpa using hg,cond_false,ec,eu]
  exact fin ([],Qjr n s l) (0,0,Qjr n s l) (by simp) rfl
end
end Go.Proofs.YtmbhnllcfmiajaaGreat
