/-
  Functions of the program: what they compute, as plain functions, and that they do. No conditions.
-/
import Derived.Test.YtmbhnllcfmiajaaGreatX4
namespace Go.Proofs.YtmbhnllcfmiajaaGreat
set_option maxRecDepth 100000
set_option maxHeartbeats 4000000
open Go.RowKit
def Qdh (N:Nat) (p0:GNet) (p1:(List Int)) (p2:(List GStream)) (k16:(List (List GStream))×(List GLost)×(List Int)×Int→Option (Int⊕(Int×Int×(List (List GStream))×(List GLost)×(List Int)))):Nat→Int→(List (List GStream))→(List GLost)→(List Int)→Int→Option (Int⊕(Int×Int×(List (List GStream))×(List GLost)×(List Int)))
  | 0,_,_,_,_,_=>none
  | n27+1,y17,y18,y19,y20,y21=>
    bif (decide (y17<(p0.Elements.length:Int))) then
     (getI p0.Elements y17).bind fun x29=>
     (getI p1 y17).bind fun x33=>
     (Qei N x29 x33).bind fun x38=>
     (Qcs N y17 x38 p0.Table p0.Elements ((p0.Elements.length:Int).toNat) ((p0.Elements.length:Int).toNat) p1.length p2 y21 y18 y19 y20).bind (
      Sum.elim (fun x41=>
        Qdh N p0 p1 p2 k16 n27 (w64 (y17+1)) x41.2.1 x41.2.2.1 x41.2.2.2 x41.1)
      (fun x42=>
        some (.inl x42)))
    else
     k16 (y18,y19,y20,y21)
def Qe4 (N:Nat) (p0:GNet) (p1:(List Int)) (p2:(List GStream)):Option (Int⊕(Int×Int×(List (List GStream))×(List GLost)×(List Int))):=
  chk (decide (0≤(p0.Elements.length:Int))&&decide (24 * (p0.Elements.length:Int)≤281474976710656)&&decide ((p0.Elements.length:Int)≤9223372036854775807))<|
  chk (decide (0≤(p0.Elements.length:Int))&&decide (32 * (p0.Elements.length:Int)≤281474976710656)&&decide ((p0.Elements.length:Int)≤9223372036854775807))<|
  (Qe3 N p1).bind fun _=>
  Qbp (fun ⟨y12,y13,y14,y15⟩=>
    some (.inr ((-1),y15,y12,y13,y14))) fun k16:(List (List GStream))×(List GLost)×(List Int)×Int→Option (Int⊕(Int×Int×(List (List GStream))×(List GLost)×(List Int)))=>
  Qdh N p0 p1 p2 k16 N 0 (List.replicate (p0.Elements.length:Int).toNat ([])) (List.replicate (p0.Elements.length:Int).toNat (⟨0,0,0,0⟩:GLost)) p1 0
def Qys (p0:GNet):AV:=.dat 5 ((p0.Table:List GRow).map Qaw)
def Qnj (p0:GNet):AV:=.dat 7 ((p0.Elements:List GElement).map Qac)
def Q5u (p0:GNet):AV:=.agg [(Qys p0),(Qnj p0)]
def Qn3 (p1:(List Int)):AV:=.dat 1 ((p1:List Int).map Qak)
def Qnb (p2:(List GStream)):AV:=.dat 4 ((p2:List GStream).map Qab)
def Zi1 (p0:GNet):Slot:=.own 1 ((List.replicate (p0.Elements.length:Int).toNat ([]):List (List GStream)).map Qaj)
def Zi0 (p0:GNet):Slot:=.own 4 ((List.replicate (p0.Elements.length:Int).toNat (⟨0,0,0,0⟩:GLost):List GLost).map Qa7)
def Q9x (p1:(List Int)):Slot:=.own 1 ((p1:List Int).map Qak)
def Ze7 (p0:GNet) (p1:(List Int)):AV:=.agg [(.own 3 1 (0) ((p0.Elements.length:Int).toNat)),(.own 4 4 (0) ((p0.Elements.length:Int).toNat)),(.own 5 1 (0) (p1.length))]
def Q3f (p0:GNet):Slot:=.own 2 [[(Qys p0),(Qnj p0)]]
def Qpx:Slot:=.own 1 [[(.ref 6 7 (0) 0)]]
def Qyr (y12:(List (List GStream))):Slot:=.own 1 ((y12:List (List GStream)).map Qaj)
def Qyq (y13:(List GLost)):Slot:=.own 4 ((y13:List GLost).map Qa7)
def Qyp (p0:GNet) (p1:(List Int)) (p2:(List GStream)) (y15:Int):Slot:=.own 7 [[(Qys p0),(Qnj p0),(.own 3 1 (0) ((p0.Elements.length:Int).toNat)),(.own 4 4 (0) ((p0.Elements.length:Int).toNat)),(.own 5 1 (0) (p1.length)),(Qnb p2),(I (y15))]]
def Zdu (p0:GNet) (p1:(List Int)) (p2:(List GStream)):Slot:=.own 7 [[(Qys p0),(Qnj p0),(.own 3 1 (0) ((p0.Elements.length:Int).toNat)),(.own 4 4 (0) ((p0.Elements.length:Int).toNat)),(.own 5 1 (0) (p1.length)),(Qnb p2),(I (0))]]
def Qo7 (y18:(List (List GStream))):Slot:=.own 1 ((y18:List (List GStream)).map Qaj)
def Qo6 (y19:(List GLost)):Slot:=.own 4 ((y19:List GLost).map Qa7)
def Qo5 (y20:(List Int)):Slot:=.own 1 ((y20:List Int).map Qak)
def Qo8 (p0:GNet) (p1:(List Int)) (p2:(List GStream)) (y21:Int):Slot:=.own 7 [[(Qys p0),(Qnj p0),(.own 3 1 (0) ((p0.Elements.length:Int).toNat)),(.own 4 4 (0) ((p0.Elements.length:Int).toNat)),(.own 5 1 (0) (p1.length)),(Qnb p2),(I (y21))]]
def Qni (x29:GElement):AV:=.agg [(K .u8 (x29.Kind)),(.dat 2 ((x29.From:List GPort).map Qat)),(I (x29.Level)),(I (x29.Amount)),(I (x29.Wide)),(I (x29.Narrow)),(.dat 1 ((x29.Weights:List Int).map Qak))]
def Qyo (p0:GNet) (p1:(List Int)) (p2:(List GStream)) (x41:(Int×(List (List GStream))×(List GLost)×(List Int))):Slot:=.own 7 [[(Qys p0),(Qnj p0),(.own 3 1 (0) (((p0.Elements.length:Int).toNat))),(.own 4 4 (0) (((p0.Elements.length:Int).toNat))),(.own 5 1 (0) (p1.length)),(Qnb p2),(I (x41.1))]]
def Zi2:Slot:=.own 1 [[(.lit (.pointer none))]]
theorem Qk5 (N:Nat) (p0:GNet) (p1:(List Int)) (p2:(List GStream)) (r:(Int⊕(Int×Int×(List (List GStream))×(List GLost)×(List Int)))) (h:Qe4 N p0 p1 p2=some r):Spec Tryz.prog 58 [(Q5u p0),(Qn3 p1),(Qnb p2)] [] (((Sum.elim (fun r=>(.tup [(.lit (.pointer none)),(I (r))])) (fun r=>(.tup [(.ref 2 7 (0) 0),(I (r.1))]))):(Int⊕(Int×Int×(List (List GStream))×(List GLost)×(List Int)))→AV) r) (((Sum.elim (fun r=>[(.own 1 [[(.lit (.pointer none))]]),(.own 1 [[(I (r))]])]) (fun r=>[(.own 1 [[(.ref 2 7 (0) 0)]]),(.own 1 [[(I (r.1))]]),(.own 7 [[(.dat 5 ((p0.Table:List GRow).map Qaw)),(.dat 7 ((p0.Elements:List GElement).map Qac)),(.own 3 1 (0) ((p0.Elements.length:Int).toNat)),(.own 4 4 (0) ((p0.Elements.length:Int).toNat)),(.own 5 1 (0) (p1.length)),(.dat 4 ((p2:List GStream).map Qab)),(I (r.2.1))]]),(.own 1 ((r.2.2.1:List (List GStream)).map Qaj)),(.own 4 ((r.2.2.2.1:List GLost).map Qa7)),(.own 1 ((r.2.2.2.2:List Int).map Qak))])):(Int⊕(Int×Int×(List (List GStream))×(List GLost)×(List Int)))→List Slot) r):=by
  refine Qw1 Tryz.func58 rfl (fun X φ0 w0 hφ0 hd0=>?_)
  unfold Qe4 at h
  refine Q28 (k:=6) hd0 (fun n hn=>hφ0 n (Nat.le_trans (nle rfl) hn))<|wxz1<|thn ?_
  refine Q28 (k:=6) hd0 (fun n hn=>hφ0 n (Nat.le_trans (nle rfl) hn)) ?_
  obtain ⟨hm8,h⟩:=cko h
  obtain ⟨hm9,h⟩:=cko h
  obtain ⟨x11,hf10,h⟩:=bno h
  refine wy1 tbk [(3,rp [(.tmp 12,(Qnj p0))] (I ((p0.Elements.length:Int)))),(4,⟨[(.tmp 13,(I ((p0.Elements.length:Int)))),(.tmp 13,(I ((p0.Elements.length:Int))))],[(3,.unused)],(.own 3 1 (0) ((p0.Elements.length:Int).toNat)),[(3,(Zi1 p0))],false⟩),(7,rp [(.tmp 16,(Qnj p0))] (I ((p0.Elements.length:Int)))),(8,⟨[(.tmp 17,(I ((p0.Elements.length:Int)))),(.tmp 17,(I ((p0.Elements.length:Int))))],[(4,.unused)],(.own 4 4 (0) ((p0.Elements.length:Int).toNat)),[(4,(Zi0 p0))],false⟩),(10,⟨[fu 95,(.tmp 19,(Qn3 p1))],[(5,.unused)],(.own 5 1 (0) (p1.length)),[(5,(Q9x p1))],false⟩),(11,rp [(.tmp 14,(.own 3 1 (0) ((p0.Elements.length:Int).toNat))),(.tmp 18,(.own 4 4 (0) ((p0.Elements.length:Int).toNat))),(.tmp 20,(.own 5 1 (0) (p1.length)))] (Ze7 p0 p1)),(13,rp [(.tmp 10,(Q5u p0)),(.tmp 21,(Ze7 p0 p1)),(.tmp 22,(Qnb p2))] (.agg [(Qys p0),(Qnj p0),(.own 3 1 (0) ((p0.Elements.length:Int).toNat)),(.own 4 4 (0) ((p0.Elements.length:Int).toNat)),(.own 5 1 (0) (p1.length)),(Qnb p2),I 0]))] ⟨alm (c:=Qac) (l:=p0.Elements) (aln rfl Tryz.underlying40 rfl),Q9i (c:=Qaj) (v:=([])) (z:=[nilS]) (k:=(p0.Elements.length:Int).toNat) ⟨Less.nil,trivial⟩ (Qpt rfl Tryz.underlying31 te45 tz45 rfl (Q9s hm8) rfl (Q9r hm8) (Q9q hm8) rfl),alm (c:=Qac) (l:=p0.Elements) (aln rfl Tryz.underlying40 rfl),Qpt rfl Tryz.underlying32 te82 tz82 rfl (Q9s hm9) rfl (Q9r hm9) (Q9q hm9) (Q7l Qa7 rfl),Qas (first:=[]) (cap:=[]) (vs:=[(Qn3 p1)]) (σr:=[]) (σr':=[(Q9x p1)]) (res':=(.own 5 1 (0) (p1.length))) [5] rfl Zh5 (Qkg N p1 _ hf10) rfl (Qbr (rnc (pld Qag) rn0)) Qar (slc (Qa8 Qag) Qar) (Qc7 rfl) rfl rfl rfl,Qax (vs:=[(.own 3 1 (0) ((p0.Elements.length:Int).toNat)),(.own 4 4 (0) ((p0.Elements.length:Int).toNat)),(.own 5 1 (0) (p1.length))]) rfl ts34 tz34 rfl (by rfl) rfl,Qax (vs:=[(Q5u p0),(Ze7 p0 p1),(Qnb p2)]) rfl Zks Zjp rfl (by rfl) rfl,trivial⟩<|thn ?_
  refine Q4y (k:=6) [(1,1),(2,1)] hd0 (fun n hn=>hφ0 n (Nat.le_trans (nle rfl) hn)) Zh4 rfl rfl (by kernel_rfl) (by kernel_rfl) (by kernel_rfl) Qpj (fun φ1 w1 hφ1 hd1=>?_)
  obtain ⟨k16,hk_k16,h⟩:=jko h
  refine wjn (τ:=(List (List GStream))×(List GLost)×(List Int)×Int) (fun t=>k16 t=some r) (fun ⟨y12,y13,y14,y15⟩=>⟨mk 45 [(6,.ref 1 1 0 0),(7,.ref 2 1 0 0)],[(Q3f p0),Qpx,(.own 1 [[I 0]]),(Qyr y12),(Qyq y13),(.own 1 ((y14:List Int).map Qak)),(Qyp p0 p1 p2 y15)]⟩) (fun t h=>?_) ?_
  ·subst hk_k16
   obtain ⟨y12,y13,y14,y15⟩:=t
   refine wxz<|Qaf ?_
   obtain rfl:=osi h
   exact ⟨_,(mto (n:=45) (l':=[(6,.ref 0 1 0 0),(7,.ref 1 1 0 0)]) (own':=[(.own 1 [[.ref 2 7 0 0]]),(.own 1 [[(I ((-1)))]]),(Qyp p0 p1 p2 y15),(Qyr y12),(Qyq y13),(.own 1 ((y14:List Int).map Qak))]) [(6,.ref 1 1 0 0),(7,.ref 2 1 0 0)] [1,2,6,3,4,5] [Qpx,(.own 1 [[(I ((-1)))]]),(Qyp p0 p1 p2 y15),(Qyr y12),(Qyq y13),(.own 1 ((y14:List Int).map Qak))] hφ0 (pc (.rn (rqr rfl)) (pc (.rn (rqr rfl)) pn)) (qc (spb (lc (.rn (rqr rfl)) ln)) (qc (spb (lc rwl ln)) (qc (spb (lc (rnd Qai) (lc (rnd Qaa) (lc (.rn (Qbb rfl)) (lc (.rn (Qbb rfl)) (lc (.rn (Qbb rfl)) (lc (rnd Qad) (lc rwl ln)))))))) (qc (spr Qap) (qc (spr Qa1) (qc (spr Qag) qn))))))),Qkn (vs:=[.ref 2 7 0 0,I (-1)]) ⟨Qcd (n:=0) (m:=1) (j:=0) (i:=0) (xs:=[[.ref 2 7 0 0]]) (by kernel_rfl) (by kernel_rfl) Qs2 (by decide) rfl (nle rfl) rfl,Qcd (n:=1) (m:=1) (j:=0) (i:=0) (xs:=[[I (-1)]]) (by kernel_rfl) (by kernel_rfl) ti3 (by decide) rfl (nle rfl) rfl,trivial⟩ rfl (NLt.tup _ (nlc (NLt.ref _ _ _ _ (by decide)) (nlc (NLt.of0 nll) nl0))) (by kernel_rfl) (Qao (Qbd (nlc (NLt.ref _ _ _ _ (by decide)) nl0)) (Qao (Qbd (nlc (NLt.of0 nll) nl0)) (Qao (Qbd (nlc (NLt.of0 (nld Qai _)) (nlc (NLt.of0 (nld Qaa _)) (nlc (NLt.own _ _ _ _ (by decide)) (nlc (NLt.own _ _ _ _ (by decide)) (nlc (NLt.own _ _ _ _ (by decide)) (nlc (NLt.of0 (nld Qad _)) (nlc (NLt.of0 nll) nl0)))))))) (Qao (Qcj Qap _) (Qao (Qcj Qa1 _) (Qao (Qcj Qag _) Qbt))))))⟩
  ·skip
   refine wx tbk [(2,rp [(.tmp 27,(Qnj p0))] (I ((p0.Elements.length:Int))))] ⟨alm (c:=Qac) (l:=p0.Elements) (aln rfl Tryz.underlying40 rfl),trivial⟩<|Qal ?_
   refine wmr (mto (n:=45) (l':=[(1,(Qn3 p1)),(6,.ref 1 1 0 0),(7,.ref 2 1 0 0),(27,(Qnj p0)),(28,(I ((p0.Elements.length:Int)))),(29,I 0)]) (own':=[(Q3f p0),Qpx,(.own 1 [[I 0]]),(.own 1 (((List.replicate (p0.Elements.length:Int).toNat ([])):List (List GStream)).map Qaj)),(.own 4 (((List.replicate (p0.Elements.length:Int).toNat (⟨0,0,0,0⟩:GLost)):List GLost).map Qa7)),(Q9x p1),(Zdu p0 p1 p2)]) [(1,(Qn3 p1)),(6,.ref 1 1 0 0),(7,.ref 2 1 0 0),(27,(Qnj p0)),(28,(I ((p0.Elements.length:Int)))),(29,I 0)] [0,1,2,3,4,5,6] [(Q3f p0),Qpx,(.own 1 [[I 0]]),(Zi1 p0),(Zi0 p0),(Q9x p1),(Zdu p0 p1 p2)] hφ1 (pc (rnd Qag) (pc (.rn (rqr rfl)) (pc (.rn (rqr rfl)) (pc (rnd Qaa) (pc rwl (pc rwl pn)))))) (qc (spb (lc (rnd Qai) (lc (rnd Qaa) ln))) (qc (spb (lc (.rn (rqr rfl)) ln)) (qc (spb (lc rwl ln)) (qc (spr Qap) (qc (spr Qa1) (qc (spr Qag) (qc (spb (lc (rnd Qai) (lc (rnd Qaa) (lc (.rn (Qbb rfl)) (lc (.rn (Qbb rfl)) (lc (.rn (Qbb rfl)) (lc (rnd Qad) (lc rwl ln)))))))) qn)))))))) ?_
   refine Qcb (τ:=Int×(List (List GStream))×(List GLost)×(List Int)×Int) (fun n t=>Qdh N p0 p1 p2 k16 n t.1 t.2.1 t.2.2.1 t.2.2.2.1 t.2.2.2.2=some r) (fun ⟨y17,y18,y19,y20,y21⟩=>⟨mk 45 [(1,(Qn3 p1)),(6,.ref 1 1 0 0),(7,.ref 2 1 0 0),(27,(Qnj p0)),(28,(I ((p0.Elements.length:Int)))),(29,I y17)],[(Q3f p0),Qpx,(.own 1 [[I 0]]),(Qo7 y18),(Qo6 y19),(Qo5 y20),(Qo8 p0 p1 p2 y21)]⟩) (fun t h=>by rw [Qdh] at h; cases h) (fun n27 ih t h=>?_) N (0,List.replicate (p0.Elements.length:Int).toNat ([]),List.replicate (p0.Elements.length:Int).toNat (⟨0,0,0,0⟩:GLost),p1,0) h
   obtain ⟨y17,y18,y19,y20,y21⟩:=t
   rw [Qdh] at h
   skip
   refine wxz<|wsq ?_
   refine bfe h (fun hc28 h=>?_) fun hc28 h=>?_
   ·refine wft hc28<|Qan<|thn<|wsq<|Qal ?_
    obtain ⟨x29,hg30,h⟩:=bno h
    obtain ⟨hi31,hj32⟩:=gsm hg30
    refine wx tbk [(1,rp [(.tmp 27,(Qnj p0)),(.tmp 29,I y17)] (.dptr (Qac (x29)) 0))] ⟨aid rfl Tryz.underlying40 Qip rfl rfl hi31 (mgt Qac hj32) rfl,trivial⟩ ?_
    obtain ⟨x33,hg34,h⟩:=bno h
    obtain ⟨hi35,hj36⟩:=gsm hg34
    obtain ⟨x38,hf37,h⟩:=bno h
    obtain ⟨x40,hf39,h⟩:=bno h
    rcases x40 with x41 | x42
    ·replace h:=Zg2 h
     refine wy1 tbk [(5,rp [(.tmp 37,(Qn3 p1)),(.tmp 38,I y17)] (.dptr (Qak (x33)) 0)),(7,rp [fu 74,(.tmp 36,(Qni x29)),(.tmp 40,I x33)] (I x38)),(8,⟨[fu 97,(.tmp 34,.ref 6 7 0 0),(.tmp 35,I y17),(.tmp 41,I x38)],[(6,(Qo8 p0 p1 p2 y21)),(3,(Qo7 y18)),(4,(Qo6 y19)),(5,(Qo5 y20))],(.tup []),[(6,(Qyo p0 p1 p2 x41)),(3,(.own 1 ((x41.2.1:List (List GStream)).map Qaj))),(4,(.own 4 ((x41.2.2.1:List GLost).map Qa7))),(5,(.own 1 ((x41.2.2.2:List Int).map Qak)))],false⟩)] ⟨aid rfl Tryz.underlying27 ti3 rfl rfl hi35 (mgt Qak hj36) rfl,apc (first:=[]) (cap:=[]) (vs:=[(Qni x29),I x33]) rfl Q0a (Qgq N x29 x33 _ hf37) rfl rfl (nlc (NLt.agg _ (nlc nll (nlc (nld Qa4 _) (nlcc (nlcc (nlc (nld Qag _) nl0)))))) (nlc nll nl0)) nll rfl,Qas (first:=[]) (cap:=[]) (vs:=[.ref 6 7 0 0,I y17,I x38]) (σr:=[(Qo8 p0 p1 p2 y21),(Qo7 y18),(Qo6 y19),(Qo5 y20)]) (σr':=[(Qyo p0 p1 p2 x41),(.own 1 ((x41.2.1:List (List GStream)).map Qaj)),(.own 4 ((x41.2.2.1:List GLost).map Qa7)),(.own 1 ((x41.2.2.2:List Int).map Qak))]) (res':=(.tup [])) [6,3,4,5] rfl Q8o (Qk4 N y17 x38 p0.Table p0.Elements ((p0.Elements.length:Int).toNat) ((p0.Elements.length:Int).toNat) p1.length p2 y21 y18 y19 y20 _ hf39) rfl (Qbr (rnc (Qbj rfl) (rncc rn0))) (slc (Qaq (rnc (pld Qai) (rnc (pld Qaa) (rnc (Qc6 rfl) (rnc (Qc6 rfl) (rnc (Qc6 rfl) (rnc (pld Qad) (rnc (.plain _ nll) rn0)))))))) (slc (Qa8 Qap) (slc (Qa8 Qa1) (slc (Qa8 Qag) Qar)))) (slc (Qaq (rnc (pld Qai) (rnc (pld Qaa) (rnc (Qc7 rfl) (rnc (Qc7 rfl) (rnc (Qc7 rfl) (rnc (pld Qad) (rnc (.plain _ nll) rn0)))))))) (slc (Qa8 Qap) (slc (Qa8 Qa1) (slc (Qa8 Qag) Qar)))) (.plain _ (NLt.tup _ nl0)) rfl rfl rfl,trivial⟩<|bln<|thn<|wxz1<|thn ?_
     exact arm (mto (n:=45) [(1,(Qn3 p1)),(6,.ref 1 1 0 0),(7,.ref 2 1 0 0),(27,(Qnj p0)),(28,(I ((p0.Elements.length:Int)))),(29,(I (w64 (y17+1))))] [0,1,2,3,4,5,6] [(Q3f p0),Qpx,(.own 1 [[I 0]]),(.own 1 ((x41.2.1:List (List GStream)).map Qaj)),(.own 4 ((x41.2.2.1:List GLost).map Qa7)),(.own 1 ((x41.2.2.2:List Int).map Qak)),(Qyo p0 p1 p2 x41)] hφ1 (pc (rnd Qag) (pc (.rn (rqr rfl)) (pc (.rn (rqr rfl)) (pc (rnd Qaa) (pc rwl (pc rwl pn)))))) (qc (spb (lc (rnd Qai) (lc (rnd Qaa) ln))) (qc (spb (lc (.rn (rqr rfl)) ln)) (qc (spb (lc rwl ln)) (qc (spr Qap) (qc (spr Qa1) (qc (spr Qag) (qc (spb (lc (rnd Qai) (lc (rnd Qaa) (lc (.rn (Qbb rfl)) (lc (.rn (Qbb rfl)) (lc (.rn (Qbb rfl)) (lc (rnd Qad) (lc rwl ln)))))))) qn)))))))) (ih (w64 (y17+1),x41.2.1,x41.2.2.1,x41.2.2.2,x41.1) h)
    ·replace h:=Zg1 h
     refine Q9b 8 [rb [(.tmp 6,.ref 1 1 0 0)] [(1,Qpx)] (.ref 6 7 0 0),mv 8 (I y17),rb [(.tmp 9,.ref 7 7 0 0)] [(7,(.own 7 [[(K .u8 (x29.Kind)),(.dat 2 ((x29.From:List GPort).map Qat)),I x29.Level,I x29.Amount,I x29.Wide,I x29.Narrow,(.dat 1 ((x29.Weights:List Int).map Qak))]]))] (Qni x29),mv 1 (Qn3 p1),mv 8 (I y17),rp [(.tmp 37,(Qn3 p1)),(.tmp 38,I y17)] (.dptr (Qak (x33)) 0),rp [(.tmp 39,(.dptr (Qak (x33)) 0))] (I x33),rp [fu 74,(.tmp 36,(Qni x29)),(.tmp 40,I x33)] (I x38),⟨[fu 97,(.tmp 34,.ref 6 7 0 0),(.tmp 35,I y17),(.tmp 41,I x38),(.tmp 36,(Qni x29)),(.tmp 37,(Qn3 p1)),(.tmp 38,I y17),(.tmp 39,(.dptr (Qak (x33)) 0)),(.tmp 40,I x33)],[(6,(Qo8 p0 p1 p2 y21)),(3,(Qo7 y18)),(4,(Qo6 y19)),(5,(Qo5 y20))],.any,[(6,.dead),(3,.dead),(4,.dead),(5,.dead)],false⟩] (by exact ⟨by kernel_rfl,by kernel_rfl⟩) rfl (by kernel_rfl) rfl (PStep.to (by rfl) (PStep.more (rd':=[(.tmp 36,(Qni x29)),(.tmp 37,(Qn3 p1)),(.tmp 38,I y17),(.tmp 39,(.dptr (Qak (x33)) 0)),(.tmp 40,I x33)]) (Qzq (first:=[]) (cap:=[]) (vs:=[.ref 6 7 0 0,I y17,I x38]) (σr:=[(Qo8 p0 p1 p2 y21),(Qo7 y18),(Qo6 y19),(Qo5 y20)]) [6,3,4,5] rfl Q8o (Qk3 N y17 x38 p0.Table p0.Elements ((p0.Elements.length:Int).toNat) ((p0.Elements.length:Int).toNat) p1.length p2 y21 y18 y19 y20 _ hf39) rfl (Qbr (rnc (Qbj rfl) (rncc rn0))) (slc (Qaq (rnc (pld Qai) (rnc (pld Qaa) (rnc (Qc6 rfl) (rnc (Qc6 rfl) (rnc (Qc6 rfl) (rnc (pld Qad) (rnc (.plain _ nll) rn0)))))))) (slc (Qa8 Qap) (slc (Qa8 Qa1) (slc (Qa8 Qag) Qar)))) rfl rfl rfl))) (⟨fun _ _=>ald rfl Qs2 (by decide) rfl (nle rfl) rfl,fun _ _=>amv rfl,fun _ _=>ald rfl Qip (by decide) rfl (nle rfl) rfl,fun _ _=>amv rfl,fun _ _=>amv rfl,fun _ _=>aid rfl Tryz.underlying27 ti3 rfl rfl hi35 (mgt Qak hj36) rfl,fun _ _=>ald_ rfl ti3 (by decide) (nle rfl) rfl,fun _ _=>apc (first:=[]) (cap:=[]) (vs:=[(Qni x29),I x33]) rfl Q0a (Qgq N x29 x33 _ hf37) rfl rfl (nlc (NLt.agg _ (nlc nll (nlc (nld Qa4 _) (nlcc (nlcc (nlc (nld Qag _) nl0)))))) (nlc nll nl0)) nll rfl,fun _ h=>absurd rfl h,trivial⟩) ?_ (by kernel_rfl) (by kernel_rfl) (by kernel_rfl)
     obtain rfl:=osi h
     exact ⟨_,[[(.lit (.pointer none))],[I x42]],rfl,(Qok x42),(Q2b (nlc nll nl0) (Q2b (nlc nll nl0) Zhg)),by kernel_rfl,_,(mto (n:=45) (l':=[(6,.ref 0 1 0 0),(7,.ref 1 1 0 0)]) (own':=[Zi2,(.own 1 [[I x42]])]) [(6,.ref 1 1 0 0),(7,.ref 2 1 0 0)] [1,2] [Zi2,(.own 1 [[I x42]])] hφ0 (pc (.rn (rqr rfl)) (pc (.rn (rqr rfl)) pn)) (qc (spb (lc rwl ln)) (qc (spb (lc rwl ln)) qn))),Qkn (vs:=[(.lit (.pointer none)),I x42]) ⟨Qcd (n:=0) (m:=1) (j:=0) (i:=0) (xs:=[[(.lit (.pointer none))]]) (by kernel_rfl) (by kernel_rfl) Qs2 (by decide) rfl (nle rfl) rfl,Qcd (n:=1) (m:=1) (j:=0) (i:=0) (xs:=[[I x42]]) (by kernel_rfl) (by kernel_rfl) ti3 (by decide) rfl (nle rfl) rfl,trivial⟩ rfl (NLt.tup _ (nlc (NLt.of0 nll) (nlc (NLt.of0 nll) nl0))) (by kernel_rfl) (Qao (Qbd (nlc (NLt.of0 nll) nl0)) (Qao (Qbd (nlc (NLt.of0 nll) nl0)) Qbt))⟩
   ·exact wfn hc28<|Qbl<|Qay<|Qay<|Qbk rfl<|thn<|⟨(y18,y19,y20,y21),h,(mto (n:=45) [(6,.ref 1 1 0 0),(7,.ref 2 1 0 0)] [0,1,2,3,4,5,6] [(Q3f p0),Qpx,(.own 1 [[I 0]]),(Qo7 y18),(Qo6 y19),(Qo5 y20),(Qo8 p0 p1 p2 y21)] hφ1 (pc (.rn (rqr rfl)) (pc (.rn (rqr rfl)) pn)) (qc (spb (lc (rnd Qai) (lc (rnd Qaa) ln))) (qc (spb (lc (.rn (rqr rfl)) ln)) (qc (spb (lc rwl ln)) (qc (spr Qap) (qc (spr Qa1) (qc (spr Qag) (qc (spb (lc (rnd Qai) (lc (rnd Qaa) (lc (.rn (Qbb rfl)) (lc (.rn (Qbb rfl)) (lc (.rn (Qbb rfl)) (lc (rnd Qad) (lc rwl ln)))))))) qn))))))))⟩
theorem Qkl (N:Nat) (p0:GNet) (p1:(List Int)) (p2:(List GStream)) (r:Int) (h:Qe4 N p0 p1 p2=some (.inl r)):Spec Tryz.prog 58 [(Q5u p0),(Qn3 p1),(Qnb p2)] [] (.tup [(.lit (.pointer none)),I r]) [(.own 1 [[(.lit (.pointer none))]]),(.own 1 [[I r]])]:=Qk5 N p0 p1 p2 _ h
theorem Qkk (N:Nat) (p0:GNet) (p1:(List Int)) (p2:(List GStream)) (r:(Int×Int×(List (List GStream))×(List GLost)×(List Int))) (h:Qe4 N p0 p1 p2=some (.inr r)):Spec Tryz.prog 58 [(Q5u p0),(Qn3 p1),(Qnb p2)] [] (.tup [.ref 2 7 0 0,I r.1]) [(.own 1 [[.ref 2 7 0 0]]),(.own 1 [[I r.1]]),(.own 7 [[(.dat 5 ((p0.Table:List GRow).map Qaw)),(.dat 7 ((p0.Elements:List GElement).map Qac)),(.own 3 1 (0) ((p0.Elements.length:Int).toNat)),(.own 4 4 (0) ((p0.Elements.length:Int).toNat)),(.own 5 1 (0) (p1.length)),(.dat 4 ((p2:List GStream).map Qab)),I r.2.1]]),(.own 1 ((r.2.2.1:List (List GStream)).map Qaj)),(.own 4 ((r.2.2.2.1:List GLost).map Qa7)),(.own 1 ((r.2.2.2.2:List Int).map Qak))]:=Qk5 N p0 p1 p2 _ h
def Qkm (N:Nat) (p0:GNet) (p1:(List Int)) (p2:(List GStream)):Option (GTick×Int×Int):=
  (Qic N p0 p1 p2).bind fun x11=>
  bif (x11 != 0) then
   some ((⟨[],[],[]⟩:GTick),0,x11)
  else
   (Qe4 N p0 p1 p2).bind (
    Sum.elim (fun x15=>
      bif (decide (x15≥0)) then
       some ((⟨[],[],[]⟩:GTick),x15,11)
      else
       none)
    (fun x17=>
      bif (decide (x17.1≥0)) then
       some ((⟨[],[],[]⟩:GTick),x17.1,11)
      else
       chk (decide ((p0.Elements.length:Int).toNat≤x17.2.2.1.length))<|
       chk (decide ((p0.Elements.length:Int).toNat≤x17.2.2.2.1.length))<|
       chk (decide (p1.length≤x17.2.2.2.2.length))<|
       some ((⟨x17.2.2.1.take ((p0.Elements.length:Int).toNat),x17.2.2.2.1.take ((p0.Elements.length:Int).toNat),x17.2.2.2.2.take p1.length⟩:GTick),0,0)))
def Zfc (p0:GNet):AV:=.dat 5 ((p0.Table:List GRow).map Qaw)
def Zfb (p0:GNet):AV:=.dat 7 ((p0.Elements:List GElement).map Qac)
def Q3h (p0:GNet):AV:=.agg [(Zfc p0),(Zfb p0)]
def Q3g (p1:(List Int)):AV:=.dat 1 ((p1:List Int).map Qak)
def Qyt (p2:(List GStream)):AV:=.dat 4 ((p2:List GStream).map Qab)
def Ze8:AV:=.agg [nilS,nilS,nilS]
def Q5x:Slot:=.own 3 [[(.dat 1 ((((⟨[],[],[]⟩:GTick).Out):List (List GStream)).map Qaj)),(.dat 4 ((((⟨[],[],[]⟩:GTick).Lost):List GLost).map Qa7)),(.dat 1 ((((⟨[],[],[]⟩:GTick).State):List Int).map Qak))]]
def Ze9:Slot:=.own 3 [[nilS,nilS,nilS]]
def Q03:AV:=.dat 1 (((⟨[],[],[]⟩:GTick).Out:List (List GStream)).map Qaj)
def Q02:AV:=.dat 4 (((⟨[],[],[]⟩:GTick).Lost:List GLost).map Qa7)
def Q01:AV:=.dat 1 (((⟨[],[],[]⟩:GTick).State:List Int).map Qak)
def Q5w:AV:=.agg [Q03,Q02,Q01]
def Zi3:Slot:=.own 1 [[(.lit (.pointer none))]]
def Q5v:Slot:=.own 1 [[(.ref 4 7 (0) 0)]]
def Qtc (p0:GNet) (p1:(List Int)) (p2:(List GStream)) (x17:(Int×Int×(List (List GStream))×(List GLost)×(List Int))):Slot:=.own 7 [[(Zfc p0),(Zfb p0),(.own 5 1 (0) ((p0.Elements.length:Int).toNat)),(.own 6 4 (0) ((p0.Elements.length:Int).toNat)),(.own 7 1 (0) (p1.length)),(Qyt p2),(I (x17.2.1))]]
def Qn4 (x17:(Int×Int×(List (List GStream))×(List GLost)×(List Int))) (p0:GNet):AV:=.dat 1 ((x17.2.2.1.take ((p0.Elements.length:Int).toNat):List (List GStream)).map Qaj)
def Zfa (p0:GNet):Slot:=.own 2 [[(Zfc p0),(Zfb p0)]]
def Qtb (x17:(Int×Int×(List (List GStream))×(List GLost)×(List Int))) (p0:GNet):AV:=.dat 4 ((x17.2.2.2.1.take ((p0.Elements.length:Int).toNat):List GLost).map Qa7)
def Zdx (x17:(Int×Int×(List (List GStream))×(List GLost)×(List Int))) (p0:GNet) (p1:(List Int)):AV:=.dat 1 (((⟨x17.2.2.1.take ((p0.Elements.length:Int).toNat),x17.2.2.2.1.take ((p0.Elements.length:Int).toNat),x17.2.2.2.2.take p1.length⟩:GTick).Out:List (List GStream)).map Qaj)
def Zdw (x17:(Int×Int×(List (List GStream))×(List GLost)×(List Int))) (p0:GNet) (p1:(List Int)):AV:=.dat 4 (((⟨x17.2.2.1.take ((p0.Elements.length:Int).toNat),x17.2.2.2.1.take ((p0.Elements.length:Int).toNat),x17.2.2.2.2.take p1.length⟩:GTick).Lost:List GLost).map Qa7)
def Zdv (x17:(Int×Int×(List (List GStream))×(List GLost)×(List Int))) (p0:GNet) (p1:(List Int)):AV:=.dat 1 (((⟨x17.2.2.1.take ((p0.Elements.length:Int).toNat),x17.2.2.2.1.take ((p0.Elements.length:Int).toNat),x17.2.2.2.2.take p1.length⟩:GTick).State:List Int).map Qak)
theorem Qnu (N:Nat) (p0:GNet) (p1:(List Int)) (p2:(List GStream)) (r:(GTick×Int×Int)) (h:Qkm N p0 p1 p2=some r):Spec Tryz.prog 16 [(.agg (Qhn p0)),(.dat 1 (p1.map Qak)),(.dat 4 (p2.map Qab))] [] (.tup [(.agg [(.dat 1 ((r.1.Out:List (List GStream)).map Qaj)),(.dat 4 ((r.1.Lost:List GLost).map Qa7)),(.dat 1 ((r.1.State:List Int).map Qak))]),(I (r.2.1)),(I (r.2.2))]) []:=by
  refine Qah Tryz.func16 rfl 0 (nle rfl) (fun X φ0 w0 hφ0 hd0=>?_)
  unfold Qkm at h
  refine Qbx<|wxz<|wsq ?_
  obtain ⟨x11,hf10,h⟩:=bno h
  refine wx tbk [(3,rp [fu 57,(.tmp 12,(Q3h p0)),(.tmp 13,(Q3g p1)),(.tmp 14,(Qyt p2))] (I x11))] ⟨apc (first:=[]) (cap:=[]) (vs:=[(Q3h p0),(Q3g p1),(Qyt p2)]) rfl Q8r (Qne N p0 p1 p2 _ hf10) rfl rfl (nlc (NLt.agg _ (nlc (nld Qai _) (nlc (nld Qaa _) nl0))) (nlc (nld Qag _) (nlc (nld Qad _) nl0))) nll rfl,trivial⟩<|wxz ?_
  refine bfe h (fun hc12 h=>?_) fun hc12 h=>?_
  ·refine wft hc12<|wx tbk [(0,rp [] Ze8)] ⟨Qax (vs:=[]) rfl ts34 tz34 rfl (by rfl) rfl,trivial⟩ ?_
   refine wmr (mto (n:=35) (l':=[(6,.ref 0 3 0 0),(7,I 0),(8,I x11)]) (own':=[Q5x]) [(6,.ref 1 3 0 0),(7,I 0),(8,I x11)] [1] [Ze9] hφ0 (pc (.rn (rqr rfl)) (pc rwl (pc rwl pn))) (qc (spb (lc (.nil _) (lc (.nil _) (lc (.nil _) ln)))) qn))<|Qaf<|Qae ?_
   obtain rfl:=osi h
   exact ⟨_,Mor.rfl,⟨⟨[Q5w,I 0,I x11],⟨Qcd (n:=0) (m:=3) (j:=0) (i:=0) (xs:=[[Q03,Q02,Q01]]) (by kernel_rfl) (by kernel_rfl) ti34 (by decide) rfl (nle rfl) rfl,rot,rot,trivial⟩,rfl⟩,(NLt.tup _ (nlc (NLt.agg _ (nlc (nld Qap _) (nlc (nld Qa1 _) (nlc (nld Qag _) nl0)))) (nlcc nl0))),Nat.le_refl _,fun n hn=>absurd hn (Nat.not_lt_zero n)⟩⟩
  ·refine wfn hc12<|Qan<|thn ?_
   obtain ⟨x14,hf13,h⟩:=bno h
   rcases x14 with x15 | x17
   ·replace h:=Zg2 h
    refine wx tbk [(3,⟨[fu 58,(.tmp 21,(Q3h p0)),(.tmp 22,(Q3g p1)),(.tmp 23,(Qyt p2))],[(2,.unused),(3,.unused)],(.tup [(.lit (.pointer none)),I x15]),[(2,Zi3),(3,.own 1 [[I x15]])],false⟩)] ⟨Qas (first:=[]) (cap:=[]) (vs:=[(Q3h p0),(Q3g p1),(Qyt p2)]) (σr:=[]) (σr':=[Zi3,(.own 1 [[I x15]])]) (res':=(.tup [(.lit (.pointer none)),I x15])) [2,3] rfl Qvn (Qkl N p0 p1 p2 _ hf13) rfl (Qbr (rnc (.plain _ (NLt.agg _ (nlc (nld Qai _) (nlc (nld Qaa _) nl0)))) (rnc (pld Qag) (rnc (pld Qad) rn0)))) Qar (slc (Qaq (rnc (.plain _ nll) rn0)) (slc (Qaq (rnc (.plain _ nll) rn0)) Qar)) (.plain _ (NLt.tup _ (nlcc nl0))) rfl rfl rfl,trivial⟩<|wsq<|wxz ?_
    refine bfe h (fun hc16 h=>?_) fun hc16 h=>?_
    ·refine wft hc16<|wx tbk [(0,rp [] Ze8)] ⟨Qax (vs:=[]) rfl ts34 tz34 rfl (by rfl) rfl,trivial⟩ ?_
     refine wmr (mto (n:=35) (l':=[(6,.ref 0 3 0 0),(7,I x15),(8,I 11)]) (own':=[Q5x]) [(6,.ref 1 3 0 0),(7,I x15),(8,I 11)] [1] [Ze9] hφ0 (pc (.rn (rqr rfl)) (pc rwl (pc rwl pn))) (qc (spb (lc (.nil _) (lc (.nil _) (lc (.nil _) ln)))) qn))<|Qaf<|Qae ?_
     obtain rfl:=osi h
     exact ⟨_,Mor.rfl,⟨⟨[Q5w,I x15,I 11],⟨Qcd (n:=0) (m:=3) (j:=0) (i:=0) (xs:=[[Q03,Q02,Q01]]) (by kernel_rfl) (by kernel_rfl) ti34 (by decide) rfl (nle rfl) rfl,rot,rot,trivial⟩,rfl⟩,(NLt.tup _ (nlc (NLt.agg _ (nlc (nld Qap _) (nlc (nld Qa1 _) (nlc (nld Qag _) nl0)))) (nlcc nl0))),Nat.le_refl _,fun n hn=>absurd hn (Nat.not_lt_zero n)⟩⟩
    ·refine wfn hc16<|Qan<|thn ?_
     cases h
   ·replace h:=Zg1 h
    refine wx tbk [(3,⟨[fu 58,(.tmp 21,(Q3h p0)),(.tmp 22,(Q3g p1)),(.tmp 23,(Qyt p2))],[(2,.unused),(3,.unused),(4,.unused),(5,.unused),(6,.unused),(7,.unused)],(.tup [.ref 4 7 0 0,I x17.1]),[(2,Q5v),(3,.own 1 [[I x17.1]]),(4,(Qtc p0 p1 p2 x17)),(5,(.own 1 ((x17.2.2.1:List (List GStream)).map Qaj))),(6,(.own 4 ((x17.2.2.2.1:List GLost).map Qa7))),(7,(.own 1 ((x17.2.2.2.2:List Int).map Qak)))],false⟩)] ⟨Qas (first:=[]) (cap:=[]) (vs:=[(Q3h p0),(Q3g p1),(Qyt p2)]) (σr:=[]) (σr':=[Q5v,(.own 1 [[I x17.1]]),(Qtc p0 p1 p2 x17),(.own 1 ((x17.2.2.1:List (List GStream)).map Qaj)),(.own 4 ((x17.2.2.2.1:List GLost).map Qa7)),(.own 1 ((x17.2.2.2.2:List Int).map Qak))]) (res':=(.tup [.ref 4 7 0 0,I x17.1])) [2,3,4,5,6,7] rfl Qvn (Qkk N p0 p1 p2 _ hf13) rfl (Qbr (rnc (.plain _ (NLt.agg _ (nlc (nld Qai _) (nlc (nld Qaa _) nl0)))) (rnc (pld Qag) (rnc (pld Qad) rn0)))) Qar (slc (Qaq (rnc (Qbo rfl) rn0)) (slc (Qaq (rnc (.plain _ nll) rn0)) (slc (Qaq (rnc (pld Qai) (rnc (pld Qaa) (rnc (Qc7 rfl) (rnc (Qc7 rfl) (rnc (Qc7 rfl) (rnc (pld Qad) (rnc (.plain _ nll) rn0)))))))) (slc (Qa8 Qap) (slc (Qa8 Qa1) (slc (Qa8 Qag) Qar)))))) (Zei (rnc (Qbo rfl) (rnc (.plain _ nll) rn0))) rfl rfl rfl,trivial⟩<|wsq<|wxz ?_
    refine bfe h (fun hc18 h=>?_) fun hc18 h=>?_
    ·refine wft hc18<|wx tbk [(0,rp [] Ze8)] ⟨Qax (vs:=[]) rfl ts34 tz34 rfl (by rfl) rfl,trivial⟩ ?_
     refine wmr (mto (n:=35) (l':=[(6,.ref 0 3 0 0),(7,I x17.1),(8,I 11)]) (own':=[Q5x]) [(6,.ref 1 3 0 0),(7,I x17.1),(8,I 11)] [1] [Ze9] hφ0 (pc (.rn (rqr rfl)) (pc rwl (pc rwl pn))) (qc (spb (lc (.nil _) (lc (.nil _) (lc (.nil _) ln)))) qn))<|Qaf<|Qae ?_
     obtain rfl:=osi h
     exact ⟨_,Mor.rfl,⟨⟨[Q5w,I x17.1,I 11],⟨Qcd (n:=0) (m:=3) (j:=0) (i:=0) (xs:=[[Q03,Q02,Q01]]) (by kernel_rfl) (by kernel_rfl) ti34 (by decide) rfl (nle rfl) rfl,rot,rot,trivial⟩,rfl⟩,(NLt.tup _ (nlc (NLt.agg _ (nlc (nld Qap _) (nlc (nld Qa1 _) (nlc (nld Qag _) nl0)))) (nlcc nl0))),Nat.le_refl _,fun n hn=>absurd hn (Nat.not_lt_zero n)⟩⟩
    ·refine wfn hc18<|Qan<|thn ?_
     refine wx tbk [(1,rb [(.tmp 31,.ref 4 7 0 0)] [(4,(Qtc p0 p1 p2 x17))] (.ref 4 7 0 0))] ⟨Qba rfl,trivial⟩ ?_
     obtain ⟨hz19,h⟩:=cko h
     refine wmr (Qzy (n:=35) (mp:=3) (m:=1) (xs:=(x17.2.2.1:List (List GStream)).map Qaj) (c:=[(.own 5 1 (0) ((p0.Elements.length:Int).toNat)),(.own 6 4 (0) ((p0.Elements.length:Int).toNat)),(.own 7 1 (0) (p1.length))]) (l':=[(6,.ref 1 3 0 0),(7,I 0),(8,I 0)]) (c':=[(Qn4 x17 p0),(.own 6 4 (0) ((p0.Elements.length:Int).toNat)),(.own 7 1 (0) (p1.length))]) (own':=[(Zfa p0),(.own 3 [[(Qn4 x17 p0),(.own 6 4 (0) ((p0.Elements.length:Int).toNat)),(.own 7 1 (0) (p1.length))]]),Q5v,(.own 1 [[I x17.1]]),(Qtc p0 p1 p2 x17),.dead,(.own 4 ((x17.2.2.2.1:List GLost).map Qa7)),(.own 1 ((x17.2.2.2.2:List Int).map Qak))]) 5 1 [(6,.ref 1 3 0 0),(7,I 0),(8,I 0)] (by kernel_rfl) (by kernel_rfl) (by kernel_rfl) (by kernel_rfl) ⟨(Qpo hz19),(.same _),(.same _),trivial⟩ ⟨rfl,(.same _),rfl,(.same _),rfl,(.same _),trivial⟩ (by kernel_rfl)) ?_
     obtain ⟨hz20,h⟩:=cko h
     refine wmr (Qzy (n:=35) (mp:=3) (m:=4) (xs:=(x17.2.2.2.1:List GLost).map Qa7) (c:=[(Qn4 x17 p0),(.own 6 4 (0) ((p0.Elements.length:Int).toNat)),(.own 7 1 (0) (p1.length))]) (l':=[(6,.ref 1 3 0 0),(7,I 0),(8,I 0)]) (c':=[(Qn4 x17 p0),(Qtb x17 p0),(.own 7 1 (0) (p1.length))]) (own':=[(Zfa p0),(.own 3 [[(Qn4 x17 p0),(Qtb x17 p0),(.own 7 1 (0) (p1.length))]]),Q5v,(.own 1 [[I x17.1]]),(Qtc p0 p1 p2 x17),.dead,.dead,(.own 1 ((x17.2.2.2.2:List Int).map Qak))]) 6 1 [(6,.ref 1 3 0 0),(7,I 0),(8,I 0)] (by kernel_rfl) (by kernel_rfl) (by kernel_rfl) (by kernel_rfl) ⟨(.same _),(Qpo hz20),(.same _),trivial⟩ ⟨rfl,(.same _),rfl,(.same _),rfl,(.same _),trivial⟩ (by kernel_rfl)) ?_
     obtain ⟨hz21,h⟩:=cko h
     refine wmr (Qzy (n:=35) (mp:=3) (m:=1) (xs:=(x17.2.2.2.2:List Int).map Qak) (c:=[(Qn4 x17 p0),(Qtb x17 p0),(.own 7 1 (0) (p1.length))]) (l':=[(6,.ref 1 3 0 0),(7,I 0),(8,I 0)]) (c':=[(Qn4 x17 p0),(Qtb x17 p0),(.dat 1 ((x17.2.2.2.2.take p1.length:List Int).map Qak))]) (own':=[(Zfa p0),(.own 3 [[(Qn4 x17 p0),(Qtb x17 p0),(.dat 1 ((x17.2.2.2.2.take p1.length:List Int).map Qak))]]),Q5v,(.own 1 [[I x17.1]]),(Qtc p0 p1 p2 x17),.dead,.dead,.dead]) 7 1 [(6,.ref 1 3 0 0),(7,I 0),(8,I 0)] (by kernel_rfl) (by kernel_rfl) (by kernel_rfl) (by kernel_rfl) ⟨(.same _),(.same _),(Qpo hz21),trivial⟩ ⟨rfl,(.same _),rfl,(.same _),rfl,(.same _),trivial⟩ (by kernel_rfl)) ?_
     refine wmr (mto (n:=35) (l':=[(6,.ref 0 3 0 0),(7,I 0),(8,I 0)]) (own':=[(.own 3 [[(.dat 1 ((((⟨x17.2.2.1.take ((p0.Elements.length:Int).toNat),x17.2.2.2.1.take ((p0.Elements.length:Int).toNat),x17.2.2.2.2.take p1.length⟩:GTick).Out):List (List GStream)).map Qaj)),(.dat 4 ((((⟨x17.2.2.1.take ((p0.Elements.length:Int).toNat),x17.2.2.2.1.take ((p0.Elements.length:Int).toNat),x17.2.2.2.2.take p1.length⟩:GTick).Lost):List GLost).map Qa7)),(.dat 1 ((((⟨x17.2.2.1.take ((p0.Elements.length:Int).toNat),x17.2.2.2.1.take ((p0.Elements.length:Int).toNat),x17.2.2.2.2.take p1.length⟩:GTick).State):List Int).map Qak))]])]) [(6,.ref 1 3 0 0),(7,I 0),(8,I 0)] [1] [(.own 3 [[(Qn4 x17 p0),(Qtb x17 p0),(.dat 1 ((x17.2.2.2.2.take p1.length:List Int).map Qak))]])] hφ0 (pc (.rn (rqr rfl)) (pc rwl (pc rwl pn))) (qc (spb (lc (rnd Qap) (lc (rnd Qa1) (lc (rnd Qag) ln)))) qn))<|Qaf ?_
     obtain rfl:=osi h
     exact ⟨_,Mor.rfl,⟨⟨[(.agg [(Zdx x17 p0 p1),(Zdw x17 p0 p1),(Zdv x17 p0 p1)]),I 0,I 0],⟨Qcd (n:=0) (m:=3) (j:=0) (i:=0) (xs:=[[(Zdx x17 p0 p1),(Zdw x17 p0 p1),(Zdv x17 p0 p1)]]) (by kernel_rfl) (by kernel_rfl) ti34 (by decide) rfl (nle rfl) rfl,rot,rot,trivial⟩,rfl⟩,(NLt.tup _ (nlc (NLt.agg _ (nlc (nld Qap _) (nlc (nld Qa1 _) (nlc (nld Qag _) nl0)))) (nlcc nl0))),Nat.le_refl _,fun n hn=>absurd hn (Nat.not_lt_zero n)⟩⟩
def Qnw (_N:Nat):Option (GNet×(List GStream)):=
  some ((⟨[(⟨100,101,419,2676,150⟩:GRow),(⟨150,476,632,2746,300⟩:GRow),(⟨200,1555,852,2793,600⟩:GRow)],[(⟨1,[],2,0,1000,1000000,[]⟩:GElement),(⟨3,[(⟨0,0⟩:GPort)],2,2000,1000,1000000,[]⟩:GElement),(⟨4,[(⟨1,0⟩:GPort)],0,100,1000,1000000,[]⟩:GElement)]⟩:GNet),[(⟨1000,852000,250000,50⟩:GStream)])
def Ze4:AV:=.agg [(I (100)),(I (101)),(I (419)),(I (2676)),(I (150))]
def Ze3:AV:=.agg [(I (150)),(I (476)),(I (632)),(I (2746)),(I (300))]
def Ze2:AV:=.agg [(I (200)),(I (1555)),(I (852)),(I (2793)),(I (600))]
def Q3e:AV:=.dat 5 (([(⟨100,101,419,2676,150⟩:GRow),(⟨150,476,632,2746,300⟩:GRow),(⟨200,1555,852,2793,600⟩:GRow)]:List GRow).map Qaw)
def Ziz:AV:=.agg [(K .u8 (1)),nilS,(I (2)),(I (0)),(I (1000)),(I (1000000)),nilS]
def Ze1:AV:=.agg [(I (0)),(I (0))]
def Q5p:AV:=.dat 2 (([(⟨0,0⟩:GPort)]:List GPort).map Qat)
def Ziy:AV:=.agg [(K .u8 (3)),Q5p,(I (2)),(I (2000)),(I (1000)),(I (1000000)),nilS]
def Ze0:AV:=.agg [(I (1)),(I (0))]
def Q5o:AV:=.dat 2 (([(⟨1,0⟩:GPort)]:List GPort).map Qat)
def Zdt:AV:=.agg [(K .u8 (4)),Q5o,(I (0)),(I (100)),(I (1000)),(I (1000000)),nilS]
def Qs9:AV:=.dat 7 (([(⟨1,[],2,0,1000,1000000,[]⟩:GElement),(⟨3,[(⟨0,0⟩:GPort)],2,2000,1000,1000000,[]⟩:GElement),(⟨4,[(⟨1,0⟩:GPort)],0,100,1000,1000000,[]⟩:GElement)]:List GElement).map Qac)
def Q5r:AV:=.dat 1 (([]:List Int).map Qak)
def Zds:AV:=.agg [(K .u8 (1)),(.dat 2 (([]:List GPort).map Qat)),(I (2)),(I (0)),(I (1000)),(I (1000000)),Q5r]
def Zdr:AV:=.agg [(K .u8 (3)),Q5p,(I (2)),(I (2000)),(I (1000)),(I (1000000)),Q5r]
def Zdq:AV:=.agg [(K .u8 (4)),Q5o,(I (0)),(I (100)),(I (1000)),(I (1000000)),Q5r]
def Q5q:AV:=.agg [(I (1000)),(I (852000)),(I (250000)),(I (50))]
def Zdp:AV:=.dat 4 (([(⟨1000,852000,250000,50⟩:GStream)]:List GStream).map Qab)
theorem Qs5 (N:Nat) (r:(GNet×(List GStream))) (h:Qnw N=some r):Spec Tryz.prog 55 [] [] (.tup [(.agg (Qhn r.1)),(.dat 4 (r.2.map Qab))]) []:=by
  refine Qah Tryz.func55 rfl 0 (nle rfl) (fun X φ0 w0 hφ0 hd0=>?_)
  unfold Qnw at h
  refine wxz<|wx tbk [(0,rp [ci 100,ci 101,ci 419,ci 2676,ci 150] Ze4),(1,rp [ci 150,ci 476,ci 632,ci 2746,ci 300] Ze3),(2,rp [ci 200,ci 1555,ci 852,ci 2793,ci 600] Ze2),(3,rp [(.tmp 4,Ze4),(.tmp 5,Ze3),(.tmp 6,Ze2)] Q3e)] ⟨Qax (vs:=[I 100,I 101,I 419,I 2676,I 150]) rfl Zaz Qze rfl (by rfl) rfl,Qax (vs:=[I 150,I 476,I 632,I 2746,I 300]) rfl Zaz Qze rfl (by rfl) rfl,Qax (vs:=[I 200,I 1555,I 852,I 2793,I 600]) rfl Zaz Qze rfl (by rfl) rfl,Qbw (vs:=[Ze4,Ze3,Ze2]) rfl Tryz.underlying39 Qs1 Qze rfl (by decide) rfl (by decide) (by rfl) (by rfl) (by rfl) rfl,trivial⟩ ?_
  refine wx tbk [(0,rp [(.const (.int .u8 1),(K .u8 (1))),ci 2,ci 1000,ci 1000000] Ziz),(1,rp [] Ze1),(2,rp [(.tmp 9,Ze1)] Q5p),(3,rp [(.const (.int .u8 3),(K .u8 (3))),(.tmp 10,Q5p),ci 2,ci 2000,ci 1000,ci 1000000] Ziy),(4,rp [ci 1] Ze0),(5,rp [(.tmp 12,Ze0)] Q5o),(6,rp [(.const (.int .u8 4),(K .u8 (4))),(.tmp 13,Q5o),ci 100,ci 1000,ci 1000000] Zdt),(7,rp [(.tmp 8,Ziz),(.tmp 11,Ziy),(.tmp 14,Zdt)] Qs9)] ⟨Qax (vs:=[(K .u8 (1)),I 2,I 1000,I 1000000]) rfl Za0 Qzf rfl (by rfl) rfl,Qax (vs:=[]) rfl Qqj Ql3 rfl (by rfl) rfl,Qbw (vs:=[Ze1]) rfl Tryz.underlying116 Qkz Ql3 rfl (by decide) rfl (by decide) (by rfl) (by rfl) (by rfl) rfl,Qax (vs:=[(K .u8 (3)),Q5p,I 2,I 2000,I 1000,I 1000000]) rfl Za0 Qzf rfl (by rfl) rfl,Qax (vs:=[I 1]) rfl Qqj Ql3 rfl (by rfl) rfl,Qbw (vs:=[Ze0]) rfl Tryz.underlying116 Qkz Ql3 rfl (by decide) rfl (by decide) (by rfl) (by rfl) (by rfl) rfl,Qax (vs:=[(K .u8 (4)),Q5o,I 100,I 1000,I 1000000]) rfl Za0 Qzf rfl (by rfl) rfl,awk (rd':=[(.tmp 8,Zds),(.tmp 11,Zdr),(.tmp 14,Zdq)]) ⟨rfl,(Less.agg ⟨lrf,Less.nil,lrf,lrf,lrf,lrf,Less.nil,trivial⟩),rfl,(Less.agg ⟨lrf,lrf,lrf,lrf,lrf,lrf,Less.nil,trivial⟩),rfl,(Less.agg ⟨lrf,lrf,lrf,lrf,lrf,lrf,Less.nil,trivial⟩),trivial⟩ (Qbw (vs:=[Zds,Zdr,Zdq]) rfl Tryz.underlying40 Qip Qzf rfl (by decide) rfl (by decide) (by rfl) (by rfl) (by rfl) rfl),trivial⟩ ?_
  refine wx tbk [(2,rp [(.tmp 16,Q3e),(.tmp 17,Qs9)] (.agg [Q3e,Qs9])),(3,rp [ci 1000,ci 852000,ci 250000,ci 50] Q5q),(4,rp [(.tmp 19,Q5q)] Zdp)] ⟨Qax (vs:=[Q3e,Qs9]) rfl ts42 tz42 rfl (by rfl) rfl,Qax (vs:=[I 1000,I 852000,I 250000,I 50]) rfl ts63 tz63 rfl (by rfl) rfl,Qbw (vs:=[Q5q]) rfl Tryz.underlying45 ti63 tz63 rfl (by decide) rfl (by decide) (by rfl) (by rfl) (by rfl) rfl,trivial⟩<|Qaf ?_
  obtain rfl:=osi h
  exact fend ⟨[(.agg [Q3e,Qs9]),Zdp],⟨Qcd (n:=0) (m:=2) (j:=0) (i:=0) (xs:=[[Q3e,Qs9]]) (by kernel_rfl) (by kernel_rfl) ti42 (by decide) rfl (nle rfl) rfl,rot,trivial⟩,rfl⟩ (NLt.tup _ (nlc (NLt.agg _ (nlc (nld Qai _) (nlc (nld Qaa _) nl0))) (nlc (nld Qad _) nl0)))
def Qfy (N:Nat):Option Bool:=
  (Qnw 2000 ).bind fun x2=>
  (Qpk N (⟨x2.1.Table,x2.1.Elements⟩:GNet)).bind fun x4=>
  (Qkm N (⟨x2.1.Table,x2.1.Elements⟩:GNet) ([0,0,0]) x2.2).bind fun x6=>
  bif (x4.2==0) then
   bif (x6.2.2==0) then
    bif ((x4.1.length:Int)==2) then
     (getI x4.1 1).bind fun x10=>
     bif (([x10.Element,x10.Outlet]:List Int)==[2,1]) then
      bif ((x6.1.Out.length:Int)==3) then
       (getI x6.1.Out 2).bind fun x16=>
       bif ((x16.length:Int)==2) then
        bif ((x6.1.Lost.length:Int)==3) then
         (getI x16 0).bind fun x22=>
         bif (([x22.Mass,x22.Heat,x22.Silica,x22.Gas]:List Int)==[271,542596,12150,50]) then
          (getI x16 1).bind fun x27=>
          bif (([x27.Mass,x27.Heat,x27.Silica,x27.Gas]:List Int)==[729,307404,109350,0]) then
           (getI x6.1.Lost 1).bind fun x32=>
           bif (x32.Heat==2000) then
            (getI x6.1.Lost 2).bind fun x37=>
            some (x37.Scale==128500)
           else
            some false
          else
           some false
         else
          some false
        else
         some false
       else
        some false
      else
       some false
     else
      some false
    else
     some false
   else
    some false
  else
   some false
def Q5s (x2:(GNet×(List GStream))):AV:=.agg [(.dat 5 ((x2.1.Table:List GRow).map Qaw)),(.dat 7 ((x2.1.Elements:List GElement).map Qac))]
def Ze6 (x2:(GNet×(List GStream))):AV:=.dat 4 ((x2.2:List GStream).map Qab)
def Qlw (x4:((List GPort)×Int)):AV:=.dat 2 ((x4.1:List GPort).map Qat)
def Ze5:AV:=.dat 1 (([0,0,0]:List Int).map Qak)
def Qko (x6:(GTick×Int×Int)):AV:=.dat 1 ((x6.1.Out:List (List GStream)).map Qaj)
def Qum (x6:(GTick×Int×Int)):AV:=.dat 4 ((x6.1.Lost:List GLost).map Qa7)
def Qjm:AV:=.agg [(I (2)),(I (1))]
def Qpw (x10:GPort):AV:=.agg [(I (x10.Element)),(I (x10.Outlet))]
def Qkv (x16:(List GStream)):AV:=.dat 4 ((x16:List GStream).map Qab)
def Qpv:AV:=.agg [(I (271)),(I (542596)),(I (12150)),(I (50))]
def Q00 (x22:GStream):AV:=.agg [(I (x22.Mass)),(I (x22.Heat)),(I (x22.Silica)),(I (x22.Gas))]
def Qta:AV:=.agg [(I (729)),(I (307404)),(I (109350)),(I (0))]
def Q5t (x27:GStream):AV:=.agg [(I (x27.Mass)),(I (x27.Heat)),(I (x27.Silica)),(I (x27.Gas))]
theorem Qgf (N:Nat) (r:Bool) (h:Qfy N=some r):Spec Tryz.prog 15 [] [] (B r) []:=by
  refine Qah Tryz.func15 rfl 0 (nle rfl) (fun X φ0 w0 hφ0 hd0=>?_)
  unfold Qfy at h
  refine wxz ?_
  obtain ⟨x2,hf1,h⟩:=bno h
  refine wx tbk [(0,rp [fu 55] (.tup [(Q5s x2),(Ze6 x2)]))] ⟨apc (first:=[]) (cap:=[]) (vs:=[]) rfl Zid (Qs5 2000  _ hf1) rfl rfl nl0 (NLt.tup _ (nlc (NLt.agg _ (nlc (nld Qai _) (nlc (nld Qaa _) nl0))) (nlc (nld Qad _) nl0))) rfl,trivial⟩ ?_
  obtain ⟨x4,hf3,h⟩:=bno h
  refine wx tbk [(1,rp [fu 47,(.tmp 13,(Q5s x2))] (.tup [(Qlw x4),I x4.2]))] ⟨apc (first:=[]) (cap:=[]) (vs:=[(Q5s x2)]) rfl Zie (Qvb N (⟨x2.1.Table,x2.1.Elements⟩:GNet) _ hf3) rfl rfl (nlc (NLt.agg _ (nlc (nld Qai _) (nlc (nld Qaa _) nl0))) nl0) (NLt.tup _ (nlc (nld Qa4 _) (nlc nll nl0))) rfl,trivial⟩ ?_
  obtain ⟨x6,hf5,h⟩:=bno h
  refine wx tbk [(1,rp [ci 0,ci 0,ci 0] Ze5),(3,rp [fu 16,(.tmp 18,(Q5s x2)),(.tmp 19,Ze5),(.tmp 20,(Ze6 x2))] (.tup [(.agg [(Qko x6),(Qum x6),(.dat 1 ((x6.1.State:List Int).map Qak))]),I x6.2.1,I x6.2.2]))] ⟨Qbw (vs:=[I 0,I 0,I 0]) rfl Tryz.underlying27 ti3 tz3 rfl (by decide) rfl (by decide) (by rfl) (by rfl) (by rfl) rfl,apc (first:=[]) (cap:=[]) (vs:=[(Q5s x2),Ze5,(Ze6 x2)]) rfl Q0e (Qnu N (⟨x2.1.Table,x2.1.Elements⟩:GNet) ([0,0,0]) x2.2 _ hf5) rfl rfl (nlc (NLt.agg _ (nlc (nld Qai _) (nlc (nld Qaa _) nl0))) (nlc (nld Qag _) (nlc (nld Qad _) nl0))) (NLt.tup _ (nlc (NLt.agg _ (nlc (nld Qap _) (nlc (nld Qa1 _) (nlc (nld Qag _) nl0)))) (nlcc nl0))) rfl,trivial⟩ ?_
  refine bfe h (fun hb7 h=>?_) fun hb7 h=>?_
  ·refine bfe h (fun hb8 h=>?_) fun hb8 h=>?_
   ·refine bfe h (fun hb9 h=>?_) fun hb9 h=>?_
    ·obtain ⟨x10,hg11,h⟩:=bno h
     obtain ⟨hi12,hj13⟩:=gsm hg11
     refine bfe h (fun hb14 h=>?_) fun hb14 h=>?_
     ·refine bfe h (fun hb15 h=>?_) fun hb15 h=>?_
      ·obtain ⟨x16,hg17,h⟩:=bno h
       obtain ⟨hi18,hj19⟩:=gsm hg17
       refine bfe h (fun hb20 h=>?_) fun hb20 h=>?_
       ·refine bfe h (fun hb21 h=>?_) fun hb21 h=>?_
        ·obtain ⟨x22,hg23,h⟩:=bno h
         obtain ⟨hi24,hj25⟩:=gsm hg23
         refine bfe h (fun hb26 h=>?_) fun hb26 h=>?_
         ·obtain ⟨x27,hg28,h⟩:=bno h
          obtain ⟨hi29,hj30⟩:=gsm hg28
          refine bfe h (fun hb31 h=>?_) fun hb31 h=>?_
          ·obtain ⟨x32,hg33,h⟩:=bno h
           obtain ⟨hi34,hj35⟩:=gsm hg33
           refine bfe h (fun hb36 h=>?_) fun hb36 h=>?_
           ·obtain ⟨x37,hg38,h⟩:=bno h
            obtain ⟨hi39,hj40⟩:=gsm hg38
            refine wx tbk [(2,rp [(.tmp 26,(B ((x4.2==0))))] (B true)),(6,rp [(.tmp 30,(B ((x6.2.2==0))))] (B true)),(8,rp [(.tmp 31,B true),(.tmp 32,(Qlw x4))] (I ((x4.1.length:Int)))),(11,rp [(.tmp 35,(B (((x4.1.length:Int)==2))))] (B true)),(13,rp [(.tmp 36,B true),(.tmp 37,(Qlw x4)),ci 1] (.dptr (Qat (x10)) 0)),(15,rp [(.tmp 36,B true),ci 2,ci 1] Qjm),(16,rp [(.tmp 36,B true),(.tmp 39,(Qpw x10)),(.tmp 40,Qjm)] (B ((([x10.Element,x10.Outlet]:List Int)==[2,1])))),(18,rp [(.tmp 42,(B ((([x10.Element,x10.Outlet]:List Int)==[2,1]))))] (B true)),(21,rp [(.tmp 43,B true),(.tmp 45,(Qko x6))] (I ((x6.1.Out.length:Int)))),(24,rp [(.tmp 48,(B (((x6.1.Out.length:Int)==3))))] (B true)),(27,rp [(.tmp 49,B true),(.tmp 51,(Qko x6)),ci 2] (.dptr (Qaj (x16)) 0)),(29,rp [(.tmp 49,B true),(.tmp 53,(Qkv x16))] (I ((x16.length:Int)))),(32,rp [(.tmp 56,(B (((x16.length:Int)==2))))] (B true)),(35,rp [(.tmp 57,B true),(.tmp 59,(Qum x6))] (I ((x6.1.Lost.length:Int)))),(38,rp [(.tmp 62,(B (((x6.1.Lost.length:Int)==3))))] (B true)),(41,rp [(.tmp 63,B true),(.tmp 65,(Qko x6)),ci 2] (.dptr (Qaj (x16)) 0)),(43,rp [(.tmp 63,B true),(.tmp 67,(Qkv x16)),ci 0] (.dptr (Qab (x22)) 0)),(45,rp [(.tmp 63,B true),ci 271,ci 542596,ci 12150,ci 50] Qpv),(46,rp [(.tmp 63,B true),(.tmp 69,(Q00 x22)),(.tmp 70,Qpv)] (B ((([x22.Mass,x22.Heat,x22.Silica,x22.Gas]:List Int)==[271,542596,12150,50])))),(48,rp [(.tmp 72,(B ((([x22.Mass,x22.Heat,x22.Silica,x22.Gas]:List Int)==[271,542596,12150,50]))))] (B true)),(51,rp [(.tmp 73,B true),(.tmp 75,(Qko x6)),ci 2] (.dptr (Qaj (x16)) 0)),(53,rp [(.tmp 73,B true),(.tmp 77,(Qkv x16)),ci 1] (.dptr (Qab (x27)) 0)),(55,rp [(.tmp 73,B true),ci 729,ci 307404,ci 109350] Qta),(56,rp [(.tmp 73,B true),(.tmp 79,(Q5t x27)),(.tmp 80,Qta)] (B ((([x27.Mass,x27.Heat,x27.Silica,x27.Gas]:List Int)==[729,307404,109350,0])))),(58,rp [(.tmp 82,(B ((([x27.Mass,x27.Heat,x27.Silica,x27.Gas]:List Int)==[729,307404,109350,0]))))] (B true)),(61,rp [(.tmp 83,B true),(.tmp 85,(Qum x6)),ci 1] (.dptr (Qa7 (x32)) 0)),(66,rp [(.tmp 90,(B ((x32.Heat==2000))))] (B true)),(69,rp [(.tmp 91,B true),(.tmp 93,(Qum x6)),ci 2] (.dptr (Qa7 (x37)) 0))] ⟨asb hb7 (amv rfl),asb hb8 (amv rfl),ag_ (alm (c:=Qat) (l:=x4.1) (aln rfl Tryz.underlying116 rfl)),asb hb9 (amv rfl),ag_ (aid rfl Tryz.underlying116 Qkz rfl rfl hi12 (mgt Qat hj13) rfl),ag_ (Qax (vs:=[I 2,I 1]) rfl Qqj Ql3 rfl (by rfl) rfl),ag_ (Qe1 (ls:=[x10.Element,x10.Outlet]) (ks:=[2,1]) rfl rfl Qka (by kernel_rfl) rfl rfl),asb hb14 (amv rfl),ag_ (alm (c:=Qaj) (l:=x6.1.Out) (aln rfl Tryz.underlying31 rfl)),asb hb15 (amv rfl),ag_ (aid rfl Tryz.underlying31 ti45 rfl rfl hi18 (mgt Qaj hj19) rfl),ag_ (alm (c:=Qab) (l:=x16) (aln rfl Tryz.underlying45 rfl)),asb hb20 (amv rfl),ag_ (alm (c:=Qa7) (l:=x6.1.Lost) (aln rfl Tryz.underlying32 rfl)),asb hb21 (amv rfl),ag_ (aid rfl Tryz.underlying31 ti45 rfl rfl hi18 (mgt Qaj hj19) rfl),ag_ (aid rfl Tryz.underlying45 ti63 rfl rfl hi24 (mgt Qab hj25) rfl),ag_ (Qax (vs:=[I 271,I 542596,I 12150,I 50]) rfl ts63 tz63 rfl (by rfl) rfl),ag_ (Qe1 (ls:=[x22.Mass,x22.Heat,x22.Silica,x22.Gas]) (ks:=[271,542596,12150,50]) rfl rfl Qz8 (by kernel_rfl) rfl rfl),asb hb26 (amv rfl),ag_ (aid rfl Tryz.underlying31 ti45 rfl rfl hi18 (mgt Qaj hj19) rfl),ag_ (aid rfl Tryz.underlying45 ti63 rfl rfl hi29 (mgt Qab hj30) rfl),ag_ (Qax (vs:=[I 729,I 307404,I 109350]) rfl ts63 tz63 rfl (by rfl) rfl),ag_ (Qe1 (ls:=[x27.Mass,x27.Heat,x27.Silica,x27.Gas]) (ks:=[729,307404,109350,0]) rfl rfl Qz8 (by kernel_rfl) rfl rfl),asb hb31 (amv rfl),ag_ (aid rfl Tryz.underlying32 ti82 rfl rfl hi34 (mgt Qa7 hj35) rfl),asb hb36 (amv rfl),ag_ (aid rfl Tryz.underlying32 ti82 rfl rfl hi39 (mgt Qa7 hj40) rfl),trivial⟩<|Qaf ?_
            obtain rfl:=osi h
            exact fend ⟨[(B ((x37.Scale==128500)))],⟨rot,trivial⟩,rfl⟩ nll
           ·refine wx tbk [(2,rp [(.tmp 26,(B ((x4.2==0))))] (B true)),(6,rp [(.tmp 30,(B ((x6.2.2==0))))] (B true)),(8,rp [(.tmp 31,B true),(.tmp 32,(Qlw x4))] (I ((x4.1.length:Int)))),(11,rp [(.tmp 35,(B (((x4.1.length:Int)==2))))] (B true)),(13,rp [(.tmp 36,B true),(.tmp 37,(Qlw x4)),ci 1] (.dptr (Qat (x10)) 0)),(15,rp [(.tmp 36,B true),ci 2,ci 1] Qjm),(16,rp [(.tmp 36,B true),(.tmp 39,(Qpw x10)),(.tmp 40,Qjm)] (B ((([x10.Element,x10.Outlet]:List Int)==[2,1])))),(18,rp [(.tmp 42,(B ((([x10.Element,x10.Outlet]:List Int)==[2,1]))))] (B true)),(21,rp [(.tmp 43,B true),(.tmp 45,(Qko x6))] (I ((x6.1.Out.length:Int)))),(24,rp [(.tmp 48,(B (((x6.1.Out.length:Int)==3))))] (B true)),(27,rp [(.tmp 49,B true),(.tmp 51,(Qko x6)),ci 2] (.dptr (Qaj (x16)) 0)),(29,rp [(.tmp 49,B true),(.tmp 53,(Qkv x16))] (I ((x16.length:Int)))),(32,rp [(.tmp 56,(B (((x16.length:Int)==2))))] (B true)),(35,rp [(.tmp 57,B true),(.tmp 59,(Qum x6))] (I ((x6.1.Lost.length:Int)))),(38,rp [(.tmp 62,(B (((x6.1.Lost.length:Int)==3))))] (B true)),(41,rp [(.tmp 63,B true),(.tmp 65,(Qko x6)),ci 2] (.dptr (Qaj (x16)) 0)),(43,rp [(.tmp 63,B true),(.tmp 67,(Qkv x16)),ci 0] (.dptr (Qab (x22)) 0)),(45,rp [(.tmp 63,B true),ci 271,ci 542596,ci 12150,ci 50] Qpv),(46,rp [(.tmp 63,B true),(.tmp 69,(Q00 x22)),(.tmp 70,Qpv)] (B ((([x22.Mass,x22.Heat,x22.Silica,x22.Gas]:List Int)==[271,542596,12150,50])))),(48,rp [(.tmp 72,(B ((([x22.Mass,x22.Heat,x22.Silica,x22.Gas]:List Int)==[271,542596,12150,50]))))] (B true)),(51,rp [(.tmp 73,B true),(.tmp 75,(Qko x6)),ci 2] (.dptr (Qaj (x16)) 0)),(53,rp [(.tmp 73,B true),(.tmp 77,(Qkv x16)),ci 1] (.dptr (Qab (x27)) 0)),(55,rp [(.tmp 73,B true),ci 729,ci 307404,ci 109350] Qta),(56,rp [(.tmp 73,B true),(.tmp 79,(Q5t x27)),(.tmp 80,Qta)] (B ((([x27.Mass,x27.Heat,x27.Silica,x27.Gas]:List Int)==[729,307404,109350,0])))),(58,rp [(.tmp 82,(B ((([x27.Mass,x27.Heat,x27.Silica,x27.Gas]:List Int)==[729,307404,109350,0]))))] (B true)),(61,rp [(.tmp 83,B true),(.tmp 85,(Qum x6)),ci 1] (.dptr (Qa7 (x32)) 0)),(66,rp [(.tmp 90,(B ((x32.Heat==2000))))] (B false))] ⟨asb hb7 (amv rfl),asb hb8 (amv rfl),ag_ (alm (c:=Qat) (l:=x4.1) (aln rfl Tryz.underlying116 rfl)),asb hb9 (amv rfl),ag_ (aid rfl Tryz.underlying116 Qkz rfl rfl hi12 (mgt Qat hj13) rfl),ag_ (Qax (vs:=[I 2,I 1]) rfl Qqj Ql3 rfl (by rfl) rfl),ag_ (Qe1 (ls:=[x10.Element,x10.Outlet]) (ks:=[2,1]) rfl rfl Qka (by kernel_rfl) rfl rfl),asb hb14 (amv rfl),ag_ (alm (c:=Qaj) (l:=x6.1.Out) (aln rfl Tryz.underlying31 rfl)),asb hb15 (amv rfl),ag_ (aid rfl Tryz.underlying31 ti45 rfl rfl hi18 (mgt Qaj hj19) rfl),ag_ (alm (c:=Qab) (l:=x16) (aln rfl Tryz.underlying45 rfl)),asb hb20 (amv rfl),ag_ (alm (c:=Qa7) (l:=x6.1.Lost) (aln rfl Tryz.underlying32 rfl)),asb hb21 (amv rfl),ag_ (aid rfl Tryz.underlying31 ti45 rfl rfl hi18 (mgt Qaj hj19) rfl),ag_ (aid rfl Tryz.underlying45 ti63 rfl rfl hi24 (mgt Qab hj25) rfl),ag_ (Qax (vs:=[I 271,I 542596,I 12150,I 50]) rfl ts63 tz63 rfl (by rfl) rfl),ag_ (Qe1 (ls:=[x22.Mass,x22.Heat,x22.Silica,x22.Gas]) (ks:=[271,542596,12150,50]) rfl rfl Qz8 (by kernel_rfl) rfl rfl),asb hb26 (amv rfl),ag_ (aid rfl Tryz.underlying31 ti45 rfl rfl hi18 (mgt Qaj hj19) rfl),ag_ (aid rfl Tryz.underlying45 ti63 rfl rfl hi29 (mgt Qab hj30) rfl),ag_ (Qax (vs:=[I 729,I 307404,I 109350]) rfl ts63 tz63 rfl (by rfl) rfl),ag_ (Qe1 (ls:=[x27.Mass,x27.Heat,x27.Silica,x27.Gas]) (ks:=[729,307404,109350,0]) rfl rfl Qz8 (by kernel_rfl) rfl rfl),asb hb31 (amv rfl),ag_ (aid rfl Tryz.underlying32 ti82 rfl rfl hi34 (mgt Qa7 hj35) rfl),asb hb36 (amv rfl),trivial⟩<|Qaf ?_
            obtain rfl:=osi h
            exact fend ⟨[B false],⟨rot,trivial⟩,rfl⟩ nll
          ·refine wx tbk [(2,rp [(.tmp 26,(B ((x4.2==0))))] (B true)),(6,rp [(.tmp 30,(B ((x6.2.2==0))))] (B true)),(8,rp [(.tmp 31,B true),(.tmp 32,(Qlw x4))] (I ((x4.1.length:Int)))),(11,rp [(.tmp 35,(B (((x4.1.length:Int)==2))))] (B true)),(13,rp [(.tmp 36,B true),(.tmp 37,(Qlw x4)),ci 1] (.dptr (Qat (x10)) 0)),(15,rp [(.tmp 36,B true),ci 2,ci 1] Qjm),(16,rp [(.tmp 36,B true),(.tmp 39,(Qpw x10)),(.tmp 40,Qjm)] (B ((([x10.Element,x10.Outlet]:List Int)==[2,1])))),(18,rp [(.tmp 42,(B ((([x10.Element,x10.Outlet]:List Int)==[2,1]))))] (B true)),(21,rp [(.tmp 43,B true),(.tmp 45,(Qko x6))] (I ((x6.1.Out.length:Int)))),(24,rp [(.tmp 48,(B (((x6.1.Out.length:Int)==3))))] (B true)),(27,rp [(.tmp 49,B true),(.tmp 51,(Qko x6)),ci 2] (.dptr (Qaj (x16)) 0)),(29,rp [(.tmp 49,B true),(.tmp 53,(Qkv x16))] (I ((x16.length:Int)))),(32,rp [(.tmp 56,(B (((x16.length:Int)==2))))] (B true)),(35,rp [(.tmp 57,B true),(.tmp 59,(Qum x6))] (I ((x6.1.Lost.length:Int)))),(38,rp [(.tmp 62,(B (((x6.1.Lost.length:Int)==3))))] (B true)),(41,rp [(.tmp 63,B true),(.tmp 65,(Qko x6)),ci 2] (.dptr (Qaj (x16)) 0)),(43,rp [(.tmp 63,B true),(.tmp 67,(Qkv x16)),ci 0] (.dptr (Qab (x22)) 0)),(45,rp [(.tmp 63,B true),ci 271,ci 542596,ci 12150,ci 50] Qpv),(46,rp [(.tmp 63,B true),(.tmp 69,(Q00 x22)),(.tmp 70,Qpv)] (B ((([x22.Mass,x22.Heat,x22.Silica,x22.Gas]:List Int)==[271,542596,12150,50])))),(48,rp [(.tmp 72,(B ((([x22.Mass,x22.Heat,x22.Silica,x22.Gas]:List Int)==[271,542596,12150,50]))))] (B true)),(51,rp [(.tmp 73,B true),(.tmp 75,(Qko x6)),ci 2] (.dptr (Qaj (x16)) 0)),(53,rp [(.tmp 73,B true),(.tmp 77,(Qkv x16)),ci 1] (.dptr (Qab (x27)) 0)),(55,rp [(.tmp 73,B true),ci 729,ci 307404,ci 109350] Qta),(56,rp [(.tmp 73,B true),(.tmp 79,(Q5t x27)),(.tmp 80,Qta)] (B ((([x27.Mass,x27.Heat,x27.Silica,x27.Gas]:List Int)==[729,307404,109350,0])))),(58,rp [(.tmp 82,(B ((([x27.Mass,x27.Heat,x27.Silica,x27.Gas]:List Int)==[729,307404,109350,0]))))] (B false))] ⟨asb hb7 (amv rfl),asb hb8 (amv rfl),ag_ (alm (c:=Qat) (l:=x4.1) (aln rfl Tryz.underlying116 rfl)),asb hb9 (amv rfl),ag_ (aid rfl Tryz.underlying116 Qkz rfl rfl hi12 (mgt Qat hj13) rfl),ag_ (Qax (vs:=[I 2,I 1]) rfl Qqj Ql3 rfl (by rfl) rfl),ag_ (Qe1 (ls:=[x10.Element,x10.Outlet]) (ks:=[2,1]) rfl rfl Qka (by kernel_rfl) rfl rfl),asb hb14 (amv rfl),ag_ (alm (c:=Qaj) (l:=x6.1.Out) (aln rfl Tryz.underlying31 rfl)),asb hb15 (amv rfl),ag_ (aid rfl Tryz.underlying31 ti45 rfl rfl hi18 (mgt Qaj hj19) rfl),ag_ (alm (c:=Qab) (l:=x16) (aln rfl Tryz.underlying45 rfl)),asb hb20 (amv rfl),ag_ (alm (c:=Qa7) (l:=x6.1.Lost) (aln rfl Tryz.underlying32 rfl)),asb hb21 (amv rfl),ag_ (aid rfl Tryz.underlying31 ti45 rfl rfl hi18 (mgt Qaj hj19) rfl),ag_ (aid rfl Tryz.underlying45 ti63 rfl rfl hi24 (mgt Qab hj25) rfl),ag_ (Qax (vs:=[I 271,I 542596,I 12150,I 50]) rfl ts63 tz63 rfl (by rfl) rfl),ag_ (Qe1 (ls:=[x22.Mass,x22.Heat,x22.Silica,x22.Gas]) (ks:=[271,542596,12150,50]) rfl rfl Qz8 (by kernel_rfl) rfl rfl),asb hb26 (amv rfl),ag_ (aid rfl Tryz.underlying31 ti45 rfl rfl hi18 (mgt Qaj hj19) rfl),ag_ (aid rfl Tryz.underlying45 ti63 rfl rfl hi29 (mgt Qab hj30) rfl),ag_ (Qax (vs:=[I 729,I 307404,I 109350]) rfl ts63 tz63 rfl (by rfl) rfl),ag_ (Qe1 (ls:=[x27.Mass,x27.Heat,x27.Silica,x27.Gas]) (ks:=[729,307404,109350,0]) rfl rfl Qz8 (by kernel_rfl) rfl rfl),asb hb31 (amv rfl),trivial⟩<|Qaf ?_
           obtain rfl:=osi h
           exact fend ⟨[B false],⟨rot,trivial⟩,rfl⟩ nll
         ·refine wx tbk [(2,rp [(.tmp 26,(B ((x4.2==0))))] (B true)),(6,rp [(.tmp 30,(B ((x6.2.2==0))))] (B true)),(8,rp [(.tmp 31,B true),(.tmp 32,(Qlw x4))] (I ((x4.1.length:Int)))),(11,rp [(.tmp 35,(B (((x4.1.length:Int)==2))))] (B true)),(13,rp [(.tmp 36,B true),(.tmp 37,(Qlw x4)),ci 1] (.dptr (Qat (x10)) 0)),(15,rp [(.tmp 36,B true),ci 2,ci 1] Qjm),(16,rp [(.tmp 36,B true),(.tmp 39,(Qpw x10)),(.tmp 40,Qjm)] (B ((([x10.Element,x10.Outlet]:List Int)==[2,1])))),(18,rp [(.tmp 42,(B ((([x10.Element,x10.Outlet]:List Int)==[2,1]))))] (B true)),(21,rp [(.tmp 43,B true),(.tmp 45,(Qko x6))] (I ((x6.1.Out.length:Int)))),(24,rp [(.tmp 48,(B (((x6.1.Out.length:Int)==3))))] (B true)),(27,rp [(.tmp 49,B true),(.tmp 51,(Qko x6)),ci 2] (.dptr (Qaj (x16)) 0)),(29,rp [(.tmp 49,B true),(.tmp 53,(Qkv x16))] (I ((x16.length:Int)))),(32,rp [(.tmp 56,(B (((x16.length:Int)==2))))] (B true)),(35,rp [(.tmp 57,B true),(.tmp 59,(Qum x6))] (I ((x6.1.Lost.length:Int)))),(38,rp [(.tmp 62,(B (((x6.1.Lost.length:Int)==3))))] (B true)),(41,rp [(.tmp 63,B true),(.tmp 65,(Qko x6)),ci 2] (.dptr (Qaj (x16)) 0)),(43,rp [(.tmp 63,B true),(.tmp 67,(Qkv x16)),ci 0] (.dptr (Qab (x22)) 0)),(45,rp [(.tmp 63,B true),ci 271,ci 542596,ci 12150,ci 50] Qpv),(46,rp [(.tmp 63,B true),(.tmp 69,(Q00 x22)),(.tmp 70,Qpv)] (B ((([x22.Mass,x22.Heat,x22.Silica,x22.Gas]:List Int)==[271,542596,12150,50])))),(48,rp [(.tmp 72,(B ((([x22.Mass,x22.Heat,x22.Silica,x22.Gas]:List Int)==[271,542596,12150,50]))))] (B false))] ⟨asb hb7 (amv rfl),asb hb8 (amv rfl),ag_ (alm (c:=Qat) (l:=x4.1) (aln rfl Tryz.underlying116 rfl)),asb hb9 (amv rfl),ag_ (aid rfl Tryz.underlying116 Qkz rfl rfl hi12 (mgt Qat hj13) rfl),ag_ (Qax (vs:=[I 2,I 1]) rfl Qqj Ql3 rfl (by rfl) rfl),ag_ (Qe1 (ls:=[x10.Element,x10.Outlet]) (ks:=[2,1]) rfl rfl Qka (by kernel_rfl) rfl rfl),asb hb14 (amv rfl),ag_ (alm (c:=Qaj) (l:=x6.1.Out) (aln rfl Tryz.underlying31 rfl)),asb hb15 (amv rfl),ag_ (aid rfl Tryz.underlying31 ti45 rfl rfl hi18 (mgt Qaj hj19) rfl),ag_ (alm (c:=Qab) (l:=x16) (aln rfl Tryz.underlying45 rfl)),asb hb20 (amv rfl),ag_ (alm (c:=Qa7) (l:=x6.1.Lost) (aln rfl Tryz.underlying32 rfl)),asb hb21 (amv rfl),ag_ (aid rfl Tryz.underlying31 ti45 rfl rfl hi18 (mgt Qaj hj19) rfl),ag_ (aid rfl Tryz.underlying45 ti63 rfl rfl hi24 (mgt Qab hj25) rfl),ag_ (Qax (vs:=[I 271,I 542596,I 12150,I 50]) rfl ts63 tz63 rfl (by rfl) rfl),ag_ (Qe1 (ls:=[x22.Mass,x22.Heat,x22.Silica,x22.Gas]) (ks:=[271,542596,12150,50]) rfl rfl Qz8 (by kernel_rfl) rfl rfl),asb hb26 (amv rfl),trivial⟩<|Qaf ?_
          obtain rfl:=osi h
          exact fend ⟨[B false],⟨rot,trivial⟩,rfl⟩ nll
        ·refine wx tbk [(2,rp [(.tmp 26,(B ((x4.2==0))))] (B true)),(6,rp [(.tmp 30,(B ((x6.2.2==0))))] (B true)),(8,rp [(.tmp 31,B true),(.tmp 32,(Qlw x4))] (I ((x4.1.length:Int)))),(11,rp [(.tmp 35,(B (((x4.1.length:Int)==2))))] (B true)),(13,rp [(.tmp 36,B true),(.tmp 37,(Qlw x4)),ci 1] (.dptr (Qat (x10)) 0)),(15,rp [(.tmp 36,B true),ci 2,ci 1] Qjm),(16,rp [(.tmp 36,B true),(.tmp 39,(Qpw x10)),(.tmp 40,Qjm)] (B ((([x10.Element,x10.Outlet]:List Int)==[2,1])))),(18,rp [(.tmp 42,(B ((([x10.Element,x10.Outlet]:List Int)==[2,1]))))] (B true)),(21,rp [(.tmp 43,B true),(.tmp 45,(Qko x6))] (I ((x6.1.Out.length:Int)))),(24,rp [(.tmp 48,(B (((x6.1.Out.length:Int)==3))))] (B true)),(27,rp [(.tmp 49,B true),(.tmp 51,(Qko x6)),ci 2] (.dptr (Qaj (x16)) 0)),(29,rp [(.tmp 49,B true),(.tmp 53,(Qkv x16))] (I ((x16.length:Int)))),(32,rp [(.tmp 56,(B (((x16.length:Int)==2))))] (B true)),(35,rp [(.tmp 57,B true),(.tmp 59,(Qum x6))] (I ((x6.1.Lost.length:Int)))),(38,rp [(.tmp 62,(B (((x6.1.Lost.length:Int)==3))))] (B false))] ⟨asb hb7 (amv rfl),asb hb8 (amv rfl),ag_ (alm (c:=Qat) (l:=x4.1) (aln rfl Tryz.underlying116 rfl)),asb hb9 (amv rfl),ag_ (aid rfl Tryz.underlying116 Qkz rfl rfl hi12 (mgt Qat hj13) rfl),ag_ (Qax (vs:=[I 2,I 1]) rfl Qqj Ql3 rfl (by rfl) rfl),ag_ (Qe1 (ls:=[x10.Element,x10.Outlet]) (ks:=[2,1]) rfl rfl Qka (by kernel_rfl) rfl rfl),asb hb14 (amv rfl),ag_ (alm (c:=Qaj) (l:=x6.1.Out) (aln rfl Tryz.underlying31 rfl)),asb hb15 (amv rfl),ag_ (aid rfl Tryz.underlying31 ti45 rfl rfl hi18 (mgt Qaj hj19) rfl),ag_ (alm (c:=Qab) (l:=x16) (aln rfl Tryz.underlying45 rfl)),asb hb20 (amv rfl),ag_ (alm (c:=Qa7) (l:=x6.1.Lost) (aln rfl Tryz.underlying32 rfl)),asb hb21 (amv rfl),trivial⟩<|Qaf ?_
         obtain rfl:=osi h
         exact fend ⟨[B false],⟨rot,trivial⟩,rfl⟩ nll
       ·refine wx tbk [(2,rp [(.tmp 26,(B ((x4.2==0))))] (B true)),(6,rp [(.tmp 30,(B ((x6.2.2==0))))] (B true)),(8,rp [(.tmp 31,B true),(.tmp 32,(Qlw x4))] (I ((x4.1.length:Int)))),(11,rp [(.tmp 35,(B (((x4.1.length:Int)==2))))] (B true)),(13,rp [(.tmp 36,B true),(.tmp 37,(Qlw x4)),ci 1] (.dptr (Qat (x10)) 0)),(15,rp [(.tmp 36,B true),ci 2,ci 1] Qjm),(16,rp [(.tmp 36,B true),(.tmp 39,(Qpw x10)),(.tmp 40,Qjm)] (B ((([x10.Element,x10.Outlet]:List Int)==[2,1])))),(18,rp [(.tmp 42,(B ((([x10.Element,x10.Outlet]:List Int)==[2,1]))))] (B true)),(21,rp [(.tmp 43,B true),(.tmp 45,(Qko x6))] (I ((x6.1.Out.length:Int)))),(24,rp [(.tmp 48,(B (((x6.1.Out.length:Int)==3))))] (B true)),(27,rp [(.tmp 49,B true),(.tmp 51,(Qko x6)),ci 2] (.dptr (Qaj (x16)) 0)),(29,rp [(.tmp 49,B true),(.tmp 53,(Qkv x16))] (I ((x16.length:Int)))),(32,rp [(.tmp 56,(B (((x16.length:Int)==2))))] (B false))] ⟨asb hb7 (amv rfl),asb hb8 (amv rfl),ag_ (alm (c:=Qat) (l:=x4.1) (aln rfl Tryz.underlying116 rfl)),asb hb9 (amv rfl),ag_ (aid rfl Tryz.underlying116 Qkz rfl rfl hi12 (mgt Qat hj13) rfl),ag_ (Qax (vs:=[I 2,I 1]) rfl Qqj Ql3 rfl (by rfl) rfl),ag_ (Qe1 (ls:=[x10.Element,x10.Outlet]) (ks:=[2,1]) rfl rfl Qka (by kernel_rfl) rfl rfl),asb hb14 (amv rfl),ag_ (alm (c:=Qaj) (l:=x6.1.Out) (aln rfl Tryz.underlying31 rfl)),asb hb15 (amv rfl),ag_ (aid rfl Tryz.underlying31 ti45 rfl rfl hi18 (mgt Qaj hj19) rfl),ag_ (alm (c:=Qab) (l:=x16) (aln rfl Tryz.underlying45 rfl)),asb hb20 (amv rfl),trivial⟩<|Qaf ?_
        obtain rfl:=osi h
        exact fend ⟨[B false],⟨rot,trivial⟩,rfl⟩ nll
      ·refine wx tbk [(2,rp [(.tmp 26,(B ((x4.2==0))))] (B true)),(6,rp [(.tmp 30,(B ((x6.2.2==0))))] (B true)),(8,rp [(.tmp 31,B true),(.tmp 32,(Qlw x4))] (I ((x4.1.length:Int)))),(11,rp [(.tmp 35,(B (((x4.1.length:Int)==2))))] (B true)),(13,rp [(.tmp 36,B true),(.tmp 37,(Qlw x4)),ci 1] (.dptr (Qat (x10)) 0)),(15,rp [(.tmp 36,B true),ci 2,ci 1] Qjm),(16,rp [(.tmp 36,B true),(.tmp 39,(Qpw x10)),(.tmp 40,Qjm)] (B ((([x10.Element,x10.Outlet]:List Int)==[2,1])))),(18,rp [(.tmp 42,(B ((([x10.Element,x10.Outlet]:List Int)==[2,1]))))] (B true)),(21,rp [(.tmp 43,B true),(.tmp 45,(Qko x6))] (I ((x6.1.Out.length:Int)))),(24,rp [(.tmp 48,(B (((x6.1.Out.length:Int)==3))))] (B false))] ⟨asb hb7 (amv rfl),asb hb8 (amv rfl),ag_ (alm (c:=Qat) (l:=x4.1) (aln rfl Tryz.underlying116 rfl)),asb hb9 (amv rfl),ag_ (aid rfl Tryz.underlying116 Qkz rfl rfl hi12 (mgt Qat hj13) rfl),ag_ (Qax (vs:=[I 2,I 1]) rfl Qqj Ql3 rfl (by rfl) rfl),ag_ (Qe1 (ls:=[x10.Element,x10.Outlet]) (ks:=[2,1]) rfl rfl Qka (by kernel_rfl) rfl rfl),asb hb14 (amv rfl),ag_ (alm (c:=Qaj) (l:=x6.1.Out) (aln rfl Tryz.underlying31 rfl)),asb hb15 (amv rfl),trivial⟩<|Qaf ?_
       obtain rfl:=osi h
       exact fend ⟨[B false],⟨rot,trivial⟩,rfl⟩ nll
     ·refine wx tbk [(2,rp [(.tmp 26,(B ((x4.2==0))))] (B true)),(6,rp [(.tmp 30,(B ((x6.2.2==0))))] (B true)),(8,rp [(.tmp 31,B true),(.tmp 32,(Qlw x4))] (I ((x4.1.length:Int)))),(11,rp [(.tmp 35,(B (((x4.1.length:Int)==2))))] (B true)),(13,rp [(.tmp 36,B true),(.tmp 37,(Qlw x4)),ci 1] (.dptr (Qat (x10)) 0)),(15,rp [(.tmp 36,B true),ci 2,ci 1] Qjm),(16,rp [(.tmp 36,B true),(.tmp 39,(Qpw x10)),(.tmp 40,Qjm)] (B ((([x10.Element,x10.Outlet]:List Int)==[2,1])))),(18,rp [(.tmp 42,(B ((([x10.Element,x10.Outlet]:List Int)==[2,1]))))] (B false))] ⟨asb hb7 (amv rfl),asb hb8 (amv rfl),ag_ (alm (c:=Qat) (l:=x4.1) (aln rfl Tryz.underlying116 rfl)),asb hb9 (amv rfl),ag_ (aid rfl Tryz.underlying116 Qkz rfl rfl hi12 (mgt Qat hj13) rfl),ag_ (Qax (vs:=[I 2,I 1]) rfl Qqj Ql3 rfl (by rfl) rfl),ag_ (Qe1 (ls:=[x10.Element,x10.Outlet]) (ks:=[2,1]) rfl rfl Qka (by kernel_rfl) rfl rfl),asb hb14 (amv rfl),trivial⟩<|Qaf ?_
      obtain rfl:=osi h
      exact fend ⟨[B false],⟨rot,trivial⟩,rfl⟩ nll
    ·refine wx tbk [(2,rp [(.tmp 26,(B ((x4.2==0))))] (B true)),(6,rp [(.tmp 30,(B ((x6.2.2==0))))] (B true)),(8,rp [(.tmp 31,B true),(.tmp 32,(Qlw x4))] (I ((x4.1.length:Int)))),(11,rp [(.tmp 35,(B (((x4.1.length:Int)==2))))] (B false))] ⟨asb hb7 (amv rfl),asb hb8 (amv rfl),ag_ (alm (c:=Qat) (l:=x4.1) (aln rfl Tryz.underlying116 rfl)),asb hb9 (amv rfl),trivial⟩<|Qaf ?_
     obtain rfl:=osi h
     exact fend ⟨[B false],⟨rot,trivial⟩,rfl⟩ nll
   ·refine wx tbk [(2,rp [(.tmp 26,(B ((x4.2==0))))] (B true)),(6,rp [(.tmp 30,(B ((x6.2.2==0))))] (B false))] ⟨asb hb7 (amv rfl),asb hb8 (amv rfl),trivial⟩<|Qaf ?_
    obtain rfl:=osi h
    exact fend ⟨[B false],⟨rot,trivial⟩,rfl⟩ nll
  ·refine wx tbk [(2,rp [(.tmp 26,(B ((x4.2==0))))] (B false))] ⟨asb hb7 (amv rfl),trivial⟩<|Qaf ?_
   obtain rfl:=osi h
   exact fend ⟨[B false],⟨rot,trivial⟩,rfl⟩ nll
end Go.Proofs.YtmbhnllcfmiajaaGreat
