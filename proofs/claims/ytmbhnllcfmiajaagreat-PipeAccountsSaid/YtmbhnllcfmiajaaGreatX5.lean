/-
  Functions of the program: what they compute, as plain functions, and that they do. No conditions.
-/
import Derived.Test.YtmbhnllcfmiajaaGreatX4
namespace Go.Proofs.YtmbhnllcfmiajaaGreat
set_option maxRecDepth 100000
set_option maxHeartbeats 4000000
open Go.RowKit
def Qdl (N:Nat) (p0:GNet) (p1:(List Int)) (p2:(List GStream)) (k16:(List (List GStream))×(List GLost)×(List Int)×Int→Option (Int⊕(Int×Int×(List (List GStream))×(List GLost)×(List Int)))):Nat→Int→(List (List GStream))→(List GLost)→(List Int)→Int→Option (Int⊕(Int×Int×(List (List GStream))×(List GLost)×(List Int)))
  | 0,_,_,_,_,_=>none
  | n27+1,y17,y18,y19,y20,y21=>
    bif (decide (y17<(p0.Elements.length:Int))) then
     (getI p0.Elements y17).bind fun x29=>
     (getI p1 y17).bind fun x33=>
     (Qfu N x29 x33).bind fun x38=>
     (Qct N y17 x38 p0.Table p0.Elements ((p0.Elements.length:Int).toNat) ((p0.Elements.length:Int).toNat) p1.length p2 y21 y18 y19 y20).bind (
      Sum.elim (fun x41=>
        Qdl N p0 p1 p2 k16 n27 (w64 (y17+1)) x41.2.1 x41.2.2.1 x41.2.2.2 x41.1)
      (fun x42=>
        some (.inl x42)))
    else
     k16 (y18,y19,y20,y21)
def Qgj (N:Nat) (p0:GNet) (p1:(List Int)) (p2:(List GStream)):Option (Int⊕(Int×Int×(List (List GStream))×(List GLost)×(List Int))):=
  chk (decide (0≤(p0.Elements.length:Int))&&decide (24 * (p0.Elements.length:Int)≤281474976710656)&&decide ((p0.Elements.length:Int)≤9223372036854775807))<|
  chk (decide (0≤(p0.Elements.length:Int))&&decide (32 * (p0.Elements.length:Int)≤281474976710656)&&decide ((p0.Elements.length:Int)≤9223372036854775807))<|
  (Qff N p1).bind fun _=>
  Qbb (fun ⟨y12,y13,y14,y15⟩=>
    some (.inr ((-1),y15,y12,y13,y14))) fun k16:(List (List GStream))×(List GLost)×(List Int)×Int→Option (Int⊕(Int×Int×(List (List GStream))×(List GLost)×(List Int)))=>
  Qdl N p0 p1 p2 k16 N 0 (List.replicate (p0.Elements.length:Int).toNat ([])) (List.replicate (p0.Elements.length:Int).toNat (⟨0,0,0,0⟩:GLost)) p1 0
def Q19 (p0:GNet):AV:=.dat 5 ((p0.Table:List GRow).map Qa4)
def Qov (p0:GNet):AV:=.dat 7 ((p0.Elements:List GElement).map Qad)
def Q93 (p0:GNet):AV:=.agg [(Q19 p0),(Qov p0)]
def Qpi (p1:(List Int)):AV:=.dat 1 ((p1:List Int).map Qal)
def Qon (p2:(List GStream)):AV:=.dat 4 ((p2:List GStream).map Qaa)
def Zor (p0:GNet):Slot:=.own 1 ((List.replicate (p0.Elements.length:Int).toNat ([]):List (List GStream)).map Qak)
def Zoq (p0:GNet):Slot:=.own 4 ((List.replicate (p0.Elements.length:Int).toNat (⟨0,0,0,0⟩:GLost):List GLost).map Qa0)
def Ze4 (p1:(List Int)):Slot:=.own 1 ((p1:List Int).map Qal)
def Zkj (p0:GNet) (p1:(List Int)):AV:=.agg [(.own 3 1 (0) ((p0.Elements.length:Int).toNat)),(.own 4 4 (0) ((p0.Elements.length:Int).toNat)),(.own 5 1 (0) (p1.length))]
def Q6v (p0:GNet):Slot:=.own 2 [[(Q19 p0),(Qov p0)]]
def Qrq:Slot:=.own 1 [[(.ref 6 7 (0) 0)]]
def Q18 (y12:(List (List GStream))):Slot:=.own 1 ((y12:List (List GStream)).map Qak)
def Q17 (y13:(List GLost)):Slot:=.own 4 ((y13:List GLost).map Qa0)
def Q16 (p0:GNet) (p1:(List Int)) (p2:(List GStream)) (y15:Int):Slot:=.own 7 [[(Q19 p0),(Qov p0),(.own 3 1 (0) ((p0.Elements.length:Int).toNat)),(.own 4 4 (0) ((p0.Elements.length:Int).toNat)),(.own 5 1 (0) (p1.length)),(Qon p2),(I (y15))]]
def Zi6 (p0:GNet) (p1:(List Int)) (p2:(List GStream)):Slot:=.own 7 [[(Q19 p0),(Qov p0),(.own 3 1 (0) ((p0.Elements.length:Int).toNat)),(.own 4 4 (0) ((p0.Elements.length:Int).toNat)),(.own 5 1 (0) (p1.length)),(Qon p2),(I (0))]]
def Qqy (y18:(List (List GStream))):Slot:=.own 1 ((y18:List (List GStream)).map Qak)
def Qqx (y19:(List GLost)):Slot:=.own 4 ((y19:List GLost).map Qa0)
def Qqw (y20:(List Int)):Slot:=.own 1 ((y20:List Int).map Qal)
def Qqz (p0:GNet) (p1:(List Int)) (p2:(List GStream)) (y21:Int):Slot:=.own 7 [[(Q19 p0),(Qov p0),(.own 3 1 (0) ((p0.Elements.length:Int).toNat)),(.own 4 4 (0) ((p0.Elements.length:Int).toNat)),(.own 5 1 (0) (p1.length)),(Qon p2),(I (y21))]]
def Qsq (x29:GElement):AV:=.agg [(K .u8 (x29.Kind)),(.dat 2 ((x29.From:List GPort).map Qap)),(I (x29.Level)),(I (x29.Amount)),(I (x29.Wide)),(I (x29.Narrow)),(.dat 1 ((x29.Weights:List Int).map Qal))]
def Q15 (p0:GNet) (p1:(List Int)) (p2:(List GStream)) (x41:(Int×(List (List GStream))×(List GLost)×(List Int))):Slot:=.own 7 [[(Q19 p0),(Qov p0),(.own 3 1 (0) (((p0.Elements.length:Int).toNat))),(.own 4 4 (0) (((p0.Elements.length:Int).toNat))),(.own 5 1 (0) (p1.length)),(Qon p2),(I (x41.1))]]
def Zos:Slot:=.own 1 [[(.lit (.pointer none))]]
theorem Ql6 (N:Nat) (p0:GNet) (p1:(List Int)) (p2:(List GStream)) (r:(Int⊕(Int×Int×(List (List GStream))×(List GLost)×(List Int)))) (h:Qgj N p0 p1 p2=some r):Spec Tryz.prog 58 [(Q93 p0),(Qpi p1),(Qon p2)] [] (((Sum.elim (fun r=>(.tup [(.lit (.pointer none)),(I (r))])) (fun r=>(.tup [(.ref 2 7 (0) 0),(I (r.1))]))):(Int⊕(Int×Int×(List (List GStream))×(List GLost)×(List Int)))→AV) r) (((Sum.elim (fun r=>[(.own 1 [[(.lit (.pointer none))]]),(.own 1 [[(I (r))]])]) (fun r=>[(.own 1 [[(.ref 2 7 (0) 0)]]),(.own 1 [[(I (r.1))]]),(.own 7 [[(.dat 5 ((p0.Table:List GRow).map Qa4)),(.dat 7 ((p0.Elements:List GElement).map Qad)),(.own 3 1 (0) ((p0.Elements.length:Int).toNat)),(.own 4 4 (0) ((p0.Elements.length:Int).toNat)),(.own 5 1 (0) (p1.length)),(.dat 4 ((p2:List GStream).map Qaa)),(I (r.2.1))]]),(.own 1 ((r.2.2.1:List (List GStream)).map Qak)),(.own 4 ((r.2.2.2.1:List GLost).map Qa0)),(.own 1 ((r.2.2.2.2:List Int).map Qal))])):(Int⊕(Int×Int×(List (List GStream))×(List GLost)×(List Int)))→List Slot) r):=by
  refine Qz4 Tryz.func58 rfl (fun X φ0 w0 hφ0 hd0=>?_)
  unfold Qgj at h
  refine Q6n (k:=6) hd0 (fun n hn=>hφ0 n (Nat.le_trans (nle rfl) hn))<|wxz1<|thn ?_
  refine Q6n (k:=6) hd0 (fun n hn=>hφ0 n (Nat.le_trans (nle rfl) hn)) ?_
  obtain ⟨hm8,h⟩:=cko h
  obtain ⟨hm9,h⟩:=cko h
  obtain ⟨x11,hf10,h⟩:=bno h
  refine wy1 tbk [(3,rp [(.tmp 12,(Qov p0))] (I ((p0.Elements.length:Int)))),(4,⟨[(.tmp 13,(I ((p0.Elements.length:Int)))),(.tmp 13,(I ((p0.Elements.length:Int))))],[(3,.unused)],(.own 3 1 (0) ((p0.Elements.length:Int).toNat)),[(3,(Zor p0))],false⟩),(7,rp [(.tmp 16,(Qov p0))] (I ((p0.Elements.length:Int)))),(8,⟨[(.tmp 17,(I ((p0.Elements.length:Int)))),(.tmp 17,(I ((p0.Elements.length:Int))))],[(4,.unused)],(.own 4 4 (0) ((p0.Elements.length:Int).toNat)),[(4,(Zoq p0))],false⟩),(10,⟨[fu 95,(.tmp 19,(Qpi p1))],[(5,.unused)],(.own 5 1 (0) (p1.length)),[(5,(Ze4 p1))],false⟩),(11,rp [(.tmp 14,(.own 3 1 (0) ((p0.Elements.length:Int).toNat))),(.tmp 18,(.own 4 4 (0) ((p0.Elements.length:Int).toNat))),(.tmp 20,(.own 5 1 (0) (p1.length)))] (Zkj p0 p1)),(13,rp [(.tmp 10,(Q93 p0)),(.tmp 21,(Zkj p0 p1)),(.tmp 22,(Qon p2))] (.agg [(Q19 p0),(Qov p0),(.own 3 1 (0) ((p0.Elements.length:Int).toNat)),(.own 4 4 (0) ((p0.Elements.length:Int).toNat)),(.own 5 1 (0) (p1.length)),(Qon p2),I 0]))] ⟨alm (c:=Qad) (l:=p0.Elements) (aln rfl Tryz.underlying40 rfl),Zes (c:=Qak) (v:=([])) (z:=[nilS]) (k:=(p0.Elements.length:Int).toNat) ⟨Less.nil,tv⟩ (Qmg rfl Tryz.underlying31 te45 tz45 rfl (Q1q hm8) rfl (Q1p hm8) (Q1o hm8) rfl),alm (c:=Qad) (l:=p0.Elements) (aln rfl Tryz.underlying40 rfl),Qmg rfl Tryz.underlying32 te82 tz82 rfl (Q1q hm9) rfl (Q1p hm9) (Q1o hm9) (Qx4 Qa0 rfl),Qav (first:=[]) (cap:=[]) (vs:=[(Qpi p1)]) (σr:=[]) (σr':=[(Ze4 p1)]) (res':=(.own 5 1 (0) (p1.length))) [5] rfl Zng (Qlj N p1 _ hf10) rfl (Qbv (rnc (pld Qae) rn0)) Qat (slc (Qbf Qae) Qat) (Qdg rfl) rfl rfl rfl,Qaz (vs:=[(.own 3 1 (0) ((p0.Elements.length:Int).toNat)),(.own 4 4 (0) ((p0.Elements.length:Int).toNat)),(.own 5 1 (0) (p1.length))]) rfl ts34 tz34 rfl (by rfl) rfl,Qaz (vs:=[(Q93 p0),(Zkj p0 p1),(Qon p2)]) rfl Zq1 Zpq rfl (by rfl) rfl,tv⟩<|thn ?_
  refine Q8j (k:=6) [(1,1),(2,1)] hd0 (fun n hn=>hφ0 n (Nat.le_trans (nle rfl) hn)) Znf rfl rfl (by kernel_rfl) (by kernel_rfl) (by kernel_rfl) Qrc (fun φ1 w1 hφ1 hd1=>?_)
  obtain ⟨k16,hk_k16,h⟩:=jko h
  refine wjn (τ:=(List (List GStream))×(List GLost)×(List Int)×Int) (fun t=>k16 t=some r) (fun ⟨y12,y13,y14,y15⟩=>⟨mk 45 [(6,.ref 1 1 0 0),(7,.ref 2 1 0 0)],[(Q6v p0),Qrq,(.own 1 [[I 0]]),(Q18 y12),(Q17 y13),(.own 1 ((y14:List Int).map Qal)),(Q16 p0 p1 p2 y15)]⟩) (fun t h=>?_) ?_
  ·subst hk_k16
   obtain ⟨y12,y13,y14,y15⟩:=t
   refine wxz<|Qaf ?_
   obtain rfl:=osi h
   exact ⟨_,(mto (n:=45) (l':=[(6,.ref 0 1 0 0),(7,.ref 1 1 0 0)]) (own':=[(.own 1 [[.ref 2 7 0 0]]),(.own 1 [[(I ((-1)))]]),(Q16 p0 p1 p2 y15),(Q18 y12),(Q17 y13),(.own 1 ((y14:List Int).map Qal))]) [(6,.ref 1 1 0 0),(7,.ref 2 1 0 0)] [1,2,6,3,4,5] [Qrq,(.own 1 [[(I ((-1)))]]),(Q16 p0 p1 p2 y15),(Q18 y12),(Q17 y13),(.own 1 ((y14:List Int).map Qal))] hφ0 (prr (prr pn)) (qb (lc (.rn (rqr rfl)) ln) (qb (lc rwl ln) (qb (lc (rnd Qai) (lc (rnd Qab) (lc (.rn (Qa3 rfl)) (lc (.rn (Qa3 rfl)) (lc (.rn (Qa3 rfl)) (lc (rnd Qac) (lc rwl ln))))))) (qc (spr Qam) (qc (spr Qau) (qc (spr Qae) qn))))))),Qlo (vs:=[.ref 2 7 0 0,I (-1)]) ⟨Qbj (n:=0) (m:=1) (j:=0) (i:=0) (xs:=[[.ref 2 7 0 0]]) (by kernel_rfl) (by kernel_rfl) Qvb (by decide) rfl (nle rfl) rfl,Qbj (n:=1) (m:=1) (j:=0) (i:=0) (xs:=[[I (-1)]]) (by kernel_rfl) (by kernel_rfl) ti3 (by decide) rfl (nle rfl) rfl,tv⟩ rfl (NLt.tup _ (nlc (NLt.ref _ _ _ _ (by decide)) (nlc (NLt.of0 nll) nl0))) (by kernel_rfl) (Qao (Qbi (nlc (NLt.ref _ _ _ _ (by decide)) nl0)) (Qao (Qbi (nlc (NLt.of0 nll) nl0)) (Qao (Qbi (nlc (NLt.of0 (nld Qai _)) (nlc (NLt.of0 (nld Qab _)) (nlc (NLt.own _ _ _ _ (by decide)) (nlc (NLt.own _ _ _ _ (by decide)) (nlc (NLt.own _ _ _ _ (by decide)) (nlc (NLt.of0 (nld Qac _)) (nlc (NLt.of0 nll) nl0)))))))) (Qao (Qci Qam _) (Qao (Qci Qau _) (Qao (Qci Qae _) Qby))))))⟩
  ·skip
   refine wx tbk [(2,rp [(.tmp 27,(Qov p0))] (I ((p0.Elements.length:Int))))] ⟨alm (c:=Qad) (l:=p0.Elements) (aln rfl Tryz.underlying40 rfl),tv⟩<|Qaj ?_
   refine wmr (mto (n:=45) (l':=[(1,(Qpi p1)),(6,.ref 1 1 0 0),(7,.ref 2 1 0 0),(27,(Qov p0)),(28,(I ((p0.Elements.length:Int)))),(29,I 0)]) (own':=[(Q6v p0),Qrq,(.own 1 [[I 0]]),(.own 1 (((List.replicate (p0.Elements.length:Int).toNat ([])):List (List GStream)).map Qak)),(.own 4 (((List.replicate (p0.Elements.length:Int).toNat (⟨0,0,0,0⟩:GLost)):List GLost).map Qa0)),(Ze4 p1),(Zi6 p0 p1 p2)]) [(1,(Qpi p1)),(6,.ref 1 1 0 0),(7,.ref 2 1 0 0),(27,(Qov p0)),(28,(I ((p0.Elements.length:Int)))),(29,I 0)] [0,1,2,3,4,5,6] [(Q6v p0),Qrq,(.own 1 [[I 0]]),(Zor p0),(Zoq p0),(Ze4 p1),(Zi6 p0 p1 p2)] hφ1 (pc (rnd Qae) (prr (prr (pc (rnd Qab) (pw (pw pn)))))) (qb (lc (rnd Qai) (lc (rnd Qab) ln)) (qb (lc (.rn (rqr rfl)) ln) (qb (lc rwl ln) (qc (spr Qam) (qc (spr Qau) (qc (spr Qae) (qb (lc (rnd Qai) (lc (rnd Qab) (lc (.rn (Qa3 rfl)) (lc (.rn (Qa3 rfl)) (lc (.rn (Qa3 rfl)) (lc (rnd Qac) (lc rwl ln))))))) qn)))))))) ?_
   refine Qbt (τ:=Int×(List (List GStream))×(List GLost)×(List Int)×Int) (fun n t=>Qdl N p0 p1 p2 k16 n t.1 t.2.1 t.2.2.1 t.2.2.2.1 t.2.2.2.2=some r) (fun ⟨y17,y18,y19,y20,y21⟩=>⟨mk 45 [(1,(Qpi p1)),(6,.ref 1 1 0 0),(7,.ref 2 1 0 0),(27,(Qov p0)),(28,(I ((p0.Elements.length:Int)))),(29,I y17)],[(Q6v p0),Qrq,(.own 1 [[I 0]]),(Qqy y18),(Qqx y19),(Qqw y20),(Qqz p0 p1 p2 y21)]⟩) (fun t h=>by rw [Qdl] at h; cases h) (fun n27 ih t h=>?_) N (0,List.replicate (p0.Elements.length:Int).toNat ([]),List.replicate (p0.Elements.length:Int).toNat (⟨0,0,0,0⟩:GLost),p1,0) h
   obtain ⟨y17,y18,y19,y20,y21⟩:=t
   rw [Qdl] at h
   skip
   refine wxz<|wsq ?_
   refine bfe h (fun hc28 h=>?_) fun hc28 h=>?_
   ·refine wft hc28<|Qan<|thn<|wsq<|Qaj ?_
    obtain ⟨x29,hg30,h⟩:=bno h
    obtain ⟨hi31,hj32⟩:=gsm hg30
    refine wx tbk [(1,rp [(.tmp 27,(Qov p0)),(.tmp 29,I y17)] (.dptr (Qad (x29)) 0))] ⟨aid rfl Tryz.underlying40 Qk0 rfl rfl hi31 (mgt Qad hj32) rfl,tv⟩ ?_
    obtain ⟨x33,hg34,h⟩:=bno h
    obtain ⟨hi35,hj36⟩:=gsm hg34
    obtain ⟨x38,hf37,h⟩:=bno h
    obtain ⟨x40,hf39,h⟩:=bno h
    rcases x40 with x41 | x42
    ·replace h:=Zpx h
     refine wy1 tbk [(5,rp [(.tmp 37,(Qpi p1)),(.tmp 38,I y17)] (.dptr (Qal (x33)) 0)),(7,rp [fu 74,(.tmp 36,(Qsq x29)),(.tmp 40,I x33)] (I x38)),(8,⟨[fu 97,(.tmp 34,.ref 6 7 0 0),(.tmp 35,I y17),(.tmp 41,I x38)],[(6,(Qqz p0 p1 p2 y21)),(3,(Qqy y18)),(4,(Qqx y19)),(5,(Qqw y20))],(.tup []),[(6,(Q15 p0 p1 p2 x41)),(3,(.own 1 ((x41.2.1:List (List GStream)).map Qak))),(4,(.own 4 ((x41.2.2.1:List GLost).map Qa0))),(5,(.own 1 ((x41.2.2.2:List Int).map Qal)))],false⟩)] ⟨aid rfl Tryz.underlying27 ti3 rfl rfl hi35 (mgt Qal hj36) rfl,apv Zdw (Qjc N x29 x33 _ hf37) (nlc (NLt.agg _ (nlc nll (nlc (nld Qay _) (nlcc (nlcc (nlc (nld Qae _) nl0)))))) (nlc nll nl0)) nll,Qav (first:=[]) (cap:=[]) (vs:=[.ref 6 7 0 0,I y17,I x38]) (σr:=[(Qqz p0 p1 p2 y21),(Qqy y18),(Qqx y19),(Qqw y20)]) (σr':=[(Q15 p0 p1 p2 x41),(.own 1 ((x41.2.1:List (List GStream)).map Qak)),(.own 4 ((x41.2.2.1:List GLost).map Qa0)),(.own 1 ((x41.2.2.2:List Int).map Qal))]) (res':=(.tup [])) [6,3,4,5] rfl Zdu (Ql5 N y17 x38 p0.Table p0.Elements ((p0.Elements.length:Int).toNat) ((p0.Elements.length:Int).toNat) p1.length p2 y21 y18 y19 y20 _ hf39) rfl (Qbv (rnc (Qbo rfl) (rncc rn0))) (slc (Qar (rnc (pld Qai) (rnc (pld Qab) (rnc (Qc7 rfl) (rnc (Qc7 rfl) (rnc (Qc7 rfl) (rnc (pld Qac) (rnc (.plain _ nll) rn0)))))))) (slc (Qbf Qam) (slc (Qbf Qau) (slc (Qbf Qae) Qat)))) (slc (Qar (rnc (pld Qai) (rnc (pld Qab) (rnc (Qdg rfl) (rnc (Qdg rfl) (rnc (Qdg rfl) (rnc (pld Qac) (rnc (.plain _ nll) rn0)))))))) (slc (Qbf Qam) (slc (Qbf Qau) (slc (Qbf Qae) Qat)))) (.plain _ (NLt.tup _ nl0)) rfl rfl rfl,tv⟩<|bln<|thn<|wxz1<|thn ?_
     exact arm (mto (n:=45) [(1,(Qpi p1)),(6,.ref 1 1 0 0),(7,.ref 2 1 0 0),(27,(Qov p0)),(28,(I ((p0.Elements.length:Int)))),(29,(I (w64 (y17+1))))] [0,1,2,3,4,5,6] [(Q6v p0),Qrq,(.own 1 [[I 0]]),(.own 1 ((x41.2.1:List (List GStream)).map Qak)),(.own 4 ((x41.2.2.1:List GLost).map Qa0)),(.own 1 ((x41.2.2.2:List Int).map Qal)),(Q15 p0 p1 p2 x41)] hφ1 (pc (rnd Qae) (prr (prr (pc (rnd Qab) (pw (pw pn)))))) (qb (lc (rnd Qai) (lc (rnd Qab) ln)) (qb (lc (.rn (rqr rfl)) ln) (qb (lc rwl ln) (qc (spr Qam) (qc (spr Qau) (qc (spr Qae) (qb (lc (rnd Qai) (lc (rnd Qab) (lc (.rn (Qa3 rfl)) (lc (.rn (Qa3 rfl)) (lc (.rn (Qa3 rfl)) (lc (rnd Qac) (lc rwl ln))))))) qn)))))))) (ih (w64 (y17+1),x41.2.1,x41.2.2.1,x41.2.2.2,x41.1) h)
    ·replace h:=Zpw h
     refine Zem 8 [rb [(.tmp 6,.ref 1 1 0 0)] [(1,Qrq)] (.ref 6 7 0 0),mv 8 (I y17),rb [(.tmp 9,.ref 7 7 0 0)] [(7,(.own 7 [[(K .u8 (x29.Kind)),(.dat 2 ((x29.From:List GPort).map Qap)),I x29.Level,I x29.Amount,I x29.Wide,I x29.Narrow,(.dat 1 ((x29.Weights:List Int).map Qal))]]))] (Qsq x29),mv 1 (Qpi p1),mv 8 (I y17),rp [(.tmp 37,(Qpi p1)),(.tmp 38,I y17)] (.dptr (Qal (x33)) 0),rp [(.tmp 39,(.dptr (Qal (x33)) 0))] (I x33),rp [fu 74,(.tmp 36,(Qsq x29)),(.tmp 40,I x33)] (I x38),⟨[fu 97,(.tmp 34,.ref 6 7 0 0),(.tmp 35,I y17),(.tmp 41,I x38),(.tmp 36,(Qsq x29)),(.tmp 37,(Qpi p1)),(.tmp 38,I y17),(.tmp 39,(.dptr (Qal (x33)) 0)),(.tmp 40,I x33)],[(6,(Qqz p0 p1 p2 y21)),(3,(Qqy y18)),(4,(Qqx y19)),(5,(Qqw y20))],.any,[(6,.dead),(3,.dead),(4,.dead),(5,.dead)],false⟩] (by exact ⟨by kernel_rfl,by kernel_rfl⟩) rfl (by kernel_rfl) rfl (PStep.to (by rfl) (PStep.more (rd':=[(.tmp 36,(Qsq x29)),(.tmp 37,(Qpi p1)),(.tmp 38,I y17),(.tmp 39,(.dptr (Qal (x33)) 0)),(.tmp 40,I x33)]) (Q3e (first:=[]) (cap:=[]) (vs:=[.ref 6 7 0 0,I y17,I x38]) (σr:=[(Qqz p0 p1 p2 y21),(Qqy y18),(Qqx y19),(Qqw y20)]) [6,3,4,5] rfl Zdu (Ql4 N y17 x38 p0.Table p0.Elements ((p0.Elements.length:Int).toNat) ((p0.Elements.length:Int).toNat) p1.length p2 y21 y18 y19 y20 _ hf39) rfl (Qbv (rnc (Qbo rfl) (rncc rn0))) (slc (Qar (rnc (pld Qai) (rnc (pld Qab) (rnc (Qc7 rfl) (rnc (Qc7 rfl) (rnc (Qc7 rfl) (rnc (pld Qac) (rnc (.plain _ nll) rn0)))))))) (slc (Qbf Qam) (slc (Qbf Qau) (slc (Qbf Qae) Qat)))) rfl rfl rfl))) (⟨fun _ _=>ald rfl Qvb (by decide) rfl (nle rfl) rfl,fun _ _=>amv rfl,fun _ _=>ald rfl Qk0 (by decide) rfl (nle rfl) rfl,fun _ _=>amv rfl,fun _ _=>amv rfl,fun _ _=>aid rfl Tryz.underlying27 ti3 rfl rfl hi35 (mgt Qal hj36) rfl,fun _ _=>ald_ rfl ti3 (by decide) (nle rfl) rfl,fun _ _=>apv Zdw (Qjc N x29 x33 _ hf37) (nlc (NLt.agg _ (nlc nll (nlc (nld Qay _) (nlcc (nlcc (nlc (nld Qae _) nl0)))))) (nlc nll nl0)) nll,fun _ h=>absurd rfl h,tv⟩) ?_ (by kernel_rfl) (by kernel_rfl) (by kernel_rfl)
     obtain rfl:=osi h
     exact ⟨_,[[(.lit (.pointer none))],[I x42]],rfl,(Qp9 x42),(Q5q (nlc nll nl0) (Q5q (nlc nll nl0) Zmu)),by kernel_rfl,_,(mto (n:=45) (l':=[(6,.ref 0 1 0 0),(7,.ref 1 1 0 0)]) (own':=[Zos,(.own 1 [[I x42]])]) [(6,.ref 1 1 0 0),(7,.ref 2 1 0 0)] [1,2] [Zos,(.own 1 [[I x42]])] hφ0 (prr (prr pn)) (qb (lc rwl ln) (qb (lc rwl ln) qn))),Qlo (vs:=[(.lit (.pointer none)),I x42]) ⟨Qbj (n:=0) (m:=1) (j:=0) (i:=0) (xs:=[[(.lit (.pointer none))]]) (by kernel_rfl) (by kernel_rfl) Qvb (by decide) rfl (nle rfl) rfl,Qbj (n:=1) (m:=1) (j:=0) (i:=0) (xs:=[[I x42]]) (by kernel_rfl) (by kernel_rfl) ti3 (by decide) rfl (nle rfl) rfl,tv⟩ rfl (NLt.tup _ (nlc (NLt.of0 nll) (nlc (NLt.of0 nll) nl0))) (by kernel_rfl) (Qao (Qbi (nlc (NLt.of0 nll) nl0)) (Qao (Qbi (nlc (NLt.of0 nll) nl0)) Qby))⟩
   ·exact wfn hc28<|Qbd<|Qax<|Qax<|Qbc rfl<|thn<|⟨(y18,y19,y20,y21),h,(mto (n:=45) [(6,.ref 1 1 0 0),(7,.ref 2 1 0 0)] [0,1,2,3,4,5,6] [(Q6v p0),Qrq,(.own 1 [[I 0]]),(Qqy y18),(Qqx y19),(Qqw y20),(Qqz p0 p1 p2 y21)] hφ1 (prr (prr pn)) (qb (lc (rnd Qai) (lc (rnd Qab) ln)) (qb (lc (.rn (rqr rfl)) ln) (qb (lc rwl ln) (qc (spr Qam) (qc (spr Qau) (qc (spr Qae) (qb (lc (rnd Qai) (lc (rnd Qab) (lc (.rn (Qa3 rfl)) (lc (.rn (Qa3 rfl)) (lc (.rn (Qa3 rfl)) (lc (rnd Qac) (lc rwl ln))))))) qn))))))))⟩
theorem Qqb (N:Nat) (p0:GNet) (p1:(List Int)) (p2:(List GStream)) (r:Int) (h:Qgj N p0 p1 p2=some (.inl r)):Spec Tryz.prog 58 [(Q93 p0),(Qpi p1),(Qon p2)] [] (.tup [(.lit (.pointer none)),I r]) [(.own 1 [[(.lit (.pointer none))]]),(.own 1 [[I r]])]:=Ql6 N p0 p1 p2 _ h
theorem Qqa (N:Nat) (p0:GNet) (p1:(List Int)) (p2:(List GStream)) (r:(Int×Int×(List (List GStream))×(List GLost)×(List Int))) (h:Qgj N p0 p1 p2=some (.inr r)):Spec Tryz.prog 58 [(Q93 p0),(Qpi p1),(Qon p2)] [] (.tup [.ref 2 7 0 0,I r.1]) [(.own 1 [[.ref 2 7 0 0]]),(.own 1 [[I r.1]]),(.own 7 [[(.dat 5 ((p0.Table:List GRow).map Qa4)),(.dat 7 ((p0.Elements:List GElement).map Qad)),(.own 3 1 (0) ((p0.Elements.length:Int).toNat)),(.own 4 4 (0) ((p0.Elements.length:Int).toNat)),(.own 5 1 (0) (p1.length)),(.dat 4 ((p2:List GStream).map Qaa)),I r.2.1]]),(.own 1 ((r.2.2.1:List (List GStream)).map Qak)),(.own 4 ((r.2.2.2.1:List GLost).map Qa0)),(.own 1 ((r.2.2.2.2:List Int).map Qal))]:=Ql6 N p0 p1 p2 _ h
def Qmo (N:Nat) (p0:GNet) (p1:(List Int)) (p2:(List GStream)):Option (GTick×Int×Int):=
  (Qk6 N p0 p1 p2).bind fun x11=>
  bif (x11 != 0) then
   some ((⟨[],[],[]⟩:GTick),0,x11)
  else
   (Qgj N p0 p1 p2).bind (
    Sum.elim (fun x15=>
      bif (decide (x15≥0)) then
       some ((⟨[],[],[]⟩:GTick),x15,11)
      else
       none)
    (fun x17=>
      bif (decide (x17.1≥0)) then
       some ((⟨[],[],[]⟩:GTick),x17.1,11)
      else
       chk (decide ((p0.Elements.length:Int).toNat≤x17.2.2.1.length))<|
       chk (decide ((p0.Elements.length:Int).toNat≤x17.2.2.2.1.length))<|
       chk (decide (p1.length≤x17.2.2.2.2.length))<|
       some ((⟨x17.2.2.1.take ((p0.Elements.length:Int).toNat),x17.2.2.2.1.take ((p0.Elements.length:Int).toNat),x17.2.2.2.2.take p1.length⟩:GTick),0,0)))
def Zko (p0:GNet):AV:=.dat 5 ((p0.Table:List GRow).map Qa4)
def Zkn (p0:GNet):AV:=.dat 7 ((p0.Elements:List GElement).map Qad)
def Q97 (p0:GNet):AV:=.agg [(Zko p0),(Zkn p0)]
def Q95 (p1:(List Int)):AV:=.dat 1 ((p1:List Int).map Qal)
def Q6w (p2:(List GStream)):AV:=.dat 4 ((p2:List GStream).map Qaa)
def Zkk:AV:=.agg [nilS,nilS,nilS]
def Q98:Slot:=.own 3 [[(.dat 1 ((((⟨[],[],[]⟩:GTick).Out):List (List GStream)).map Qak)),(.dat 4 ((((⟨[],[],[]⟩:GTick).Lost):List GLost).map Qa0)),(.dat 1 ((((⟨[],[],[]⟩:GTick).State):List Int).map Qal))]]
def Zkl:Slot:=.own 3 [[nilS,nilS,nilS]]
def Q4h:AV:=.dat 1 (((⟨[],[],[]⟩:GTick).Out:List (List GStream)).map Qak)
def Q4g:AV:=.dat 4 (((⟨[],[],[]⟩:GTick).Lost:List GLost).map Qa0)
def Q4f:AV:=.dat 1 (((⟨[],[],[]⟩:GTick).State:List Int).map Qal)
def Q96:AV:=.agg [Q4h,Q4g,Q4f]
def Zot:Slot:=.own 1 [[(.lit (.pointer none))]]
def Q94:Slot:=.own 1 [[(.ref 4 7 (0) 0)]]
def Qvk (p0:GNet) (p1:(List Int)) (p2:(List GStream)) (x17:(Int×Int×(List (List GStream))×(List GLost)×(List Int))):Slot:=.own 7 [[(Zko p0),(Zkn p0),(.own 5 1 (0) ((p0.Elements.length:Int).toNat)),(.own 6 4 (0) ((p0.Elements.length:Int).toNat)),(.own 7 1 (0) (p1.length)),(Q6w p2),(I (x17.2.1))]]
def Qpj (x17:(Int×Int×(List (List GStream))×(List GLost)×(List Int))) (p0:GNet):AV:=.dat 1 ((x17.2.2.1.take ((p0.Elements.length:Int).toNat):List (List GStream)).map Qak)
def Zkm (p0:GNet):Slot:=.own 2 [[(Zko p0),(Zkn p0)]]
def Qvj (x17:(Int×Int×(List (List GStream))×(List GLost)×(List Int))) (p0:GNet):AV:=.dat 4 ((x17.2.2.2.1.take ((p0.Elements.length:Int).toNat):List GLost).map Qa0)
def Zi9 (x17:(Int×Int×(List (List GStream))×(List GLost)×(List Int))) (p0:GNet) (p1:(List Int)):AV:=.dat 1 (((⟨x17.2.2.1.take ((p0.Elements.length:Int).toNat),x17.2.2.2.1.take ((p0.Elements.length:Int).toNat),x17.2.2.2.2.take p1.length⟩:GTick).Out:List (List GStream)).map Qak)
def Zi8 (x17:(Int×Int×(List (List GStream))×(List GLost)×(List Int))) (p0:GNet) (p1:(List Int)):AV:=.dat 4 (((⟨x17.2.2.1.take ((p0.Elements.length:Int).toNat),x17.2.2.2.1.take ((p0.Elements.length:Int).toNat),x17.2.2.2.2.take p1.length⟩:GTick).Lost:List GLost).map Qa0)
def Zi7 (x17:(Int×Int×(List (List GStream))×(List GLost)×(List Int))) (p0:GNet) (p1:(List Int)):AV:=.dat 1 (((⟨x17.2.2.1.take ((p0.Elements.length:Int).toNat),x17.2.2.2.1.take ((p0.Elements.length:Int).toNat),x17.2.2.2.2.take p1.length⟩:GTick).State:List Int).map Qal)
theorem Qo7 (N:Nat) (p0:GNet) (p1:(List Int)) (p2:(List GStream)) (r:(GTick×Int×Int)) (h:Qmo N p0 p1 p2=some r):Spec Tryz.prog 16 [(.agg (Qhz p0)),(.dat 1 (p1.map Qal)),(.dat 4 (p2.map Qaa))] [] (.tup [(.agg [(.dat 1 ((r.1.Out:List (List GStream)).map Qak)),(.dat 4 ((r.1.Lost:List GLost).map Qa0)),(.dat 1 ((r.1.State:List Int).map Qal))]),(I (r.2.1)),(I (r.2.2))]) []:=by
  refine Qah Tryz.func16 rfl 0 (nle rfl) (fun X φ0 w0 hφ0 hd0=>?_)
  unfold Qmo at h
  refine Qb0<|wxz<|wsq ?_
  obtain ⟨x11,hf10,h⟩:=bno h
  refine wx tbk [(3,rp [fu 57,(.tmp 12,(Q97 p0)),(.tmp 13,(Q95 p1)),(.tmp 14,(Q6w p2))] (I x11))] ⟨apv Znr (Qve N p0 p1 p2 _ hf10) (nlc (NLt.agg _ (nlc (nld Qai _) (nlc (nld Qab _) nl0))) (nlc (nld Qae _) (nlc (nld Qac _) nl0))) nll,tv⟩<|wxz ?_
  refine bfe h (fun hc12 h=>?_) fun hc12 h=>?_
  ·refine wft hc12<|wx tbk [(0,rp [] Zkk)] ⟨Qaz (vs:=[]) rfl ts34 tz34 rfl (by rfl) rfl,tv⟩ ?_
   refine wmr (mto (n:=35) (l':=[(6,.ref 0 3 0 0),(7,I 0),(8,I x11)]) (own':=[Q98]) [(6,.ref 1 3 0 0),(7,I 0),(8,I x11)] [1] [Zkl] hφ0 (prr (pw (pw pn))) (qb (lc (.nil _) (lc (.nil _) (lc (.nil _) ln))) qn))<|Qaf<|Qag ?_
   obtain rfl:=osi h
   exact ⟨_,Mor.rfl,⟨⟨[Q96,I 0,I x11],⟨Qbj (n:=0) (m:=3) (j:=0) (i:=0) (xs:=[[Q4h,Q4g,Q4f]]) (by kernel_rfl) (by kernel_rfl) ti34 (by decide) rfl (nle rfl) rfl,rot,rot,tv⟩,rfl⟩,(NLt.tup _ (nlc (NLt.agg _ (nlc (nld Qam _) (nlc (nld Qau _) (nlc (nld Qae _) nl0)))) (nlcc nl0))),Nat.le_refl _,fun n hn=>absurd hn (Nat.not_lt_zero n)⟩⟩
  ·refine wfn hc12<|Qan<|thn ?_
   obtain ⟨x14,hf13,h⟩:=bno h
   rcases x14 with x15 | x17
   ·replace h:=Zpx h
    refine wx tbk [(3,⟨[fu 58,(.tmp 21,(Q97 p0)),(.tmp 22,(Q95 p1)),(.tmp 23,(Q6w p2))],[(2,.unused),(3,.unused)],(.tup [(.lit (.pointer none)),I x15]),[(2,Zot),(3,.own 1 [[I x15]])],false⟩)] ⟨Qav (first:=[]) (cap:=[]) (vs:=[(Q97 p0),(Q95 p1),(Q6w p2)]) (σr:=[]) (σr':=[Zot,(.own 1 [[I x15]])]) (res':=(.tup [(.lit (.pointer none)),I x15])) [2,3] rfl Zd1 (Qqb N p0 p1 p2 _ hf13) rfl (Qbv (rnc (.plain _ (NLt.agg _ (nlc (nld Qai _) (nlc (nld Qab _) nl0)))) (rnc (pld Qae) (rnc (pld Qac) rn0)))) Qat (slc (Qar (rnc (.plain _ nll) rn0)) (slc (Qar (rnc (.plain _ nll) rn0)) Qat)) (.plain _ (NLt.tup _ (nlcc nl0))) rfl rfl rfl,tv⟩<|wsq<|wxz ?_
    refine bfe h (fun hc16 h=>?_) fun hc16 h=>?_
    ·refine wft hc16<|wx tbk [(0,rp [] Zkk)] ⟨Qaz (vs:=[]) rfl ts34 tz34 rfl (by rfl) rfl,tv⟩ ?_
     refine wmr (mto (n:=35) (l':=[(6,.ref 0 3 0 0),(7,I x15),(8,I 11)]) (own':=[Q98]) [(6,.ref 1 3 0 0),(7,I x15),(8,I 11)] [1] [Zkl] hφ0 (prr (pw (pw pn))) (qb (lc (.nil _) (lc (.nil _) (lc (.nil _) ln))) qn))<|Qaf<|Qag ?_
     obtain rfl:=osi h
     exact ⟨_,Mor.rfl,⟨⟨[Q96,I x15,I 11],⟨Qbj (n:=0) (m:=3) (j:=0) (i:=0) (xs:=[[Q4h,Q4g,Q4f]]) (by kernel_rfl) (by kernel_rfl) ti34 (by decide) rfl (nle rfl) rfl,rot,rot,tv⟩,rfl⟩,(NLt.tup _ (nlc (NLt.agg _ (nlc (nld Qam _) (nlc (nld Qau _) (nlc (nld Qae _) nl0)))) (nlcc nl0))),Nat.le_refl _,fun n hn=>absurd hn (Nat.not_lt_zero n)⟩⟩
    ·refine wfn hc16<|Qan<|thn ?_
     cases h
   ·replace h:=Zpw h
    refine wx tbk [(3,⟨[fu 58,(.tmp 21,(Q97 p0)),(.tmp 22,(Q95 p1)),(.tmp 23,(Q6w p2))],[(2,.unused),(3,.unused),(4,.unused),(5,.unused),(6,.unused),(7,.unused)],(.tup [.ref 4 7 0 0,I x17.1]),[(2,Q94),(3,.own 1 [[I x17.1]]),(4,(Qvk p0 p1 p2 x17)),(5,(.own 1 ((x17.2.2.1:List (List GStream)).map Qak))),(6,(.own 4 ((x17.2.2.2.1:List GLost).map Qa0))),(7,(.own 1 ((x17.2.2.2.2:List Int).map Qal)))],false⟩)] ⟨Qav (first:=[]) (cap:=[]) (vs:=[(Q97 p0),(Q95 p1),(Q6w p2)]) (σr:=[]) (σr':=[Q94,(.own 1 [[I x17.1]]),(Qvk p0 p1 p2 x17),(.own 1 ((x17.2.2.1:List (List GStream)).map Qak)),(.own 4 ((x17.2.2.2.1:List GLost).map Qa0)),(.own 1 ((x17.2.2.2.2:List Int).map Qal))]) (res':=(.tup [.ref 4 7 0 0,I x17.1])) [2,3,4,5,6,7] rfl Zd1 (Qqa N p0 p1 p2 _ hf13) rfl (Qbv (rnc (.plain _ (NLt.agg _ (nlc (nld Qai _) (nlc (nld Qab _) nl0)))) (rnc (pld Qae) (rnc (pld Qac) rn0)))) Qat (slc (Qar (rnc (Qbr rfl) rn0)) (slc (Qar (rnc (.plain _ nll) rn0)) (slc (Qar (rnc (pld Qai) (rnc (pld Qab) (rnc (Qdg rfl) (rnc (Qdg rfl) (rnc (Qdg rfl) (rnc (pld Qac) (rnc (.plain _ nll) rn0)))))))) (slc (Qbf Qam) (slc (Qbf Qau) (slc (Qbf Qae) Qat)))))) (Zp0 (rnc (Qbr rfl) (rnc (.plain _ nll) rn0))) rfl rfl rfl,tv⟩<|wsq<|wxz ?_
    refine bfe h (fun hc18 h=>?_) fun hc18 h=>?_
    ·refine wft hc18<|wx tbk [(0,rp [] Zkk)] ⟨Qaz (vs:=[]) rfl ts34 tz34 rfl (by rfl) rfl,tv⟩ ?_
     refine wmr (mto (n:=35) (l':=[(6,.ref 0 3 0 0),(7,I x17.1),(8,I 11)]) (own':=[Q98]) [(6,.ref 1 3 0 0),(7,I x17.1),(8,I 11)] [1] [Zkl] hφ0 (prr (pw (pw pn))) (qb (lc (.nil _) (lc (.nil _) (lc (.nil _) ln))) qn))<|Qaf<|Qag ?_
     obtain rfl:=osi h
     exact ⟨_,Mor.rfl,⟨⟨[Q96,I x17.1,I 11],⟨Qbj (n:=0) (m:=3) (j:=0) (i:=0) (xs:=[[Q4h,Q4g,Q4f]]) (by kernel_rfl) (by kernel_rfl) ti34 (by decide) rfl (nle rfl) rfl,rot,rot,tv⟩,rfl⟩,(NLt.tup _ (nlc (NLt.agg _ (nlc (nld Qam _) (nlc (nld Qau _) (nlc (nld Qae _) nl0)))) (nlcc nl0))),Nat.le_refl _,fun n hn=>absurd hn (Nat.not_lt_zero n)⟩⟩
    ·refine wfn hc18<|Qan<|thn ?_
     refine wx tbk [(1,rb [(.tmp 31,.ref 4 7 0 0)] [(4,(Qvk p0 p1 p2 x17))] (.ref 4 7 0 0))] ⟨Qbh rfl,tv⟩ ?_
     obtain ⟨hz19,h⟩:=cko h
     refine wmr (Q3j (n:=35) (mp:=3) (m:=1) (xs:=(x17.2.2.1:List (List GStream)).map Qak) (c:=[(.own 5 1 (0) ((p0.Elements.length:Int).toNat)),(.own 6 4 (0) ((p0.Elements.length:Int).toNat)),(.own 7 1 (0) (p1.length))]) (l':=[(6,.ref 1 3 0 0),(7,I 0),(8,I 0)]) (c':=[(Qpj x17 p0),(.own 6 4 (0) ((p0.Elements.length:Int).toNat)),(.own 7 1 (0) (p1.length))]) (own':=[(Zkm p0),(.own 3 [[(Qpj x17 p0),(.own 6 4 (0) ((p0.Elements.length:Int).toNat)),(.own 7 1 (0) (p1.length))]]),Q94,(.own 1 [[I x17.1]]),(Qvk p0 p1 p2 x17),.dead,(.own 4 ((x17.2.2.2.1:List GLost).map Qa0)),(.own 1 ((x17.2.2.2.2:List Int).map Qal))]) 5 1 [(6,.ref 1 3 0 0),(7,I 0),(8,I 0)] (by kernel_rfl) (by kernel_rfl) (by kernel_rfl) (by kernel_rfl) ⟨(Qrk hz19),(.same _),(.same _),tv⟩ ⟨rfl,(.same _),rfl,(.same _),rfl,(.same _),tv⟩ (by kernel_rfl)) ?_
     obtain ⟨hz20,h⟩:=cko h
     refine wmr (Q3j (n:=35) (mp:=3) (m:=4) (xs:=(x17.2.2.2.1:List GLost).map Qa0) (c:=[(Qpj x17 p0),(.own 6 4 (0) ((p0.Elements.length:Int).toNat)),(.own 7 1 (0) (p1.length))]) (l':=[(6,.ref 1 3 0 0),(7,I 0),(8,I 0)]) (c':=[(Qpj x17 p0),(Qvj x17 p0),(.own 7 1 (0) (p1.length))]) (own':=[(Zkm p0),(.own 3 [[(Qpj x17 p0),(Qvj x17 p0),(.own 7 1 (0) (p1.length))]]),Q94,(.own 1 [[I x17.1]]),(Qvk p0 p1 p2 x17),.dead,.dead,(.own 1 ((x17.2.2.2.2:List Int).map Qal))]) 6 1 [(6,.ref 1 3 0 0),(7,I 0),(8,I 0)] (by kernel_rfl) (by kernel_rfl) (by kernel_rfl) (by kernel_rfl) ⟨(.same _),(Qrk hz20),(.same _),tv⟩ ⟨rfl,(.same _),rfl,(.same _),rfl,(.same _),tv⟩ (by kernel_rfl)) ?_
     obtain ⟨hz21,h⟩:=cko h
     refine wmr (Q3j (n:=35) (mp:=3) (m:=1) (xs:=(x17.2.2.2.2:List Int).map Qal) (c:=[(Qpj x17 p0),(Qvj x17 p0),(.own 7 1 (0) (p1.length))]) (l':=[(6,.ref 1 3 0 0),(7,I 0),(8,I 0)]) (c':=[(Qpj x17 p0),(Qvj x17 p0),(.dat 1 ((x17.2.2.2.2.take p1.length:List Int).map Qal))]) (own':=[(Zkm p0),(.own 3 [[(Qpj x17 p0),(Qvj x17 p0),(.dat 1 ((x17.2.2.2.2.take p1.length:List Int).map Qal))]]),Q94,(.own 1 [[I x17.1]]),(Qvk p0 p1 p2 x17),.dead,.dead,.dead]) 7 1 [(6,.ref 1 3 0 0),(7,I 0),(8,I 0)] (by kernel_rfl) (by kernel_rfl) (by kernel_rfl) (by kernel_rfl) ⟨(.same _),(.same _),(Qrk hz21),tv⟩ ⟨rfl,(.same _),rfl,(.same _),rfl,(.same _),tv⟩ (by kernel_rfl)) ?_
     refine wmr (mto (n:=35) (l':=[(6,.ref 0 3 0 0),(7,I 0),(8,I 0)]) (own':=[(.own 3 [[(.dat 1 ((((⟨x17.2.2.1.take ((p0.Elements.length:Int).toNat),x17.2.2.2.1.take ((p0.Elements.length:Int).toNat),x17.2.2.2.2.take p1.length⟩:GTick).Out):List (List GStream)).map Qak)),(.dat 4 ((((⟨x17.2.2.1.take ((p0.Elements.length:Int).toNat),x17.2.2.2.1.take ((p0.Elements.length:Int).toNat),x17.2.2.2.2.take p1.length⟩:GTick).Lost):List GLost).map Qa0)),(.dat 1 ((((⟨x17.2.2.1.take ((p0.Elements.length:Int).toNat),x17.2.2.2.1.take ((p0.Elements.length:Int).toNat),x17.2.2.2.2.take p1.length⟩:GTick).State):List Int).map Qal))]])]) [(6,.ref 1 3 0 0),(7,I 0),(8,I 0)] [1] [(.own 3 [[(Qpj x17 p0),(Qvj x17 p0),(.dat 1 ((x17.2.2.2.2.take p1.length:List Int).map Qal))]])] hφ0 (prr (pw (pw pn))) (qb (lc (rnd Qam) (lc (rnd Qau) (lc (rnd Qae) ln))) qn))<|Qaf ?_
     obtain rfl:=osi h
     exact ⟨_,Mor.rfl,⟨⟨[(.agg [(Zi9 x17 p0 p1),(Zi8 x17 p0 p1),(Zi7 x17 p0 p1)]),I 0,I 0],⟨Qbj (n:=0) (m:=3) (j:=0) (i:=0) (xs:=[[(Zi9 x17 p0 p1),(Zi8 x17 p0 p1),(Zi7 x17 p0 p1)]]) (by kernel_rfl) (by kernel_rfl) ti34 (by decide) rfl (nle rfl) rfl,rot,rot,tv⟩,rfl⟩,(NLt.tup _ (nlc (NLt.agg _ (nlc (nld Qam _) (nlc (nld Qau _) (nlc (nld Qae _) nl0)))) (nlcc nl0))),Nat.le_refl _,fun n hn=>absurd hn (Nat.not_lt_zero n)⟩⟩
def Qo9 (_N:Nat):Option (GNet×(List GStream)):=
  some ((⟨[(⟨100,101,419,2676,150⟩:GRow),(⟨150,476,632,2746,300⟩:GRow),(⟨200,1555,852,2793,600⟩:GRow)],[(⟨1,[],2,0,1000,1000000,[]⟩:GElement),(⟨3,[(⟨0,0⟩:GPort)],2,2000,1000,1000000,[]⟩:GElement),(⟨4,[(⟨1,0⟩:GPort)],0,100,1000,1000000,[]⟩:GElement)]⟩:GNet),[(⟨1000,852000,250000,50⟩:GStream)])
def Zkg:AV:=.agg [(I (100)),(I (101)),(I (419)),(I (2676)),(I (150))]
def Zkf:AV:=.agg [(I (150)),(I (476)),(I (632)),(I (2746)),(I (300))]
def Zke:AV:=.agg [(I (200)),(I (1555)),(I (852)),(I (2793)),(I (600))]
def Q6u:AV:=.dat 5 (([(⟨100,101,419,2676,150⟩:GRow),(⟨150,476,632,2746,300⟩:GRow),(⟨200,1555,852,2793,600⟩:GRow)]:List GRow).map Qa4)
def Zon:AV:=.agg [(K .u8 (1)),nilS,(I (2)),(I (0)),(I (1000)),(I (1000000)),nilS]
def Zkd:AV:=.agg [(I (0)),(I (0))]
def Q9p:AV:=.dat 2 (([(⟨0,0⟩:GPort)]:List GPort).map Qap)
def Zom:AV:=.agg [(K .u8 (3)),Q9p,(I (2)),(I (2000)),(I (1000)),(I (1000000)),nilS]
def Zkc:AV:=.agg [(I (1)),(I (0))]
def Q9o:AV:=.dat 2 (([(⟨1,0⟩:GPort)]:List GPort).map Qap)
def Zi3:AV:=.agg [(K .u8 (4)),Q9o,(I (0)),(I (100)),(I (1000)),(I (1000000)),nilS]
def Qvi:AV:=.dat 7 (([(⟨1,[],2,0,1000,1000000,[]⟩:GElement),(⟨3,[(⟨0,0⟩:GPort)],2,2000,1000,1000000,[]⟩:GElement),(⟨4,[(⟨1,0⟩:GPort)],0,100,1000,1000000,[]⟩:GElement)]:List GElement).map Qad)
def Q9r:AV:=.dat 1 (([]:List Int).map Qal)
def Zi2:AV:=.agg [(K .u8 (1)),(.dat 2 (([]:List GPort).map Qap)),(I (2)),(I (0)),(I (1000)),(I (1000000)),Q9r]
def Zi1:AV:=.agg [(K .u8 (3)),Q9p,(I (2)),(I (2000)),(I (1000)),(I (1000000)),Q9r]
def Zi0:AV:=.agg [(K .u8 (4)),Q9o,(I (0)),(I (100)),(I (1000)),(I (1000000)),Q9r]
def Q9q:AV:=.agg [(I (1000)),(I (852000)),(I (250000)),(I (50))]
def Ziz:AV:=.dat 4 (([(⟨1000,852000,250000,50⟩:GStream)]:List GStream).map Qaa)
theorem Qvg (N:Nat) (r:(GNet×(List GStream))) (h:Qo9 N=some r):Spec Tryz.prog 55 [] [] (.tup [(.agg (Qhz r.1)),(.dat 4 (r.2.map Qaa))]) []:=by
  refine Qah Tryz.func55 rfl 0 (nle rfl) (fun X φ0 w0 hφ0 hd0=>?_)
  unfold Qo9 at h
  refine wxz<|wx tbk [(0,rp [ci 100,ci 101,ci 419,ci 2676,ci 150] Zkg),(1,rp [ci 150,ci 476,ci 632,ci 2746,ci 300] Zkf),(2,rp [ci 200,ci 1555,ci 852,ci 2793,ci 600] Zke),(3,rp [(.tmp 4,Zkg),(.tmp 5,Zkf),(.tmp 6,Zke)] Q6u)] ⟨Qaz (vs:=[I 100,I 101,I 419,I 2676,I 150]) rfl Zf4 Q21 rfl (by rfl) rfl,Qaz (vs:=[I 150,I 476,I 632,I 2746,I 300]) rfl Zf4 Q21 rfl (by rfl) rfl,Qaz (vs:=[I 200,I 1555,I 852,I 2793,I 600]) rfl Zf4 Q21 rfl (by rfl) rfl,Qbe (vs:=[Zkg,Zkf,Zke]) rfl Tryz.underlying39 Qva Q21 rfl (by decide) rfl (by decide) (by rfl) (by rfl) (by rfl) rfl,tv⟩ ?_
  refine wx tbk [(0,rp [(.const (.int .u8 1),(K .u8 (1))),ci 2,ci 1000,ci 1000000] Zon),(1,rp [] Zkd),(2,rp [(.tmp 9,Zkd)] Q9p),(3,rp [(.const (.int .u8 3),(K .u8 (3))),(.tmp 10,Q9p),ci 2,ci 2000,ci 1000,ci 1000000] Zom),(4,rp [ci 1] Zkc),(5,rp [(.tmp 12,Zkc)] Q9o),(6,rp [(.const (.int .u8 4),(K .u8 (4))),(.tmp 13,Q9o),ci 100,ci 1000,ci 1000000] Zi3),(7,rp [(.tmp 8,Zon),(.tmp 11,Zom),(.tmp 14,Zi3)] Qvi)] ⟨Qaz (vs:=[(K .u8 (1)),I 2,I 1000,I 1000000]) rfl Zf5 Q22 rfl (by rfl) rfl,Qaz (vs:=[]) rfl Zb2 Qu8 rfl (by rfl) rfl,Qbe (vs:=[Zkd]) rfl Tryz.underlying116 Qq3 Qu8 rfl (by decide) rfl (by decide) (by rfl) (by rfl) (by rfl) rfl,Qaz (vs:=[(K .u8 (3)),Q9p,I 2,I 2000,I 1000,I 1000000]) rfl Zf5 Q22 rfl (by rfl) rfl,Qaz (vs:=[I 1]) rfl Zb2 Qu8 rfl (by rfl) rfl,Qbe (vs:=[Zkc]) rfl Tryz.underlying116 Qq3 Qu8 rfl (by decide) rfl (by decide) (by rfl) (by rfl) (by rfl) rfl,Qaz (vs:=[(K .u8 (4)),Q9o,I 100,I 1000,I 1000000]) rfl Zf5 Q22 rfl (by rfl) rfl,awk (rd':=[(.tmp 8,Zi2),(.tmp 11,Zi1),(.tmp 14,Zi0)]) ⟨rfl,(Less.agg ⟨lrf,Less.nil,lrf,lrf,lrf,lrf,Less.nil,tv⟩),rfl,(Less.agg ⟨lrf,lrf,lrf,lrf,lrf,lrf,Less.nil,tv⟩),rfl,(Less.agg ⟨lrf,lrf,lrf,lrf,lrf,lrf,Less.nil,tv⟩),tv⟩ (Qbe (vs:=[Zi2,Zi1,Zi0]) rfl Tryz.underlying40 Qk0 Q22 rfl (by decide) rfl (by decide) (by rfl) (by rfl) (by rfl) rfl),tv⟩ ?_
  refine wx tbk [(2,rp [(.tmp 16,Q6u),(.tmp 17,Qvi)] (.agg [Q6u,Qvi])),(3,rp [ci 1000,ci 852000,ci 250000,ci 50] Q9q),(4,rp [(.tmp 19,Q9q)] Ziz)] ⟨Qaz (vs:=[Q6u,Qvi]) rfl ts42 tz42 rfl (by rfl) rfl,Qaz (vs:=[I 1000,I 852000,I 250000,I 50]) rfl ts63 tz63 rfl (by rfl) rfl,Qbe (vs:=[Q9q]) rfl Tryz.underlying45 ti63 tz63 rfl (by decide) rfl (by decide) (by rfl) (by rfl) (by rfl) rfl,tv⟩<|Qaf ?_
  obtain rfl:=osi h
  exact fend ⟨[(.agg [Q6u,Qvi]),Ziz],⟨Qbj (n:=0) (m:=2) (j:=0) (i:=0) (xs:=[[Q6u,Qvi]]) (by kernel_rfl) (by kernel_rfl) ti42 (by decide) rfl (nle rfl) rfl,rot,tv⟩,rfl⟩ (NLt.tup _ (nlc (NLt.agg _ (nlc (nld Qai _) (nlc (nld Qab _) nl0))) (nlc (nld Qac _) nl0)))
def Qhr (N:Nat):Option Bool:=
  (Qo9 2000 ).bind fun x2=>
  (Qrd N (⟨x2.1.Table,x2.1.Elements⟩:GNet)).bind fun x4=>
  (Qmo N (⟨x2.1.Table,x2.1.Elements⟩:GNet) ([0,0,0]) x2.2).bind fun x6=>
  bif (x4.2==0) then
   bif (x6.2.2==0) then
    bif ((x4.1.length:Int)==2) then
     (getI x4.1 1).bind fun x10=>
     bif (([x10.Element,x10.Outlet]:List Int)==[2,1]) then
      bif ((x6.1.Out.length:Int)==3) then
       (getI x6.1.Out 2).bind fun x16=>
       bif ((x16.length:Int)==2) then
        bif ((x6.1.Lost.length:Int)==3) then
         (getI x16 0).bind fun x22=>
         bif (([x22.Mass,x22.Heat,x22.Silica,x22.Gas]:List Int)==[271,542596,12150,50]) then
          (getI x16 1).bind fun x27=>
          bif (([x27.Mass,x27.Heat,x27.Silica,x27.Gas]:List Int)==[729,307404,109350,0]) then
           (getI x6.1.Lost 1).bind fun x32=>
           bif (x32.Heat==2000) then
            (getI x6.1.Lost 2).bind fun x37=>
            some (x37.Scale==128500)
           else
            some false
          else
           some false
         else
          some false
        else
         some false
       else
        some false
      else
       some false
     else
      some false
    else
     some false
   else
    some false
  else
   some false
def Zki (x2:(GNet×(List GStream))):AV:=.agg [(.dat 5 ((x2.1.Table:List GRow).map Qa4)),(.dat 7 ((x2.1.Elements:List GElement).map Qad))]
def Zop (x2:(GNet×(List GStream))):AV:=.dat 4 ((x2.2:List GStream).map Qaa)
def Zkh (x4:((List GPort)×Int)):AV:=.dat 2 ((x4.1:List GPort).map Qap)
def Zoo:AV:=.dat 1 (([0,0,0]:List Int).map Qal)
def Q9s (x6:(GTick×Int×Int)):AV:=.dat 1 ((x6.1.Out:List (List GStream)).map Qak)
def Ze3 (x6:(GTick×Int×Int)):AV:=.dat 4 ((x6.1.Lost:List GLost).map Qa0)
def Q91 (x4:((List GPort)×Int)):List (Nat×Rec):=[(2,rp [((.tmp 26),(B ((x4.2==0))))] (B (true)))]
def Q90 (x4) (x6:(GTick×Int×Int)):=hcat (Q91 x4) [(6,rp [((.tmp 30),(B ((x6.2.2==0))))] (B (true))),(8,rp [((.tmp 31),(B (true))),((.tmp 32),(Zkh x4))] (I ((x4.1.length:Int))))]
def Q9z (x4) (x6) (x10:GPort):=hcat (Q90 x4 x6) [(11,rp [((.tmp 35),(B (((x4.1.length:Int)==2))))] (B (true))),(13,rp [((.tmp 36),(B (true))),((.tmp 37),(Zkh x4)),ci 1] (.dptr (Qap (x10)) 0)),(15,rp [((.tmp 36),(B (true))),ci 2,ci 1] (.agg [(I (2)),(I (1))])),(16,rp [((.tmp 36),(B (true))),((.tmp 39),(.agg [(I (x10.Element)),(I (x10.Outlet))])),((.tmp 40),(.agg [(I (2)),(I (1))]))] (B ((([x10.Element,x10.Outlet]:List Int)==[2,1]))))]
def Q9y (x4) (x6) (x10):=hcat (Q9z x4 x6 x10) [(18,rp [((.tmp 42),(B ((([x10.Element,x10.Outlet]:List Int)==[2,1]))))] (B (true))),(21,rp [((.tmp 43),(B (true))),((.tmp 45),(Q9s x6))] (I ((x6.1.Out.length:Int))))]
def Q92 (x16:(List GStream)):AV:=.dat 4 ((x16:List GStream).map Qaa)
def Q9x (x4) (x6) (x10) (x16:(List GStream)):=hcat (Q9y x4 x6 x10) [(24,rp [((.tmp 48),(B (((x6.1.Out.length:Int)==3))))] (B (true))),(27,rp [((.tmp 49),(B (true))),((.tmp 51),(Q9s x6)),ci 2] (.dptr (Qak (x16)) 0)),(29,rp [((.tmp 49),(B (true))),((.tmp 53),(Q92 x16))] (I ((x16.length:Int))))]
def Q9w (x4) (x6) (x10) (x16):=hcat (Q9x x4 x6 x10 x16) [(32,rp [((.tmp 56),(B (((x16.length:Int)==2))))] (B (true))),(35,rp [((.tmp 57),(B (true))),((.tmp 59),(Ze3 x6))] (I ((x6.1.Lost.length:Int))))]
def Zi5:AV:=.agg [(I (271)),(I (542596)),(I (12150)),(I (50))]
def Q9v (x4) (x6) (x10) (x16) (x22:GStream):=hcat (Q9w x4 x6 x10 x16) [(38,rp [((.tmp 62),(B (((x6.1.Lost.length:Int)==3))))] (B (true))),(41,rp [((.tmp 63),(B (true))),((.tmp 65),(Q9s x6)),ci 2] (.dptr (Qak (x16)) 0)),(43,rp [((.tmp 63),(B (true))),((.tmp 67),(Q92 x16)),ci 0] (.dptr (Qaa (x22)) 0)),(45,rp [((.tmp 63),(B (true))),ci 271,ci 542596,ci 12150,ci 50] Zi5),(46,rp [((.tmp 63),(B (true))),((.tmp 69),(.agg [(I (x22.Mass)),(I (x22.Heat)),(I (x22.Silica)),(I (x22.Gas))])),((.tmp 70),Zi5)] (B ((([x22.Mass,x22.Heat,x22.Silica,x22.Gas]:List Int)==[271,542596,12150,50]))))]
def Zi4:AV:=.agg [(I (729)),(I (307404)),(I (109350)),(I (0))]
def Q9u (x4) (x6) (x10) (x16) (x22) (x27:GStream):=hcat (Q9v x4 x6 x10 x16 x22) [(48,rp [((.tmp 72),(B ((([x22.Mass,x22.Heat,x22.Silica,x22.Gas]:List Int)==[271,542596,12150,50]))))] (B (true))),(51,rp [((.tmp 73),(B (true))),((.tmp 75),(Q9s x6)),ci 2] (.dptr (Qak (x16)) 0)),(53,rp [((.tmp 73),(B (true))),((.tmp 77),(Q92 x16)),ci 1] (.dptr (Qaa (x27)) 0)),(55,rp [((.tmp 73),(B (true))),ci 729,ci 307404,ci 109350] Zi4),(56,rp [((.tmp 73),(B (true))),((.tmp 79),(.agg [(I (x27.Mass)),(I (x27.Heat)),(I (x27.Silica)),(I (x27.Gas))])),((.tmp 80),Zi4)] (B ((([x27.Mass,x27.Heat,x27.Silica,x27.Gas]:List Int)==[729,307404,109350,0]))))]
def Q9t (x4) (x6) (x10) (x16) (x22) (x27) (x32:GLost):=hcat (Q9u x4 x6 x10 x16 x22 x27) [(58,rp [((.tmp 82),(B ((([x27.Mass,x27.Heat,x27.Silica,x27.Gas]:List Int)==[729,307404,109350,0]))))] (B (true))),(61,rp [((.tmp 83),(B (true))),((.tmp 85),(Ze3 x6)),ci 1] (.dptr (Qa0 (x32)) 0))]
theorem Qi6 (N:Nat) (r:Bool) (h:Qhr N=some r):Spec Tryz.prog 15 [] [] (B r) []:=by
  refine Qah Tryz.func15 rfl 0 (nle rfl) (fun X φ0 w0 hφ0 hd0=>?_)
  unfold Qhr at h
  refine wxz ?_
  obtain ⟨x2,hf1,h⟩:=bno h
  refine wx tbk [(0,rp [fu 55] (.tup [(Zki x2),(Zop x2)]))] ⟨apv Zns (Qvg 2000  _ hf1) nl0 (NLt.tup _ (nlc (NLt.agg _ (nlc (nld Qai _) (nlc (nld Qab _) nl0))) (nlc (nld Qac _) nl0))),tv⟩ ?_
  obtain ⟨x4,hf3,h⟩:=bno h
  refine wx tbk [(1,rp [fu 47,(.tmp 13,(Zki x2))] (.tup [(Zkh x4),I x4.2]))] ⟨apv Znt (Qx9 N (⟨x2.1.Table,x2.1.Elements⟩:GNet) _ hf3) (nlc (NLt.agg _ (nlc (nld Qai _) (nlc (nld Qab _) nl0))) nl0) (NLt.tup _ (nlc (nld Qay _) (nlc nll nl0))),tv⟩ ?_
  obtain ⟨x6,hf5,h⟩:=bno h
  refine wx tbk [(1,rp [ci 0,ci 0,ci 0] Zoo),(3,rp [fu 16,(.tmp 18,(Zki x2)),(.tmp 19,Zoo),(.tmp 20,(Zop x2))] (.tup [(.agg [(Q9s x6),(Ze3 x6),(.dat 1 ((x6.1.State:List Int).map Qal))]),I x6.2.1,I x6.2.2]))] ⟨Qbe (vs:=[I 0,I 0,I 0]) rfl Tryz.underlying27 ti3 tz3 rfl (by decide) rfl (by decide) (by rfl) (by rfl) (by rfl) rfl,apv Q3s (Qo7 N (⟨x2.1.Table,x2.1.Elements⟩:GNet) ([0,0,0]) x2.2 _ hf5) (nlc (NLt.agg _ (nlc (nld Qai _) (nlc (nld Qab _) nl0))) (nlc (nld Qae _) (nlc (nld Qac _) nl0))) (NLt.tup _ (nlc (NLt.agg _ (nlc (nld Qam _) (nlc (nld Qau _) (nlc (nld Qae _) nl0)))) (nlcc nl0))),tv⟩ ?_
  refine bfe h (fun hb7 h=>?_) fun hb7 h=>?_
  ·refine hpre (A:=(Q91 x4)) ⟨asb hb7 (amv rfl),tv⟩ fun q1_=>?_
   refine bfe h (fun hb8 h=>?_) fun hb8 h=>?_
   ·refine hpre (A:=(Q90 x4 x6)) (hap q1_ ⟨asb hb8 (amv rfl),ag_ (alm (c:=Qap) (l:=x4.1) (aln rfl Tryz.underlying116 rfl)),tv⟩) fun q2_=>?_
    refine bfe h (fun hb9 h=>?_) fun hb9 h=>?_
    ·obtain ⟨x10,hg11,h⟩:=bno h
     obtain ⟨hi12,hj13⟩:=gsm hg11
     refine hpre (A:=(Q9z x4 x6 x10)) (hap q2_ ⟨asb hb9 (amv rfl),ag_ (aid rfl Tryz.underlying116 Qq3 rfl rfl hi12 (mgt Qap hj13) rfl),ag_ (Qaz (vs:=[I 2,I 1]) rfl Zb2 Qu8 rfl (by rfl) rfl),ag_ (Qjb (ls:=[x10.Element,x10.Outlet]) (ks:=[2,1]) rfl rfl Quh (by kernel_rfl) rfl rfl),tv⟩) fun q3_=>?_
     refine bfe h (fun hb14 h=>?_) fun hb14 h=>?_
     ·refine hpre (A:=(Q9y x4 x6 x10)) (hap q3_ ⟨asb hb14 (amv rfl),ag_ (alm (c:=Qak) (l:=x6.1.Out) (aln rfl Tryz.underlying31 rfl)),tv⟩) fun q4_=>?_
      refine bfe h (fun hb15 h=>?_) fun hb15 h=>?_
      ·obtain ⟨x16,hg17,h⟩:=bno h
       obtain ⟨hi18,hj19⟩:=gsm hg17
       refine hpre (A:=(Q9x x4 x6 x10 x16)) (hap q4_ ⟨asb hb15 (amv rfl),ag_ (aid rfl Tryz.underlying31 ti45 rfl rfl hi18 (mgt Qak hj19) rfl),ag_ (alm (c:=Qaa) (l:=x16) (aln rfl Tryz.underlying45 rfl)),tv⟩) fun q5_=>?_
       refine bfe h (fun hb20 h=>?_) fun hb20 h=>?_
       ·refine hpre (A:=(Q9w x4 x6 x10 x16)) (hap q5_ ⟨asb hb20 (amv rfl),ag_ (alm (c:=Qa0) (l:=x6.1.Lost) (aln rfl Tryz.underlying32 rfl)),tv⟩) fun q6_=>?_
        refine bfe h (fun hb21 h=>?_) fun hb21 h=>?_
        ·obtain ⟨x22,hg23,h⟩:=bno h
         obtain ⟨hi24,hj25⟩:=gsm hg23
         refine hpre (A:=(Q9v x4 x6 x10 x16 x22)) (hap q6_ ⟨asb hb21 (amv rfl),ag_ (aid rfl Tryz.underlying31 ti45 rfl rfl hi18 (mgt Qak hj19) rfl),ag_ (aid rfl Tryz.underlying45 ti63 rfl rfl hi24 (mgt Qaa hj25) rfl),ag_ (Qaz (vs:=[I 271,I 542596,I 12150,I 50]) rfl ts63 tz63 rfl (by rfl) rfl),ag_ (Qjb (ls:=[x22.Mass,x22.Heat,x22.Silica,x22.Gas]) (ks:=[271,542596,12150,50]) rfl rfl Zgz (by kernel_rfl) rfl rfl),tv⟩) fun q7_=>?_
         refine bfe h (fun hb26 h=>?_) fun hb26 h=>?_
         ·obtain ⟨x27,hg28,h⟩:=bno h
          obtain ⟨hi29,hj30⟩:=gsm hg28
          refine hpre (A:=(Q9u x4 x6 x10 x16 x22 x27)) (hap q7_ ⟨asb hb26 (amv rfl),ag_ (aid rfl Tryz.underlying31 ti45 rfl rfl hi18 (mgt Qak hj19) rfl),ag_ (aid rfl Tryz.underlying45 ti63 rfl rfl hi29 (mgt Qaa hj30) rfl),ag_ (Qaz (vs:=[I 729,I 307404,I 109350]) rfl ts63 tz63 rfl (by rfl) rfl),ag_ (Qjb (ls:=[x27.Mass,x27.Heat,x27.Silica,x27.Gas]) (ks:=[729,307404,109350,0]) rfl rfl Zgz (by kernel_rfl) rfl rfl),tv⟩) fun q8_=>?_
          refine bfe h (fun hb31 h=>?_) fun hb31 h=>?_
          ·obtain ⟨x32,hg33,h⟩:=bno h
           obtain ⟨hi34,hj35⟩:=gsm hg33
           refine hpre (A:=(Q9t x4 x6 x10 x16 x22 x27 x32)) (hap q8_ ⟨asb hb31 (amv rfl),ag_ (aid rfl Tryz.underlying32 ti82 rfl rfl hi34 (mgt Qa0 hj35) rfl),tv⟩) fun q9_=>?_
           refine bfe h (fun hb36 h=>?_) fun hb36 h=>?_
           ·obtain ⟨x37,hg38,h⟩:=bno h
            obtain ⟨hi39,hj40⟩:=gsm hg38
            refine wx tbk (hcat (Q9t x4 x6 x10 x16 x22 x27 x32) [(66,rp [(.tmp 90,(B ((x32.Heat==2000))))] (B true)),(69,rp [(.tmp 91,B true),(.tmp 93,(Ze3 x6)),ci 2] (.dptr (Qa0 (x37)) 0))]) (hap q9_ ⟨asb hb36 (amv rfl),ag_ (aid rfl Tryz.underlying32 ti82 rfl rfl hi39 (mgt Qa0 hj40) rfl),tv⟩)<|Qaf ?_
            obtain rfl:=osi h
            exact fend ⟨[(B ((x37.Scale==128500)))],⟨rot,tv⟩,rfl⟩ nll
           ·exact wx tbk (hcat (Q9t x4 x6 x10 x16 x22 x27 x32) [(66,rp [(.tmp 90,(B ((x32.Heat==2000))))] (B false))]) (hap q9_ ⟨asb hb36 (amv rfl),tv⟩)<|Qaf<|frb h
          ·exact wx tbk (hcat (Q9u x4 x6 x10 x16 x22 x27) [(58,rp [(.tmp 82,(B ((([x27.Mass,x27.Heat,x27.Silica,x27.Gas]:List Int)==[729,307404,109350,0]))))] (B false))]) (hap q8_ ⟨asb hb31 (amv rfl),tv⟩)<|Qaf<|frb h
         ·exact wx tbk (hcat (Q9v x4 x6 x10 x16 x22) [(48,rp [(.tmp 72,(B ((([x22.Mass,x22.Heat,x22.Silica,x22.Gas]:List Int)==[271,542596,12150,50]))))] (B false))]) (hap q7_ ⟨asb hb26 (amv rfl),tv⟩)<|Qaf<|frb h
        ·exact wx tbk (hcat (Q9w x4 x6 x10 x16) [(38,rp [(.tmp 62,(B (((x6.1.Lost.length:Int)==3))))] (B false))]) (hap q6_ ⟨asb hb21 (amv rfl),tv⟩)<|Qaf<|frb h
       ·exact wx tbk (hcat (Q9x x4 x6 x10 x16) [(32,rp [(.tmp 56,(B (((x16.length:Int)==2))))] (B false))]) (hap q5_ ⟨asb hb20 (amv rfl),tv⟩)<|Qaf<|frb h
      ·exact wx tbk (hcat (Q9y x4 x6 x10) [(24,rp [(.tmp 48,(B (((x6.1.Out.length:Int)==3))))] (B false))]) (hap q4_ ⟨asb hb15 (amv rfl),tv⟩)<|Qaf<|frb h
     ·exact wx tbk (hcat (Q9z x4 x6 x10) [(18,rp [(.tmp 42,(B ((([x10.Element,x10.Outlet]:List Int)==[2,1]))))] (B false))]) (hap q3_ ⟨asb hb14 (amv rfl),tv⟩)<|Qaf<|frb h
    ·exact wx tbk (hcat (Q90 x4 x6) [(11,rp [(.tmp 35,(B (((x4.1.length:Int)==2))))] (B false))]) (hap q2_ ⟨asb hb9 (amv rfl),tv⟩)<|Qaf<|frb h
   ·exact wx tbk (hcat (Q91 x4) [(6,rp [(.tmp 30,(B ((x6.2.2==0))))] (B false))]) (hap q1_ ⟨asb hb8 (amv rfl),tv⟩)<|Qaf<|frb h
  ·exact wx tbk [(2,rp [(.tmp 26,(B ((x4.2==0))))] (B false))] ⟨asb hb7 (amv rfl),tv⟩<|Qaf<|frb h
end Go.Proofs.YtmbhnllcfmiajaaGreat
