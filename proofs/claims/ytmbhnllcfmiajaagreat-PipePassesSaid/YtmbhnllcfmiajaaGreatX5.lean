/-
  Functions of the program: what they compute, as plain functions, and that they do. No conditions.
-/
import Derived.Test.YtmbhnllcfmiajaaGreatX4
namespace Go.Proofs.YtmbhnllcfmiajaaGreat
set_option maxRecDepth 100000
set_option maxHeartbeats 4000000
open Go.RowKit
def Qdg (N:Nat) (p0:GNet) (p1:(List Int)) (p2:(List GStream)) (k16:(List (List GStream))×(List GLost)×(List Int)×Int→Option (Int⊕(Int×Int×(List (List GStream))×(List GLost)×(List Int)))):Nat→Int→(List (List GStream))→(List GLost)→(List Int)→Int→Option (Int⊕(Int×Int×(List (List GStream))×(List GLost)×(List Int)))
  | 0,_,_,_,_,_=>none
  | n27+1,y17,y18,y19,y20,y21=>
    bif (decide (y17<(p0.Elements.length:Int))) then
     (getI p0.Elements y17).bind fun x29=>
     (getI p1 y17).bind fun x33=>
     (Qff N x29 x33).bind fun x38=>
     (Qcr N y17 x38 p0.Table p0.Elements ((p0.Elements.length:Int).toNat) ((p0.Elements.length:Int).toNat) p1.length p2 y21 y18 y19 y20).bind (
      Sum.elim (fun x41=>
        Qdg N p0 p1 p2 k16 n27 (w64 (y17+1)) x41.2.1 x41.2.2.1 x41.2.2.2 x41.1)
      (fun x42=>
        some (.inl x42)))
    else
     k16 (y18,y19,y20,y21)
def Qfx (N:Nat) (p0:GNet) (p1:(List Int)) (p2:(List GStream)):Option (Int⊕(Int×Int×(List (List GStream))×(List GLost)×(List Int))):=
  chk (decide (0≤(p0.Elements.length:Int))&&decide (24 * (p0.Elements.length:Int)≤281474976710656)&&decide ((p0.Elements.length:Int)≤9223372036854775807))<|
  chk (decide (0≤(p0.Elements.length:Int))&&decide (32 * (p0.Elements.length:Int)≤281474976710656)&&decide ((p0.Elements.length:Int)≤9223372036854775807))<|
  (Qe4 N p1).bind fun _=>
  Qbp (fun ⟨y12,y13,y14,y15⟩=>
    some (.inr ((-1),y15,y12,y13,y14))) fun k16:(List (List GStream))×(List GLost)×(List Int)×Int→Option (Int⊕(Int×Int×(List (List GStream))×(List GLost)×(List Int)))=>
  Qdg N p0 p1 p2 k16 N 0 (List.replicate (p0.Elements.length:Int).toNat ([])) (List.replicate (p0.Elements.length:Int).toNat (⟨0,0,0,0⟩:GLost)) p1 0
def Qyv (p0:GNet):AV:=.dat 5 ((p0.Table:List GRow).map Qa1)
def Qmy (p0:GNet):AV:=.dat 7 ((p0.Elements:List GElement).map Qab)
def Q6j (p0:GNet):AV:=.agg [(Qyv p0),(Qmy p0)]
def Qnj (p1:(List Int)):AV:=.dat 1 ((p1:List Int).map Qak)
def Qmr (p2:(List GStream)):AV:=.dat 4 ((p2:List GStream).map Qac)
def Zkt (p0:GNet):Slot:=.own 1 ((List.replicate (p0.Elements.length:Int).toNat ([]):List (List GStream)).map Qam)
def Zks (p0:GNet):Slot:=.own 4 ((List.replicate (p0.Elements.length:Int).toNat (⟨0,0,0,0⟩:GLost):List GLost).map Qa7)
def Zay (p1:(List Int)):Slot:=.own 1 ((p1:List Int).map Qak)
def Zgh (p0:GNet) (p1:(List Int)):AV:=.agg [(.own 3 1 (0) ((p0.Elements.length:Int).toNat)),(.own 4 4 (0) ((p0.Elements.length:Int).toNat)),(.own 5 1 (0) (p1.length))]
def Q3g (p0:GNet):Slot:=.own 2 [[(Qyv p0),(Qmy p0)]]
def Qpp:Slot:=.own 1 [[(.ref 6 7 (0) 0)]]
def Qyu (y12:(List (List GStream))):Slot:=.own 1 ((y12:List (List GStream)).map Qam)
def Qyt (y13:(List GLost)):Slot:=.own 4 ((y13:List GLost).map Qa7)
def Qys (p0:GNet) (p1:(List Int)) (p2:(List GStream)) (y15:Int):Slot:=.own 7 [[(Qyv p0),(Qmy p0),(.own 3 1 (0) ((p0.Elements.length:Int).toNat)),(.own 4 4 (0) ((p0.Elements.length:Int).toNat)),(.own 5 1 (0) (p1.length)),(Qmr p2),(I (y15))]]
def Ze2 (p0:GNet) (p1:(List Int)) (p2:(List GStream)):Slot:=.own 7 [[(Qyv p0),(Qmy p0),(.own 3 1 (0) ((p0.Elements.length:Int).toNat)),(.own 4 4 (0) ((p0.Elements.length:Int).toNat)),(.own 5 1 (0) (p1.length)),(Qmr p2),(I (0))]]
def Qow (y18:(List (List GStream))):Slot:=.own 1 ((y18:List (List GStream)).map Qam)
def Qov (y19:(List GLost)):Slot:=.own 4 ((y19:List GLost).map Qa7)
def Qou (y20:(List Int)):Slot:=.own 1 ((y20:List Int).map Qak)
def Qox (p0:GNet) (p1:(List Int)) (p2:(List GStream)) (y21:Int):Slot:=.own 7 [[(Qyv p0),(Qmy p0),(.own 3 1 (0) ((p0.Elements.length:Int).toNat)),(.own 4 4 (0) ((p0.Elements.length:Int).toNat)),(.own 5 1 (0) (p1.length)),(Qmr p2),(I (y21))]]
def Qqs (x29:GElement):AV:=.agg [(K .u8 (x29.Kind)),(.dat 2 ((x29.From:List GPort).map Qar)),(I (x29.Level)),(I (x29.Amount)),(I (x29.Wide)),(I (x29.Narrow)),(.dat 1 ((x29.Weights:List Int).map Qak))]
def Qyr (p0:GNet) (p1:(List Int)) (p2:(List GStream)) (x41:(Int×(List (List GStream))×(List GLost)×(List Int))):Slot:=.own 7 [[(Qyv p0),(Qmy p0),(.own 3 1 (0) (((p0.Elements.length:Int).toNat))),(.own 4 4 (0) (((p0.Elements.length:Int).toNat))),(.own 5 1 (0) (p1.length)),(Qmr p2),(I (x41.1))]]
def Zku:Slot:=.own 1 [[(.lit (.pointer none))]]
theorem Qkt (N:Nat) (p0:GNet) (p1:(List Int)) (p2:(List GStream)) (r:(Int⊕(Int×Int×(List (List GStream))×(List GLost)×(List Int)))) (h:Qfx N p0 p1 p2=some r):Spec Tryz.prog 58 [(Q6j p0),(Qnj p1),(Qmr p2)] [] (((Sum.elim (fun r=>(.tup [(.lit (.pointer none)),(I (r))])) (fun r=>(.tup [(.ref 2 7 (0) 0),(I (r.1))]))):(Int⊕(Int×Int×(List (List GStream))×(List GLost)×(List Int)))→AV) r) (((Sum.elim (fun r=>[(.own 1 [[(.lit (.pointer none))]]),(.own 1 [[(I (r))]])]) (fun r=>[(.own 1 [[(.ref 2 7 (0) 0)]]),(.own 1 [[(I (r.1))]]),(.own 7 [[(.dat 5 ((p0.Table:List GRow).map Qa1)),(.dat 7 ((p0.Elements:List GElement).map Qab)),(.own 3 1 (0) ((p0.Elements.length:Int).toNat)),(.own 4 4 (0) ((p0.Elements.length:Int).toNat)),(.own 5 1 (0) (p1.length)),(.dat 4 ((p2:List GStream).map Qac)),(I (r.2.1))]]),(.own 1 ((r.2.2.1:List (List GStream)).map Qam)),(.own 4 ((r.2.2.2.1:List GLost).map Qa7)),(.own 1 ((r.2.2.2.2:List Int).map Qak))])):(Int⊕(Int×Int×(List (List GStream))×(List GLost)×(List Int)))→List Slot) r):=by
  refine Qwx Tryz.func58 rfl (fun X φ0 w0 hφ0 hd0=>?_)
  unfold Qfx at h
  refine Q27 (k:=6) hd0 (fun n hn=>hφ0 n (Nat.le_trans (nle rfl) hn))<|wxz1<|thn ?_
  refine Q27 (k:=6) hd0 (fun n hn=>hφ0 n (Nat.le_trans (nle rfl) hn)) ?_
  obtain ⟨hm8,h⟩:=cko h
  obtain ⟨hm9,h⟩:=cko h
  obtain ⟨x11,hf10,h⟩:=bno h
  refine wy1 tbk [(3,rp [(.tmp 12,(Qmy p0))] (I ((p0.Elements.length:Int)))),(4,⟨[(.tmp 13,(I ((p0.Elements.length:Int)))),(.tmp 13,(I ((p0.Elements.length:Int))))],[(3,.unused)],(.own 3 1 (0) ((p0.Elements.length:Int).toNat)),[(3,(Zkt p0))],false⟩),(7,rp [(.tmp 16,(Qmy p0))] (I ((p0.Elements.length:Int)))),(8,⟨[(.tmp 17,(I ((p0.Elements.length:Int)))),(.tmp 17,(I ((p0.Elements.length:Int))))],[(4,.unused)],(.own 4 4 (0) ((p0.Elements.length:Int).toNat)),[(4,(Zks p0))],false⟩),(10,⟨[fu 95,(.tmp 19,(Qnj p1))],[(5,.unused)],(.own 5 1 (0) (p1.length)),[(5,(Zay p1))],false⟩),(11,rp [(.tmp 14,(.own 3 1 (0) ((p0.Elements.length:Int).toNat))),(.tmp 18,(.own 4 4 (0) ((p0.Elements.length:Int).toNat))),(.tmp 20,(.own 5 1 (0) (p1.length)))] (Zgh p0 p1)),(13,rp [(.tmp 10,(Q6j p0)),(.tmp 21,(Zgh p0 p1)),(.tmp 22,(Qmr p2))] (.agg [(Qyv p0),(Qmy p0),(.own 3 1 (0) ((p0.Elements.length:Int).toNat)),(.own 4 4 (0) ((p0.Elements.length:Int).toNat)),(.own 5 1 (0) (p1.length)),(Qmr p2),I 0]))] ⟨alm (c:=Qab) (l:=p0.Elements) (aln rfl Tryz.underlying40 rfl),Zai (c:=Qam) (v:=([])) (z:=[nilS]) (k:=(p0.Elements.length:Int).toNat) ⟨Less.nil,tv⟩ (Qpn rfl Tryz.underlying31 te45 tz45 rfl (Q0q hm8) rfl (Q0p hm8) (Zaq hm8) rfl),alm (c:=Qab) (l:=p0.Elements) (aln rfl Tryz.underlying40 rfl),Qpn rfl Tryz.underlying32 te82 tz82 rfl (Q0q hm9) rfl (Q0p hm9) (Zaq hm9) (Q8m Qa7 rfl),Qat (first:=[]) (cap:=[]) (vs:=[(Qnj p1)]) (σr:=[]) (σr':=[(Zay p1)]) (res':=(.own 5 1 (0) (p1.length))) [5] rfl Zjn (Qj8 N p1 _ hf10) rfl (Qbt (rnc (pld Qaf) rn0)) Qas (slc (Qa6 Qaf) Qas) (Qdb rfl) rfl rfl rfl,Qa2 (vs:=[(.own 3 1 (0) ((p0.Elements.length:Int).toNat)),(.own 4 4 (0) ((p0.Elements.length:Int).toNat)),(.own 5 1 (0) (p1.length))]) rfl ts34 tz34 rfl (by rfl) rfl,Qa2 (vs:=[(Q6j p0),(Zgh p0 p1),(Qmr p2)]) rfl Zm4 Zlr rfl (by rfl) rfl,tv⟩<|thn ?_
  refine Q40 (k:=6) [(1,1),(2,1)] hd0 (fun n hn=>hφ0 n (Nat.le_trans (nle rfl) hn)) Zjm rfl rfl (by kernel_rfl) (by kernel_rfl) (by kernel_rfl) Qo9 (fun φ1 w1 hφ1 hd1=>?_)
  obtain ⟨k16,hk_k16,h⟩:=jko h
  refine wjn (τ:=(List (List GStream))×(List GLost)×(List Int)×Int) (fun t=>k16 t=some r) (fun ⟨y12,y13,y14,y15⟩=>⟨mk 45 [(6,.ref 1 1 0 0),(7,.ref 2 1 0 0)],[(Q3g p0),Qpp,(.own 1 [[I 0]]),(Qyu y12),(Qyt y13),(.own 1 ((y14:List Int).map Qak)),(Qys p0 p1 p2 y15)]⟩) (fun t h=>?_) ?_
  ·subst hk_k16
   obtain ⟨y12,y13,y14,y15⟩:=t
   refine wxz<|Qae ?_
   obtain rfl:=osi h
   exact ⟨_,(mto (n:=45) (l':=[(6,.ref 0 1 0 0),(7,.ref 1 1 0 0)]) (own':=[(.own 1 [[.ref 2 7 0 0]]),(.own 1 [[(I ((-1)))]]),(Qys p0 p1 p2 y15),(Qyu y12),(Qyt y13),(.own 1 ((y14:List Int).map Qak))]) [(6,.ref 1 1 0 0),(7,.ref 2 1 0 0)] [1,2,6,3,4,5] [Qpp,(.own 1 [[(I ((-1)))]]),(Qys p0 p1 p2 y15),(Qyu y12),(Qyt y13),(.own 1 ((y14:List Int).map Qak))] hφ0 (prr (prr pn)) (qb (lc (.rn (rqr rfl)) ln) (qb (lc rwl ln) (qb (lc (rnd Qai) (lc (rnd Qaa) (lc (.rn (Qa5 rfl)) (lc (.rn (Qa5 rfl)) (lc (.rn (Qa5 rfl)) (lc (rnd Qad) (lc rwl ln))))))) (qc (spr Qal) (qc (spr Qaw) (qc (spr Qaf) qn))))))),Qkd (vs:=[.ref 2 7 0 0,I (-1)]) ⟨Qcc (n:=0) (m:=1) (j:=0) (i:=0) (xs:=[[.ref 2 7 0 0]]) (by kernel_rfl) (by kernel_rfl) Qsy (by decide) rfl (nle rfl) rfl,Qcc (n:=1) (m:=1) (j:=0) (i:=0) (xs:=[[I (-1)]]) (by kernel_rfl) (by kernel_rfl) ti3 (by decide) rfl (nle rfl) rfl,tv⟩ rfl (NLt.tup _ (nlc (NLt.ref _ _ _ _ (by decide)) (nlc (NLt.of0 nll) nl0))) (by kernel_rfl) (Qao (Qbc (nlc (NLt.ref _ _ _ _ (by decide)) nl0)) (Qao (Qbc (nlc (NLt.of0 nll) nl0)) (Qao (Qbc (nlc (NLt.of0 (nld Qai _)) (nlc (NLt.of0 (nld Qaa _)) (nlc (NLt.own _ _ _ _ (by decide)) (nlc (NLt.own _ _ _ _ (by decide)) (nlc (NLt.own _ _ _ _ (by decide)) (nlc (NLt.of0 (nld Qad _)) (nlc (NLt.of0 nll) nl0)))))))) (Qao (Qcj Qal _) (Qao (Qcj Qaw _) (Qao (Qcj Qaf _) Qbs))))))⟩
  ·skip
   refine wx tbk [(2,rp [(.tmp 27,(Qmy p0))] (I ((p0.Elements.length:Int))))] ⟨alm (c:=Qab) (l:=p0.Elements) (aln rfl Tryz.underlying40 rfl),tv⟩<|Qaj ?_
   refine wmr (mto (n:=45) (l':=[(1,(Qnj p1)),(6,.ref 1 1 0 0),(7,.ref 2 1 0 0),(27,(Qmy p0)),(28,(I ((p0.Elements.length:Int)))),(29,I 0)]) (own':=[(Q3g p0),Qpp,(.own 1 [[I 0]]),(.own 1 (((List.replicate (p0.Elements.length:Int).toNat ([])):List (List GStream)).map Qam)),(.own 4 (((List.replicate (p0.Elements.length:Int).toNat (⟨0,0,0,0⟩:GLost)):List GLost).map Qa7)),(Zay p1),(Ze2 p0 p1 p2)]) [(1,(Qnj p1)),(6,.ref 1 1 0 0),(7,.ref 2 1 0 0),(27,(Qmy p0)),(28,(I ((p0.Elements.length:Int)))),(29,I 0)] [0,1,2,3,4,5,6] [(Q3g p0),Qpp,(.own 1 [[I 0]]),(Zkt p0),(Zks p0),(Zay p1),(Ze2 p0 p1 p2)] hφ1 (pc (rnd Qaf) (prr (prr (pc (rnd Qaa) (pw (pw pn)))))) (qb (lc (rnd Qai) (lc (rnd Qaa) ln)) (qb (lc (.rn (rqr rfl)) ln) (qb (lc rwl ln) (qc (spr Qal) (qc (spr Qaw) (qc (spr Qaf) (qb (lc (rnd Qai) (lc (rnd Qaa) (lc (.rn (Qa5 rfl)) (lc (.rn (Qa5 rfl)) (lc (.rn (Qa5 rfl)) (lc (rnd Qad) (lc rwl ln))))))) qn)))))))) ?_
   refine Qcb (τ:=Int×(List (List GStream))×(List GLost)×(List Int)×Int) (fun n t=>Qdg N p0 p1 p2 k16 n t.1 t.2.1 t.2.2.1 t.2.2.2.1 t.2.2.2.2=some r) (fun ⟨y17,y18,y19,y20,y21⟩=>⟨mk 45 [(1,(Qnj p1)),(6,.ref 1 1 0 0),(7,.ref 2 1 0 0),(27,(Qmy p0)),(28,(I ((p0.Elements.length:Int)))),(29,I y17)],[(Q3g p0),Qpp,(.own 1 [[I 0]]),(Qow y18),(Qov y19),(Qou y20),(Qox p0 p1 p2 y21)]⟩) (fun t h=>by rw [Qdg] at h; cases h) (fun n27 ih t h=>?_) N (0,List.replicate (p0.Elements.length:Int).toNat ([]),List.replicate (p0.Elements.length:Int).toNat (⟨0,0,0,0⟩:GLost),p1,0) h
   obtain ⟨y17,y18,y19,y20,y21⟩:=t
   rw [Qdg] at h
   skip
   refine wxz<|wsq ?_
   refine bfe h (fun hc28 h=>?_) fun hc28 h=>?_
   ·refine wft hc28<|Qan<|thn<|wsq<|Qaj ?_
    obtain ⟨x29,hg30,h⟩:=bno h
    obtain ⟨hi31,hj32⟩:=gsm hg30
    refine wx tbk [(1,rp [(.tmp 27,(Qmy p0)),(.tmp 29,I y17)] (.dptr (Qab (x29)) 0))] ⟨aid rfl Tryz.underlying40 Qju rfl rfl hi31 (mgt Qab hj32) rfl,tv⟩ ?_
    obtain ⟨x33,hg34,h⟩:=bno h
    obtain ⟨hi35,hj36⟩:=gsm hg34
    obtain ⟨x38,hf37,h⟩:=bno h
    obtain ⟨x40,hf39,h⟩:=bno h
    rcases x40 with x41 | x42
    ·replace h:=Zlx h
     refine wy1 tbk [(5,rp [(.tmp 37,(Qnj p1)),(.tmp 38,I y17)] (.dptr (Qak (x33)) 0)),(7,rp [fu 74,(.tmp 36,(Qqs x29)),(.tmp 40,I x33)] (I x38)),(8,⟨[fu 97,(.tmp 34,.ref 6 7 0 0),(.tmp 35,I y17),(.tmp 41,I x38)],[(6,(Qox p0 p1 p2 y21)),(3,(Qow y18)),(4,(Qov y19)),(5,(Qou y20))],(.tup []),[(6,(Qyr p0 p1 p2 x41)),(3,(.own 1 ((x41.2.1:List (List GStream)).map Qam))),(4,(.own 4 ((x41.2.2.1:List GLost).map Qa7))),(5,(.own 1 ((x41.2.2.2:List Int).map Qak)))],false⟩)] ⟨aid rfl Tryz.underlying27 ti3 rfl rfl hi35 (mgt Qak hj36) rfl,apv Q9r (Qh8 N x29 x33 _ hf37) (nlc (NLt.agg _ (nlc nll (nlc (nld Qav _) (nlcc (nlcc (nlc (nld Qaf _) nl0)))))) (nlc nll nl0)) nll,Qat (first:=[]) (cap:=[]) (vs:=[.ref 6 7 0 0,I y17,I x38]) (σr:=[(Qox p0 p1 p2 y21),(Qow y18),(Qov y19),(Qou y20)]) (σr':=[(Qyr p0 p1 p2 x41),(.own 1 ((x41.2.1:List (List GStream)).map Qam)),(.own 4 ((x41.2.2.1:List GLost).map Qa7)),(.own 1 ((x41.2.2.2:List Int).map Qak))]) (res':=(.tup [])) [6,3,4,5] rfl Q9q (Qks N y17 x38 p0.Table p0.Elements ((p0.Elements.length:Int).toNat) ((p0.Elements.length:Int).toNat) p1.length p2 y21 y18 y19 y20 _ hf39) rfl (Qbt (rnc (Qbj rfl) (rncc rn0))) (slc (Qaq (rnc (pld Qai) (rnc (pld Qaa) (rnc (Qc5 rfl) (rnc (Qc5 rfl) (rnc (Qc5 rfl) (rnc (pld Qad) (rnc (.plain _ nll) rn0)))))))) (slc (Qa6 Qal) (slc (Qa6 Qaw) (slc (Qa6 Qaf) Qas)))) (slc (Qaq (rnc (pld Qai) (rnc (pld Qaa) (rnc (Qdb rfl) (rnc (Qdb rfl) (rnc (Qdb rfl) (rnc (pld Qad) (rnc (.plain _ nll) rn0)))))))) (slc (Qa6 Qal) (slc (Qa6 Qaw) (slc (Qa6 Qaf) Qas)))) (.plain _ (NLt.tup _ nl0)) rfl rfl rfl,tv⟩<|bln<|thn<|wxz1<|thn ?_
     exact arm (mto (n:=45) [(1,(Qnj p1)),(6,.ref 1 1 0 0),(7,.ref 2 1 0 0),(27,(Qmy p0)),(28,(I ((p0.Elements.length:Int)))),(29,(I (w64 (y17+1))))] [0,1,2,3,4,5,6] [(Q3g p0),Qpp,(.own 1 [[I 0]]),(.own 1 ((x41.2.1:List (List GStream)).map Qam)),(.own 4 ((x41.2.2.1:List GLost).map Qa7)),(.own 1 ((x41.2.2.2:List Int).map Qak)),(Qyr p0 p1 p2 x41)] hφ1 (pc (rnd Qaf) (prr (prr (pc (rnd Qaa) (pw (pw pn)))))) (qb (lc (rnd Qai) (lc (rnd Qaa) ln)) (qb (lc (.rn (rqr rfl)) ln) (qb (lc rwl ln) (qc (spr Qal) (qc (spr Qaw) (qc (spr Qaf) (qb (lc (rnd Qai) (lc (rnd Qaa) (lc (.rn (Qa5 rfl)) (lc (.rn (Qa5 rfl)) (lc (.rn (Qa5 rfl)) (lc (rnd Qad) (lc rwl ln))))))) qn)))))))) (ih (w64 (y17+1),x41.2.1,x41.2.2.1,x41.2.2.2,x41.1) h)
    ·replace h:=Zlw h
     refine Zab 8 [rb [(.tmp 6,.ref 1 1 0 0)] [(1,Qpp)] (.ref 6 7 0 0),mv 8 (I y17),rb [(.tmp 9,.ref 7 7 0 0)] [(7,(.own 7 [[(K .u8 (x29.Kind)),(.dat 2 ((x29.From:List GPort).map Qar)),I x29.Level,I x29.Amount,I x29.Wide,I x29.Narrow,(.dat 1 ((x29.Weights:List Int).map Qak))]]))] (Qqs x29),mv 1 (Qnj p1),mv 8 (I y17),rp [(.tmp 37,(Qnj p1)),(.tmp 38,I y17)] (.dptr (Qak (x33)) 0),rp [(.tmp 39,(.dptr (Qak (x33)) 0))] (I x33),rp [fu 74,(.tmp 36,(Qqs x29)),(.tmp 40,I x33)] (I x38),⟨[fu 97,(.tmp 34,.ref 6 7 0 0),(.tmp 35,I y17),(.tmp 41,I x38),(.tmp 36,(Qqs x29)),(.tmp 37,(Qnj p1)),(.tmp 38,I y17),(.tmp 39,(.dptr (Qak (x33)) 0)),(.tmp 40,I x33)],[(6,(Qox p0 p1 p2 y21)),(3,(Qow y18)),(4,(Qov y19)),(5,(Qou y20))],.any,[(6,.dead),(3,.dead),(4,.dead),(5,.dead)],false⟩] (by exact ⟨by kernel_rfl,by kernel_rfl⟩) rfl (by kernel_rfl) rfl (PStep.to (by rfl) (PStep.more (rd':=[(.tmp 36,(Qqs x29)),(.tmp 37,(Qnj p1)),(.tmp 38,I y17),(.tmp 39,(.dptr (Qak (x33)) 0)),(.tmp 40,I x33)]) (Qzo (first:=[]) (cap:=[]) (vs:=[.ref 6 7 0 0,I y17,I x38]) (σr:=[(Qox p0 p1 p2 y21),(Qow y18),(Qov y19),(Qou y20)]) [6,3,4,5] rfl Q9q (Qkr N y17 x38 p0.Table p0.Elements ((p0.Elements.length:Int).toNat) ((p0.Elements.length:Int).toNat) p1.length p2 y21 y18 y19 y20 _ hf39) rfl (Qbt (rnc (Qbj rfl) (rncc rn0))) (slc (Qaq (rnc (pld Qai) (rnc (pld Qaa) (rnc (Qc5 rfl) (rnc (Qc5 rfl) (rnc (Qc5 rfl) (rnc (pld Qad) (rnc (.plain _ nll) rn0)))))))) (slc (Qa6 Qal) (slc (Qa6 Qaw) (slc (Qa6 Qaf) Qas)))) rfl rfl rfl))) (⟨fun _ _=>ald rfl Qsy (by decide) rfl (nle rfl) rfl,fun _ _=>amv rfl,fun _ _=>ald rfl Qju (by decide) rfl (nle rfl) rfl,fun _ _=>amv rfl,fun _ _=>amv rfl,fun _ _=>aid rfl Tryz.underlying27 ti3 rfl rfl hi35 (mgt Qak hj36) rfl,fun _ _=>ald_ rfl ti3 (by decide) (nle rfl) rfl,fun _ _=>apv Q9r (Qh8 N x29 x33 _ hf37) (nlc (NLt.agg _ (nlc nll (nlc (nld Qav _) (nlcc (nlcc (nlc (nld Qaf _) nl0)))))) (nlc nll nl0)) nll,fun _ h=>absurd rfl h,tv⟩) ?_ (by kernel_rfl) (by kernel_rfl) (by kernel_rfl)
     obtain rfl:=osi h
     exact ⟨_,[[(.lit (.pointer none))],[I x42]],rfl,(Qn4 x42),(Q18 (nlc nll nl0) (Q18 (nlc nll nl0) Zis)),by kernel_rfl,_,(mto (n:=45) (l':=[(6,.ref 0 1 0 0),(7,.ref 1 1 0 0)]) (own':=[Zku,(.own 1 [[I x42]])]) [(6,.ref 1 1 0 0),(7,.ref 2 1 0 0)] [1,2] [Zku,(.own 1 [[I x42]])] hφ0 (prr (prr pn)) (qb (lc rwl ln) (qb (lc rwl ln) qn))),Qkd (vs:=[(.lit (.pointer none)),I x42]) ⟨Qcc (n:=0) (m:=1) (j:=0) (i:=0) (xs:=[[(.lit (.pointer none))]]) (by kernel_rfl) (by kernel_rfl) Qsy (by decide) rfl (nle rfl) rfl,Qcc (n:=1) (m:=1) (j:=0) (i:=0) (xs:=[[I x42]]) (by kernel_rfl) (by kernel_rfl) ti3 (by decide) rfl (nle rfl) rfl,tv⟩ rfl (NLt.tup _ (nlc (NLt.of0 nll) (nlc (NLt.of0 nll) nl0))) (by kernel_rfl) (Qao (Qbc (nlc (NLt.of0 nll) nl0)) (Qao (Qbc (nlc (NLt.of0 nll) nl0)) Qbs))⟩
   ·exact wfn hc28<|Qbi<|Qax<|Qax<|Qbh rfl<|thn<|⟨(y18,y19,y20,y21),h,(mto (n:=45) [(6,.ref 1 1 0 0),(7,.ref 2 1 0 0)] [0,1,2,3,4,5,6] [(Q3g p0),Qpp,(.own 1 [[I 0]]),(Qow y18),(Qov y19),(Qou y20),(Qox p0 p1 p2 y21)] hφ1 (prr (prr pn)) (qb (lc (rnd Qai) (lc (rnd Qaa) ln)) (qb (lc (.rn (rqr rfl)) ln) (qb (lc rwl ln) (qc (spr Qal) (qc (spr Qaw) (qc (spr Qaf) (qb (lc (rnd Qai) (lc (rnd Qaa) (lc (.rn (Qa5 rfl)) (lc (.rn (Qa5 rfl)) (lc (.rn (Qa5 rfl)) (lc (rnd Qad) (lc rwl ln))))))) qn))))))))⟩
theorem Qn6 (N:Nat) (p0:GNet) (p1:(List Int)) (p2:(List GStream)) (r:Int) (h:Qfx N p0 p1 p2=some (.inl r)):Spec Tryz.prog 58 [(Q6j p0),(Qnj p1),(Qmr p2)] [] (.tup [(.lit (.pointer none)),I r]) [(.own 1 [[(.lit (.pointer none))]]),(.own 1 [[I r]])]:=Qkt N p0 p1 p2 _ h
theorem Qn5 (N:Nat) (p0:GNet) (p1:(List Int)) (p2:(List GStream)) (r:(Int×Int×(List (List GStream))×(List GLost)×(List Int))) (h:Qfx N p0 p1 p2=some (.inr r)):Spec Tryz.prog 58 [(Q6j p0),(Qnj p1),(Qmr p2)] [] (.tup [.ref 2 7 0 0,I r.1]) [(.own 1 [[.ref 2 7 0 0]]),(.own 1 [[I r.1]]),(.own 7 [[(.dat 5 ((p0.Table:List GRow).map Qa1)),(.dat 7 ((p0.Elements:List GElement).map Qab)),(.own 3 1 (0) ((p0.Elements.length:Int).toNat)),(.own 4 4 (0) ((p0.Elements.length:Int).toNat)),(.own 5 1 (0) (p1.length)),(.dat 4 ((p2:List GStream).map Qac)),I r.2.1]]),(.own 1 ((r.2.2.1:List (List GStream)).map Qam)),(.own 4 ((r.2.2.2.1:List GLost).map Qa7)),(.own 1 ((r.2.2.2.2:List Int).map Qak))]:=Qkt N p0 p1 p2 _ h
def Qh1 (N:Nat) (p0:GNet) (p1:(List Int)) (p2:(List GStream)):Option (GTick×Int×Int):=
  (Qjy N p0 p1 p2).bind fun x11=>
  bif (x11 != 0) then
   some ((⟨[],[],[]⟩:GTick),0,x11)
  else
   (Qfx N p0 p1 p2).bind (
    Sum.elim (fun x15=>
      bif (decide (x15≥0)) then
       some ((⟨[],[],[]⟩:GTick),x15,11)
      else
       none)
    (fun x17=>
      bif (decide (x17.1≥0)) then
       some ((⟨[],[],[]⟩:GTick),x17.1,11)
      else
       chk (decide ((p0.Elements.length:Int).toNat≤x17.2.2.1.length))<|
       chk (decide ((p0.Elements.length:Int).toNat≤x17.2.2.2.1.length))<|
       chk (decide (p1.length≤x17.2.2.2.2.length))<|
       some ((⟨x17.2.2.1.take ((p0.Elements.length:Int).toNat),x17.2.2.2.1.take ((p0.Elements.length:Int).toNat),x17.2.2.2.2.take p1.length⟩:GTick),0,0)))
def Zgm (p0:GNet):AV:=.dat 5 ((p0.Table:List GRow).map Qa1)
def Zgl (p0:GNet):AV:=.dat 7 ((p0.Elements:List GElement).map Qab)
def Q6n (p0:GNet):AV:=.agg [(Zgm p0),(Zgl p0)]
def Q6l (p1:(List Int)):AV:=.dat 1 ((p1:List Int).map Qak)
def Q3h (p2:(List GStream)):AV:=.dat 4 ((p2:List GStream).map Qac)
def Zgi:AV:=.agg [nilS,nilS,nilS]
def Q6o:Slot:=.own 3 [[(.dat 1 ((((⟨[],[],[]⟩:GTick).Out):List (List GStream)).map Qam)),(.dat 4 ((((⟨[],[],[]⟩:GTick).Lost):List GLost).map Qa7)),(.dat 1 ((((⟨[],[],[]⟩:GTick).State):List Int).map Qak))]]
def Zgj:Slot:=.own 3 [[nilS,nilS,nilS]]
def Q0w:AV:=.dat 1 (((⟨[],[],[]⟩:GTick).Out:List (List GStream)).map Qam)
def Q0v:AV:=.dat 4 (((⟨[],[],[]⟩:GTick).Lost:List GLost).map Qa7)
def Q0u:AV:=.dat 1 (((⟨[],[],[]⟩:GTick).State:List Int).map Qak)
def Q6m:AV:=.agg [Q0w,Q0v,Q0u]
def Zkv:Slot:=.own 1 [[(.lit (.pointer none))]]
def Q6k:Slot:=.own 1 [[(.ref 4 7 (0) 0)]]
def Qs6 (p0:GNet) (p1:(List Int)) (p2:(List GStream)) (x17:(Int×Int×(List (List GStream))×(List GLost)×(List Int))):Slot:=.own 7 [[(Zgm p0),(Zgl p0),(.own 5 1 (0) ((p0.Elements.length:Int).toNat)),(.own 6 4 (0) ((p0.Elements.length:Int).toNat)),(.own 7 1 (0) (p1.length)),(Q3h p2),(I (x17.2.1))]]
def Qnk (x17:(Int×Int×(List (List GStream))×(List GLost)×(List Int))) (p0:GNet):AV:=.dat 1 ((x17.2.2.1.take ((p0.Elements.length:Int).toNat):List (List GStream)).map Qam)
def Zgk (p0:GNet):Slot:=.own 2 [[(Zgm p0),(Zgl p0)]]
def Qs5 (x17:(Int×Int×(List (List GStream))×(List GLost)×(List Int))) (p0:GNet):AV:=.dat 4 ((x17.2.2.2.1.take ((p0.Elements.length:Int).toNat):List GLost).map Qa7)
def Ze5 (x17:(Int×Int×(List (List GStream))×(List GLost)×(List Int))) (p0:GNet) (p1:(List Int)):AV:=.dat 1 (((⟨x17.2.2.1.take ((p0.Elements.length:Int).toNat),x17.2.2.2.1.take ((p0.Elements.length:Int).toNat),x17.2.2.2.2.take p1.length⟩:GTick).Out:List (List GStream)).map Qam)
def Ze4 (x17:(Int×Int×(List (List GStream))×(List GLost)×(List Int))) (p0:GNet) (p1:(List Int)):AV:=.dat 4 (((⟨x17.2.2.1.take ((p0.Elements.length:Int).toNat),x17.2.2.2.1.take ((p0.Elements.length:Int).toNat),x17.2.2.2.2.take p1.length⟩:GTick).Lost:List GLost).map Qa7)
def Ze3 (x17:(Int×Int×(List (List GStream))×(List GLost)×(List Int))) (p0:GNet) (p1:(List Int)):AV:=.dat 1 (((⟨x17.2.2.1.take ((p0.Elements.length:Int).toNat),x17.2.2.2.1.take ((p0.Elements.length:Int).toNat),x17.2.2.2.2.take p1.length⟩:GTick).State:List Int).map Qak)
theorem Qna (N:Nat) (p0:GNet) (p1:(List Int)) (p2:(List GStream)) (r:(GTick×Int×Int)) (h:Qh1 N p0 p1 p2=some r):Spec Tryz.prog 16 [(.agg (Qh9 p0)),(.dat 1 (p1.map Qak)),(.dat 4 (p2.map Qac))] [] (.tup [(.agg [(.dat 1 ((r.1.Out:List (List GStream)).map Qam)),(.dat 4 ((r.1.Lost:List GLost).map Qa7)),(.dat 1 ((r.1.State:List Int).map Qak))]),(I (r.2.1)),(I (r.2.2))]) []:=by
  refine Qah Tryz.func16 rfl 0 (nle rfl) (fun X φ0 w0 hφ0 hd0=>?_)
  unfold Qh1 at h
  refine Qbx<|wxz<|wsq ?_
  obtain ⟨x11,hf10,h⟩:=bno h
  refine wx tbk [(3,rp [fu 57,(.tmp 12,(Q6n p0)),(.tmp 13,(Q6l p1)),(.tmp 14,(Q3h p2))] (I x11))] ⟨apv Zjz (Qs0 N p0 p1 p2 _ hf10) (nlc (NLt.agg _ (nlc (nld Qai _) (nlc (nld Qaa _) nl0))) (nlc (nld Qaf _) (nlc (nld Qad _) nl0))) nll,tv⟩<|wxz ?_
  refine bfe h (fun hc12 h=>?_) fun hc12 h=>?_
  ·refine wft hc12<|wx tbk [(0,rp [] Zgi)] ⟨Qa2 (vs:=[]) rfl ts34 tz34 rfl (by rfl) rfl,tv⟩ ?_
   refine wmr (mto (n:=35) (l':=[(6,.ref 0 3 0 0),(7,I 0),(8,I x11)]) (own':=[Q6o]) [(6,.ref 1 3 0 0),(7,I 0),(8,I x11)] [1] [Zgj] hφ0 (prr (pw (pw pn))) (qb (lc (.nil _) (lc (.nil _) (lc (.nil _) ln))) qn))<|Qae<|Qag ?_
   obtain rfl:=osi h
   exact ⟨_,Mor.rfl,⟨⟨[Q6m,I 0,I x11],⟨Qcc (n:=0) (m:=3) (j:=0) (i:=0) (xs:=[[Q0w,Q0v,Q0u]]) (by kernel_rfl) (by kernel_rfl) ti34 (by decide) rfl (nle rfl) rfl,rot,rot,tv⟩,rfl⟩,(NLt.tup _ (nlc (NLt.agg _ (nlc (nld Qal _) (nlc (nld Qaw _) (nlc (nld Qaf _) nl0)))) (nlcc nl0))),Nat.le_refl _,fun n hn=>absurd hn (Nat.not_lt_zero n)⟩⟩
  ·refine wfn hc12<|Qan<|thn ?_
   obtain ⟨x14,hf13,h⟩:=bno h
   rcases x14 with x15 | x17
   ·replace h:=Zlx h
    refine wx tbk [(3,⟨[fu 58,(.tmp 21,(Q6n p0)),(.tmp 22,(Q6l p1)),(.tmp 23,(Q3h p2))],[(2,.unused),(3,.unused)],(.tup [(.lit (.pointer none)),I x15]),[(2,Zkv),(3,.own 1 [[I x15]])],false⟩)] ⟨Qat (first:=[]) (cap:=[]) (vs:=[(Q6n p0),(Q6l p1),(Q3h p2)]) (σr:=[]) (σr':=[Zkv,(.own 1 [[I x15]])]) (res':=(.tup [(.lit (.pointer none)),I x15])) [2,3] rfl Q9t (Qn6 N p0 p1 p2 _ hf13) rfl (Qbt (rnc (.plain _ (NLt.agg _ (nlc (nld Qai _) (nlc (nld Qaa _) nl0)))) (rnc (pld Qaf) (rnc (pld Qad) rn0)))) Qas (slc (Qaq (rnc (.plain _ nll) rn0)) (slc (Qaq (rnc (.plain _ nll) rn0)) Qas)) (.plain _ (NLt.tup _ (nlcc nl0))) rfl rfl rfl,tv⟩<|wsq<|wxz ?_
    refine bfe h (fun hc16 h=>?_) fun hc16 h=>?_
    ·refine wft hc16<|wx tbk [(0,rp [] Zgi)] ⟨Qa2 (vs:=[]) rfl ts34 tz34 rfl (by rfl) rfl,tv⟩ ?_
     refine wmr (mto (n:=35) (l':=[(6,.ref 0 3 0 0),(7,I x15),(8,I 11)]) (own':=[Q6o]) [(6,.ref 1 3 0 0),(7,I x15),(8,I 11)] [1] [Zgj] hφ0 (prr (pw (pw pn))) (qb (lc (.nil _) (lc (.nil _) (lc (.nil _) ln))) qn))<|Qae<|Qag ?_
     obtain rfl:=osi h
     exact ⟨_,Mor.rfl,⟨⟨[Q6m,I x15,I 11],⟨Qcc (n:=0) (m:=3) (j:=0) (i:=0) (xs:=[[Q0w,Q0v,Q0u]]) (by kernel_rfl) (by kernel_rfl) ti34 (by decide) rfl (nle rfl) rfl,rot,rot,tv⟩,rfl⟩,(NLt.tup _ (nlc (NLt.agg _ (nlc (nld Qal _) (nlc (nld Qaw _) (nlc (nld Qaf _) nl0)))) (nlcc nl0))),Nat.le_refl _,fun n hn=>absurd hn (Nat.not_lt_zero n)⟩⟩
    ·refine wfn hc16<|Qan<|thn ?_
     cases h
   ·replace h:=Zlw h
    refine wx tbk [(3,⟨[fu 58,(.tmp 21,(Q6n p0)),(.tmp 22,(Q6l p1)),(.tmp 23,(Q3h p2))],[(2,.unused),(3,.unused),(4,.unused),(5,.unused),(6,.unused),(7,.unused)],(.tup [.ref 4 7 0 0,I x17.1]),[(2,Q6k),(3,.own 1 [[I x17.1]]),(4,(Qs6 p0 p1 p2 x17)),(5,(.own 1 ((x17.2.2.1:List (List GStream)).map Qam))),(6,(.own 4 ((x17.2.2.2.1:List GLost).map Qa7))),(7,(.own 1 ((x17.2.2.2.2:List Int).map Qak)))],false⟩)] ⟨Qat (first:=[]) (cap:=[]) (vs:=[(Q6n p0),(Q6l p1),(Q3h p2)]) (σr:=[]) (σr':=[Q6k,(.own 1 [[I x17.1]]),(Qs6 p0 p1 p2 x17),(.own 1 ((x17.2.2.1:List (List GStream)).map Qam)),(.own 4 ((x17.2.2.2.1:List GLost).map Qa7)),(.own 1 ((x17.2.2.2.2:List Int).map Qak))]) (res':=(.tup [.ref 4 7 0 0,I x17.1])) [2,3,4,5,6,7] rfl Q9t (Qn5 N p0 p1 p2 _ hf13) rfl (Qbt (rnc (.plain _ (NLt.agg _ (nlc (nld Qai _) (nlc (nld Qaa _) nl0)))) (rnc (pld Qaf) (rnc (pld Qad) rn0)))) Qas (slc (Qaq (rnc (Qbr rfl) rn0)) (slc (Qaq (rnc (.plain _ nll) rn0)) (slc (Qaq (rnc (pld Qai) (rnc (pld Qaa) (rnc (Qdb rfl) (rnc (Qdb rfl) (rnc (Qdb rfl) (rnc (pld Qad) (rnc (.plain _ nll) rn0)))))))) (slc (Qa6 Qal) (slc (Qa6 Qaw) (slc (Qa6 Qaf) Qas)))))) (Zl5 (rnc (Qbr rfl) (rnc (.plain _ nll) rn0))) rfl rfl rfl,tv⟩<|wsq<|wxz ?_
    refine bfe h (fun hc18 h=>?_) fun hc18 h=>?_
    ·refine wft hc18<|wx tbk [(0,rp [] Zgi)] ⟨Qa2 (vs:=[]) rfl ts34 tz34 rfl (by rfl) rfl,tv⟩ ?_
     refine wmr (mto (n:=35) (l':=[(6,.ref 0 3 0 0),(7,I x17.1),(8,I 11)]) (own':=[Q6o]) [(6,.ref 1 3 0 0),(7,I x17.1),(8,I 11)] [1] [Zgj] hφ0 (prr (pw (pw pn))) (qb (lc (.nil _) (lc (.nil _) (lc (.nil _) ln))) qn))<|Qae<|Qag ?_
     obtain rfl:=osi h
     exact ⟨_,Mor.rfl,⟨⟨[Q6m,I x17.1,I 11],⟨Qcc (n:=0) (m:=3) (j:=0) (i:=0) (xs:=[[Q0w,Q0v,Q0u]]) (by kernel_rfl) (by kernel_rfl) ti34 (by decide) rfl (nle rfl) rfl,rot,rot,tv⟩,rfl⟩,(NLt.tup _ (nlc (NLt.agg _ (nlc (nld Qal _) (nlc (nld Qaw _) (nlc (nld Qaf _) nl0)))) (nlcc nl0))),Nat.le_refl _,fun n hn=>absurd hn (Nat.not_lt_zero n)⟩⟩
    ·refine wfn hc18<|Qan<|thn ?_
     refine wx tbk [(1,rb [(.tmp 31,.ref 4 7 0 0)] [(4,(Qs6 p0 p1 p2 x17))] (.ref 4 7 0 0))] ⟨Qbb rfl,tv⟩ ?_
     obtain ⟨hz19,h⟩:=cko h
     refine wmr (Qzv (n:=35) (mp:=3) (m:=1) (xs:=(x17.2.2.1:List (List GStream)).map Qam) (c:=[(.own 5 1 (0) ((p0.Elements.length:Int).toNat)),(.own 6 4 (0) ((p0.Elements.length:Int).toNat)),(.own 7 1 (0) (p1.length))]) (l':=[(6,.ref 1 3 0 0),(7,I 0),(8,I 0)]) (c':=[(Qnk x17 p0),(.own 6 4 (0) ((p0.Elements.length:Int).toNat)),(.own 7 1 (0) (p1.length))]) (own':=[(Zgk p0),(.own 3 [[(Qnk x17 p0),(.own 6 4 (0) ((p0.Elements.length:Int).toNat)),(.own 7 1 (0) (p1.length))]]),Q6k,(.own 1 [[I x17.1]]),(Qs6 p0 p1 p2 x17),.dead,(.own 4 ((x17.2.2.2.1:List GLost).map Qa7)),(.own 1 ((x17.2.2.2.2:List Int).map Qak))]) 5 1 [(6,.ref 1 3 0 0),(7,I 0),(8,I 0)] (by kernel_rfl) (by kernel_rfl) (by kernel_rfl) (by kernel_rfl) ⟨(Qpf hz19),(.same _),(.same _),tv⟩ ⟨rfl,(.same _),rfl,(.same _),rfl,(.same _),tv⟩ (by kernel_rfl)) ?_
     obtain ⟨hz20,h⟩:=cko h
     refine wmr (Qzv (n:=35) (mp:=3) (m:=4) (xs:=(x17.2.2.2.1:List GLost).map Qa7) (c:=[(Qnk x17 p0),(.own 6 4 (0) ((p0.Elements.length:Int).toNat)),(.own 7 1 (0) (p1.length))]) (l':=[(6,.ref 1 3 0 0),(7,I 0),(8,I 0)]) (c':=[(Qnk x17 p0),(Qs5 x17 p0),(.own 7 1 (0) (p1.length))]) (own':=[(Zgk p0),(.own 3 [[(Qnk x17 p0),(Qs5 x17 p0),(.own 7 1 (0) (p1.length))]]),Q6k,(.own 1 [[I x17.1]]),(Qs6 p0 p1 p2 x17),.dead,.dead,(.own 1 ((x17.2.2.2.2:List Int).map Qak))]) 6 1 [(6,.ref 1 3 0 0),(7,I 0),(8,I 0)] (by kernel_rfl) (by kernel_rfl) (by kernel_rfl) (by kernel_rfl) ⟨(.same _),(Qpf hz20),(.same _),tv⟩ ⟨rfl,(.same _),rfl,(.same _),rfl,(.same _),tv⟩ (by kernel_rfl)) ?_
     obtain ⟨hz21,h⟩:=cko h
     refine wmr (Qzv (n:=35) (mp:=3) (m:=1) (xs:=(x17.2.2.2.2:List Int).map Qak) (c:=[(Qnk x17 p0),(Qs5 x17 p0),(.own 7 1 (0) (p1.length))]) (l':=[(6,.ref 1 3 0 0),(7,I 0),(8,I 0)]) (c':=[(Qnk x17 p0),(Qs5 x17 p0),(.dat 1 ((x17.2.2.2.2.take p1.length:List Int).map Qak))]) (own':=[(Zgk p0),(.own 3 [[(Qnk x17 p0),(Qs5 x17 p0),(.dat 1 ((x17.2.2.2.2.take p1.length:List Int).map Qak))]]),Q6k,(.own 1 [[I x17.1]]),(Qs6 p0 p1 p2 x17),.dead,.dead,.dead]) 7 1 [(6,.ref 1 3 0 0),(7,I 0),(8,I 0)] (by kernel_rfl) (by kernel_rfl) (by kernel_rfl) (by kernel_rfl) ⟨(.same _),(.same _),(Qpf hz21),tv⟩ ⟨rfl,(.same _),rfl,(.same _),rfl,(.same _),tv⟩ (by kernel_rfl)) ?_
     refine wmr (mto (n:=35) (l':=[(6,.ref 0 3 0 0),(7,I 0),(8,I 0)]) (own':=[(.own 3 [[(.dat 1 ((((⟨x17.2.2.1.take ((p0.Elements.length:Int).toNat),x17.2.2.2.1.take ((p0.Elements.length:Int).toNat),x17.2.2.2.2.take p1.length⟩:GTick).Out):List (List GStream)).map Qam)),(.dat 4 ((((⟨x17.2.2.1.take ((p0.Elements.length:Int).toNat),x17.2.2.2.1.take ((p0.Elements.length:Int).toNat),x17.2.2.2.2.take p1.length⟩:GTick).Lost):List GLost).map Qa7)),(.dat 1 ((((⟨x17.2.2.1.take ((p0.Elements.length:Int).toNat),x17.2.2.2.1.take ((p0.Elements.length:Int).toNat),x17.2.2.2.2.take p1.length⟩:GTick).State):List Int).map Qak))]])]) [(6,.ref 1 3 0 0),(7,I 0),(8,I 0)] [1] [(.own 3 [[(Qnk x17 p0),(Qs5 x17 p0),(.dat 1 ((x17.2.2.2.2.take p1.length:List Int).map Qak))]])] hφ0 (prr (pw (pw pn))) (qb (lc (rnd Qal) (lc (rnd Qaw) (lc (rnd Qaf) ln))) qn))<|Qae ?_
     obtain rfl:=osi h
     exact ⟨_,Mor.rfl,⟨⟨[(.agg [(Ze5 x17 p0 p1),(Ze4 x17 p0 p1),(Ze3 x17 p0 p1)]),I 0,I 0],⟨Qcc (n:=0) (m:=3) (j:=0) (i:=0) (xs:=[[(Ze5 x17 p0 p1),(Ze4 x17 p0 p1),(Ze3 x17 p0 p1)]]) (by kernel_rfl) (by kernel_rfl) ti34 (by decide) rfl (nle rfl) rfl,rot,rot,tv⟩,rfl⟩,(NLt.tup _ (nlc (NLt.agg _ (nlc (nld Qal _) (nlc (nld Qaw _) (nlc (nld Qaf _) nl0)))) (nlcc nl0))),Nat.le_refl _,fun n hn=>absurd hn (Nat.not_lt_zero n)⟩⟩
def Qnc (_N:Nat):Option (GNet×(List GStream)):=
  some ((⟨[(⟨100,101,419,2676,150⟩:GRow),(⟨150,476,632,2746,300⟩:GRow),(⟨200,1555,852,2793,600⟩:GRow)],[(⟨1,[],2,0,1000,1000000,[]⟩:GElement),(⟨3,[(⟨0,0⟩:GPort)],2,2000,1000,1000000,[]⟩:GElement),(⟨4,[(⟨1,0⟩:GPort)],0,100,1000,1000000,[]⟩:GElement)]⟩:GNet),[(⟨1000,852000,250000,50⟩:GStream)])
def Zge:AV:=.agg [(I (100)),(I (101)),(I (419)),(I (2676)),(I (150))]
def Zgd:AV:=.agg [(I (150)),(I (476)),(I (632)),(I (2746)),(I (300))]
def Zgc:AV:=.agg [(I (200)),(I (1555)),(I (852)),(I (2793)),(I (600))]
def Q3f:AV:=.dat 5 (([(⟨100,101,419,2676,150⟩:GRow),(⟨150,476,632,2746,300⟩:GRow),(⟨200,1555,852,2793,600⟩:GRow)]:List GRow).map Qa1)
def Zkp:AV:=.agg [(K .u8 (1)),nilS,(I (2)),(I (0)),(I (1000)),(I (1000000)),nilS]
def Zgb:AV:=.agg [(I (0)),(I (0))]
def Q55:AV:=.dat 2 (([(⟨0,0⟩:GPort)]:List GPort).map Qar)
def Zko:AV:=.agg [(K .u8 (3)),Q55,(I (2)),(I (2000)),(I (1000)),(I (1000000)),nilS]
def Zga:AV:=.agg [(I (1)),(I (0))]
def Q54:AV:=.dat 2 (([(⟨1,0⟩:GPort)]:List GPort).map Qar)
def Zez:AV:=.agg [(K .u8 (4)),Q54,(I (0)),(I (100)),(I (1000)),(I (1000000)),nilS]
def Qs4:AV:=.dat 7 (([(⟨1,[],2,0,1000,1000000,[]⟩:GElement),(⟨3,[(⟨0,0⟩:GPort)],2,2000,1000,1000000,[]⟩:GElement),(⟨4,[(⟨1,0⟩:GPort)],0,100,1000,1000000,[]⟩:GElement)]:List GElement).map Qab)
def Q57:AV:=.dat 1 (([]:List Int).map Qak)
def Zey:AV:=.agg [(K .u8 (1)),(.dat 2 (([]:List GPort).map Qar)),(I (2)),(I (0)),(I (1000)),(I (1000000)),Q57]
def Zex:AV:=.agg [(K .u8 (3)),Q55,(I (2)),(I (2000)),(I (1000)),(I (1000000)),Q57]
def Zew:AV:=.agg [(K .u8 (4)),Q54,(I (0)),(I (100)),(I (1000)),(I (1000000)),Q57]
def Q56:AV:=.agg [(I (1000)),(I (852000)),(I (250000)),(I (50))]
def Zev:AV:=.dat 4 (([(⟨1000,852000,250000,50⟩:GStream)]:List GStream).map Qac)
theorem Qs1 (N:Nat) (r:(GNet×(List GStream))) (h:Qnc N=some r):Spec Tryz.prog 55 [] [] (.tup [(.agg (Qh9 r.1)),(.dat 4 (r.2.map Qac))]) []:=by
  refine Qah Tryz.func55 rfl 0 (nle rfl) (fun X φ0 w0 hφ0 hd0=>?_)
  unfold Qnc at h
  refine wxz<|wx tbk [(0,rp [ci 100,ci 101,ci 419,ci 2676,ci 150] Zge),(1,rp [ci 150,ci 476,ci 632,ci 2746,ci 300] Zgd),(2,rp [ci 200,ci 1555,ci 852,ci 2793,ci 600] Zgc),(3,rp [(.tmp 4,Zge),(.tmp 5,Zgd),(.tmp 6,Zgc)] Q3f)] ⟨Qa2 (vs:=[I 100,I 101,I 419,I 2676,I 150]) rfl Zbw Qzc rfl (by rfl) rfl,Qa2 (vs:=[I 150,I 476,I 632,I 2746,I 300]) rfl Zbw Qzc rfl (by rfl) rfl,Qa2 (vs:=[I 200,I 1555,I 852,I 2793,I 600]) rfl Zbw Qzc rfl (by rfl) rfl,Qbo (vs:=[Zge,Zgd,Zgc]) rfl Tryz.underlying39 Qsx Qzc rfl (by decide) rfl (by decide) (by rfl) (by rfl) (by rfl) rfl,tv⟩ ?_
  refine wx tbk [(0,rp [(.const (.int .u8 1),(K .u8 (1))),ci 2,ci 1000,ci 1000000] Zkp),(1,rp [] Zgb),(2,rp [(.tmp 9,Zgb)] Q55),(3,rp [(.const (.int .u8 3),(K .u8 (3))),(.tmp 10,Q55),ci 2,ci 2000,ci 1000,ci 1000000] Zko),(4,rp [ci 1] Zga),(5,rp [(.tmp 12,Zga)] Q54),(6,rp [(.const (.int .u8 4),(K .u8 (4))),(.tmp 13,Q54),ci 100,ci 1000,ci 1000000] Zez),(7,rp [(.tmp 8,Zkp),(.tmp 11,Zko),(.tmp 14,Zez)] Qs4)] ⟨Qa2 (vs:=[(K .u8 (1)),I 2,I 1000,I 1000000]) rfl Zbx Qzd rfl (by rfl) rfl,Qa2 (vs:=[]) rfl Q72 Qsu rfl (by rfl) rfl,Qbo (vs:=[Zgb]) rfl Tryz.underlying116 Qo1 Qsu rfl (by decide) rfl (by decide) (by rfl) (by rfl) (by rfl) rfl,Qa2 (vs:=[(K .u8 (3)),Q55,I 2,I 2000,I 1000,I 1000000]) rfl Zbx Qzd rfl (by rfl) rfl,Qa2 (vs:=[I 1]) rfl Q72 Qsu rfl (by rfl) rfl,Qbo (vs:=[Zga]) rfl Tryz.underlying116 Qo1 Qsu rfl (by decide) rfl (by decide) (by rfl) (by rfl) (by rfl) rfl,Qa2 (vs:=[(K .u8 (4)),Q54,I 100,I 1000,I 1000000]) rfl Zbx Qzd rfl (by rfl) rfl,awk (rd':=[(.tmp 8,Zey),(.tmp 11,Zex),(.tmp 14,Zew)]) ⟨rfl,(Less.agg ⟨lrf,Less.nil,lrf,lrf,lrf,lrf,Less.nil,tv⟩),rfl,(Less.agg ⟨lrf,lrf,lrf,lrf,lrf,lrf,Less.nil,tv⟩),rfl,(Less.agg ⟨lrf,lrf,lrf,lrf,lrf,lrf,Less.nil,tv⟩),tv⟩ (Qbo (vs:=[Zey,Zex,Zew]) rfl Tryz.underlying40 Qju Qzd rfl (by decide) rfl (by decide) (by rfl) (by rfl) (by rfl) rfl),tv⟩ ?_
  refine wx tbk [(2,rp [(.tmp 16,Q3f),(.tmp 17,Qs4)] (.agg [Q3f,Qs4])),(3,rp [ci 1000,ci 852000,ci 250000,ci 50] Q56),(4,rp [(.tmp 19,Q56)] Zev)] ⟨Qa2 (vs:=[Q3f,Qs4]) rfl ts42 tz42 rfl (by rfl) rfl,Qa2 (vs:=[I 1000,I 852000,I 250000,I 50]) rfl ts63 tz63 rfl (by rfl) rfl,Qbo (vs:=[Q56]) rfl Tryz.underlying45 ti63 tz63 rfl (by decide) rfl (by decide) (by rfl) (by rfl) (by rfl) rfl,tv⟩<|Qae ?_
  obtain rfl:=osi h
  exact fend ⟨[(.agg [Q3f,Qs4]),Zev],⟨Qcc (n:=0) (m:=2) (j:=0) (i:=0) (xs:=[[Q3f,Qs4]]) (by kernel_rfl) (by kernel_rfl) ti42 (by decide) rfl (nle rfl) rfl,rot,tv⟩,rfl⟩ (NLt.tup _ (nlc (NLt.agg _ (nlc (nld Qai _) (nlc (nld Qaa _) nl0))) (nlc (nld Qad _) nl0)))
def Qea (N:Nat):Option Bool:=
  (Qnc 2000 ).bind fun x2=>
  (Qpa N (⟨x2.1.Table,x2.1.Elements⟩:GNet)).bind fun x4=>
  (Qh1 N (⟨x2.1.Table,x2.1.Elements⟩:GNet) ([0,0,0]) x2.2).bind fun x6=>
  bif (x4.2==0) then
   bif (x6.2.2==0) then
    bif ((x4.1.length:Int)==2) then
     (getI x4.1 1).bind fun x10=>
     bif (([x10.Element,x10.Outlet]:List Int)==[2,1]) then
      bif ((x6.1.Out.length:Int)==3) then
       (getI x6.1.Out 2).bind fun x16=>
       bif ((x16.length:Int)==2) then
        bif ((x6.1.Lost.length:Int)==3) then
         (getI x16 0).bind fun x22=>
         bif (([x22.Mass,x22.Heat,x22.Silica,x22.Gas]:List Int)==[271,542596,12150,50]) then
          (getI x16 1).bind fun x27=>
          bif (([x27.Mass,x27.Heat,x27.Silica,x27.Gas]:List Int)==[729,307404,109350,0]) then
           (getI x6.1.Lost 1).bind fun x32=>
           bif (x32.Heat==2000) then
            (getI x6.1.Lost 2).bind fun x37=>
            some (x37.Scale==128500)
           else
            some false
          else
           some false
         else
          some false
        else
         some false
       else
        some false
      else
       some false
     else
      some false
    else
     some false
   else
    some false
  else
   some false
def Zgg (x2:(GNet×(List GStream))):AV:=.agg [(.dat 5 ((x2.1.Table:List GRow).map Qa1)),(.dat 7 ((x2.1.Elements:List GElement).map Qab))]
def Zkr (x2:(GNet×(List GStream))):AV:=.dat 4 ((x2.2:List GStream).map Qac)
def Zgf (x4:((List GPort)×Int)):AV:=.dat 2 ((x4.1:List GPort).map Qar)
def Zkq:AV:=.dat 1 (([0,0,0]:List Int).map Qak)
def Q58 (x6:(GTick×Int×Int)):AV:=.dat 1 ((x6.1.Out:List (List GStream)).map Qam)
def Zax (x6:(GTick×Int×Int)):AV:=.dat 4 ((x6.1.Lost:List GLost).map Qa7)
def Q6h (x4:((List GPort)×Int)):List (Nat×Rec):=[(2,rp [((.tmp 26),(B ((x4.2==0))))] (B (true)))]
def Q6g (x4) (x6:(GTick×Int×Int)):=hcat (Q6h x4) [(6,rp [((.tmp 30),(B ((x6.2.2==0))))] (B (true))),(8,rp [((.tmp 31),(B (true))),((.tmp 32),(Zgf x4))] (I ((x4.1.length:Int))))]
def Q6f (x4) (x6) (x10:GPort):=hcat (Q6g x4 x6) [(11,rp [((.tmp 35),(B (((x4.1.length:Int)==2))))] (B (true))),(13,rp [((.tmp 36),(B (true))),((.tmp 37),(Zgf x4)),ci 1] (.dptr (Qar (x10)) 0)),(15,rp [((.tmp 36),(B (true))),ci 2,ci 1] (.agg [(I (2)),(I (1))])),(16,rp [((.tmp 36),(B (true))),((.tmp 39),(.agg [(I (x10.Element)),(I (x10.Outlet))])),((.tmp 40),(.agg [(I (2)),(I (1))]))] (B ((([x10.Element,x10.Outlet]:List Int)==[2,1]))))]
def Q6e (x4) (x6) (x10):=hcat (Q6f x4 x6 x10) [(18,rp [((.tmp 42),(B ((([x10.Element,x10.Outlet]:List Int)==[2,1]))))] (B (true))),(21,rp [((.tmp 43),(B (true))),((.tmp 45),(Q58 x6))] (I ((x6.1.Out.length:Int))))]
def Q6i (x16:(List GStream)):AV:=.dat 4 ((x16:List GStream).map Qac)
def Q6d (x4) (x6) (x10) (x16:(List GStream)):=hcat (Q6e x4 x6 x10) [(24,rp [((.tmp 48),(B (((x6.1.Out.length:Int)==3))))] (B (true))),(27,rp [((.tmp 49),(B (true))),((.tmp 51),(Q58 x6)),ci 2] (.dptr (Qam (x16)) 0)),(29,rp [((.tmp 49),(B (true))),((.tmp 53),(Q6i x16))] (I ((x16.length:Int))))]
def Q6c (x4) (x6) (x10) (x16):=hcat (Q6d x4 x6 x10 x16) [(32,rp [((.tmp 56),(B (((x16.length:Int)==2))))] (B (true))),(35,rp [((.tmp 57),(B (true))),((.tmp 59),(Zax x6))] (I ((x6.1.Lost.length:Int))))]
def Ze1:AV:=.agg [(I (271)),(I (542596)),(I (12150)),(I (50))]
def Q6b (x4) (x6) (x10) (x16) (x22:GStream):=hcat (Q6c x4 x6 x10 x16) [(38,rp [((.tmp 62),(B (((x6.1.Lost.length:Int)==3))))] (B (true))),(41,rp [((.tmp 63),(B (true))),((.tmp 65),(Q58 x6)),ci 2] (.dptr (Qam (x16)) 0)),(43,rp [((.tmp 63),(B (true))),((.tmp 67),(Q6i x16)),ci 0] (.dptr (Qac (x22)) 0)),(45,rp [((.tmp 63),(B (true))),ci 271,ci 542596,ci 12150,ci 50] Ze1),(46,rp [((.tmp 63),(B (true))),((.tmp 69),(.agg [(I (x22.Mass)),(I (x22.Heat)),(I (x22.Silica)),(I (x22.Gas))])),((.tmp 70),Ze1)] (B ((([x22.Mass,x22.Heat,x22.Silica,x22.Gas]:List Int)==[271,542596,12150,50]))))]
def Ze0:AV:=.agg [(I (729)),(I (307404)),(I (109350)),(I (0))]
def Q6a (x4) (x6) (x10) (x16) (x22) (x27:GStream):=hcat (Q6b x4 x6 x10 x16 x22) [(48,rp [((.tmp 72),(B ((([x22.Mass,x22.Heat,x22.Silica,x22.Gas]:List Int)==[271,542596,12150,50]))))] (B (true))),(51,rp [((.tmp 73),(B (true))),((.tmp 75),(Q58 x6)),ci 2] (.dptr (Qam (x16)) 0)),(53,rp [((.tmp 73),(B (true))),((.tmp 77),(Q6i x16)),ci 1] (.dptr (Qac (x27)) 0)),(55,rp [((.tmp 73),(B (true))),ci 729,ci 307404,ci 109350] Ze0),(56,rp [((.tmp 73),(B (true))),((.tmp 79),(.agg [(I (x27.Mass)),(I (x27.Heat)),(I (x27.Silica)),(I (x27.Gas))])),((.tmp 80),Ze0)] (B ((([x27.Mass,x27.Heat,x27.Silica,x27.Gas]:List Int)==[729,307404,109350,0]))))]
def Q59 (x4) (x6) (x10) (x16) (x22) (x27) (x32:GLost):=hcat (Q6a x4 x6 x10 x16 x22 x27) [(58,rp [((.tmp 82),(B ((([x27.Mass,x27.Heat,x27.Silica,x27.Gas]:List Int)==[729,307404,109350,0]))))] (B (true))),(61,rp [((.tmp 83),(B (true))),((.tmp 85),(Zax x6)),ci 1] (.dptr (Qa7 (x32)) 0))]
theorem Qd7 (N:Nat) (r:Bool) (h:Qea N=some r):Spec Tryz.prog 15 [] [] (B r) []:=by
  refine Qah Tryz.func15 rfl 0 (nle rfl) (fun X φ0 w0 hφ0 hd0=>?_)
  unfold Qea at h
  refine wxz ?_
  obtain ⟨x2,hf1,h⟩:=bno h
  refine wx tbk [(0,rp [fu 55] (.tup [(Zgg x2),(Zkr x2)]))] ⟨apv Zj0 (Qs1 2000  _ hf1) nl0 (NLt.tup _ (nlc (NLt.agg _ (nlc (nld Qai _) (nlc (nld Qaa _) nl0))) (nlc (nld Qad _) nl0))),tv⟩ ?_
  obtain ⟨x4,hf3,h⟩:=bno h
  refine wx tbk [(1,rp [fu 47,(.tmp 13,(Zgg x2))] (.tup [(Zgf x4),I x4.2]))] ⟨apv Zj1 (Qvg N (⟨x2.1.Table,x2.1.Elements⟩:GNet) _ hf3) (nlc (NLt.agg _ (nlc (nld Qai _) (nlc (nld Qaa _) nl0))) nl0) (NLt.tup _ (nlc (nld Qav _) (nlc nll nl0))),tv⟩ ?_
  obtain ⟨x6,hf5,h⟩:=bno h
  refine wx tbk [(1,rp [ci 0,ci 0,ci 0] Zkq),(3,rp [fu 16,(.tmp 18,(Zgg x2)),(.tmp 19,Zkq),(.tmp 20,(Zkr x2))] (.tup [(.agg [(Q58 x6),(Zax x6),(.dat 1 ((x6.1.State:List Int).map Qak))]),I x6.2.1,I x6.2.2]))] ⟨Qbo (vs:=[I 0,I 0,I 0]) rfl Tryz.underlying27 ti3 tz3 rfl (by decide) rfl (by decide) (by rfl) (by rfl) (by rfl) rfl,apv Qz7 (Qna N (⟨x2.1.Table,x2.1.Elements⟩:GNet) ([0,0,0]) x2.2 _ hf5) (nlc (NLt.agg _ (nlc (nld Qai _) (nlc (nld Qaa _) nl0))) (nlc (nld Qaf _) (nlc (nld Qad _) nl0))) (NLt.tup _ (nlc (NLt.agg _ (nlc (nld Qal _) (nlc (nld Qaw _) (nlc (nld Qaf _) nl0)))) (nlcc nl0))),tv⟩ ?_
  refine bfe h (fun hb7 h=>?_) fun hb7 h=>?_
  ·refine hpre (A:=(Q6h x4)) ⟨asb hb7 (amv rfl),tv⟩ fun q1_=>?_
   refine bfe h (fun hb8 h=>?_) fun hb8 h=>?_
   ·refine hpre (A:=(Q6g x4 x6)) (hap q1_ ⟨asb hb8 (amv rfl),ag_ (alm (c:=Qar) (l:=x4.1) (aln rfl Tryz.underlying116 rfl)),tv⟩) fun q2_=>?_
    refine bfe h (fun hb9 h=>?_) fun hb9 h=>?_
    ·obtain ⟨x10,hg11,h⟩:=bno h
     obtain ⟨hi12,hj13⟩:=gsm hg11
     refine hpre (A:=(Q6f x4 x6 x10)) (hap q2_ ⟨asb hb9 (amv rfl),ag_ (aid rfl Tryz.underlying116 Qo1 rfl rfl hi12 (mgt Qar hj13) rfl),ag_ (Qa2 (vs:=[I 2,I 1]) rfl Q72 Qsu rfl (by rfl) rfl),ag_ (Qop (ls:=[x10.Element,x10.Outlet]) (ks:=[2,1]) rfl rfl Qr4 (by kernel_rfl) rfl rfl),tv⟩) fun q3_=>?_
     refine bfe h (fun hb14 h=>?_) fun hb14 h=>?_
     ·refine hpre (A:=(Q6e x4 x6 x10)) (hap q3_ ⟨asb hb14 (amv rfl),ag_ (alm (c:=Qam) (l:=x6.1.Out) (aln rfl Tryz.underlying31 rfl)),tv⟩) fun q4_=>?_
      refine bfe h (fun hb15 h=>?_) fun hb15 h=>?_
      ·obtain ⟨x16,hg17,h⟩:=bno h
       obtain ⟨hi18,hj19⟩:=gsm hg17
       refine hpre (A:=(Q6d x4 x6 x10 x16)) (hap q4_ ⟨asb hb15 (amv rfl),ag_ (aid rfl Tryz.underlying31 ti45 rfl rfl hi18 (mgt Qam hj19) rfl),ag_ (alm (c:=Qac) (l:=x16) (aln rfl Tryz.underlying45 rfl)),tv⟩) fun q5_=>?_
       refine bfe h (fun hb20 h=>?_) fun hb20 h=>?_
       ·refine hpre (A:=(Q6c x4 x6 x10 x16)) (hap q5_ ⟨asb hb20 (amv rfl),ag_ (alm (c:=Qa7) (l:=x6.1.Lost) (aln rfl Tryz.underlying32 rfl)),tv⟩) fun q6_=>?_
        refine bfe h (fun hb21 h=>?_) fun hb21 h=>?_
        ·obtain ⟨x22,hg23,h⟩:=bno h
         obtain ⟨hi24,hj25⟩:=gsm hg23
         refine hpre (A:=(Q6b x4 x6 x10 x16 x22)) (hap q6_ ⟨asb hb21 (amv rfl),ag_ (aid rfl Tryz.underlying31 ti45 rfl rfl hi18 (mgt Qam hj19) rfl),ag_ (aid rfl Tryz.underlying45 ti63 rfl rfl hi24 (mgt Qac hj25) rfl),ag_ (Qa2 (vs:=[I 271,I 542596,I 12150,I 50]) rfl ts63 tz63 rfl (by rfl) rfl),ag_ (Qop (ls:=[x22.Mass,x22.Heat,x22.Silica,x22.Gas]) (ks:=[271,542596,12150,50]) rfl rfl Zjj (by kernel_rfl) rfl rfl),tv⟩) fun q7_=>?_
         refine bfe h (fun hb26 h=>?_) fun hb26 h=>?_
         ·obtain ⟨x27,hg28,h⟩:=bno h
          obtain ⟨hi29,hj30⟩:=gsm hg28
          refine hpre (A:=(Q6a x4 x6 x10 x16 x22 x27)) (hap q7_ ⟨asb hb26 (amv rfl),ag_ (aid rfl Tryz.underlying31 ti45 rfl rfl hi18 (mgt Qam hj19) rfl),ag_ (aid rfl Tryz.underlying45 ti63 rfl rfl hi29 (mgt Qac hj30) rfl),ag_ (Qa2 (vs:=[I 729,I 307404,I 109350]) rfl ts63 tz63 rfl (by rfl) rfl),ag_ (Qop (ls:=[x27.Mass,x27.Heat,x27.Silica,x27.Gas]) (ks:=[729,307404,109350,0]) rfl rfl Zjj (by kernel_rfl) rfl rfl),tv⟩) fun q8_=>?_
          refine bfe h (fun hb31 h=>?_) fun hb31 h=>?_
          ·obtain ⟨x32,hg33,h⟩:=bno h
           obtain ⟨hi34,hj35⟩:=gsm hg33
           refine hpre (A:=(Q59 x4 x6 x10 x16 x22 x27 x32)) (hap q8_ ⟨asb hb31 (amv rfl),ag_ (aid rfl Tryz.underlying32 ti82 rfl rfl hi34 (mgt Qa7 hj35) rfl),tv⟩) fun q9_=>?_
           refine bfe h (fun hb36 h=>?_) fun hb36 h=>?_
           ·obtain ⟨x37,hg38,h⟩:=bno h
            obtain ⟨hi39,hj40⟩:=gsm hg38
            refine wx tbk (hcat (Q59 x4 x6 x10 x16 x22 x27 x32) [(66,rp [(.tmp 90,(B ((x32.Heat==2000))))] (B true)),(69,rp [(.tmp 91,B true),(.tmp 93,(Zax x6)),ci 2] (.dptr (Qa7 (x37)) 0))]) (hap q9_ ⟨asb hb36 (amv rfl),ag_ (aid rfl Tryz.underlying32 ti82 rfl rfl hi39 (mgt Qa7 hj40) rfl),tv⟩)<|Qae ?_
            obtain rfl:=osi h
            exact fend ⟨[(B ((x37.Scale==128500)))],⟨rot,tv⟩,rfl⟩ nll
           ·exact wx tbk (hcat (Q59 x4 x6 x10 x16 x22 x27 x32) [(66,rp [(.tmp 90,(B ((x32.Heat==2000))))] (B false))]) (hap q9_ ⟨asb hb36 (amv rfl),tv⟩)<|Qae<|frb h
          ·exact wx tbk (hcat (Q6a x4 x6 x10 x16 x22 x27) [(58,rp [(.tmp 82,(B ((([x27.Mass,x27.Heat,x27.Silica,x27.Gas]:List Int)==[729,307404,109350,0]))))] (B false))]) (hap q8_ ⟨asb hb31 (amv rfl),tv⟩)<|Qae<|frb h
         ·exact wx tbk (hcat (Q6b x4 x6 x10 x16 x22) [(48,rp [(.tmp 72,(B ((([x22.Mass,x22.Heat,x22.Silica,x22.Gas]:List Int)==[271,542596,12150,50]))))] (B false))]) (hap q7_ ⟨asb hb26 (amv rfl),tv⟩)<|Qae<|frb h
        ·exact wx tbk (hcat (Q6c x4 x6 x10 x16) [(38,rp [(.tmp 62,(B (((x6.1.Lost.length:Int)==3))))] (B false))]) (hap q6_ ⟨asb hb21 (amv rfl),tv⟩)<|Qae<|frb h
       ·exact wx tbk (hcat (Q6d x4 x6 x10 x16) [(32,rp [(.tmp 56,(B (((x16.length:Int)==2))))] (B false))]) (hap q5_ ⟨asb hb20 (amv rfl),tv⟩)<|Qae<|frb h
      ·exact wx tbk (hcat (Q6e x4 x6 x10) [(24,rp [(.tmp 48,(B (((x6.1.Out.length:Int)==3))))] (B false))]) (hap q4_ ⟨asb hb15 (amv rfl),tv⟩)<|Qae<|frb h
     ·exact wx tbk (hcat (Q6f x4 x6 x10) [(18,rp [(.tmp 42,(B ((([x10.Element,x10.Outlet]:List Int)==[2,1]))))] (B false))]) (hap q3_ ⟨asb hb14 (amv rfl),tv⟩)<|Qae<|frb h
    ·exact wx tbk (hcat (Q6g x4 x6) [(11,rp [(.tmp 35,(B (((x4.1.length:Int)==2))))] (B false))]) (hap q2_ ⟨asb hb9 (amv rfl),tv⟩)<|Qae<|frb h
   ·exact wx tbk (hcat (Q6h x4) [(6,rp [(.tmp 30,(B ((x6.2.2==0))))] (B false))]) (hap q1_ ⟨asb hb8 (amv rfl),tv⟩)<|Qae<|frb h
  ·exact wx tbk [(2,rp [(.tmp 26,(B ((x4.2==0))))] (B false))] ⟨asb hb7 (amv rfl),tv⟩<|Qae<|frb h
end Go.Proofs.YtmbhnllcfmiajaaGreat
