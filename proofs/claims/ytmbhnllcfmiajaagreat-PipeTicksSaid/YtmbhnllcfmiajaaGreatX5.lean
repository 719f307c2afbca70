/-
  Functions of the program: what they compute, as plain functions, and that they do. No conditions.
-/
import Derived.Test.YtmbhnllcfmiajaaGreatX4
namespace Go.Proofs.YtmbhnllcfmiajaaGreat
set_option maxRecDepth 100000
set_option maxHeartbeats 4000000
open Go.RowKit
def Qdg (N:Nat) (p0:GNet) (p1:(List Int)) (p2:(List GStream)) (k16:(List (List GStream))×(List GLost)×(List Int)×Int→Option (Int⊕(Int×Int×(List (List GStream))×(List GLost)×(List Int)))):Nat→Int→(List (List GStream))→(List GLost)→(List Int)→Int→Option (Int⊕(Int×Int×(List (List GStream))×(List GLost)×(List Int)))
  | 0,_,_,_,_,_=>none
  | n27+1,y17,y18,y19,y20,y21=>
    bif (decide (y17<(p0.Elements.length:Int))) then
     (getI p0.Elements y17).bind fun x29=>
     (getI p1 y17).bind fun x33=>
     (Qfr N x29 x33).bind fun x38=>
     (Qct N y17 x38 p0.Table p0.Elements ((p0.Elements.length:Int).toNat) ((p0.Elements.length:Int).toNat) p1.length p2 y21 y18 y19 y20).bind (
      Sum.elim (fun x41=>
        Qdg N p0 p1 p2 k16 n27 (w64 (y17+1)) x41.2.1 x41.2.2.1 x41.2.2.2 x41.1)
      (fun x42=>
        some (.inl x42)))
    else
     k16 (y18,y19,y20,y21)
def Qga (N:Nat) (p0:GNet) (p1:(List Int)) (p2:(List GStream)):Option (Int⊕(Int×Int×(List (List GStream))×(List GLost)×(List Int))):=
  chk (decide (0≤(p0.Elements.length:Int))&&decide (24 * (p0.Elements.length:Int)≤281474976710656)&&decide ((p0.Elements.length:Int)≤9223372036854775807))<|
  chk (decide (0≤(p0.Elements.length:Int))&&decide (32 * (p0.Elements.length:Int)≤281474976710656)&&decide ((p0.Elements.length:Int)≤9223372036854775807))<|
  (Qfe N p1).bind fun _=>
  Qbf (fun ⟨y12,y13,y14,y15⟩=>
    some (.inr ((-1),y15,y12,y13,y14))) fun k16:(List (List GStream))×(List GLost)×(List Int)×Int→Option (Int⊕(Int×Int×(List (List GStream))×(List GLost)×(List Int)))=>
  Qdg N p0 p1 p2 k16 N 0 (List.replicate (p0.Elements.length:Int).toNat ([])) (List.replicate (p0.Elements.length:Int).toNat (⟨0,0,0,0⟩:GLost)) p1 0
def Q05 (p0:GNet):AV:=.dat 5 ((p0.Table:List GRow).map Qa0)
def Qoj (p0:GNet):AV:=.dat 7 ((p0.Elements:List GElement).map Qad)
def Q76 (p0:GNet):AV:=.agg [(Q05 p0),(Qoj p0)]
def Qo6 (p1:(List Int)):AV:=.dat 1 ((p1:List Int).map Qak)
def Qoa (p2:(List GStream)):AV:=.dat 4 ((p2:List GStream).map Qaa)
def Zlg (p0:GNet):Slot:=.own 1 ((List.replicate (p0.Elements.length:Int).toNat ([]):List (List GStream)).map Qaf)
def Zlf (p0:GNet):Slot:=.own 4 ((List.replicate (p0.Elements.length:Int).toNat (⟨0,0,0,0⟩:GLost):List GLost).map Qaw)
def Zca (p1:(List Int)):Slot:=.own 1 ((p1:List Int).map Qak)
def Zhi (p0:GNet) (p1:(List Int)):AV:=.agg [(.own 3 1 (0) ((p0.Elements.length:Int).toNat)),(.own 4 4 (0) ((p0.Elements.length:Int).toNat)),(.own 5 1 (0) (p1.length))]
def Q5m (p0:GNet):Slot:=.own 2 [[(Q05 p0),(Qoj p0)]]
def Qri:Slot:=.own 1 [[(.ref 6 7 (0) 0)]]
def Q04 (y12:(List (List GStream))):Slot:=.own 1 ((y12:List (List GStream)).map Qaf)
def Q03 (y13:(List GLost)):Slot:=.own 4 ((y13:List GLost).map Qaw)
def Q02 (p0:GNet) (p1:(List Int)) (p2:(List GStream)) (y15:Int):Slot:=.own 7 [[(Q05 p0),(Qoj p0),(.own 3 1 (0) ((p0.Elements.length:Int).toNat)),(.own 4 4 (0) ((p0.Elements.length:Int).toNat)),(.own 5 1 (0) (p1.length)),(Qoa p2),(I (y15))]]
def Zf8 (p0:GNet) (p1:(List Int)) (p2:(List GStream)):Slot:=.own 7 [[(Q05 p0),(Qoj p0),(.own 3 1 (0) ((p0.Elements.length:Int).toNat)),(.own 4 4 (0) ((p0.Elements.length:Int).toNat)),(.own 5 1 (0) (p1.length)),(Qoa p2),(I (0))]]
def Qqn (y18:(List (List GStream))):Slot:=.own 1 ((y18:List (List GStream)).map Qaf)
def Qqm (y19:(List GLost)):Slot:=.own 4 ((y19:List GLost).map Qaw)
def Qql (y20:(List Int)):Slot:=.own 1 ((y20:List Int).map Qak)
def Qqo (p0:GNet) (p1:(List Int)) (p2:(List GStream)) (y21:Int):Slot:=.own 7 [[(Q05 p0),(Qoj p0),(.own 3 1 (0) ((p0.Elements.length:Int).toNat)),(.own 4 4 (0) ((p0.Elements.length:Int).toNat)),(.own 5 1 (0) (p1.length)),(Qoa p2),(I (y21))]]
def Qoi (x29:GElement):AV:=.agg [(K .u8 (x29.Kind)),(.dat 2 ((x29.From:List GPort).map Qas)),(I (x29.Level)),(I (x29.Amount)),(I (x29.Wide)),(I (x29.Narrow)),(.dat 1 ((x29.Weights:List Int).map Qak))]
def Q01 (p0:GNet) (p1:(List Int)) (p2:(List GStream)) (x41:(Int×(List (List GStream))×(List GLost)×(List Int))):Slot:=.own 7 [[(Q05 p0),(Qoj p0),(.own 3 1 (0) (((p0.Elements.length:Int).toNat))),(.own 4 4 (0) (((p0.Elements.length:Int).toNat))),(.own 5 1 (0) (p1.length)),(Qoa p2),(I (x41.1))]]
def Zlh:Slot:=.own 1 [[(.lit (.pointer none))]]
theorem Qlr (N:Nat) (p0:GNet) (p1:(List Int)) (p2:(List GStream)) (r:(Int⊕(Int×Int×(List (List GStream))×(List GLost)×(List Int)))) (h:Qga N p0 p1 p2=some r):Spec Tryz.prog 58 [(Q76 p0),(Qo6 p1),(Qoa p2)] [] (((Sum.elim (fun r=>(.tup [(.lit (.pointer none)),(I (r))])) (fun r=>(.tup [(.ref 2 7 (0) 0),(I (r.1))]))):(Int⊕(Int×Int×(List (List GStream))×(List GLost)×(List Int)))→AV) r) (((Sum.elim (fun r=>[(.own 1 [[(.lit (.pointer none))]]),(.own 1 [[(I (r))]])]) (fun r=>[(.own 1 [[(.ref 2 7 (0) 0)]]),(.own 1 [[(I (r.1))]]),(.own 7 [[(.dat 5 ((p0.Table:List GRow).map Qa0)),(.dat 7 ((p0.Elements:List GElement).map Qad)),(.own 3 1 (0) ((p0.Elements.length:Int).toNat)),(.own 4 4 (0) ((p0.Elements.length:Int).toNat)),(.own 5 1 (0) (p1.length)),(.dat 4 ((p2:List GStream).map Qaa)),(I (r.2.1))]]),(.own 1 ((r.2.2.1:List (List GStream)).map Qaf)),(.own 4 ((r.2.2.2.1:List GLost).map Qaw)),(.own 1 ((r.2.2.2.2:List Int).map Qak))])):(Int⊕(Int×Int×(List (List GStream))×(List GLost)×(List Int)))→List Slot) r):=by
  refine Qzb Tryz.func58 rfl (fun X φ0 w0 hφ0 hd0=>?_)
  unfold Qga at h
  refine Q5f (k:=6) hd0 (fun n hn=>hφ0 n (Nat.le_trans (nle rfl) hn)) ?_
  refine wxz1 ?_
  refine thn ?_
  refine Q5f (k:=6) hd0 (fun n hn=>hφ0 n (Nat.le_trans (nle rfl) hn)) ?_
  obtain ⟨hm8,h⟩:=cko h
  obtain ⟨hm9,h⟩:=cko h
  obtain ⟨x11,hf10,h⟩:=bno h
  refine wy1 tbk [(3,rp [(.tmp 12,(Qoj p0))] (I ((p0.Elements.length:Int)))),(4,⟨[(.tmp 13,(I ((p0.Elements.length:Int)))),(.tmp 13,(I ((p0.Elements.length:Int))))],[(3,.unused)],(.own 3 1 (0) ((p0.Elements.length:Int).toNat)),[(3,(Zlg p0))],false⟩),(7,rp [(.tmp 16,(Qoj p0))] (I ((p0.Elements.length:Int)))),(8,⟨[(.tmp 17,(I ((p0.Elements.length:Int)))),(.tmp 17,(I ((p0.Elements.length:Int))))],[(4,.unused)],(.own 4 4 (0) ((p0.Elements.length:Int).toNat)),[(4,(Zlf p0))],false⟩),(10,⟨[fu 95,(.tmp 19,(Qo6 p1))],[(5,.unused)],(.own 5 1 (0) (p1.length)),[(5,(Zca p1))],false⟩),(11,rp [(.tmp 14,(.own 3 1 (0) ((p0.Elements.length:Int).toNat))),(.tmp 18,(.own 4 4 (0) ((p0.Elements.length:Int).toNat))),(.tmp 20,(.own 5 1 (0) (p1.length)))] (Zhi p0 p1)),(13,rp [(.tmp 10,(Q76 p0)),(.tmp 21,(Zhi p0 p1)),(.tmp 22,(Qoa p2))] (.agg [(Q05 p0),(Qoj p0),(.own 3 1 (0) ((p0.Elements.length:Int).toNat)),(.own 4 4 (0) ((p0.Elements.length:Int).toNat)),(.own 5 1 (0) (p1.length)),(Qoa p2),I 0]))] ⟨alm (c:=Qad) (l:=p0.Elements) (aln rfl Tryz.underlying40 rfl),Zbz (c:=Qaf) (v:=([])) (z:=[nilS]) (k:=(p0.Elements.length:Int).toNat) ⟨Less.nil,trivial⟩ (Ql0 rfl Tryz.underlying31 te45 tz45 rfl (Q0u hm8) rfl (Q0t hm8) (Q0s hm8) rfl),alm (c:=Qad) (l:=p0.Elements) (aln rfl Tryz.underlying40 rfl),Ql0 rfl Tryz.underlying32 te82 tz82 rfl (Q0u hm9) rfl (Q0t hm9) (Q0s hm9) (Qw7 Qaw rfl),Qau (first:=[]) (cap:=[]) (vs:=[(Qo6 p1)]) (σr:=[]) (σr':=[(Zca p1)]) (res':=(.own 5 1 (0) (p1.length))) [5] rfl Zkc (Qk5 N p1 _ hf10) rfl (Qbx (rnc (pld Qae) rn0)) Qat (slc (Qbd Qae) Qat) (Qdb rfl) rfl rfl rfl,Qav (vs:=[(.own 3 1 (0) ((p0.Elements.length:Int).toNat)),(.own 4 4 (0) ((p0.Elements.length:Int).toNat)),(.own 5 1 (0) (p1.length))]) rfl ts34 tz34 rfl (by rfl) rfl,Qav (vs:=[(Q76 p0),(Zhi p0 p1),(Qoa p2)]) rfl Zna Zl7 rfl (by rfl) rfl,trivial⟩ ?_
  refine thn ?_
  refine Q7b (k:=6) [(1,1),(2,1)] hd0 (fun n hn=>hφ0 n (Nat.le_trans (nle rfl) hn)) Zkb rfl rfl (by kernel_rfl) (by kernel_rfl) (by kernel_rfl) Qq0 (fun φ1 w1 hφ1 hd1=>?_)
  obtain ⟨k16,hk_k16,h⟩:=jko h
  refine wjn (τ:=(List (List GStream))×(List GLost)×(List Int)×Int) (fun t=>k16 t=some r) (fun ⟨y12,y13,y14,y15⟩=>⟨mk 45 [(6,.ref 1 1 0 0),(7,.ref 2 1 0 0)],[(Q5m p0),Qri,(.own 1 [[I 0]]),(Q04 y12),(Q03 y13),(.own 1 ((y14:List Int).map Qak)),(Q02 p0 p1 p2 y15)]⟩) (fun t h=>?_) ?_
  ·subst hk_k16
   obtain ⟨y12,y13,y14,y15⟩:=t
   refine wxz ?_
   refine Qag ?_
   obtain rfl:=osi h
   exact ⟨_,(mto (n:=45) (l':=[(6,.ref 0 1 0 0),(7,.ref 1 1 0 0)]) (own':=[(.own 1 [[.ref 2 7 0 0]]),(.own 1 [[(I ((-1)))]]),(Q02 p0 p1 p2 y15),(Q04 y12),(Q03 y13),(.own 1 ((y14:List Int).map Qak))]) [(6,.ref 1 1 0 0),(7,.ref 2 1 0 0)] [1,2,6,3,4,5] [Qri,(.own 1 [[(I ((-1)))]]),(Q02 p0 p1 p2 y15),(Q04 y12),(Q03 y13),(.own 1 ((y14:List Int).map Qak))] hφ0 (pc (.rn (rqr rfl)) (pc (.rn (rqr rfl)) pn)) (qc (spb (lc (.rn (rqr rfl)) ln)) (qc (spb (lc rwl ln)) (qc (spb (lc (rnd Qal) (lc (rnd Qab) (lc (.rn (Qa4 rfl)) (lc (.rn (Qa4 rfl)) (lc (.rn (Qa4 rfl)) (lc (rnd Qac) (lc rwl ln)))))))) (qc (spr Qaj) (qc (spr Qaq) (qc (spr Qae) qn))))))),Qk9 (vs:=[.ref 2 7 0 0,I (-1)]) ⟨Qbv (n:=0) (m:=1) (j:=0) (i:=0) (xs:=[[.ref 2 7 0 0]]) (by kernel_rfl) (by kernel_rfl) Qu2 (by decide) rfl (nle rfl) rfl,Qbv (n:=1) (m:=1) (j:=0) (i:=0) (xs:=[[I (-1)]]) (by kernel_rfl) (by kernel_rfl) ti3 (by decide) rfl (nle rfl) rfl,trivial⟩ rfl (NLt.tup _ (nlc (NLt.ref _ _ _ _ (by decide)) (nlc (NLt.of0 nll) nl0))) (by kernel_rfl) (Qap (Qbj (nlc (NLt.ref _ _ _ _ (by decide)) nl0)) (Qap (Qbj (nlc (NLt.of0 nll) nl0)) (Qap (Qbj (nlc (NLt.of0 (nld Qal _)) (nlc (NLt.of0 (nld Qab _)) (nlc (NLt.own _ _ _ _ (by decide)) (nlc (NLt.own _ _ _ _ (by decide)) (nlc (NLt.own _ _ _ _ (by decide)) (nlc (NLt.of0 (nld Qac _)) (nlc (NLt.of0 nll) nl0)))))))) (Qap (Qck Qaj _) (Qap (Qck Qaq _) (Qap (Qck Qae _) Qbz))))))⟩
  ·skip
   refine wx tbk [(2,rp [(.tmp 27,(Qoj p0))] (I ((p0.Elements.length:Int))))] ⟨alm (c:=Qad) (l:=p0.Elements) (aln rfl Tryz.underlying40 rfl),trivial⟩ ?_
   refine Qam ?_
   refine wmr (mto (n:=45) (l':=[(1,(Qo6 p1)),(6,.ref 1 1 0 0),(7,.ref 2 1 0 0),(27,(Qoj p0)),(28,(I ((p0.Elements.length:Int)))),(29,I 0)]) (own':=[(Q5m p0),Qri,(.own 1 [[I 0]]),(.own 1 (((List.replicate (p0.Elements.length:Int).toNat ([])):List (List GStream)).map Qaf)),(.own 4 (((List.replicate (p0.Elements.length:Int).toNat (⟨0,0,0,0⟩:GLost)):List GLost).map Qaw)),(Zca p1),(Zf8 p0 p1 p2)]) [(1,(Qo6 p1)),(6,.ref 1 1 0 0),(7,.ref 2 1 0 0),(27,(Qoj p0)),(28,(I ((p0.Elements.length:Int)))),(29,I 0)] [0,1,2,3,4,5,6] [(Q5m p0),Qri,(.own 1 [[I 0]]),(Zlg p0),(Zlf p0),(Zca p1),(Zf8 p0 p1 p2)] hφ1 (pc (rnd Qae) (pc (.rn (rqr rfl)) (pc (.rn (rqr rfl)) (pc (rnd Qab) (pc rwl (pc rwl pn)))))) (qc (spb (lc (rnd Qal) (lc (rnd Qab) ln))) (qc (spb (lc (.rn (rqr rfl)) ln)) (qc (spb (lc rwl ln)) (qc (spr Qaj) (qc (spr Qaq) (qc (spr Qae) (qc (spb (lc (rnd Qal) (lc (rnd Qab) (lc (.rn (Qa4 rfl)) (lc (.rn (Qa4 rfl)) (lc (.rn (Qa4 rfl)) (lc (rnd Qac) (lc rwl ln)))))))) qn)))))))) ?_
   refine Qbw (τ:=Int×(List (List GStream))×(List GLost)×(List Int)×Int) (fun n t=>Qdg N p0 p1 p2 k16 n t.1 t.2.1 t.2.2.1 t.2.2.2.1 t.2.2.2.2=some r) (fun ⟨y17,y18,y19,y20,y21⟩=>⟨mk 45 [(1,(Qo6 p1)),(6,.ref 1 1 0 0),(7,.ref 2 1 0 0),(27,(Qoj p0)),(28,(I ((p0.Elements.length:Int)))),(29,I y17)],[(Q5m p0),Qri,(.own 1 [[I 0]]),(Qqn y18),(Qqm y19),(Qql y20),(Qqo p0 p1 p2 y21)]⟩) (fun t h=>by rw [Qdg] at h; cases h) (fun n27 ih t h=>?_) N (0,List.replicate (p0.Elements.length:Int).toNat ([]),List.replicate (p0.Elements.length:Int).toNat (⟨0,0,0,0⟩:GLost),p1,0) h
   obtain ⟨y17,y18,y19,y20,y21⟩:=t
   rw [Qdg] at h
   skip
   refine wxz ?_
   refine wsq ?_
   refine bfe h (fun hc28 h=>?_) fun hc28 h=>?_
   ·refine wft hc28 ?_
    refine Qan ?_
    refine thn ?_
    refine wsq ?_
    refine Qam ?_
    obtain ⟨x29,hg30,h⟩:=bno h
    obtain ⟨hi31,hj32⟩:=gsm hg30
    refine wx tbk [(1,rp [(.tmp 27,(Qoj p0)),(.tmp 29,I y17)] (.dptr (Qad (x29)) 0))] ⟨aid rfl Tryz.underlying40 Qj1 rfl rfl hi31 (mgt Qad hj32) rfl,trivial⟩ ?_
    obtain ⟨x33,hg34,h⟩:=bno h
    obtain ⟨hi35,hj36⟩:=gsm hg34
    obtain ⟨x38,hf37,h⟩:=bno h
    obtain ⟨x40,hf39,h⟩:=bno h
    rcases x40 with x41 | x42
    ·replace h:=Zme h
     refine wy1 tbk [(5,rp [(.tmp 37,(Qo6 p1)),(.tmp 38,I y17)] (.dptr (Qak (x33)) 0)),(7,rp [fu 74,(.tmp 36,(Qoi x29)),(.tmp 40,I x33)] (I x38)),(8,⟨[fu 97,(.tmp 34,.ref 6 7 0 0),(.tmp 35,I y17),(.tmp 41,I x38)],[(6,(Qqo p0 p1 p2 y21)),(3,(Qqn y18)),(4,(Qqm y19)),(5,(Qql y20))],(.tup []),[(6,(Q01 p0 p1 p2 x41)),(3,(.own 1 ((x41.2.1:List (List GStream)).map Qaf))),(4,(.own 4 ((x41.2.2.1:List GLost).map Qaw))),(5,(.own 1 ((x41.2.2.2:List Int).map Qak)))],false⟩)] ⟨aid rfl Tryz.underlying27 ti3 rfl rfl hi35 (mgt Qak hj36) rfl,apc (first:=[]) (cap:=[]) (vs:=[(Qoi x29),I x33]) rfl Za4 (Qix N x29 x33 _ hf37) rfl rfl (nlc (NLt.agg _ (nlc nll (nlc (nld Qa3 _) (nlcc (nlcc (nlc (nld Qae _) nl0)))))) (nlc nll nl0)) nll rfl,Qau (first:=[]) (cap:=[]) (vs:=[.ref 6 7 0 0,I y17,I x38]) (σr:=[(Qqo p0 p1 p2 y21),(Qqn y18),(Qqm y19),(Qql y20)]) (σr':=[(Q01 p0 p1 p2 x41),(.own 1 ((x41.2.1:List (List GStream)).map Qaf)),(.own 4 ((x41.2.2.1:List GLost).map Qaw)),(.own 1 ((x41.2.2.2:List Int).map Qak))]) (res':=(.tup [])) [6,3,4,5] rfl Za3 (Qlq N y17 x38 p0.Table p0.Elements ((p0.Elements.length:Int).toNat) ((p0.Elements.length:Int).toNat) p1.length p2 y21 y18 y19 y20 _ hf39) rfl (Qbx (rnc (Qbo rfl) (rncc rn0))) (slc (Qar (rnc (pld Qal) (rnc (pld Qab) (rnc (Qc5 rfl) (rnc (Qc5 rfl) (rnc (Qc5 rfl) (rnc (pld Qac) (rnc (.plain _ nll) rn0)))))))) (slc (Qbd Qaj) (slc (Qbd Qaq) (slc (Qbd Qae) Qat)))) (slc (Qar (rnc (pld Qal) (rnc (pld Qab) (rnc (Qdb rfl) (rnc (Qdb rfl) (rnc (Qdb rfl) (rnc (pld Qac) (rnc (.plain _ nll) rn0)))))))) (slc (Qbd Qaj) (slc (Qbd Qaq) (slc (Qbd Qae) Qat)))) (.plain _ (NLt.tup _ nl0)) rfl rfl rfl,trivial⟩ ?_
     refine bln ?_
     refine thn ?_
     refine wxz1 ?_
     refine thn ?_
     exact arm (mto (n:=45) [(1,(Qo6 p1)),(6,.ref 1 1 0 0),(7,.ref 2 1 0 0),(27,(Qoj p0)),(28,(I ((p0.Elements.length:Int)))),(29,(I (w64 (y17+1))))] [0,1,2,3,4,5,6] [(Q5m p0),Qri,(.own 1 [[I 0]]),(.own 1 ((x41.2.1:List (List GStream)).map Qaf)),(.own 4 ((x41.2.2.1:List GLost).map Qaw)),(.own 1 ((x41.2.2.2:List Int).map Qak)),(Q01 p0 p1 p2 x41)] hφ1 (pc (rnd Qae) (pc (.rn (rqr rfl)) (pc (.rn (rqr rfl)) (pc (rnd Qab) (pc rwl (pc rwl pn)))))) (qc (spb (lc (rnd Qal) (lc (rnd Qab) ln))) (qc (spb (lc (.rn (rqr rfl)) ln)) (qc (spb (lc rwl ln)) (qc (spr Qaj) (qc (spr Qaq) (qc (spr Qae) (qc (spb (lc (rnd Qal) (lc (rnd Qab) (lc (.rn (Qa4 rfl)) (lc (.rn (Qa4 rfl)) (lc (.rn (Qa4 rfl)) (lc (rnd Qac) (lc rwl ln)))))))) qn)))))))) (ih (w64 (y17+1),x41.2.1,x41.2.2.1,x41.2.2.2,x41.1) h)
    ·replace h:=Zmd h
     refine Zbs 8 [rb [(.tmp 6,.ref 1 1 0 0)] [(1,Qri)] (.ref 6 7 0 0),mv 8 (I y17),rb [(.tmp 9,.ref 7 7 0 0)] [(7,(.own 7 [[(K .u8 (x29.Kind)),(.dat 2 ((x29.From:List GPort).map Qas)),I x29.Level,I x29.Amount,I x29.Wide,I x29.Narrow,(.dat 1 ((x29.Weights:List Int).map Qak))]]))] (Qoi x29),mv 1 (Qo6 p1),mv 8 (I y17),rp [(.tmp 37,(Qo6 p1)),(.tmp 38,I y17)] (.dptr (Qak (x33)) 0),rp [(.tmp 39,(.dptr (Qak (x33)) 0))] (I x33),rp [fu 74,(.tmp 36,(Qoi x29)),(.tmp 40,I x33)] (I x38),⟨[fu 97,(.tmp 34,.ref 6 7 0 0),(.tmp 35,I y17),(.tmp 41,I x38),(.tmp 36,(Qoi x29)),(.tmp 37,(Qo6 p1)),(.tmp 38,I y17),(.tmp 39,(.dptr (Qak (x33)) 0)),(.tmp 40,I x33)],[(6,(Qqo p0 p1 p2 y21)),(3,(Qqn y18)),(4,(Qqm y19)),(5,(Qql y20))],.any,[(6,.dead),(3,.dead),(4,.dead),(5,.dead)],false⟩] (by exact ⟨by kernel_rfl,by kernel_rfl⟩) rfl (by kernel_rfl) rfl (PStep.to (by rfl) (PStep.more (rd':=[(.tmp 36,(Qoi x29)),(.tmp 37,(Qo6 p1)),(.tmp 38,I y17),(.tmp 39,(.dptr (Qak (x33)) 0)),(.tmp 40,I x33)]) (Q16 (first:=[]) (cap:=[]) (vs:=[.ref 6 7 0 0,I y17,I x38]) (σr:=[(Qqo p0 p1 p2 y21),(Qqn y18),(Qqm y19),(Qql y20)]) [6,3,4,5] rfl Za3 (Qlp N y17 x38 p0.Table p0.Elements ((p0.Elements.length:Int).toNat) ((p0.Elements.length:Int).toNat) p1.length p2 y21 y18 y19 y20 _ hf39) rfl (Qbx (rnc (Qbo rfl) (rncc rn0))) (slc (Qar (rnc (pld Qal) (rnc (pld Qab) (rnc (Qc5 rfl) (rnc (Qc5 rfl) (rnc (Qc5 rfl) (rnc (pld Qac) (rnc (.plain _ nll) rn0)))))))) (slc (Qbd Qaj) (slc (Qbd Qaq) (slc (Qbd Qae) Qat)))) rfl rfl rfl))) (⟨fun _ _=>ald rfl Qu2 (by decide) rfl (nle rfl) rfl,fun _ _=>amv rfl,fun _ _=>ald rfl Qj1 (by decide) rfl (nle rfl) rfl,fun _ _=>amv rfl,fun _ _=>amv rfl,fun _ _=>aid rfl Tryz.underlying27 ti3 rfl rfl hi35 (mgt Qak hj36) rfl,fun _ _=>ald_ rfl ti3 (by decide) (nle rfl) rfl,fun _ _=>apc (first:=[]) (cap:=[]) (vs:=[(Qoi x29),I x33]) rfl Za4 (Qix N x29 x33 _ hf37) rfl rfl (nlc (NLt.agg _ (nlc nll (nlc (nld Qa3 _) (nlcc (nlcc (nlc (nld Qae _) nl0)))))) (nlc nll nl0)) nll rfl,fun _ h=>absurd rfl h,trivial⟩) ?_ (by kernel_rfl) (by kernel_rfl) (by kernel_rfl)
     obtain rfl:=osi h
     exact ⟨_,[[(.lit (.pointer none))],[I x42]],rfl,(Qpw x42),(Q4l (nlc nll nl0) (Q4l (nlc nll nl0) Zjn)),by kernel_rfl,_,(mto (n:=45) (l':=[(6,.ref 0 1 0 0),(7,.ref 1 1 0 0)]) (own':=[Zlh,(.own 1 [[I x42]])]) [(6,.ref 1 1 0 0),(7,.ref 2 1 0 0)] [1,2] [Zlh,(.own 1 [[I x42]])] hφ0 (pc (.rn (rqr rfl)) (pc (.rn (rqr rfl)) pn)) (qc (spb (lc rwl ln)) (qc (spb (lc rwl ln)) qn))),Qk9 (vs:=[(.lit (.pointer none)),I x42]) ⟨Qbv (n:=0) (m:=1) (j:=0) (i:=0) (xs:=[[(.lit (.pointer none))]]) (by kernel_rfl) (by kernel_rfl) Qu2 (by decide) rfl (nle rfl) rfl,Qbv (n:=1) (m:=1) (j:=0) (i:=0) (xs:=[[I x42]]) (by kernel_rfl) (by kernel_rfl) ti3 (by decide) rfl (nle rfl) rfl,trivial⟩ rfl (NLt.tup _ (nlc (NLt.of0 nll) (nlc (NLt.of0 nll) nl0))) (by kernel_rfl) (Qap (Qbj (nlc (NLt.of0 nll) nl0)) (Qap (Qbj (nlc (NLt.of0 nll) nl0)) Qbz))⟩
   ·refine wfn hc28 ?_
    refine Qbh ?_
    refine Qax ?_
    refine Qax ?_
    refine Qbg rfl ?_
    refine thn ?_
    exact ⟨(y18,y19,y20,y21),h,(mto (n:=45) [(6,.ref 1 1 0 0),(7,.ref 2 1 0 0)] [0,1,2,3,4,5,6] [(Q5m p0),Qri,(.own 1 [[I 0]]),(Qqn y18),(Qqm y19),(Qql y20),(Qqo p0 p1 p2 y21)] hφ1 (pc (.rn (rqr rfl)) (pc (.rn (rqr rfl)) pn)) (qc (spb (lc (rnd Qal) (lc (rnd Qab) ln))) (qc (spb (lc (.rn (rqr rfl)) ln)) (qc (spb (lc rwl ln)) (qc (spr Qaj) (qc (spr Qaq) (qc (spr Qae) (qc (spb (lc (rnd Qal) (lc (rnd Qab) (lc (.rn (Qa4 rfl)) (lc (.rn (Qa4 rfl)) (lc (.rn (Qa4 rfl)) (lc (rnd Qac) (lc rwl ln)))))))) qn))))))))⟩
theorem Qpy (N:Nat) (p0:GNet) (p1:(List Int)) (p2:(List GStream)) (r:Int) (h:Qga N p0 p1 p2=some (.inl r)):Spec Tryz.prog 58 [(Q76 p0),(Qo6 p1),(Qoa p2)] [] (.tup [(.lit (.pointer none)),I r]) [(.own 1 [[(.lit (.pointer none))]]),(.own 1 [[I r]])]:=Qlr N p0 p1 p2 _ h
theorem Qpx (N:Nat) (p0:GNet) (p1:(List Int)) (p2:(List GStream)) (r:(Int×Int×(List (List GStream))×(List GLost)×(List Int))) (h:Qga N p0 p1 p2=some (.inr r)):Spec Tryz.prog 58 [(Q76 p0),(Qo6 p1),(Qoa p2)] [] (.tup [.ref 2 7 0 0,I r.1]) [(.own 1 [[.ref 2 7 0 0]]),(.own 1 [[I r.1]]),(.own 7 [[(.dat 5 ((p0.Table:List GRow).map Qa0)),(.dat 7 ((p0.Elements:List GElement).map Qad)),(.own 3 1 (0) ((p0.Elements.length:Int).toNat)),(.own 4 4 (0) ((p0.Elements.length:Int).toNat)),(.own 5 1 (0) (p1.length)),(.dat 4 ((p2:List GStream).map Qaa)),I r.2.1]]),(.own 1 ((r.2.2.1:List (List GStream)).map Qaf)),(.own 4 ((r.2.2.2.1:List GLost).map Qaw)),(.own 1 ((r.2.2.2.2:List Int).map Qak))]:=Qlr N p0 p1 p2 _ h
def Qnr (N:Nat) (p0:GNet) (p1:(List Int)) (p2:(List GStream)):Option (GTick×Int×Int):=
  (Qkr N p0 p1 p2).bind fun x11=>
  bif (x11 != 0) then
   some ((⟨[],[],[]⟩:GTick),0,x11)
  else
   (Qga N p0 p1 p2).bind (
    Sum.elim (fun x15=>
      bif (decide (x15≥0)) then
       some ((⟨[],[],[]⟩:GTick),x15,11)
      else
       none)
    (fun x17=>
      bif (decide (x17.1≥0)) then
       some ((⟨[],[],[]⟩:GTick),x17.1,11)
      else
       chk (decide ((p0.Elements.length:Int).toNat≤x17.2.2.1.length))<|
       chk (decide ((p0.Elements.length:Int).toNat≤x17.2.2.2.1.length))<|
       chk (decide (p1.length≤x17.2.2.2.2.length))<|
       some ((⟨x17.2.2.1.take ((p0.Elements.length:Int).toNat),x17.2.2.2.1.take ((p0.Elements.length:Int).toNat),x17.2.2.2.2.take p1.length⟩:GTick),0,0)))
def Zhn (p0:GNet):AV:=.dat 5 ((p0.Table:List GRow).map Qa0)
def Zhm (p0:GNet):AV:=.dat 7 ((p0.Elements:List GElement).map Qad)
def Q5o (p0:GNet):AV:=.agg [(Zhn p0),(Zhm p0)]
def Q5n (p1:(List Int)):AV:=.dat 1 ((p1:List Int).map Qak)
def Q06 (p2:(List GStream)):AV:=.dat 4 ((p2:List GStream).map Qaa)
def Zhj:AV:=.agg [nilS,nilS,nilS]
def Q79:Slot:=.own 3 [[(.dat 1 ((((⟨[],[],[]⟩:GTick).Out):List (List GStream)).map Qaf)),(.dat 4 ((((⟨[],[],[]⟩:GTick).Lost):List GLost).map Qaw)),(.dat 1 ((((⟨[],[],[]⟩:GTick).State):List Int).map Qak))]]
def Zhk:Slot:=.own 3 [[nilS,nilS,nilS]]
def Q3c:AV:=.dat 1 (((⟨[],[],[]⟩:GTick).Out:List (List GStream)).map Qaf)
def Q3b:AV:=.dat 4 (((⟨[],[],[]⟩:GTick).Lost:List GLost).map Qaw)
def Q3a:AV:=.dat 1 (((⟨[],[],[]⟩:GTick).State:List Int).map Qak)
def Q78:AV:=.agg [Q3c,Q3b,Q3a]
def Zli:Slot:=.own 1 [[(.lit (.pointer none))]]
def Q77:Slot:=.own 1 [[(.ref 4 7 (0) 0)]]
def Qve (p0:GNet) (p1:(List Int)) (p2:(List GStream)) (x17:(Int×Int×(List (List GStream))×(List GLost)×(List Int))):Slot:=.own 7 [[(Zhn p0),(Zhm p0),(.own 5 1 (0) ((p0.Elements.length:Int).toNat)),(.own 6 4 (0) ((p0.Elements.length:Int).toNat)),(.own 7 1 (0) (p1.length)),(Q06 p2),(I (x17.2.1))]]
def Qo7 (x17:(Int×Int×(List (List GStream))×(List GLost)×(List Int))) (p0:GNet):AV:=.dat 1 ((x17.2.2.1.take ((p0.Elements.length:Int).toNat):List (List GStream)).map Qaf)
def Zhl (p0:GNet):Slot:=.own 2 [[(Zhn p0),(Zhm p0)]]
def Qvd (x17:(Int×Int×(List (List GStream))×(List GLost)×(List Int))) (p0:GNet):AV:=.dat 4 ((x17.2.2.2.1.take ((p0.Elements.length:Int).toNat):List GLost).map Qaw)
def Zgb (x17:(Int×Int×(List (List GStream))×(List GLost)×(List Int))) (p0:GNet) (p1:(List Int)):AV:=.dat 1 (((⟨x17.2.2.1.take ((p0.Elements.length:Int).toNat),x17.2.2.2.1.take ((p0.Elements.length:Int).toNat),x17.2.2.2.2.take p1.length⟩:GTick).Out:List (List GStream)).map Qaf)
def Zga (x17:(Int×Int×(List (List GStream))×(List GLost)×(List Int))) (p0:GNet) (p1:(List Int)):AV:=.dat 4 (((⟨x17.2.2.1.take ((p0.Elements.length:Int).toNat),x17.2.2.2.1.take ((p0.Elements.length:Int).toNat),x17.2.2.2.2.take p1.length⟩:GTick).Lost:List GLost).map Qaw)
def Zf9 (x17:(Int×Int×(List (List GStream))×(List GLost)×(List Int))) (p0:GNet) (p1:(List Int)):AV:=.dat 1 (((⟨x17.2.2.1.take ((p0.Elements.length:Int).toNat),x17.2.2.2.1.take ((p0.Elements.length:Int).toNat),x17.2.2.2.2.take p1.length⟩:GTick).State:List Int).map Qak)
theorem Qtq (N:Nat) (p0:GNet) (p1:(List Int)) (p2:(List GStream)) (r:(GTick×Int×Int)) (h:Qnr N p0 p1 p2=some r):Spec Tryz.prog 16 [(.agg (Qis p0)),(.dat 1 (p1.map Qak)),(.dat 4 (p2.map Qaa))] [] (.tup [(.agg [(.dat 1 ((r.1.Out:List (List GStream)).map Qaf)),(.dat 4 ((r.1.Lost:List GLost).map Qaw)),(.dat 1 ((r.1.State:List Int).map Qak))]),(I (r.2.1)),(I (r.2.2))]) []:=by
  refine Qai Tryz.func16 rfl 0 (nle rfl) (fun X φ0 w0 hφ0 hd0=>?_)
  unfold Qnr at h
  refine Qb2 ?_
  refine wxz ?_
  refine wsq ?_
  obtain ⟨x11,hf10,h⟩:=bno h
  refine wx tbk [(3,rp [fu 57,(.tmp 12,(Q5o p0)),(.tmp 13,(Q5n p1)),(.tmp 14,(Q06 p2))] (I x11))] ⟨apc (first:=[]) (cap:=[]) (vs:=[(Q5o p0),(Q5n p1),(Q06 p2)]) rfl Zkn (Qu4 N p0 p1 p2 _ hf10) rfl rfl (nlc (NLt.agg _ (nlc (nld Qal _) (nlc (nld Qab _) nl0))) (nlc (nld Qae _) (nlc (nld Qac _) nl0))) nll rfl,trivial⟩ ?_
  refine wxz ?_
  refine bfe h (fun hc12 h=>?_) fun hc12 h=>?_
  ·refine wft hc12 ?_
   refine wx tbk [(0,rp [] Zhj)] ⟨Qav (vs:=[]) rfl ts34 tz34 rfl (by rfl) rfl,trivial⟩ ?_
   refine wmr (mto (n:=35) (l':=[(6,.ref 0 3 0 0),(7,I 0),(8,I x11)]) (own':=[Q79]) [(6,.ref 1 3 0 0),(7,I 0),(8,I x11)] [1] [Zhk] hφ0 (pc (.rn (rqr rfl)) (pc rwl (pc rwl pn))) (qc (spb (lc (.nil _) (lc (.nil _) (lc (.nil _) ln)))) qn)) ?_
   refine Qag ?_
   refine Qah ?_
   obtain rfl:=osi h
   exact ⟨_,Mor.rfl,⟨⟨[Q78,I 0,I x11],⟨Qbv (n:=0) (m:=3) (j:=0) (i:=0) (xs:=[[Q3c,Q3b,Q3a]]) (by kernel_rfl) (by kernel_rfl) ti34 (by decide) rfl (nle rfl) rfl,rot,rot,trivial⟩,rfl⟩,(NLt.tup _ (nlc (NLt.agg _ (nlc (nld Qaj _) (nlc (nld Qaq _) (nlc (nld Qae _) nl0)))) (nlcc nl0))),Nat.le_refl _,fun n hn=>absurd hn (Nat.not_lt_zero n)⟩⟩
  ·refine wfn hc12 ?_
   refine Qan ?_
   refine thn ?_
   obtain ⟨x14,hf13,h⟩:=bno h
   rcases x14 with x15 | x17
   ·replace h:=Zme h
    refine wx tbk [(3,⟨[fu 58,(.tmp 21,(Q5o p0)),(.tmp 22,(Q5n p1)),(.tmp 23,(Q06 p2))],[(2,.unused),(3,.unused)],(.tup [(.lit (.pointer none)),I x15]),[(2,Zli),(3,.own 1 [[I x15]])],false⟩)] ⟨Qau (first:=[]) (cap:=[]) (vs:=[(Q5o p0),(Q5n p1),(Q06 p2)]) (σr:=[]) (σr':=[Zli,(.own 1 [[I x15]])]) (res':=(.tup [(.lit (.pointer none)),I x15])) [2,3] rfl Za7 (Qpy N p0 p1 p2 _ hf13) rfl (Qbx (rnc (.plain _ (NLt.agg _ (nlc (nld Qal _) (nlc (nld Qab _) nl0)))) (rnc (pld Qae) (rnc (pld Qac) rn0)))) Qat (slc (Qar (rnc (.plain _ nll) rn0)) (slc (Qar (rnc (.plain _ nll) rn0)) Qat)) (.plain _ (NLt.tup _ (nlcc nl0))) rfl rfl rfl,trivial⟩ ?_
    refine wsq ?_
    refine wxz ?_
    refine bfe h (fun hc16 h=>?_) fun hc16 h=>?_
    ·refine wft hc16 ?_
     refine wx tbk [(0,rp [] Zhj)] ⟨Qav (vs:=[]) rfl ts34 tz34 rfl (by rfl) rfl,trivial⟩ ?_
     refine wmr (mto (n:=35) (l':=[(6,.ref 0 3 0 0),(7,I x15),(8,I 11)]) (own':=[Q79]) [(6,.ref 1 3 0 0),(7,I x15),(8,I 11)] [1] [Zhk] hφ0 (pc (.rn (rqr rfl)) (pc rwl (pc rwl pn))) (qc (spb (lc (.nil _) (lc (.nil _) (lc (.nil _) ln)))) qn)) ?_
     refine Qag ?_
     refine Qah ?_
     obtain rfl:=osi h
     exact ⟨_,Mor.rfl,⟨⟨[Q78,I x15,I 11],⟨Qbv (n:=0) (m:=3) (j:=0) (i:=0) (xs:=[[Q3c,Q3b,Q3a]]) (by kernel_rfl) (by kernel_rfl) ti34 (by decide) rfl (nle rfl) rfl,rot,rot,trivial⟩,rfl⟩,(NLt.tup _ (nlc (NLt.agg _ (nlc (nld Qaj _) (nlc (nld Qaq _) (nlc (nld Qae _) nl0)))) (nlcc nl0))),Nat.le_refl _,fun n hn=>absurd hn (Nat.not_lt_zero n)⟩⟩
    ·refine wfn hc16 ?_
     refine Qan ?_
     refine thn ?_
     cases h
   ·replace h:=Zmd h
    refine wx tbk [(3,⟨[fu 58,(.tmp 21,(Q5o p0)),(.tmp 22,(Q5n p1)),(.tmp 23,(Q06 p2))],[(2,.unused),(3,.unused),(4,.unused),(5,.unused),(6,.unused),(7,.unused)],(.tup [.ref 4 7 0 0,I x17.1]),[(2,Q77),(3,.own 1 [[I x17.1]]),(4,(Qve p0 p1 p2 x17)),(5,(.own 1 ((x17.2.2.1:List (List GStream)).map Qaf))),(6,(.own 4 ((x17.2.2.2.1:List GLost).map Qaw))),(7,(.own 1 ((x17.2.2.2.2:List Int).map Qak)))],false⟩)] ⟨Qau (first:=[]) (cap:=[]) (vs:=[(Q5o p0),(Q5n p1),(Q06 p2)]) (σr:=[]) (σr':=[Q77,(.own 1 [[I x17.1]]),(Qve p0 p1 p2 x17),(.own 1 ((x17.2.2.1:List (List GStream)).map Qaf)),(.own 4 ((x17.2.2.2.1:List GLost).map Qaw)),(.own 1 ((x17.2.2.2.2:List Int).map Qak))]) (res':=(.tup [.ref 4 7 0 0,I x17.1])) [2,3,4,5,6,7] rfl Za7 (Qpx N p0 p1 p2 _ hf13) rfl (Qbx (rnc (.plain _ (NLt.agg _ (nlc (nld Qal _) (nlc (nld Qab _) nl0)))) (rnc (pld Qae) (rnc (pld Qac) rn0)))) Qat (slc (Qar (rnc (Qbt rfl) rn0)) (slc (Qar (rnc (.plain _ nll) rn0)) (slc (Qar (rnc (pld Qal) (rnc (pld Qab) (rnc (Qdb rfl) (rnc (Qdb rfl) (rnc (Qdb rfl) (rnc (pld Qac) (rnc (.plain _ nll) rn0)))))))) (slc (Qbd Qaj) (slc (Qbd Qaq) (slc (Qbd Qae) Qat)))))) (Zmh (rnc (Qbt rfl) (rnc (.plain _ nll) rn0))) rfl rfl rfl,trivial⟩ ?_
    refine wsq ?_
    refine wxz ?_
    refine bfe h (fun hc18 h=>?_) fun hc18 h=>?_
    ·refine wft hc18 ?_
     refine wx tbk [(0,rp [] Zhj)] ⟨Qav (vs:=[]) rfl ts34 tz34 rfl (by rfl) rfl,trivial⟩ ?_
     refine wmr (mto (n:=35) (l':=[(6,.ref 0 3 0 0),(7,I x17.1),(8,I 11)]) (own':=[Q79]) [(6,.ref 1 3 0 0),(7,I x17.1),(8,I 11)] [1] [Zhk] hφ0 (pc (.rn (rqr rfl)) (pc rwl (pc rwl pn))) (qc (spb (lc (.nil _) (lc (.nil _) (lc (.nil _) ln)))) qn)) ?_
     refine Qag ?_
     refine Qah ?_
     obtain rfl:=osi h
     exact ⟨_,Mor.rfl,⟨⟨[Q78,I x17.1,I 11],⟨Qbv (n:=0) (m:=3) (j:=0) (i:=0) (xs:=[[Q3c,Q3b,Q3a]]) (by kernel_rfl) (by kernel_rfl) ti34 (by decide) rfl (nle rfl) rfl,rot,rot,trivial⟩,rfl⟩,(NLt.tup _ (nlc (NLt.agg _ (nlc (nld Qaj _) (nlc (nld Qaq _) (nlc (nld Qae _) nl0)))) (nlcc nl0))),Nat.le_refl _,fun n hn=>absurd hn (Nat.not_lt_zero n)⟩⟩
    ·refine wfn hc18 ?_
     refine Qan ?_
     refine thn ?_
     refine wx tbk [(1,rb [(.tmp 31,.ref 4 7 0 0)] [(4,(Qve p0 p1 p2 x17))] (.ref 4 7 0 0))] ⟨Qbi rfl,trivial⟩ ?_
     obtain ⟨hz19,h⟩:=cko h
     refine wmr (Q2a (n:=35) (mp:=3) (m:=1) (xs:=(x17.2.2.1:List (List GStream)).map Qaf) (c:=[(.own 5 1 (0) ((p0.Elements.length:Int).toNat)),(.own 6 4 (0) ((p0.Elements.length:Int).toNat)),(.own 7 1 (0) (p1.length))]) (l':=[(6,.ref 1 3 0 0),(7,I 0),(8,I 0)]) (c':=[(Qo7 x17 p0),(.own 6 4 (0) ((p0.Elements.length:Int).toNat)),(.own 7 1 (0) (p1.length))]) (own':=[(Zhl p0),(.own 3 [[(Qo7 x17 p0),(.own 6 4 (0) ((p0.Elements.length:Int).toNat)),(.own 7 1 (0) (p1.length))]]),Q77,(.own 1 [[I x17.1]]),(Qve p0 p1 p2 x17),.dead,(.own 4 ((x17.2.2.2.1:List GLost).map Qaw)),(.own 1 ((x17.2.2.2.2:List Int).map Qak))]) 5 1 [(6,.ref 1 3 0 0),(7,I 0),(8,I 0)] (by kernel_rfl) (by kernel_rfl) (by kernel_rfl) (by kernel_rfl) ⟨(Qra hz19),(.same _),(.same _),trivial⟩ ⟨rfl,(.same _),rfl,(.same _),rfl,(.same _),trivial⟩ (by kernel_rfl)) ?_
     obtain ⟨hz20,h⟩:=cko h
     refine wmr (Q2a (n:=35) (mp:=3) (m:=4) (xs:=(x17.2.2.2.1:List GLost).map Qaw) (c:=[(Qo7 x17 p0),(.own 6 4 (0) ((p0.Elements.length:Int).toNat)),(.own 7 1 (0) (p1.length))]) (l':=[(6,.ref 1 3 0 0),(7,I 0),(8,I 0)]) (c':=[(Qo7 x17 p0),(Qvd x17 p0),(.own 7 1 (0) (p1.length))]) (own':=[(Zhl p0),(.own 3 [[(Qo7 x17 p0),(Qvd x17 p0),(.own 7 1 (0) (p1.length))]]),Q77,(.own 1 [[I x17.1]]),(Qve p0 p1 p2 x17),.dead,.dead,(.own 1 ((x17.2.2.2.2:List Int).map Qak))]) 6 1 [(6,.ref 1 3 0 0),(7,I 0),(8,I 0)] (by kernel_rfl) (by kernel_rfl) (by kernel_rfl) (by kernel_rfl) ⟨(.same _),(Qra hz20),(.same _),trivial⟩ ⟨rfl,(.same _),rfl,(.same _),rfl,(.same _),trivial⟩ (by kernel_rfl)) ?_
     obtain ⟨hz21,h⟩:=cko h
     refine wmr (Q2a (n:=35) (mp:=3) (m:=1) (xs:=(x17.2.2.2.2:List Int).map Qak) (c:=[(Qo7 x17 p0),(Qvd x17 p0),(.own 7 1 (0) (p1.length))]) (l':=[(6,.ref 1 3 0 0),(7,I 0),(8,I 0)]) (c':=[(Qo7 x17 p0),(Qvd x17 p0),(.dat 1 ((x17.2.2.2.2.take p1.length:List Int).map Qak))]) (own':=[(Zhl p0),(.own 3 [[(Qo7 x17 p0),(Qvd x17 p0),(.dat 1 ((x17.2.2.2.2.take p1.length:List Int).map Qak))]]),Q77,(.own 1 [[I x17.1]]),(Qve p0 p1 p2 x17),.dead,.dead,.dead]) 7 1 [(6,.ref 1 3 0 0),(7,I 0),(8,I 0)] (by kernel_rfl) (by kernel_rfl) (by kernel_rfl) (by kernel_rfl) ⟨(.same _),(.same _),(Qra hz21),trivial⟩ ⟨rfl,(.same _),rfl,(.same _),rfl,(.same _),trivial⟩ (by kernel_rfl)) ?_
     refine wmr (mto (n:=35) (l':=[(6,.ref 0 3 0 0),(7,I 0),(8,I 0)]) (own':=[(.own 3 [[(.dat 1 ((((⟨x17.2.2.1.take ((p0.Elements.length:Int).toNat),x17.2.2.2.1.take ((p0.Elements.length:Int).toNat),x17.2.2.2.2.take p1.length⟩:GTick).Out):List (List GStream)).map Qaf)),(.dat 4 ((((⟨x17.2.2.1.take ((p0.Elements.length:Int).toNat),x17.2.2.2.1.take ((p0.Elements.length:Int).toNat),x17.2.2.2.2.take p1.length⟩:GTick).Lost):List GLost).map Qaw)),(.dat 1 ((((⟨x17.2.2.1.take ((p0.Elements.length:Int).toNat),x17.2.2.2.1.take ((p0.Elements.length:Int).toNat),x17.2.2.2.2.take p1.length⟩:GTick).State):List Int).map Qak))]])]) [(6,.ref 1 3 0 0),(7,I 0),(8,I 0)] [1] [(.own 3 [[(Qo7 x17 p0),(Qvd x17 p0),(.dat 1 ((x17.2.2.2.2.take p1.length:List Int).map Qak))]])] hφ0 (pc (.rn (rqr rfl)) (pc rwl (pc rwl pn))) (qc (spb (lc (rnd Qaj) (lc (rnd Qaq) (lc (rnd Qae) ln)))) qn)) ?_
     refine Qag ?_
     obtain rfl:=osi h
     exact ⟨_,Mor.rfl,⟨⟨[(.agg [(Zgb x17 p0 p1),(Zga x17 p0 p1),(Zf9 x17 p0 p1)]),I 0,I 0],⟨Qbv (n:=0) (m:=3) (j:=0) (i:=0) (xs:=[[(Zgb x17 p0 p1),(Zga x17 p0 p1),(Zf9 x17 p0 p1)]]) (by kernel_rfl) (by kernel_rfl) ti34 (by decide) rfl (nle rfl) rfl,rot,rot,trivial⟩,rfl⟩,(NLt.tup _ (nlc (NLt.agg _ (nlc (nld Qaj _) (nlc (nld Qaq _) (nlc (nld Qae _) nl0)))) (nlcc nl0))),Nat.le_refl _,fun n hn=>absurd hn (Nat.not_lt_zero n)⟩⟩
def Qox (_N:Nat):Option (GNet×(List GStream)):=
  some ((⟨[(⟨100,101,419,2676,150⟩:GRow),(⟨150,476,632,2746,300⟩:GRow),(⟨200,1555,852,2793,600⟩:GRow)],[(⟨1,[],2,0,1000,1000000,[]⟩:GElement),(⟨3,[(⟨0,0⟩:GPort)],2,2000,1000,1000000,[]⟩:GElement),(⟨4,[(⟨1,0⟩:GPort)],0,100,1000,1000000,[]⟩:GElement)]⟩:GNet),[(⟨1000,852000,250000,50⟩:GStream)])
def Zhf:AV:=.agg [(I (100)),(I (101)),(I (419)),(I (2676)),(I (150))]
def Zhe:AV:=.agg [(I (150)),(I (476)),(I (632)),(I (2746)),(I (300))]
def Zhd:AV:=.agg [(I (200)),(I (1555)),(I (852)),(I (2793)),(I (600))]
def Q5l:AV:=.dat 5 (([(⟨100,101,419,2676,150⟩:GRow),(⟨150,476,632,2746,300⟩:GRow),(⟨200,1555,852,2793,600⟩:GRow)]:List GRow).map Qa0)
def Zle:AV:=.agg [(K .u8 (1)),nilS,(I (2)),(I (0)),(I (1000)),(I (1000000)),nilS]
def Zhc:AV:=.agg [(I (0)),(I (0))]
def Q71:AV:=.dat 2 (([(⟨0,0⟩:GPort)]:List GPort).map Qas)
def Zld:AV:=.agg [(K .u8 (3)),Q71,(I (2)),(I (2000)),(I (1000)),(I (1000000)),nilS]
def Zhb:AV:=.agg [(I (1)),(I (0))]
def Q70:AV:=.dat 2 (([(⟨1,0⟩:GPort)]:List GPort).map Qas)
def Zf7:AV:=.agg [(K .u8 (4)),Q70,(I (0)),(I (100)),(I (1000)),(I (1000000)),nilS]
def Qvb:AV:=.dat 7 (([(⟨1,[],2,0,1000,1000000,[]⟩:GElement),(⟨3,[(⟨0,0⟩:GPort)],2,2000,1000,1000000,[]⟩:GElement),(⟨4,[(⟨1,0⟩:GPort)],0,100,1000,1000000,[]⟩:GElement)]:List GElement).map Qad)
def Q73:AV:=.dat 1 (([]:List Int).map Qak)
def Zf6:AV:=.agg [(K .u8 (1)),(.dat 2 (([]:List GPort).map Qas)),(I (2)),(I (0)),(I (1000)),(I (1000000)),Q73]
def Zf5:AV:=.agg [(K .u8 (3)),Q71,(I (2)),(I (2000)),(I (1000)),(I (1000000)),Q73]
def Zf4:AV:=.agg [(K .u8 (4)),Q70,(I (0)),(I (100)),(I (1000)),(I (1000000)),Q73]
def Q72:AV:=.agg [(I (1000)),(I (852000)),(I (250000)),(I (50))]
def Zf3:AV:=.dat 4 (([(⟨1000,852000,250000,50⟩:GStream)]:List GStream).map Qaa)
theorem Qu5 (N:Nat) (r:(GNet×(List GStream))) (h:Qox N=some r):Spec Tryz.prog 55 [] [] (.tup [(.agg (Qis r.1)),(.dat 4 (r.2.map Qaa))]) []:=by
  refine Qai Tryz.func55 rfl 0 (nle rfl) (fun X φ0 w0 hφ0 hd0=>?_)
  unfold Qox at h
  refine wxz ?_
  refine wx tbk [(0,rp [ci 100,ci 101,ci 419,ci 2676,ci 150] Zhf),(1,rp [ci 150,ci 476,ci 632,ci 2746,ci 300] Zhe),(2,rp [ci 200,ci 1555,ci 852,ci 2793,ci 600] Zhd),(3,rp [(.tmp 4,Zhf),(.tmp 5,Zhe),(.tmp 6,Zhd)] Q5l)] ⟨Qav (vs:=[I 100,I 101,I 419,I 2676,I 150]) rfl Zdc Q1r rfl (by rfl) rfl,Qav (vs:=[I 150,I 476,I 632,I 2746,I 300]) rfl Zdc Q1r rfl (by rfl) rfl,Qav (vs:=[I 200,I 1555,I 852,I 2793,I 600]) rfl Zdc Q1r rfl (by rfl) rfl,Qbn (vs:=[Zhf,Zhe,Zhd]) rfl Tryz.underlying39 Qu1 Q1r rfl (by decide) rfl (by decide) (by rfl) (by rfl) (by rfl) rfl,trivial⟩ ?_
  refine wx tbk [(0,rp [(.const (.int .u8 1),(K .u8 (1))),ci 2,ci 1000,ci 1000000] Zle),(1,rp [] Zhc),(2,rp [(.tmp 9,Zhc)] Q71),(3,rp [(.const (.int .u8 3),(K .u8 (3))),(.tmp 10,Q71),ci 2,ci 2000,ci 1000,ci 1000000] Zld),(4,rp [ci 1] Zhb),(5,rp [(.tmp 12,Zhb)] Q70),(6,rp [(.const (.int .u8 4),(K .u8 (4))),(.tmp 13,Q70),ci 100,ci 1000,ci 1000000] Zf7),(7,rp [(.tmp 8,Zle),(.tmp 11,Zld),(.tmp 14,Zf7)] Qvb)] ⟨Qav (vs:=[(K .u8 (1)),I 2,I 1000,I 1000000]) rfl Zdd Q1s rfl (by rfl) rfl,Qav (vs:=[]) rfl Qr3 Qm1 rfl (by rfl) rfl,Qbn (vs:=[Zhc]) rfl Tryz.underlying116 Qlm Qm1 rfl (by decide) rfl (by decide) (by rfl) (by rfl) (by rfl) rfl,Qav (vs:=[(K .u8 (3)),Q71,I 2,I 2000,I 1000,I 1000000]) rfl Zdd Q1s rfl (by rfl) rfl,Qav (vs:=[I 1]) rfl Qr3 Qm1 rfl (by rfl) rfl,Qbn (vs:=[Zhb]) rfl Tryz.underlying116 Qlm Qm1 rfl (by decide) rfl (by decide) (by rfl) (by rfl) (by rfl) rfl,Qav (vs:=[(K .u8 (4)),Q70,I 100,I 1000,I 1000000]) rfl Zdd Q1s rfl (by rfl) rfl,awk (rd':=[(.tmp 8,Zf6),(.tmp 11,Zf5),(.tmp 14,Zf4)]) ⟨rfl,(Less.agg ⟨lrf,Less.nil,lrf,lrf,lrf,lrf,Less.nil,trivial⟩),rfl,(Less.agg ⟨lrf,lrf,lrf,lrf,lrf,lrf,Less.nil,trivial⟩),rfl,(Less.agg ⟨lrf,lrf,lrf,lrf,lrf,lrf,Less.nil,trivial⟩),trivial⟩ (Qbn (vs:=[Zf6,Zf5,Zf4]) rfl Tryz.underlying40 Qj1 Q1s rfl (by decide) rfl (by decide) (by rfl) (by rfl) (by rfl) rfl),trivial⟩ ?_
  refine wx tbk [(2,rp [(.tmp 16,Q5l),(.tmp 17,Qvb)] (.agg [Q5l,Qvb])),(3,rp [ci 1000,ci 852000,ci 250000,ci 50] Q72),(4,rp [(.tmp 19,Q72)] Zf3)] ⟨Qav (vs:=[Q5l,Qvb]) rfl ts42 tz42 rfl (by rfl) rfl,Qav (vs:=[I 1000,I 852000,I 250000,I 50]) rfl ts63 tz63 rfl (by rfl) rfl,Qbn (vs:=[Q72]) rfl Tryz.underlying45 ti63 tz63 rfl (by decide) rfl (by decide) (by rfl) (by rfl) (by rfl) rfl,trivial⟩ ?_
  refine Qag ?_
  obtain rfl:=osi h
  exact fend ⟨[(.agg [Q5l,Qvb]),Zf3],⟨Qbv (n:=0) (m:=2) (j:=0) (i:=0) (xs:=[[Q5l,Qvb]]) (by kernel_rfl) (by kernel_rfl) ti42 (by decide) rfl (nle rfl) rfl,rot,trivial⟩,rfl⟩ (NLt.tup _ (nlc (NLt.agg _ (nlc (nld Qal _) (nlc (nld Qab _) nl0))) (nlc (nld Qac _) nl0)))
def Qgv (N:Nat):Option Bool:=
  (Qox 2000 ).bind fun x2=>
  (Qq1 N (⟨x2.1.Table,x2.1.Elements⟩:GNet)).bind fun x4=>
  (Qnr N (⟨x2.1.Table,x2.1.Elements⟩:GNet) ([0,0,0]) x2.2).bind fun x6=>
  bif (x4.2==0) then
   bif (x6.2.2==0) then
    bif ((x4.1.length:Int)==2) then
     (getI x4.1 1).bind fun x10=>
     bif (([x10.Element,x10.Outlet]:List Int)==[2,1]) then
      bif ((x6.1.Out.length:Int)==3) then
       (getI x6.1.Out 2).bind fun x16=>
       bif ((x16.length:Int)==2) then
        bif ((x6.1.Lost.length:Int)==3) then
         (getI x16 0).bind fun x22=>
         bif (([x22.Mass,x22.Heat,x22.Silica,x22.Gas]:List Int)==[271,542596,12150,50]) then
          (getI x16 1).bind fun x27=>
          bif (([x27.Mass,x27.Heat,x27.Silica,x27.Gas]:List Int)==[729,307404,109350,0]) then
           (getI x6.1.Lost 1).bind fun x32=>
           bif (x32.Heat==2000) then
            (getI x6.1.Lost 2).bind fun x37=>
            some (x37.Scale==128500)
           else
            some false
          else
           some false
         else
          some false
        else
         some false
       else
        some false
      else
       some false
     else
      some false
    else
     some false
   else
    some false
  else
   some false
def Q74 (x2:(GNet×(List GStream))):AV:=.agg [(.dat 5 ((x2.1.Table:List GRow).map Qa0)),(.dat 7 ((x2.1.Elements:List GElement).map Qad))]
def Zhh (x2:(GNet×(List GStream))):AV:=.dat 4 ((x2.2:List GStream).map Qaa)
def Qmp (x4:((List GPort)×Int)):AV:=.dat 2 ((x4.1:List GPort).map Qas)
def Zhg:AV:=.dat 1 (([0,0,0]:List Int).map Qak)
def Qla (x6:(GTick×Int×Int)):AV:=.dat 1 ((x6.1.Out:List (List GStream)).map Qaf)
def Qwl (x6:(GTick×Int×Int)):AV:=.dat 4 ((x6.1.Lost:List GLost).map Qaw)
def Qj6:AV:=.agg [(I (2)),(I (1))]
def Qrh (x10:GPort):AV:=.agg [(I (x10.Element)),(I (x10.Outlet))]
def Qlh (x16:(List GStream)):AV:=.dat 4 ((x16:List GStream).map Qaa)
def Qrg:AV:=.agg [(I (271)),(I (542596)),(I (12150)),(I (50))]
def Q29 (x22:GStream):AV:=.agg [(I (x22.Mass)),(I (x22.Heat)),(I (x22.Silica)),(I (x22.Gas))]
def Qvc:AV:=.agg [(I (729)),(I (307404)),(I (109350)),(I (0))]
def Q75 (x27:GStream):AV:=.agg [(I (x27.Mass)),(I (x27.Heat)),(I (x27.Silica)),(I (x27.Gas))]
theorem Qhb (N:Nat) (r:Bool) (h:Qgv N=some r):Spec Tryz.prog 15 [] [] (B r) []:=by
  refine Qai Tryz.func15 rfl 0 (nle rfl) (fun X φ0 w0 hφ0 hd0=>?_)
  unfold Qgv at h
  refine wxz ?_
  obtain ⟨x2,hf1,h⟩:=bno h
  refine wx tbk [(0,rp [fu 55] (.tup [(Q74 x2),(Zhh x2)]))] ⟨apc (first:=[]) (cap:=[]) (vs:=[]) rfl Zko (Qu5 2000  _ hf1) rfl rfl nl0 (NLt.tup _ (nlc (NLt.agg _ (nlc (nld Qal _) (nlc (nld Qab _) nl0))) (nlc (nld Qac _) nl0))) rfl,trivial⟩ ?_
  obtain ⟨x4,hf3,h⟩:=bno h
  refine wx tbk [(1,rp [fu 47,(.tmp 13,(Q74 x2))] (.tup [(Qmp x4),I x4.2]))] ⟨apc (first:=[]) (cap:=[]) (vs:=[(Q74 x2)]) rfl Zkq (Qxb N (⟨x2.1.Table,x2.1.Elements⟩:GNet) _ hf3) rfl rfl (nlc (NLt.agg _ (nlc (nld Qal _) (nlc (nld Qab _) nl0))) nl0) (NLt.tup _ (nlc (nld Qa3 _) (nlc nll nl0))) rfl,trivial⟩ ?_
  obtain ⟨x6,hf5,h⟩:=bno h
  refine wx tbk [(1,rp [ci 0,ci 0,ci 0] Zhg),(3,rp [fu 16,(.tmp 18,(Q74 x2)),(.tmp 19,Zhg),(.tmp 20,(Zhh x2))] (.tup [(.agg [(Qla x6),(Qwl x6),(.dat 1 ((x6.1.State:List Int).map Qak))]),I x6.2.1,I x6.2.2]))] ⟨Qbn (vs:=[I 0,I 0,I 0]) rfl Tryz.underlying27 ti3 tz3 rfl (by decide) rfl (by decide) (by rfl) (by rfl) (by rfl) rfl,apc (first:=[]) (cap:=[]) (vs:=[(Q74 x2),Zhg,(Zhh x2)]) rfl Zbb (Qtq N (⟨x2.1.Table,x2.1.Elements⟩:GNet) ([0,0,0]) x2.2 _ hf5) rfl rfl (nlc (NLt.agg _ (nlc (nld Qal _) (nlc (nld Qab _) nl0))) (nlc (nld Qae _) (nlc (nld Qac _) nl0))) (NLt.tup _ (nlc (NLt.agg _ (nlc (nld Qaj _) (nlc (nld Qaq _) (nlc (nld Qae _) nl0)))) (nlcc nl0))) rfl,trivial⟩ ?_
  refine bfe h (fun hb7 h=>?_) fun hb7 h=>?_
  ·refine bfe h (fun hb8 h=>?_) fun hb8 h=>?_
   ·refine bfe h (fun hb9 h=>?_) fun hb9 h=>?_
    ·obtain ⟨x10,hg11,h⟩:=bno h
     obtain ⟨hi12,hj13⟩:=gsm hg11
     refine bfe h (fun hb14 h=>?_) fun hb14 h=>?_
     ·refine bfe h (fun hb15 h=>?_) fun hb15 h=>?_
      ·obtain ⟨x16,hg17,h⟩:=bno h
       obtain ⟨hi18,hj19⟩:=gsm hg17
       refine bfe h (fun hb20 h=>?_) fun hb20 h=>?_
       ·refine bfe h (fun hb21 h=>?_) fun hb21 h=>?_
        ·obtain ⟨x22,hg23,h⟩:=bno h
         obtain ⟨hi24,hj25⟩:=gsm hg23
         refine bfe h (fun hb26 h=>?_) fun hb26 h=>?_
         ·obtain ⟨x27,hg28,h⟩:=bno h
          obtain ⟨hi29,hj30⟩:=gsm hg28
          refine bfe h (fun hb31 h=>?_) fun hb31 h=>?_
          ·obtain ⟨x32,hg33,h⟩:=bno h
           obtain ⟨hi34,hj35⟩:=gsm hg33
           refine bfe h (fun hb36 h=>?_) fun hb36 h=>?_
           ·obtain ⟨x37,hg38,h⟩:=bno h
            obtain ⟨hi39,hj40⟩:=gsm hg38
            refine wx tbk [(2,rp [(.tmp 26,(B ((x4.2==0))))] (B true)),(6,rp [(.tmp 30,(B ((x6.2.2==0))))] (B true)),(8,rp [(.tmp 31,B true),(.tmp 32,(Qmp x4))] (I ((x4.1.length:Int)))),(11,rp [(.tmp 35,(B (((x4.1.length:Int)==2))))] (B true)),(13,rp [(.tmp 36,B true),(.tmp 37,(Qmp x4)),ci 1] (.dptr (Qas (x10)) 0)),(15,rp [(.tmp 36,B true),ci 2,ci 1] Qj6),(16,rp [(.tmp 36,B true),(.tmp 39,(Qrh x10)),(.tmp 40,Qj6)] (B ((([x10.Element,x10.Outlet]:List Int)==[2,1])))),(18,rp [(.tmp 42,(B ((([x10.Element,x10.Outlet]:List Int)==[2,1]))))] (B true)),(21,rp [(.tmp 43,B true),(.tmp 45,(Qla x6))] (I ((x6.1.Out.length:Int)))),(24,rp [(.tmp 48,(B (((x6.1.Out.length:Int)==3))))] (B true)),(27,rp [(.tmp 49,B true),(.tmp 51,(Qla x6)),ci 2] (.dptr (Qaf (x16)) 0)),(29,rp [(.tmp 49,B true),(.tmp 53,(Qlh x16))] (I ((x16.length:Int)))),(32,rp [(.tmp 56,(B (((x16.length:Int)==2))))] (B true)),(35,rp [(.tmp 57,B true),(.tmp 59,(Qwl x6))] (I ((x6.1.Lost.length:Int)))),(38,rp [(.tmp 62,(B (((x6.1.Lost.length:Int)==3))))] (B true)),(41,rp [(.tmp 63,B true),(.tmp 65,(Qla x6)),ci 2] (.dptr (Qaf (x16)) 0)),(43,rp [(.tmp 63,B true),(.tmp 67,(Qlh x16)),ci 0] (.dptr (Qaa (x22)) 0)),(45,rp [(.tmp 63,B true),ci 271,ci 542596,ci 12150,ci 50] Qrg),(46,rp [(.tmp 63,B true),(.tmp 69,(Q29 x22)),(.tmp 70,Qrg)] (B ((([x22.Mass,x22.Heat,x22.Silica,x22.Gas]:List Int)==[271,542596,12150,50])))),(48,rp [(.tmp 72,(B ((([x22.Mass,x22.Heat,x22.Silica,x22.Gas]:List Int)==[271,542596,12150,50]))))] (B true)),(51,rp [(.tmp 73,B true),(.tmp 75,(Qla x6)),ci 2] (.dptr (Qaf (x16)) 0)),(53,rp [(.tmp 73,B true),(.tmp 77,(Qlh x16)),ci 1] (.dptr (Qaa (x27)) 0)),(55,rp [(.tmp 73,B true),ci 729,ci 307404,ci 109350] Qvc),(56,rp [(.tmp 73,B true),(.tmp 79,(Q75 x27)),(.tmp 80,Qvc)] (B ((([x27.Mass,x27.Heat,x27.Silica,x27.Gas]:List Int)==[729,307404,109350,0])))),(58,rp [(.tmp 82,(B ((([x27.Mass,x27.Heat,x27.Silica,x27.Gas]:List Int)==[729,307404,109350,0]))))] (B true)),(61,rp [(.tmp 83,B true),(.tmp 85,(Qwl x6)),ci 1] (.dptr (Qaw (x32)) 0)),(66,rp [(.tmp 90,(B ((x32.Heat==2000))))] (B true)),(69,rp [(.tmp 91,B true),(.tmp 93,(Qwl x6)),ci 2] (.dptr (Qaw (x37)) 0))] ⟨asb hb7 (amv rfl),asb hb8 (amv rfl),ag_ (alm (c:=Qas) (l:=x4.1) (aln rfl Tryz.underlying116 rfl)),asb hb9 (amv rfl),ag_ (aid rfl Tryz.underlying116 Qlm rfl rfl hi12 (mgt Qas hj13) rfl),ag_ (Qav (vs:=[I 2,I 1]) rfl Qr3 Qm1 rfl (by rfl) rfl),ag_ (Qfc (ls:=[x10.Element,x10.Outlet]) (ks:=[2,1]) rfl rfl Qkz (by kernel_rfl) rfl rfl),asb hb14 (amv rfl),ag_ (alm (c:=Qaf) (l:=x6.1.Out) (aln rfl Tryz.underlying31 rfl)),asb hb15 (amv rfl),ag_ (aid rfl Tryz.underlying31 ti45 rfl rfl hi18 (mgt Qaf hj19) rfl),ag_ (alm (c:=Qaa) (l:=x16) (aln rfl Tryz.underlying45 rfl)),asb hb20 (amv rfl),ag_ (alm (c:=Qaw) (l:=x6.1.Lost) (aln rfl Tryz.underlying32 rfl)),asb hb21 (amv rfl),ag_ (aid rfl Tryz.underlying31 ti45 rfl rfl hi18 (mgt Qaf hj19) rfl),ag_ (aid rfl Tryz.underlying45 ti63 rfl rfl hi24 (mgt Qaa hj25) rfl),ag_ (Qav (vs:=[I 271,I 542596,I 12150,I 50]) rfl ts63 tz63 rfl (by rfl) rfl),ag_ (Qfc (ls:=[x22.Mass,x22.Heat,x22.Silica,x22.Gas]) (ks:=[271,542596,12150,50]) rfl rfl Q2h (by kernel_rfl) rfl rfl),asb hb26 (amv rfl),ag_ (aid rfl Tryz.underlying31 ti45 rfl rfl hi18 (mgt Qaf hj19) rfl),ag_ (aid rfl Tryz.underlying45 ti63 rfl rfl hi29 (mgt Qaa hj30) rfl),ag_ (Qav (vs:=[I 729,I 307404,I 109350]) rfl ts63 tz63 rfl (by rfl) rfl),ag_ (Qfc (ls:=[x27.Mass,x27.Heat,x27.Silica,x27.Gas]) (ks:=[729,307404,109350,0]) rfl rfl Q2h (by kernel_rfl) rfl rfl),asb hb31 (amv rfl),ag_ (aid rfl Tryz.underlying32 ti82 rfl rfl hi34 (mgt Qaw hj35) rfl),asb hb36 (amv rfl),ag_ (aid rfl Tryz.underlying32 ti82 rfl rfl hi39 (mgt Qaw hj40) rfl),trivial⟩ ?_
            refine Qag ?_
            obtain rfl:=osi h
            exact fend ⟨[(B ((x37.Scale==128500)))],⟨rot,trivial⟩,rfl⟩ nll
           ·refine wx tbk [(2,rp [(.tmp 26,(B ((x4.2==0))))] (B true)),(6,rp [(.tmp 30,(B ((x6.2.2==0))))] (B true)),(8,rp [(.tmp 31,B true),(.tmp 32,(Qmp x4))] (I ((x4.1.length:Int)))),(11,rp [(.tmp 35,(B (((x4.1.length:Int)==2))))] (B true)),(13,rp [(.tmp 36,B true),(.tmp 37,(Qmp x4)),ci 1] (.dptr (Qas (x10)) 0)),(15,rp [(.tmp 36,B true),ci 2,ci 1] Qj6),(16,rp [(.tmp 36,B true),(.tmp 39,(Qrh x10)),(.tmp 40,Qj6)] (B ((([x10.Element,x10.Outlet]:List Int)==[2,1])))),(18,rp [(.tmp 42,(B ((([x10.Element,x10.Outlet]:List Int)==[2,1]))))] (B true)),(21,rp [(.tmp 43,B true),(.tmp 45,(Qla x6))] (I ((x6.1.Out.length:Int)))),(24,rp [(.tmp 48,(B (((x6.1.Out.length:Int)==3))))] (B true)),(27,rp [(.tmp 49,B true),(.tmp 51,(Qla x6)),ci 2] (.dptr (Qaf (x16)) 0)),(29,rp [(.tmp 49,B true),(.tmp 53,(Qlh x16))] (I ((x16.length:Int)))),(32,rp [(.tmp 56,(B (((x16.length:Int)==2))))] (B true)),(35,rp [(.tmp 57,B true),(.tmp 59,(Qwl x6))] (I ((x6.1.Lost.length:Int)))),(38,rp [(.tmp 62,(B (((x6.1.Lost.length:Int)==3))))] (B true)),(41,rp [(.tmp 63,B true),(.tmp 65,(Qla x6)),ci 2] (.dptr (Qaf (x16)) 0)),(43,rp [(.tmp 63,B true),(.tmp 67,(Qlh x16)),ci 0] (.dptr (Qaa (x22)) 0)),(45,rp [(.tmp 63,B true),ci 271,ci 542596,ci 12150,ci 50] Qrg),(46,rp [(.tmp 63,B true),(.tmp 69,(Q29 x22)),(.tmp 70,Qrg)] (B ((([x22.Mass,x22.Heat,x22.Silica,x22.Gas]:List Int)==[271,542596,12150,50])))),(48,rp [(.tmp 72,(B ((([x22.Mass,x22.Heat,x22.Silica,x22.Gas]:List Int)==[271,542596,12150,50]))))] (B true)),(51,rp [(.tmp 73,B true),(.tmp 75,(Qla x6)),ci 2] (.dptr (Qaf (x16)) 0)),(53,rp [(.tmp 73,B true),(.tmp 77,(Qlh x16)),ci 1] (.dptr (Qaa (x27)) 0)),(55,rp [(.tmp 73,B true),ci 729,ci 307404,ci 109350] Qvc),(56,rp [(.tmp 73,B true),(.tmp 79,(Q75 x27)),(.tmp 80,Qvc)] (B ((([x27.Mass,x27.Heat,x27.Silica,x27.Gas]:List Int)==[729,307404,109350,0])))),(58,rp [(.tmp 82,(B ((([x27.Mass,x27.Heat,x27.Silica,x27.Gas]:List Int)==[729,307404,109350,0]))))] (B true)),(61,rp [(.tmp 83,B true),(.tmp 85,(Qwl x6)),ci 1] (.dptr (Qaw (x32)) 0)),(66,rp [(.tmp 90,(B ((x32.Heat==2000))))] (B false))] ⟨asb hb7 (amv rfl),asb hb8 (amv rfl),ag_ (alm (c:=Qas) (l:=x4.1) (aln rfl Tryz.underlying116 rfl)),asb hb9 (amv rfl),ag_ (aid rfl Tryz.underlying116 Qlm rfl rfl hi12 (mgt Qas hj13) rfl),ag_ (Qav (vs:=[I 2,I 1]) rfl Qr3 Qm1 rfl (by rfl) rfl),ag_ (Qfc (ls:=[x10.Element,x10.Outlet]) (ks:=[2,1]) rfl rfl Qkz (by kernel_rfl) rfl rfl),asb hb14 (amv rfl),ag_ (alm (c:=Qaf) (l:=x6.1.Out) (aln rfl Tryz.underlying31 rfl)),asb hb15 (amv rfl),ag_ (aid rfl Tryz.underlying31 ti45 rfl rfl hi18 (mgt Qaf hj19) rfl),ag_ (alm (c:=Qaa) (l:=x16) (aln rfl Tryz.underlying45 rfl)),asb hb20 (amv rfl),ag_ (alm (c:=Qaw) (l:=x6.1.Lost) (aln rfl Tryz.underlying32 rfl)),asb hb21 (amv rfl),ag_ (aid rfl Tryz.underlying31 ti45 rfl rfl hi18 (mgt Qaf hj19) rfl),ag_ (aid rfl Tryz.underlying45 ti63 rfl rfl hi24 (mgt Qaa hj25) rfl),ag_ (Qav (vs:=[I 271,I 542596,I 12150,I 50]) rfl ts63 tz63 rfl (by rfl) rfl),ag_ (Qfc (ls:=[x22.Mass,x22.Heat,x22.Silica,x22.Gas]) (ks:=[271,542596,12150,50]) rfl rfl Q2h (by kernel_rfl) rfl rfl),asb hb26 (amv rfl),ag_ (aid rfl Tryz.underlying31 ti45 rfl rfl hi18 (mgt Qaf hj19) rfl),ag_ (aid rfl Tryz.underlying45 ti63 rfl rfl hi29 (mgt Qaa hj30) rfl),ag_ (Qav (vs:=[I 729,I 307404,I 109350]) rfl ts63 tz63 rfl (by rfl) rfl),ag_ (Qfc (ls:=[x27.Mass,x27.Heat,x27.Silica,x27.Gas]) (ks:=[729,307404,109350,0]) rfl rfl Q2h (by kernel_rfl) rfl rfl),asb hb31 (amv rfl),ag_ (aid rfl Tryz.underlying32 ti82 rfl rfl hi34 (mgt Qaw hj35) rfl),asb hb36 (amv rfl),trivial⟩ ?_
            refine Qag ?_
            obtain rfl:=osi h
            exact fend ⟨[B false],⟨rot,trivial⟩,rfl⟩ nll
          ·refine wx tbk [(2,rp [(.tmp 26,(B ((x4.2==0))))] (B true)),(6,rp [(.tmp 30,(B ((x6.2.2==0))))] (B true)),(8,rp [(.tmp 31,B true),(.tmp 32,(Qmp x4))] (I ((x4.1.length:Int)))),(11,rp [(.tmp 35,(B (((x4.1.length:Int)==2))))] (B true)),(13,rp [(.tmp 36,B true),(.tmp 37,(Qmp x4)),ci 1] (.dptr (Qas (x10)) 0)),(15,rp [(.tmp 36,B true),ci 2,ci 1] Qj6),(16,rp [(.tmp 36,B true),(.tmp 39,(Qrh x10)),(.tmp 40,Qj6)] (B ((([x10.Element,x10.Outlet]:List Int)==[2,1])))),(18,rp [(.tmp 42,(B ((([x10.Element,x10.Outlet]:List Int)==[2,1]))))] (B true)),(21,rp [(.tmp 43,B true),(.tmp 45,(Qla x6))] (I ((x6.1.Out.length:Int)))),(24,rp [(.tmp 48,(B (((x6.1.Out.length:Int)==3))))] (B true)),(27,rp [(.tmp 49,B true),(.tmp 51,(Qla x6)),ci 2] (.dptr (Qaf (x16)) 0)),(29,rp [(.tmp 49,B true),(.tmp 53,(Qlh x16))] (I ((x16.length:Int)))),(32,rp [(.tmp 56,(B (((x16.length:Int)==2))))] (B true)),(35,rp [(.tmp 57,B true),(.tmp 59,(Qwl x6))] (I ((x6.1.Lost.length:Int)))),(38,rp [(.tmp 62,(B (((x6.1.Lost.length:Int)==3))))] (B true)),(41,rp [(.tmp 63,B true),(.tmp 65,(Qla x6)),ci 2] (.dptr (Qaf (x16)) 0)),(43,rp [(.tmp 63,B true),(.tmp 67,(Qlh x16)),ci 0] (.dptr (Qaa (x22)) 0)),(45,rp [(.tmp 63,B true),ci 271,ci 542596,ci 12150,ci 50] Qrg),(46,rp [(.tmp 63,B true),(.tmp 69,(Q29 x22)),(.tmp 70,Qrg)] (B ((([x22.Mass,x22.Heat,x22.Silica,x22.Gas]:List Int)==[271,542596,12150,50])))),(48,rp [(.tmp 72,(B ((([x22.Mass,x22.Heat,x22.Silica,x22.Gas]:List Int)==[271,542596,12150,50]))))] (B true)),(51,rp [(.tmp 73,B true),(.tmp 75,(Qla x6)),ci 2] (.dptr (Qaf (x16)) 0)),(53,rp [(.tmp 73,B true),(.tmp 77,(Qlh x16)),ci 1] (.dptr (Qaa (x27)) 0)),(55,rp [(.tmp 73,B true),ci 729,ci 307404,ci 109350] Qvc),(56,rp [(.tmp 73,B true),(.tmp 79,(Q75 x27)),(.tmp 80,Qvc)] (B ((([x27.Mass,x27.Heat,x27.Silica,x27.Gas]:List Int)==[729,307404,109350,0])))),(58,rp [(.tmp 82,(B ((([x27.Mass,x27.Heat,x27.Silica,x27.Gas]:List Int)==[729,307404,109350,0]))))] (B false))] ⟨asb hb7 (amv rfl),asb hb8 (amv rfl),ag_ (alm (c:=Qas) (l:=x4.1) (aln rfl Tryz.underlying116 rfl)),asb hb9 (amv rfl),ag_ (aid rfl Tryz.underlying116 Qlm rfl rfl hi12 (mgt Qas hj13) rfl),ag_ (Qav (vs:=[I 2,I 1]) rfl Qr3 Qm1 rfl (by rfl) rfl),ag_ (Qfc (ls:=[x10.Element,x10.Outlet]) (ks:=[2,1]) rfl rfl Qkz (by kernel_rfl) rfl rfl),asb hb14 (amv rfl),ag_ (alm (c:=Qaf) (l:=x6.1.Out) (aln rfl Tryz.underlying31 rfl)),asb hb15 (amv rfl),ag_ (aid rfl Tryz.underlying31 ti45 rfl rfl hi18 (mgt Qaf hj19) rfl),ag_ (alm (c:=Qaa) (l:=x16) (aln rfl Tryz.underlying45 rfl)),asb hb20 (amv rfl),ag_ (alm (c:=Qaw) (l:=x6.1.Lost) (aln rfl Tryz.underlying32 rfl)),asb hb21 (amv rfl),ag_ (aid rfl Tryz.underlying31 ti45 rfl rfl hi18 (mgt Qaf hj19) rfl),ag_ (aid rfl Tryz.underlying45 ti63 rfl rfl hi24 (mgt Qaa hj25) rfl),ag_ (Qav (vs:=[I 271,I 542596,I 12150,I 50]) rfl ts63 tz63 rfl (by rfl) rfl),ag_ (Qfc (ls:=[x22.Mass,x22.Heat,x22.Silica,x22.Gas]) (ks:=[271,542596,12150,50]) rfl rfl Q2h (by kernel_rfl) rfl rfl),asb hb26 (amv rfl),ag_ (aid rfl Tryz.underlying31 ti45 rfl rfl hi18 (mgt Qaf hj19) rfl),ag_ (aid rfl Tryz.underlying45 ti63 rfl rfl hi29 (mgt Qaa hj30) rfl),ag_ (Qav (vs:=[I 729,I 307404,I 109350]) rfl ts63 tz63 rfl (by rfl) rfl),ag_ (Qfc (ls:=[x27.Mass,x27.Heat,x27.Silica,x27.Gas]) (ks:=[729,307404,109350,0]) rfl rfl Q2h (by kernel_rfl) rfl rfl),asb hb31 (amv rfl),trivial⟩ ?_
           refine Qag ?_
           obtain rfl:=osi h
           exact fend ⟨[B false],⟨rot,trivial⟩,rfl⟩ nll
         ·refine wx tbk [(2,rp [(.tmp 26,(B ((x4.2==0))))] (B true)),(6,rp [(.tmp 30,(B ((x6.2.2==0))))] (B true)),(8,rp [(.tmp 31,B true),(.tmp 32,(Qmp x4))] (I ((x4.1.length:Int)))),(11,rp [(.tmp 35,(B (((x4.1.length:Int)==2))))] (B true)),(13,rp [(.tmp 36,B true),(.tmp 37,(Qmp x4)),ci 1] (.dptr (Qas (x10)) 0)),(15,rp [(.tmp 36,B true),ci 2,ci 1] Qj6),(16,rp [(.tmp 36,B true),(.tmp 39,(Qrh x10)),(.tmp 40,Qj6)] (B ((([x10.Element,x10.Outlet]:List Int)==[2,1])))),(18,rp [(.tmp 42,(B ((([x10.Element,x10.Outlet]:List Int)==[2,1]))))] (B true)),(21,rp [(.tmp 43,B true),(.tmp 45,(Qla x6))] (I ((x6.1.Out.length:Int)))),(24,rp [(.tmp 48,(B (((x6.1.Out.length:Int)==3))))] (B true)),(27,rp [(.tmp 49,B true),(.tmp 51,(Qla x6)),ci 2] (.dptr (Qaf (x16)) 0)),(29,rp [(.tmp 49,B true),(.tmp 53,(Qlh x16))] (I ((x16.length:Int)))),(32,rp [(.tmp 56,(B (((x16.length:Int)==2))))] (B true)),(35,rp [(.tmp 57,B true),(.tmp 59,(Qwl x6))] (I ((x6.1.Lost.length:Int)))),(38,rp [(.tmp 62,(B (((x6.1.Lost.length:Int)==3))))] (B true)),(41,rp [(.tmp 63,B true),(.tmp 65,(Qla x6)),ci 2] (.dptr (Qaf (x16)) 0)),(43,rp [(.tmp 63,B true),(.tmp 67,(Qlh x16)),ci 0] (.dptr (Qaa (x22)) 0)),(45,rp [(.tmp 63,B true),ci 271,ci 542596,ci 12150,ci 50] Qrg),(46,rp [(.tmp 63,B true),(.tmp 69,(Q29 x22)),(.tmp 70,Qrg)] (B ((([x22.Mass,x22.Heat,x22.Silica,x22.Gas]:List Int)==[271,542596,12150,50])))),(48,rp [(.tmp 72,(B ((([x22.Mass,x22.Heat,x22.Silica,x22.Gas]:List Int)==[271,542596,12150,50]))))] (B false))] ⟨asb hb7 (amv rfl),asb hb8 (amv rfl),ag_ (alm (c:=Qas) (l:=x4.1) (aln rfl Tryz.underlying116 rfl)),asb hb9 (amv rfl),ag_ (aid rfl Tryz.underlying116 Qlm rfl rfl hi12 (mgt Qas hj13) rfl),ag_ (Qav (vs:=[I 2,I 1]) rfl Qr3 Qm1 rfl (by rfl) rfl),ag_ (Qfc (ls:=[x10.Element,x10.Outlet]) (ks:=[2,1]) rfl rfl Qkz (by kernel_rfl) rfl rfl),asb hb14 (amv rfl),ag_ (alm (c:=Qaf) (l:=x6.1.Out) (aln rfl Tryz.underlying31 rfl)),asb hb15 (amv rfl),ag_ (aid rfl Tryz.underlying31 ti45 rfl rfl hi18 (mgt Qaf hj19) rfl),ag_ (alm (c:=Qaa) (l:=x16) (aln rfl Tryz.underlying45 rfl)),asb hb20 (amv rfl),ag_ (alm (c:=Qaw) (l:=x6.1.Lost) (aln rfl Tryz.underlying32 rfl)),asb hb21 (amv rfl),ag_ (aid rfl Tryz.underlying31 ti45 rfl rfl hi18 (mgt Qaf hj19) rfl),ag_ (aid rfl Tryz.underlying45 ti63 rfl rfl hi24 (mgt Qaa hj25) rfl),ag_ (Qav (vs:=[I 271,I 542596,I 12150,I 50]) rfl ts63 tz63 rfl (by rfl) rfl),ag_ (Qfc (ls:=[x22.Mass,x22.Heat,x22.Silica,x22.Gas]) (ks:=[271,542596,12150,50]) rfl rfl Q2h (by kernel_rfl) rfl rfl),asb hb26 (amv rfl),trivial⟩ ?_
          refine Qag ?_
          obtain rfl:=osi h
          exact fend ⟨[B false],⟨rot,trivial⟩,rfl⟩ nll
        ·refine wx tbk [(2,rp [(.tmp 26,(B ((x4.2==0))))] (B true)),(6,rp [(.tmp 30,(B ((x6.2.2==0))))] (B true)),(8,rp [(.tmp 31,B true),(.tmp 32,(Qmp x4))] (I ((x4.1.length:Int)))),(11,rp [(.tmp 35,(B (((x4.1.length:Int)==2))))] (B true)),(13,rp [(.tmp 36,B true),(.tmp 37,(Qmp x4)),ci 1] (.dptr (Qas (x10)) 0)),(15,rp [(.tmp 36,B true),ci 2,ci 1] Qj6),(16,rp [(.tmp 36,B true),(.tmp 39,(Qrh x10)),(.tmp 40,Qj6)] (B ((([x10.Element,x10.Outlet]:List Int)==[2,1])))),(18,rp [(.tmp 42,(B ((([x10.Element,x10.Outlet]:List Int)==[2,1]))))] (B true)),(21,rp [(.tmp 43,B true),(.tmp 45,(Qla x6))] (I ((x6.1.Out.length:Int)))),(24,rp [(.tmp 48,(B (((x6.1.Out.length:Int)==3))))] (B true)),(27,rp [(.tmp 49,B true),(.tmp 51,(Qla x6)),ci 2] (.dptr (Qaf (x16)) 0)),(29,rp [(.tmp 49,B true),(.tmp 53,(Qlh x16))] (I ((x16.length:Int)))),(32,rp [(.tmp 56,(B (((x16.length:Int)==2))))] (B true)),(35,rp [(.tmp 57,B true),(.tmp 59,(Qwl x6))] (I ((x6.1.Lost.length:Int)))),(38,rp [(.tmp 62,(B (((x6.1.Lost.length:Int)==3))))] (B false))] ⟨asb hb7 (amv rfl),asb hb8 (amv rfl),ag_ (alm (c:=Qas) (l:=x4.1) (aln rfl Tryz.underlying116 rfl)),asb hb9 (amv rfl),ag_ (aid rfl Tryz.underlying116 Qlm rfl rfl hi12 (mgt Qas hj13) rfl),ag_ (Qav (vs:=[I 2,I 1]) rfl Qr3 Qm1 rfl (by rfl) rfl),ag_ (Qfc (ls:=[x10.Element,x10.Outlet]) (ks:=[2,1]) rfl rfl Qkz (by kernel_rfl) rfl rfl),asb hb14 (amv rfl),ag_ (alm (c:=Qaf) (l:=x6.1.Out) (aln rfl Tryz.underlying31 rfl)),asb hb15 (amv rfl),ag_ (aid rfl Tryz.underlying31 ti45 rfl rfl hi18 (mgt Qaf hj19) rfl),ag_ (alm (c:=Qaa) (l:=x16) (aln rfl Tryz.underlying45 rfl)),asb hb20 (amv rfl),ag_ (alm (c:=Qaw) (l:=x6.1.Lost) (aln rfl Tryz.underlying32 rfl)),asb hb21 (amv rfl),trivial⟩ ?_
         refine Qag ?_
         obtain rfl:=osi h
         exact fend ⟨[B false],⟨rot,trivial⟩,rfl⟩ nll
       ·refine wx tbk [(2,rp [(.tmp 26,(B ((x4.2==0))))] (B true)),(6,rp [(.tmp 30,(B ((x6.2.2==0))))] (B true)),(8,rp [(.tmp 31,B true),(.tmp 32,(Qmp x4))] (I ((x4.1.length:Int)))),(11,rp [(.tmp 35,(B (((x4.1.length:Int)==2))))] (B true)),(13,rp [(.tmp 36,B true),(.tmp 37,(Qmp x4)),ci 1] (.dptr (Qas (x10)) 0)),(15,rp [(.tmp 36,B true),ci 2,ci 1] Qj6),(16,rp [(.tmp 36,B true),(.tmp 39,(Qrh x10)),(.tmp 40,Qj6)] (B ((([x10.Element,x10.Outlet]:List Int)==[2,1])))),(18,rp [(.tmp 42,(B ((([x10.Element,x10.Outlet]:List Int)==[2,1]))))] (B true)),(21,rp [(.tmp 43,B true),(.tmp 45,(Qla x6))] (I ((x6.1.Out.length:Int)))),(24,rp [(.tmp 48,(B (((x6.1.Out.length:Int)==3))))] (B true)),(27,rp [(.tmp 49,B true),(.tmp 51,(Qla x6)),ci 2] (.dptr (Qaf (x16)) 0)),(29,rp [(.tmp 49,B true),(.tmp 53,(Qlh x16))] (I ((x16.length:Int)))),(32,rp [(.tmp 56,(B (((x16.length:Int)==2))))] (B false))] ⟨asb hb7 (amv rfl),asb hb8 (amv rfl),ag_ (alm (c:=Qas) (l:=x4.1) (aln rfl Tryz.underlying116 rfl)),asb hb9 (amv rfl),ag_ (aid rfl Tryz.underlying116 Qlm rfl rfl hi12 (mgt Qas hj13) rfl),ag_ (Qav (vs:=[I 2,I 1]) rfl Qr3 Qm1 rfl (by rfl) rfl),ag_ (Qfc (ls:=[x10.Element,x10.Outlet]) (ks:=[2,1]) rfl rfl Qkz (by kernel_rfl) rfl rfl),asb hb14 (amv rfl),ag_ (alm (c:=Qaf) (l:=x6.1.Out) (aln rfl Tryz.underlying31 rfl)),asb hb15 (amv rfl),ag_ (aid rfl Tryz.underlying31 ti45 rfl rfl hi18 (mgt Qaf hj19) rfl),ag_ (alm (c:=Qaa) (l:=x16) (aln rfl Tryz.underlying45 rfl)),asb hb20 (amv rfl),trivial⟩ ?_
        refine Qag ?_
        obtain rfl:=osi h
        exact fend ⟨[B false],⟨rot,trivial⟩,rfl⟩ nll
      ·refine wx tbk [(2,rp [(.tmp 26,(B ((x4.2==0))))] (B true)),(6,rp [(.tmp 30,(B ((x6.2.2==0))))] (B true)),(8,rp [(.tmp 31,B true),(.tmp 32,(Qmp x4))] (I ((x4.1.length:Int)))),(11,rp [(.tmp 35,(B (((x4.1.length:Int)==2))))] (B true)),(13,rp [(.tmp 36,B true),(.tmp 37,(Qmp x4)),ci 1] (.dptr (Qas (x10)) 0)),(15,rp [(.tmp 36,B true),ci 2,ci 1] Qj6),(16,rp [(.tmp 36,B true),(.tmp 39,(Qrh x10)),(.tmp 40,Qj6)] (B ((([x10.Element,x10.Outlet]:List Int)==[2,1])))),(18,rp [(.tmp 42,(B ((([x10.Element,x10.Outlet]:List Int)==[2,1]))))] (B true)),(21,rp [(.tmp 43,B true),(.tmp 45,(Qla x6))] (I ((x6.1.Out.length:Int)))),(24,rp [(.tmp 48,(B (((x6.1.Out.length:Int)==3))))] (B false))] ⟨asb hb7 (amv rfl),asb hb8 (amv rfl),ag_ (alm (c:=Qas) (l:=x4.1) (aln rfl Tryz.underlying116 rfl)),asb hb9 (amv rfl),ag_ (aid rfl Tryz.underlying116 Qlm rfl rfl hi12 (mgt Qas hj13) rfl),ag_ (Qav (vs:=[I 2,I 1]) rfl Qr3 Qm1 rfl (by rfl) rfl),ag_ (Qfc (ls:=[x10.Element,x10.Outlet]) (ks:=[2,1]) rfl rfl Qkz (by kernel_rfl) rfl rfl),asb hb14 (amv rfl),ag_ (alm (c:=Qaf) (l:=x6.1.Out) (aln rfl Tryz.underlying31 rfl)),asb hb15 (amv rfl),trivial⟩ ?_
       refine Qag ?_
       obtain rfl:=osi h
       exact fend ⟨[B false],⟨rot,trivial⟩,rfl⟩ nll
     ·refine wx tbk [(2,rp [(.tmp 26,(B ((x4.2==0))))] (B true)),(6,rp [(.tmp 30,(B ((x6.2.2==0))))] (B true)),(8,rp [(.tmp 31,B true),(.tmp 32,(Qmp x4))] (I ((x4.1.length:Int)))),(11,rp [(.tmp 35,(B (((x4.1.length:Int)==2))))] (B true)),(13,rp [(.tmp 36,B true),(.tmp 37,(Qmp x4)),ci 1] (.dptr (Qas (x10)) 0)),(15,rp [(.tmp 36,B true),ci 2,ci 1] Qj6),(16,rp [(.tmp 36,B true),(.tmp 39,(Qrh x10)),(.tmp 40,Qj6)] (B ((([x10.Element,x10.Outlet]:List Int)==[2,1])))),(18,rp [(.tmp 42,(B ((([x10.Element,x10.Outlet]:List Int)==[2,1]))))] (B false))] ⟨asb hb7 (amv rfl),asb hb8 (amv rfl),ag_ (alm (c:=Qas) (l:=x4.1) (aln rfl Tryz.underlying116 rfl)),asb hb9 (amv rfl),ag_ (aid rfl Tryz.underlying116 Qlm rfl rfl hi12 (mgt Qas hj13) rfl),ag_ (Qav (vs:=[I 2,I 1]) rfl Qr3 Qm1 rfl (by rfl) rfl),ag_ (Qfc (ls:=[x10.Element,x10.Outlet]) (ks:=[2,1]) rfl rfl Qkz (by kernel_rfl) rfl rfl),asb hb14 (amv rfl),trivial⟩ ?_
      refine Qag ?_
      obtain rfl:=osi h
      exact fend ⟨[B false],⟨rot,trivial⟩,rfl⟩ nll
    ·refine wx tbk [(2,rp [(.tmp 26,(B ((x4.2==0))))] (B true)),(6,rp [(.tmp 30,(B ((x6.2.2==0))))] (B true)),(8,rp [(.tmp 31,B true),(.tmp 32,(Qmp x4))] (I ((x4.1.length:Int)))),(11,rp [(.tmp 35,(B (((x4.1.length:Int)==2))))] (B false))] ⟨asb hb7 (amv rfl),asb hb8 (amv rfl),ag_ (alm (c:=Qas) (l:=x4.1) (aln rfl Tryz.underlying116 rfl)),asb hb9 (amv rfl),trivial⟩ ?_
     refine Qag ?_
     obtain rfl:=osi h
     exact fend ⟨[B false],⟨rot,trivial⟩,rfl⟩ nll
   ·refine wx tbk [(2,rp [(.tmp 26,(B ((x4.2==0))))] (B true)),(6,rp [(.tmp 30,(B ((x6.2.2==0))))] (B false))] ⟨asb hb7 (amv rfl),asb hb8 (amv rfl),trivial⟩ ?_
    refine Qag ?_
    obtain rfl:=osi h
    exact fend ⟨[B false],⟨rot,trivial⟩,rfl⟩ nll
  ·refine wx tbk [(2,rp [(.tmp 26,(B ((x4.2==0))))] (B false))] ⟨asb hb7 (amv rfl),trivial⟩ ?_
   refine Qag ?_
   obtain rfl:=osi h
   exact fend ⟨[B false],⟨rot,trivial⟩,rfl⟩ nll
end Go.Proofs.YtmbhnllcfmiajaaGreat
