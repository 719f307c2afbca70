/-
  Functions of the program: what they compute, as plain functions, and that they do. No conditions.
-/
import Derived.Test.YtmbhnllcfmiajaaGreatX4
namespace Go.Proofs.YtmbhnllcfmiajaaGreat
set_option maxRecDepth 100000
set_option maxHeartbeats 4000000
open Go.RowKit
def Qdh (N:Nat) (p0:GNet) (p1:(List Int)) (p2:(List GStream)) (k16:(List (List GStream))×(List GLost)×(List Int)×Int→Option (Int⊕(Int×Int×(List (List GStream))×(List GLost)×(List Int)))):Nat→Int→(List (List GStream))→(List GLost)→(List Int)→Int→Option (Int⊕(Int×Int×(List (List GStream))×(List GLost)×(List Int)))
  | 0,_,_,_,_,_=>none
  | n27+1,y17,y18,y19,y20,y21=>
    bif (decide (y17<(p0.Elements.length:Int))) then
     (getI p0.Elements y17).bind fun x29=>
     (getI p1 y17).bind fun x33=>
     (Qfr N x29 x33).bind fun x38=>
     (Qct N y17 x38 p0.Table p0.Elements ((p0.Elements.length:Int).toNat) ((p0.Elements.length:Int).toNat) p1.length p2 y21 y18 y19 y20).bind (
      Sum.elim (fun x41=>
        Qdh N p0 p1 p2 k16 n27 (w64 (y17+1)) x41.2.1 x41.2.2.1 x41.2.2.2 x41.1)
      (fun x42=>
        some (.inl x42)))
    else
     k16 (y18,y19,y20,y21)
def Qfe (N:Nat) (p0:GNet) (p1:(List Int)) (p2:(List GStream)):Option (Int⊕(Int×Int×(List (List GStream))×(List GLost)×(List Int))):=
  chk (decide (0≤(p0.Elements.length:Int))&&decide (24 * (p0.Elements.length:Int)≤281474976710656)&&decide ((p0.Elements.length:Int)≤9223372036854775807))<|
  chk (decide (0≤(p0.Elements.length:Int))&&decide (32 * (p0.Elements.length:Int)≤281474976710656)&&decide ((p0.Elements.length:Int)≤9223372036854775807))<|
  (Qfd N p1).bind fun _=>
  Qbh (fun ⟨y12,y13,y14,y15⟩=>
    some (.inr ((-1),y15,y12,y13,y14))) fun k16:(List (List GStream))×(List GLost)×(List Int)×Int→Option (Int⊕(Int×Int×(List (List GStream))×(List GLost)×(List Int)))=>
  Qdh N p0 p1 p2 k16 N 0 (List.replicate (p0.Elements.length:Int).toNat ([])) (List.replicate (p0.Elements.length:Int).toNat (⟨0,0,0,0⟩:GLost)) p1 0
def Q03 (p0:GNet):AV:=.dat 5 ((p0.Table:List GRow).map Qa0)
def Qof (p0:GNet):AV:=.dat 7 ((p0.Elements:List GElement).map Qad)
def Q78 (p0:GNet):AV:=.agg [(Q03 p0),(Qof p0)]
def Qo4 (p1:(List Int)):AV:=.dat 1 ((p1:List Int).map Qak)
def Qn8 (p2:(List GStream)):AV:=.dat 4 ((p2:List GStream).map Qaa)
def Zlp (p0:GNet):Slot:=.own 1 ((List.replicate (p0.Elements.length:Int).toNat ([]):List (List GStream)).map Qah)
def Zlo (p0:GNet):Slot:=.own 4 ((List.replicate (p0.Elements.length:Int).toNat (⟨0,0,0,0⟩:GLost):List GLost).map Qay)
def Zb7 (p1:(List Int)):Slot:=.own 1 ((p1:List Int).map Qak)
def Zhl (p0:GNet) (p1:(List Int)):AV:=.agg [(.own 3 1 (0) ((p0.Elements.length:Int).toNat)),(.own 4 4 (0) ((p0.Elements.length:Int).toNat)),(.own 5 1 (0) (p1.length))]
def Q5q (p0:GNet):Slot:=.own 2 [[(Q03 p0),(Qof p0)]]
def Qra:Slot:=.own 1 [[(.ref 6 7 (0) 0)]]
def Q02 (y12:(List (List GStream))):Slot:=.own 1 ((y12:List (List GStream)).map Qah)
def Q01 (y13:(List GLost)):Slot:=.own 4 ((y13:List GLost).map Qay)
def Q00 (p0:GNet) (p1:(List Int)) (p2:(List GStream)) (y15:Int):Slot:=.own 7 [[(Q03 p0),(Qof p0),(.own 3 1 (0) ((p0.Elements.length:Int).toNat)),(.own 4 4 (0) ((p0.Elements.length:Int).toNat)),(.own 5 1 (0) (p1.length)),(Qn8 p2),(I (y15))]]
def Zf7 (p0:GNet) (p1:(List Int)) (p2:(List GStream)):Slot:=.own 7 [[(Q03 p0),(Qof p0),(.own 3 1 (0) ((p0.Elements.length:Int).toNat)),(.own 4 4 (0) ((p0.Elements.length:Int).toNat)),(.own 5 1 (0) (p1.length)),(Qn8 p2),(I (0))]]
def Qqg (y18:(List (List GStream))):Slot:=.own 1 ((y18:List (List GStream)).map Qah)
def Qqf (y19:(List GLost)):Slot:=.own 4 ((y19:List GLost).map Qay)
def Qqe (y20:(List Int)):Slot:=.own 1 ((y20:List Int).map Qak)
def Qqh (p0:GNet) (p1:(List Int)) (p2:(List GStream)) (y21:Int):Slot:=.own 7 [[(Q03 p0),(Qof p0),(.own 3 1 (0) ((p0.Elements.length:Int).toNat)),(.own 4 4 (0) ((p0.Elements.length:Int).toNat)),(.own 5 1 (0) (p1.length)),(Qn8 p2),(I (y21))]]
def Qoe (x29:GElement):AV:=.agg [(K .u8 (x29.Kind)),(.dat 2 ((x29.From:List GPort).map Qas)),(I (x29.Level)),(I (x29.Amount)),(I (x29.Wide)),(I (x29.Narrow)),(.dat 1 ((x29.Weights:List Int).map Qak))]
def Q0z (p0:GNet) (p1:(List Int)) (p2:(List GStream)) (x41:(Int×(List (List GStream))×(List GLost)×(List Int))):Slot:=.own 7 [[(Q03 p0),(Qof p0),(.own 3 1 (0) (((p0.Elements.length:Int).toNat))),(.own 4 4 (0) (((p0.Elements.length:Int).toNat))),(.own 5 1 (0) (p1.length)),(Qn8 p2),(I (x41.1))]]
def Zlq:Slot:=.own 1 [[(.lit (.pointer none))]]
theorem Qlt (N:Nat) (p0:GNet) (p1:(List Int)) (p2:(List GStream)) (r:(Int⊕(Int×Int×(List (List GStream))×(List GLost)×(List Int)))) (h:Qfe N p0 p1 p2=some r):Spec Tryz.prog 58 [(Q78 p0),(Qo4 p1),(Qn8 p2)] [] (((Sum.elim (fun r=>(.tup [(.lit (.pointer none)),(I (r))])) (fun r=>(.tup [(.ref 2 7 (0) 0),(I (r.1))]))):(Int⊕(Int×Int×(List (List GStream))×(List GLost)×(List Int)))→AV) r) (((Sum.elim (fun r=>[(.own 1 [[(.lit (.pointer none))]]),(.own 1 [[(I (r))]])]) (fun r=>[(.own 1 [[(.ref 2 7 (0) 0)]]),(.own 1 [[(I (r.1))]]),(.own 7 [[(.dat 5 ((p0.Table:List GRow).map Qa0)),(.dat 7 ((p0.Elements:List GElement).map Qad)),(.own 3 1 (0) ((p0.Elements.length:Int).toNat)),(.own 4 4 (0) ((p0.Elements.length:Int).toNat)),(.own 5 1 (0) (p1.length)),(.dat 4 ((p2:List GStream).map Qaa)),(I (r.2.1))]]),(.own 1 ((r.2.2.1:List (List GStream)).map Qah)),(.own 4 ((r.2.2.2.1:List GLost).map Qay)),(.own 1 ((r.2.2.2.2:List Int).map Qak))])):(Int⊕(Int×Int×(List (List GStream))×(List GLost)×(List Int)))→List Slot) r):=by
  refine Qy6 Tryz.func58 rfl (fun X φ0 w0 hφ0 hd0=>?_)
  unfold Qfe at h
  refine Q5j (k:=6) hd0 (fun n hn=>hφ0 n (Nat.le_trans (nle rfl) hn))<|wxz1<|thn ?_
  refine Q5j (k:=6) hd0 (fun n hn=>hφ0 n (Nat.le_trans (nle rfl) hn)) ?_
  obtain ⟨hm8,h⟩:=cko h
  obtain ⟨hm9,h⟩:=cko h
  obtain ⟨x11,hf10,h⟩:=bno h
  refine wy1 tbk [(3,rp [(.tmp 12,(Qof p0))] (I ((p0.Elements.length:Int)))),(4,⟨[(.tmp 13,(I ((p0.Elements.length:Int)))),(.tmp 13,(I ((p0.Elements.length:Int))))],[(3,.unused)],(.own 3 1 (0) ((p0.Elements.length:Int).toNat)),[(3,(Zlp p0))],false⟩),(7,rp [(.tmp 16,(Qof p0))] (I ((p0.Elements.length:Int)))),(8,⟨[(.tmp 17,(I ((p0.Elements.length:Int)))),(.tmp 17,(I ((p0.Elements.length:Int))))],[(4,.unused)],(.own 4 4 (0) ((p0.Elements.length:Int).toNat)),[(4,(Zlo p0))],false⟩),(10,⟨[fu 95,(.tmp 19,(Qo4 p1))],[(5,.unused)],(.own 5 1 (0) (p1.length)),[(5,(Zb7 p1))],false⟩),(11,rp [(.tmp 14,(.own 3 1 (0) ((p0.Elements.length:Int).toNat))),(.tmp 18,(.own 4 4 (0) ((p0.Elements.length:Int).toNat))),(.tmp 20,(.own 5 1 (0) (p1.length)))] (Zhl p0 p1)),(13,rp [(.tmp 10,(Q78 p0)),(.tmp 21,(Zhl p0 p1)),(.tmp 22,(Qn8 p2))] (.agg [(Q03 p0),(Qof p0),(.own 3 1 (0) ((p0.Elements.length:Int).toNat)),(.own 4 4 (0) ((p0.Elements.length:Int).toNat)),(.own 5 1 (0) (p1.length)),(Qn8 p2),I 0]))] ⟨alm (c:=Qad) (l:=p0.Elements) (aln rfl Tryz.underlying40 rfl),Zbw (c:=Qah) (v:=([])) (z:=[nilS]) (k:=(p0.Elements.length:Int).toNat) ⟨Less.nil,trivial⟩ (Ql3 rfl Tryz.underlying31 te45 tz45 rfl (Q0s hm8) rfl (Q0r hm8) (Q0q hm8) rfl),alm (c:=Qad) (l:=p0.Elements) (aln rfl Tryz.underlying40 rfl),Ql3 rfl Tryz.underlying32 te82 tz82 rfl (Q0s hm9) rfl (Q0r hm9) (Q0q hm9) (Qwy Qay rfl),Qat (first:=[]) (cap:=[]) (vs:=[(Qo4 p1)]) (σr:=[]) (σr':=[(Zb7 p1)]) (res':=(.own 5 1 (0) (p1.length))) [5] rfl Zkj (Qk2 N p1 _ hf10) rfl (Qbu (rnc (pld Qae) rn0)) Qar (slc (Qbd Qae) Qar) (Qc6 rfl) rfl rfl rfl,Qau (vs:=[(.own 3 1 (0) ((p0.Elements.length:Int).toNat)),(.own 4 4 (0) ((p0.Elements.length:Int).toNat)),(.own 5 1 (0) (p1.length))]) rfl ts34 tz34 rfl (by rfl) rfl,Qau (vs:=[(Q78 p0),(Zhl p0 p1),(Qn8 p2)]) rfl Zne Zmd rfl (by rfl) rfl,trivial⟩<|thn ?_
  refine Q7d (k:=6) [(1,1),(2,1)] hd0 (fun n hn=>hφ0 n (Nat.le_trans (nle rfl) hn)) Zki rfl rfl (by kernel_rfl) (by kernel_rfl) (by kernel_rfl) Qqt (fun φ1 w1 hφ1 hd1=>?_)
  obtain ⟨k16,hk_k16,h⟩:=jko h
  refine wjn (τ:=(List (List GStream))×(List GLost)×(List Int)×Int) (fun t=>k16 t=some r) (fun ⟨y12,y13,y14,y15⟩=>⟨mk 45 [(6,.ref 1 1 0 0),(7,.ref 2 1 0 0)],[(Q5q p0),Qra,(.own 1 [[I 0]]),(Q02 y12),(Q01 y13),(.own 1 ((y14:List Int).map Qak)),(Q00 p0 p1 p2 y15)]⟩) (fun t h=>?_) ?_
  ·subst hk_k16
   obtain ⟨y12,y13,y14,y15⟩:=t
   refine wxz<|Qaf ?_
   obtain rfl:=osi h
   exact ⟨_,(mto (n:=45) (l':=[(6,.ref 0 1 0 0),(7,.ref 1 1 0 0)]) (own':=[(.own 1 [[.ref 2 7 0 0]]),(.own 1 [[(I ((-1)))]]),(Q00 p0 p1 p2 y15),(Q02 y12),(Q01 y13),(.own 1 ((y14:List Int).map Qak))]) [(6,.ref 1 1 0 0),(7,.ref 2 1 0 0)] [1,2,6,3,4,5] [Qra,(.own 1 [[(I ((-1)))]]),(Q00 p0 p1 p2 y15),(Q02 y12),(Q01 y13),(.own 1 ((y14:List Int).map Qak))] hφ0 (pc (.rn (rqr rfl)) (pc (.rn (rqr rfl)) pn)) (qc (spb (lc (.rn (rqr rfl)) ln)) (qc (spb (lc rwl ln)) (qc (spb (lc (rnd Qaj) (lc (rnd Qab) (lc (.rn (Qa4 rfl)) (lc (.rn (Qa4 rfl)) (lc (.rn (Qa4 rfl)) (lc (rnd Qac) (lc rwl ln)))))))) (qc (spr Qan) (qc (spr Qaw) (qc (spr Qae) qn))))))),Qk9 (vs:=[.ref 2 7 0 0,I (-1)]) ⟨Qbv (n:=0) (m:=1) (j:=0) (i:=0) (xs:=[[.ref 2 7 0 0]]) (by kernel_rfl) (by kernel_rfl) Qur (by decide) rfl (nle rfl) rfl,Qbv (n:=1) (m:=1) (j:=0) (i:=0) (xs:=[[I (-1)]]) (by kernel_rfl) (by kernel_rfl) ti3 (by decide) rfl (nle rfl) rfl,trivial⟩ rfl (NLt.tup _ (nlc (NLt.ref _ _ _ _ (by decide)) (nlc (NLt.of0 nll) nl0))) (by kernel_rfl) (Qao (Qbg (nlc (NLt.ref _ _ _ _ (by decide)) nl0)) (Qao (Qbg (nlc (NLt.of0 nll) nl0)) (Qao (Qbg (nlc (NLt.of0 (nld Qaj _)) (nlc (NLt.of0 (nld Qab _)) (nlc (NLt.own _ _ _ _ (by decide)) (nlc (NLt.own _ _ _ _ (by decide)) (nlc (NLt.own _ _ _ _ (by decide)) (nlc (NLt.of0 (nld Qac _)) (nlc (NLt.of0 nll) nl0)))))))) (Qao (Qci Qan _) (Qao (Qci Qaw _) (Qao (Qci Qae _) Qbx))))))⟩
  ·skip
   refine wx tbk [(2,rp [(.tmp 27,(Qof p0))] (I ((p0.Elements.length:Int))))] ⟨alm (c:=Qad) (l:=p0.Elements) (aln rfl Tryz.underlying40 rfl),trivial⟩<|Qal ?_
   refine wmr (mto (n:=45) (l':=[(1,(Qo4 p1)),(6,.ref 1 1 0 0),(7,.ref 2 1 0 0),(27,(Qof p0)),(28,(I ((p0.Elements.length:Int)))),(29,I 0)]) (own':=[(Q5q p0),Qra,(.own 1 [[I 0]]),(.own 1 (((List.replicate (p0.Elements.length:Int).toNat ([])):List (List GStream)).map Qah)),(.own 4 (((List.replicate (p0.Elements.length:Int).toNat (⟨0,0,0,0⟩:GLost)):List GLost).map Qay)),(Zb7 p1),(Zf7 p0 p1 p2)]) [(1,(Qo4 p1)),(6,.ref 1 1 0 0),(7,.ref 2 1 0 0),(27,(Qof p0)),(28,(I ((p0.Elements.length:Int)))),(29,I 0)] [0,1,2,3,4,5,6] [(Q5q p0),Qra,(.own 1 [[I 0]]),(Zlp p0),(Zlo p0),(Zb7 p1),(Zf7 p0 p1 p2)] hφ1 (pc (rnd Qae) (pc (.rn (rqr rfl)) (pc (.rn (rqr rfl)) (pc (rnd Qab) (pc rwl (pc rwl pn)))))) (qc (spb (lc (rnd Qaj) (lc (rnd Qab) ln))) (qc (spb (lc (.rn (rqr rfl)) ln)) (qc (spb (lc rwl ln)) (qc (spr Qan) (qc (spr Qaw) (qc (spr Qae) (qc (spb (lc (rnd Qaj) (lc (rnd Qab) (lc (.rn (Qa4 rfl)) (lc (.rn (Qa4 rfl)) (lc (.rn (Qa4 rfl)) (lc (rnd Qac) (lc rwl ln)))))))) qn)))))))) ?_
   refine Qby (τ:=Int×(List (List GStream))×(List GLost)×(List Int)×Int) (fun n t=>Qdh N p0 p1 p2 k16 n t.1 t.2.1 t.2.2.1 t.2.2.2.1 t.2.2.2.2=some r) (fun ⟨y17,y18,y19,y20,y21⟩=>⟨mk 45 [(1,(Qo4 p1)),(6,.ref 1 1 0 0),(7,.ref 2 1 0 0),(27,(Qof p0)),(28,(I ((p0.Elements.length:Int)))),(29,I y17)],[(Q5q p0),Qra,(.own 1 [[I 0]]),(Qqg y18),(Qqf y19),(Qqe y20),(Qqh p0 p1 p2 y21)]⟩) (fun t h=>by rw [Qdh] at h; cases h) (fun n27 ih t h=>?_) N (0,List.replicate (p0.Elements.length:Int).toNat ([]),List.replicate (p0.Elements.length:Int).toNat (⟨0,0,0,0⟩:GLost),p1,0) h
   obtain ⟨y17,y18,y19,y20,y21⟩:=t
   rw [Qdh] at h
   skip
   refine wxz<|wsq ?_
   refine bfe h (fun hc28 h=>?_) fun hc28 h=>?_
   ·refine wft hc28<|Qam<|thn<|wsq<|Qal ?_
    obtain ⟨x29,hg30,h⟩:=bno h
    obtain ⟨hi31,hj32⟩:=gsm hg30
    refine wx tbk [(1,rp [(.tmp 27,(Qof p0)),(.tmp 29,I y17)] (.dptr (Qad (x29)) 0))] ⟨aid rfl Tryz.underlying40 Qjz rfl rfl hi31 (mgt Qad hj32) rfl,trivial⟩ ?_
    obtain ⟨x33,hg34,h⟩:=bno h
    obtain ⟨hi35,hj36⟩:=gsm hg34
    obtain ⟨x38,hf37,h⟩:=bno h
    obtain ⟨x40,hf39,h⟩:=bno h
    rcases x40 with x41 | x42
    ·replace h:=Zji h
     refine wy1 tbk [(5,rp [(.tmp 37,(Qo4 p1)),(.tmp 38,I y17)] (.dptr (Qak (x33)) 0)),(7,rp [fu 74,(.tmp 36,(Qoe x29)),(.tmp 40,I x33)] (I x38)),(8,⟨[fu 97,(.tmp 34,.ref 6 7 0 0),(.tmp 35,I y17),(.tmp 41,I x38)],[(6,(Qqh p0 p1 p2 y21)),(3,(Qqg y18)),(4,(Qqf y19)),(5,(Qqe y20))],(.tup []),[(6,(Q0z p0 p1 p2 x41)),(3,(.own 1 ((x41.2.1:List (List GStream)).map Qah))),(4,(.own 4 ((x41.2.2.1:List GLost).map Qay))),(5,(.own 1 ((x41.2.2.2:List Int).map Qak)))],false⟩)] ⟨aid rfl Tryz.underlying27 ti3 rfl rfl hi35 (mgt Qak hj36) rfl,apc (first:=[]) (cap:=[]) (vs:=[(Qoe x29),I x33]) rfl Za5 (Qiu N x29 x33 _ hf37) rfl rfl (nlc (NLt.agg _ (nlc nll (nlc (nld Qa3 _) (nlcc (nlcc (nlc (nld Qae _) nl0)))))) (nlc nll nl0)) nll rfl,Qat (first:=[]) (cap:=[]) (vs:=[.ref 6 7 0 0,I y17,I x38]) (σr:=[(Qqh p0 p1 p2 y21),(Qqg y18),(Qqf y19),(Qqe y20)]) (σr':=[(Q0z p0 p1 p2 x41),(.own 1 ((x41.2.1:List (List GStream)).map Qah)),(.own 4 ((x41.2.2.1:List GLost).map Qay)),(.own 1 ((x41.2.2.2:List Int).map Qak))]) (res':=(.tup [])) [6,3,4,5] rfl Za4 (Qls N y17 x38 p0.Table p0.Elements ((p0.Elements.length:Int).toNat) ((p0.Elements.length:Int).toNat) p1.length p2 y21 y18 y19 y20 _ hf39) rfl (Qbu (rnc (Qbp rfl) (rncc rn0))) (slc (Qaq (rnc (pld Qaj) (rnc (pld Qab) (rnc (Qc5 rfl) (rnc (Qc5 rfl) (rnc (Qc5 rfl) (rnc (pld Qac) (rnc (.plain _ nll) rn0)))))))) (slc (Qbd Qan) (slc (Qbd Qaw) (slc (Qbd Qae) Qar)))) (slc (Qaq (rnc (pld Qaj) (rnc (pld Qab) (rnc (Qc6 rfl) (rnc (Qc6 rfl) (rnc (Qc6 rfl) (rnc (pld Qac) (rnc (.plain _ nll) rn0)))))))) (slc (Qbd Qan) (slc (Qbd Qaw) (slc (Qbd Qae) Qar)))) (.plain _ (NLt.tup _ nl0)) rfl rfl rfl,trivial⟩<|bln<|thn<|wxz1<|thn ?_
     exact arm (mto (n:=45) [(1,(Qo4 p1)),(6,.ref 1 1 0 0),(7,.ref 2 1 0 0),(27,(Qof p0)),(28,(I ((p0.Elements.length:Int)))),(29,(I (w64 (y17+1))))] [0,1,2,3,4,5,6] [(Q5q p0),Qra,(.own 1 [[I 0]]),(.own 1 ((x41.2.1:List (List GStream)).map Qah)),(.own 4 ((x41.2.2.1:List GLost).map Qay)),(.own 1 ((x41.2.2.2:List Int).map Qak)),(Q0z p0 p1 p2 x41)] hφ1 (pc (rnd Qae) (pc (.rn (rqr rfl)) (pc (.rn (rqr rfl)) (pc (rnd Qab) (pc rwl (pc rwl pn)))))) (qc (spb (lc (rnd Qaj) (lc (rnd Qab) ln))) (qc (spb (lc (.rn (rqr rfl)) ln)) (qc (spb (lc rwl ln)) (qc (spr Qan) (qc (spr Qaw) (qc (spr Qae) (qc (spb (lc (rnd Qaj) (lc (rnd Qab) (lc (.rn (Qa4 rfl)) (lc (.rn (Qa4 rfl)) (lc (.rn (Qa4 rfl)) (lc (rnd Qac) (lc rwl ln)))))))) qn)))))))) (ih (w64 (y17+1),x41.2.1,x41.2.2.1,x41.2.2.2,x41.1) h)
    ·replace h:=Zjh h
     refine Zbq 8 [rb [(.tmp 6,.ref 1 1 0 0)] [(1,Qra)] (.ref 6 7 0 0),mv 8 (I y17),rb [(.tmp 9,.ref 7 7 0 0)] [(7,(.own 7 [[(K .u8 (x29.Kind)),(.dat 2 ((x29.From:List GPort).map Qas)),I x29.Level,I x29.Amount,I x29.Wide,I x29.Narrow,(.dat 1 ((x29.Weights:List Int).map Qak))]]))] (Qoe x29),mv 1 (Qo4 p1),mv 8 (I y17),rp [(.tmp 37,(Qo4 p1)),(.tmp 38,I y17)] (.dptr (Qak (x33)) 0),rp [(.tmp 39,(.dptr (Qak (x33)) 0))] (I x33),rp [fu 74,(.tmp 36,(Qoe x29)),(.tmp 40,I x33)] (I x38),⟨[fu 97,(.tmp 34,.ref 6 7 0 0),(.tmp 35,I y17),(.tmp 41,I x38),(.tmp 36,(Qoe x29)),(.tmp 37,(Qo4 p1)),(.tmp 38,I y17),(.tmp 39,(.dptr (Qak (x33)) 0)),(.tmp 40,I x33)],[(6,(Qqh p0 p1 p2 y21)),(3,(Qqg y18)),(4,(Qqf y19)),(5,(Qqe y20))],.any,[(6,.dead),(3,.dead),(4,.dead),(5,.dead)],false⟩] (by exact ⟨by kernel_rfl,by kernel_rfl⟩) rfl (by kernel_rfl) rfl (PStep.to (by rfl) (PStep.more (rd':=[(.tmp 36,(Qoe x29)),(.tmp 37,(Qo4 p1)),(.tmp 38,I y17),(.tmp 39,(.dptr (Qak (x33)) 0)),(.tmp 40,I x33)]) (Q13 (first:=[]) (cap:=[]) (vs:=[.ref 6 7 0 0,I y17,I x38]) (σr:=[(Qqh p0 p1 p2 y21),(Qqg y18),(Qqf y19),(Qqe y20)]) [6,3,4,5] rfl Za4 (Qlr N y17 x38 p0.Table p0.Elements ((p0.Elements.length:Int).toNat) ((p0.Elements.length:Int).toNat) p1.length p2 y21 y18 y19 y20 _ hf39) rfl (Qbu (rnc (Qbp rfl) (rncc rn0))) (slc (Qaq (rnc (pld Qaj) (rnc (pld Qab) (rnc (Qc5 rfl) (rnc (Qc5 rfl) (rnc (Qc5 rfl) (rnc (pld Qac) (rnc (.plain _ nll) rn0)))))))) (slc (Qbd Qan) (slc (Qbd Qaw) (slc (Qbd Qae) Qar)))) rfl rfl rfl))) (⟨fun _ _=>ald rfl Qur (by decide) rfl (nle rfl) rfl,fun _ _=>amv rfl,fun _ _=>ald rfl Qjz (by decide) rfl (nle rfl) rfl,fun _ _=>amv rfl,fun _ _=>amv rfl,fun _ _=>aid rfl Tryz.underlying27 ti3 rfl rfl hi35 (mgt Qak hj36) rfl,fun _ _=>ald_ rfl ti3 (by decide) (nle rfl) rfl,fun _ _=>apc (first:=[]) (cap:=[]) (vs:=[(Qoe x29),I x33]) rfl Za5 (Qiu N x29 x33 _ hf37) rfl rfl (nlc (NLt.agg _ (nlc nll (nlc (nld Qa3 _) (nlcc (nlcc (nlc (nld Qae _) nl0)))))) (nlc nll nl0)) nll rfl,fun _ h=>absurd rfl h,trivial⟩) ?_ (by kernel_rfl) (by kernel_rfl) (by kernel_rfl)
     obtain rfl:=osi h
     exact ⟨_,[[(.lit (.pointer none))],[I x42]],rfl,(Qpt x42),(Q4o (nlc nll nl0) (Q4o (nlc nll nl0) Zjt)),by kernel_rfl,_,(mto (n:=45) (l':=[(6,.ref 0 1 0 0),(7,.ref 1 1 0 0)]) (own':=[Zlq,(.own 1 [[I x42]])]) [(6,.ref 1 1 0 0),(7,.ref 2 1 0 0)] [1,2] [Zlq,(.own 1 [[I x42]])] hφ0 (pc (.rn (rqr rfl)) (pc (.rn (rqr rfl)) pn)) (qc (spb (lc rwl ln)) (qc (spb (lc rwl ln)) qn))),Qk9 (vs:=[(.lit (.pointer none)),I x42]) ⟨Qbv (n:=0) (m:=1) (j:=0) (i:=0) (xs:=[[(.lit (.pointer none))]]) (by kernel_rfl) (by kernel_rfl) Qur (by decide) rfl (nle rfl) rfl,Qbv (n:=1) (m:=1) (j:=0) (i:=0) (xs:=[[I x42]]) (by kernel_rfl) (by kernel_rfl) ti3 (by decide) rfl (nle rfl) rfl,trivial⟩ rfl (NLt.tup _ (nlc (NLt.of0 nll) (nlc (NLt.of0 nll) nl0))) (by kernel_rfl) (Qao (Qbg (nlc (NLt.of0 nll) nl0)) (Qao (Qbg (nlc (NLt.of0 nll) nl0)) Qbx))⟩
   ·exact wfn hc28<|Qbj<|Qav<|Qav<|Qbi rfl<|thn<|⟨(y18,y19,y20,y21),h,(mto (n:=45) [(6,.ref 1 1 0 0),(7,.ref 2 1 0 0)] [0,1,2,3,4,5,6] [(Q5q p0),Qra,(.own 1 [[I 0]]),(Qqg y18),(Qqf y19),(Qqe y20),(Qqh p0 p1 p2 y21)] hφ1 (pc (.rn (rqr rfl)) (pc (.rn (rqr rfl)) pn)) (qc (spb (lc (rnd Qaj) (lc (rnd Qab) ln))) (qc (spb (lc (.rn (rqr rfl)) ln)) (qc (spb (lc rwl ln)) (qc (spr Qan) (qc (spr Qaw) (qc (spr Qae) (qc (spb (lc (rnd Qaj) (lc (rnd Qab) (lc (.rn (Qa4 rfl)) (lc (.rn (Qa4 rfl)) (lc (.rn (Qa4 rfl)) (lc (rnd Qac) (lc rwl ln)))))))) qn))))))))⟩
theorem Qk8 (N:Nat) (p0:GNet) (p1:(List Int)) (p2:(List GStream)) (r:Int) (h:Qfe N p0 p1 p2=some (.inl r)):Spec Tryz.prog 58 [(Q78 p0),(Qo4 p1),(Qn8 p2)] [] (.tup [(.lit (.pointer none)),I r]) [(.own 1 [[(.lit (.pointer none))]]),(.own 1 [[I r]])]:=Qlt N p0 p1 p2 _ h
theorem Qk7 (N:Nat) (p0:GNet) (p1:(List Int)) (p2:(List GStream)) (r:(Int×Int×(List (List GStream))×(List GLost)×(List Int))) (h:Qfe N p0 p1 p2=some (.inr r)):Spec Tryz.prog 58 [(Q78 p0),(Qo4 p1),(Qn8 p2)] [] (.tup [.ref 2 7 0 0,I r.1]) [(.own 1 [[.ref 2 7 0 0]]),(.own 1 [[I r.1]]),(.own 7 [[(.dat 5 ((p0.Table:List GRow).map Qa0)),(.dat 7 ((p0.Elements:List GElement).map Qad)),(.own 3 1 (0) ((p0.Elements.length:Int).toNat)),(.own 4 4 (0) ((p0.Elements.length:Int).toNat)),(.own 5 1 (0) (p1.length)),(.dat 4 ((p2:List GStream).map Qaa)),I r.2.1]]),(.own 1 ((r.2.2.1:List (List GStream)).map Qah)),(.own 4 ((r.2.2.2.1:List GLost).map Qay)),(.own 1 ((r.2.2.2.2:List Int).map Qak))]:=Qlt N p0 p1 p2 _ h
def Qw4 (N:Nat) (p0:GNet) (p1:(List Int)) (p2:(List GStream)):Option (GTick×Int×Int):=
  (Qiy N p0 p1 p2).bind fun x11=>
  bif (x11 != 0) then
   some ((⟨[],[],[]⟩:GTick),0,x11)
  else
   (Qfe N p0 p1 p2).bind (
    Sum.elim (fun x15=>
      bif (decide (x15≥0)) then
       some ((⟨[],[],[]⟩:GTick),x15,11)
      else
       none)
    (fun x17=>
      bif (decide (x17.1≥0)) then
       some ((⟨[],[],[]⟩:GTick),x17.1,11)
      else
       chk (decide ((p0.Elements.length:Int).toNat≤x17.2.2.1.length))<|
       chk (decide ((p0.Elements.length:Int).toNat≤x17.2.2.2.1.length))<|
       chk (decide (p1.length≤x17.2.2.2.2.length))<|
       some ((⟨x17.2.2.1.take ((p0.Elements.length:Int).toNat),x17.2.2.2.1.take ((p0.Elements.length:Int).toNat),x17.2.2.2.2.take p1.length⟩:GTick),0,0)))
def Zhq (p0:GNet):AV:=.dat 5 ((p0.Table:List GRow).map Qa0)
def Zhp (p0:GNet):AV:=.dat 7 ((p0.Elements:List GElement).map Qad)
def Q5s (p0:GNet):AV:=.agg [(Zhq p0),(Zhp p0)]
def Q5r (p1:(List Int)):AV:=.dat 1 ((p1:List Int).map Qak)
def Q04 (p2:(List GStream)):AV:=.dat 4 ((p2:List GStream).map Qaa)
def Zhm:AV:=.agg [nilS,nilS,nilS]
def Q8b:Slot:=.own 3 [[(.dat 1 ((((⟨[],[],[]⟩:GTick).Out):List (List GStream)).map Qah)),(.dat 4 ((((⟨[],[],[]⟩:GTick).Lost):List GLost).map Qay)),(.dat 1 ((((⟨[],[],[]⟩:GTick).State):List Int).map Qak))]]
def Zhn:Slot:=.own 3 [[nilS,nilS,nilS]]
def Q3a:AV:=.dat 1 (((⟨[],[],[]⟩:GTick).Out:List (List GStream)).map Qah)
def Q29:AV:=.dat 4 (((⟨[],[],[]⟩:GTick).Lost:List GLost).map Qay)
def Q28:AV:=.dat 1 (((⟨[],[],[]⟩:GTick).State:List Int).map Qak)
def Q8a:AV:=.agg [Q3a,Q29,Q28]
def Zlr:Slot:=.own 1 [[(.lit (.pointer none))]]
def Q79:Slot:=.own 1 [[(.ref 4 7 (0) 0)]]
def Qu3 (p0:GNet) (p1:(List Int)) (p2:(List GStream)) (x17:(Int×Int×(List (List GStream))×(List GLost)×(List Int))):Slot:=.own 7 [[(Zhq p0),(Zhp p0),(.own 5 1 (0) ((p0.Elements.length:Int).toNat)),(.own 6 4 (0) ((p0.Elements.length:Int).toNat)),(.own 7 1 (0) (p1.length)),(Q04 p2),(I (x17.2.1))]]
def Qo5 (x17:(Int×Int×(List (List GStream))×(List GLost)×(List Int))) (p0:GNet):AV:=.dat 1 ((x17.2.2.1.take ((p0.Elements.length:Int).toNat):List (List GStream)).map Qah)
def Zho (p0:GNet):Slot:=.own 2 [[(Zhq p0),(Zhp p0)]]
def Qu2 (x17:(Int×Int×(List (List GStream))×(List GLost)×(List Int))) (p0:GNet):AV:=.dat 4 ((x17.2.2.2.1.take ((p0.Elements.length:Int).toNat):List GLost).map Qay)
def Zga (x17:(Int×Int×(List (List GStream))×(List GLost)×(List Int))) (p0:GNet) (p1:(List Int)):AV:=.dat 1 (((⟨x17.2.2.1.take ((p0.Elements.length:Int).toNat),x17.2.2.2.1.take ((p0.Elements.length:Int).toNat),x17.2.2.2.2.take p1.length⟩:GTick).Out:List (List GStream)).map Qah)
def Zf9 (x17:(Int×Int×(List (List GStream))×(List GLost)×(List Int))) (p0:GNet) (p1:(List Int)):AV:=.dat 4 (((⟨x17.2.2.1.take ((p0.Elements.length:Int).toNat),x17.2.2.2.1.take ((p0.Elements.length:Int).toNat),x17.2.2.2.2.take p1.length⟩:GTick).Lost:List GLost).map Qay)
def Zf8 (x17:(Int×Int×(List (List GStream))×(List GLost)×(List Int))) (p0:GNet) (p1:(List Int)):AV:=.dat 1 (((⟨x17.2.2.1.take ((p0.Elements.length:Int).toNat),x17.2.2.2.1.take ((p0.Elements.length:Int).toNat),x17.2.2.2.2.take p1.length⟩:GTick).State:List Int).map Qak)
theorem Q14 (N:Nat) (p0:GNet) (p1:(List Int)) (p2:(List GStream)) (r:(GTick×Int×Int)) (h:Qw4 N p0 p1 p2=some r):Spec Tryz.prog 16 [(.agg (Qhv p0)),(.dat 1 (p1.map Qak)),(.dat 4 (p2.map Qaa))] [] (.tup [(.agg [(.dat 1 ((r.1.Out:List (List GStream)).map Qah)),(.dat 4 ((r.1.Lost:List GLost).map Qay)),(.dat 1 ((r.1.State:List Int).map Qak))]),(I (r.2.1)),(I (r.2.2))]) []:=by
  refine Qai Tryz.func16 rfl 0 (nle rfl) (fun X φ0 w0 hφ0 hd0=>?_)
  unfold Qw4 at h
  refine Qb1<|wxz<|wsq ?_
  obtain ⟨x11,hf10,h⟩:=bno h
  refine wx tbk [(3,rp [fu 57,(.tmp 12,(Q5s p0)),(.tmp 13,(Q5r p1)),(.tmp 14,(Q04 p2))] (I x11))] ⟨apc (first:=[]) (cap:=[]) (vs:=[(Q5s p0),(Q5r p1),(Q04 p2)]) rfl Za8 (Qob N p0 p1 p2 _ hf10) rfl rfl (nlc (NLt.agg _ (nlc (nld Qaj _) (nlc (nld Qab _) nl0))) (nlc (nld Qae _) (nlc (nld Qac _) nl0))) nll rfl,trivial⟩<|wxz ?_
  refine bfe h (fun hc12 h=>?_) fun hc12 h=>?_
  ·refine wft hc12<|wx tbk [(0,rp [] Zhm)] ⟨Qau (vs:=[]) rfl ts34 tz34 rfl (by rfl) rfl,trivial⟩ ?_
   refine wmr (mto (n:=35) (l':=[(6,.ref 0 3 0 0),(7,I 0),(8,I x11)]) (own':=[Q8b]) [(6,.ref 1 3 0 0),(7,I 0),(8,I x11)] [1] [Zhn] hφ0 (pc (.rn (rqr rfl)) (pc rwl (pc rwl pn))) (qc (spb (lc (.nil _) (lc (.nil _) (lc (.nil _) ln)))) qn))<|Qaf<|Qag ?_
   obtain rfl:=osi h
   exact ⟨_,Mor.rfl,⟨⟨[Q8a,I 0,I x11],⟨Qbv (n:=0) (m:=3) (j:=0) (i:=0) (xs:=[[Q3a,Q29,Q28]]) (by kernel_rfl) (by kernel_rfl) ti34 (by decide) rfl (nle rfl) rfl,rot,rot,trivial⟩,rfl⟩,(NLt.tup _ (nlc (NLt.agg _ (nlc (nld Qan _) (nlc (nld Qaw _) (nlc (nld Qae _) nl0)))) (nlcc nl0))),Nat.le_refl _,fun n hn=>absurd hn (Nat.not_lt_zero n)⟩⟩
  ·refine wfn hc12<|Qam<|thn ?_
   obtain ⟨x14,hf13,h⟩:=bno h
   rcases x14 with x15 | x17
   ·replace h:=Zji h
    refine wx tbk [(3,⟨[fu 58,(.tmp 21,(Q5s p0)),(.tmp 22,(Q5r p1)),(.tmp 23,(Q04 p2))],[(2,.unused),(3,.unused)],(.tup [(.lit (.pointer none)),I x15]),[(2,Zlr),(3,.own 1 [[I x15]])],false⟩)] ⟨Qat (first:=[]) (cap:=[]) (vs:=[(Q5s p0),(Q5r p1),(Q04 p2)]) (σr:=[]) (σr':=[Zlr,(.own 1 [[I x15]])]) (res':=(.tup [(.lit (.pointer none)),I x15])) [2,3] rfl Qxm (Qk8 N p0 p1 p2 _ hf13) rfl (Qbu (rnc (.plain _ (NLt.agg _ (nlc (nld Qaj _) (nlc (nld Qab _) nl0)))) (rnc (pld Qae) (rnc (pld Qac) rn0)))) Qar (slc (Qaq (rnc (.plain _ nll) rn0)) (slc (Qaq (rnc (.plain _ nll) rn0)) Qar)) (.plain _ (NLt.tup _ (nlcc nl0))) rfl rfl rfl,trivial⟩<|wsq<|wxz ?_
    refine bfe h (fun hc16 h=>?_) fun hc16 h=>?_
    ·refine wft hc16<|wx tbk [(0,rp [] Zhm)] ⟨Qau (vs:=[]) rfl ts34 tz34 rfl (by rfl) rfl,trivial⟩ ?_
     refine wmr (mto (n:=35) (l':=[(6,.ref 0 3 0 0),(7,I x15),(8,I 11)]) (own':=[Q8b]) [(6,.ref 1 3 0 0),(7,I x15),(8,I 11)] [1] [Zhn] hφ0 (pc (.rn (rqr rfl)) (pc rwl (pc rwl pn))) (qc (spb (lc (.nil _) (lc (.nil _) (lc (.nil _) ln)))) qn))<|Qaf<|Qag ?_
     obtain rfl:=osi h
     exact ⟨_,Mor.rfl,⟨⟨[Q8a,I x15,I 11],⟨Qbv (n:=0) (m:=3) (j:=0) (i:=0) (xs:=[[Q3a,Q29,Q28]]) (by kernel_rfl) (by kernel_rfl) ti34 (by decide) rfl (nle rfl) rfl,rot,rot,trivial⟩,rfl⟩,(NLt.tup _ (nlc (NLt.agg _ (nlc (nld Qan _) (nlc (nld Qaw _) (nlc (nld Qae _) nl0)))) (nlcc nl0))),Nat.le_refl _,fun n hn=>absurd hn (Nat.not_lt_zero n)⟩⟩
    ·refine wfn hc16<|Qam<|thn ?_
     cases h
   ·replace h:=Zjh h
    refine wx tbk [(3,⟨[fu 58,(.tmp 21,(Q5s p0)),(.tmp 22,(Q5r p1)),(.tmp 23,(Q04 p2))],[(2,.unused),(3,.unused),(4,.unused),(5,.unused),(6,.unused),(7,.unused)],(.tup [.ref 4 7 0 0,I x17.1]),[(2,Q79),(3,.own 1 [[I x17.1]]),(4,(Qu3 p0 p1 p2 x17)),(5,(.own 1 ((x17.2.2.1:List (List GStream)).map Qah))),(6,(.own 4 ((x17.2.2.2.1:List GLost).map Qay))),(7,(.own 1 ((x17.2.2.2.2:List Int).map Qak)))],false⟩)] ⟨Qat (first:=[]) (cap:=[]) (vs:=[(Q5s p0),(Q5r p1),(Q04 p2)]) (σr:=[]) (σr':=[Q79,(.own 1 [[I x17.1]]),(Qu3 p0 p1 p2 x17),(.own 1 ((x17.2.2.1:List (List GStream)).map Qah)),(.own 4 ((x17.2.2.2.1:List GLost).map Qay)),(.own 1 ((x17.2.2.2.2:List Int).map Qak))]) (res':=(.tup [.ref 4 7 0 0,I x17.1])) [2,3,4,5,6,7] rfl Qxm (Qk7 N p0 p1 p2 _ hf13) rfl (Qbu (rnc (.plain _ (NLt.agg _ (nlc (nld Qaj _) (nlc (nld Qab _) nl0)))) (rnc (pld Qae) (rnc (pld Qac) rn0)))) Qar (slc (Qaq (rnc (Qbs rfl) rn0)) (slc (Qaq (rnc (.plain _ nll) rn0)) (slc (Qaq (rnc (pld Qaj) (rnc (pld Qab) (rnc (Qc6 rfl) (rnc (Qc6 rfl) (rnc (Qc6 rfl) (rnc (pld Qac) (rnc (.plain _ nll) rn0)))))))) (slc (Qbd Qan) (slc (Qbd Qaw) (slc (Qbd Qae) Qar)))))) (Zgz (rnc (Qbs rfl) (rnc (.plain _ nll) rn0))) rfl rfl rfl,trivial⟩<|wsq<|wxz ?_
    refine bfe h (fun hc18 h=>?_) fun hc18 h=>?_
    ·refine wft hc18<|wx tbk [(0,rp [] Zhm)] ⟨Qau (vs:=[]) rfl ts34 tz34 rfl (by rfl) rfl,trivial⟩ ?_
     refine wmr (mto (n:=35) (l':=[(6,.ref 0 3 0 0),(7,I x17.1),(8,I 11)]) (own':=[Q8b]) [(6,.ref 1 3 0 0),(7,I x17.1),(8,I 11)] [1] [Zhn] hφ0 (pc (.rn (rqr rfl)) (pc rwl (pc rwl pn))) (qc (spb (lc (.nil _) (lc (.nil _) (lc (.nil _) ln)))) qn))<|Qaf<|Qag ?_
     obtain rfl:=osi h
     exact ⟨_,Mor.rfl,⟨⟨[Q8a,I x17.1,I 11],⟨Qbv (n:=0) (m:=3) (j:=0) (i:=0) (xs:=[[Q3a,Q29,Q28]]) (by kernel_rfl) (by kernel_rfl) ti34 (by decide) rfl (nle rfl) rfl,rot,rot,trivial⟩,rfl⟩,(NLt.tup _ (nlc (NLt.agg _ (nlc (nld Qan _) (nlc (nld Qaw _) (nlc (nld Qae _) nl0)))) (nlcc nl0))),Nat.le_refl _,fun n hn=>absurd hn (Nat.not_lt_zero n)⟩⟩
    ·refine wfn hc18<|Qam<|thn ?_
     refine wx tbk [(1,rb [(.tmp 31,.ref 4 7 0 0)] [(4,(Qu3 p0 p1 p2 x17))] (.ref 4 7 0 0))] ⟨Qbe rfl,trivial⟩ ?_
     obtain ⟨hz19,h⟩:=cko h
     refine wmr (Q19 (n:=35) (mp:=3) (m:=1) (xs:=(x17.2.2.1:List (List GStream)).map Qah) (c:=[(.own 5 1 (0) ((p0.Elements.length:Int).toNat)),(.own 6 4 (0) ((p0.Elements.length:Int).toNat)),(.own 7 1 (0) (p1.length))]) (l':=[(6,.ref 1 3 0 0),(7,I 0),(8,I 0)]) (c':=[(Qo5 x17 p0),(.own 6 4 (0) ((p0.Elements.length:Int).toNat)),(.own 7 1 (0) (p1.length))]) (own':=[(Zho p0),(.own 3 [[(Qo5 x17 p0),(.own 6 4 (0) ((p0.Elements.length:Int).toNat)),(.own 7 1 (0) (p1.length))]]),Q79,(.own 1 [[I x17.1]]),(Qu3 p0 p1 p2 x17),.dead,(.own 4 ((x17.2.2.2.1:List GLost).map Qay)),(.own 1 ((x17.2.2.2.2:List Int).map Qak))]) 5 1 [(6,.ref 1 3 0 0),(7,I 0),(8,I 0)] (by kernel_rfl) (by kernel_rfl) (by kernel_rfl) (by kernel_rfl) ⟨(Qow hz19),(.same _),(.same _),trivial⟩ ⟨rfl,(.same _),rfl,(.same _),rfl,(.same _),trivial⟩ (by kernel_rfl)) ?_
     obtain ⟨hz20,h⟩:=cko h
     refine wmr (Q19 (n:=35) (mp:=3) (m:=4) (xs:=(x17.2.2.2.1:List GLost).map Qay) (c:=[(Qo5 x17 p0),(.own 6 4 (0) ((p0.Elements.length:Int).toNat)),(.own 7 1 (0) (p1.length))]) (l':=[(6,.ref 1 3 0 0),(7,I 0),(8,I 0)]) (c':=[(Qo5 x17 p0),(Qu2 x17 p0),(.own 7 1 (0) (p1.length))]) (own':=[(Zho p0),(.own 3 [[(Qo5 x17 p0),(Qu2 x17 p0),(.own 7 1 (0) (p1.length))]]),Q79,(.own 1 [[I x17.1]]),(Qu3 p0 p1 p2 x17),.dead,.dead,(.own 1 ((x17.2.2.2.2:List Int).map Qak))]) 6 1 [(6,.ref 1 3 0 0),(7,I 0),(8,I 0)] (by kernel_rfl) (by kernel_rfl) (by kernel_rfl) (by kernel_rfl) ⟨(.same _),(Qow hz20),(.same _),trivial⟩ ⟨rfl,(.same _),rfl,(.same _),rfl,(.same _),trivial⟩ (by kernel_rfl)) ?_
     obtain ⟨hz21,h⟩:=cko h
     refine wmr (Q19 (n:=35) (mp:=3) (m:=1) (xs:=(x17.2.2.2.2:List Int).map Qak) (c:=[(Qo5 x17 p0),(Qu2 x17 p0),(.own 7 1 (0) (p1.length))]) (l':=[(6,.ref 1 3 0 0),(7,I 0),(8,I 0)]) (c':=[(Qo5 x17 p0),(Qu2 x17 p0),(.dat 1 ((x17.2.2.2.2.take p1.length:List Int).map Qak))]) (own':=[(Zho p0),(.own 3 [[(Qo5 x17 p0),(Qu2 x17 p0),(.dat 1 ((x17.2.2.2.2.take p1.length:List Int).map Qak))]]),Q79,(.own 1 [[I x17.1]]),(Qu3 p0 p1 p2 x17),.dead,.dead,.dead]) 7 1 [(6,.ref 1 3 0 0),(7,I 0),(8,I 0)] (by kernel_rfl) (by kernel_rfl) (by kernel_rfl) (by kernel_rfl) ⟨(.same _),(.same _),(Qow hz21),trivial⟩ ⟨rfl,(.same _),rfl,(.same _),rfl,(.same _),trivial⟩ (by kernel_rfl)) ?_
     refine wmr (mto (n:=35) (l':=[(6,.ref 0 3 0 0),(7,I 0),(8,I 0)]) (own':=[(.own 3 [[(.dat 1 ((((⟨x17.2.2.1.take ((p0.Elements.length:Int).toNat),x17.2.2.2.1.take ((p0.Elements.length:Int).toNat),x17.2.2.2.2.take p1.length⟩:GTick).Out):List (List GStream)).map Qah)),(.dat 4 ((((⟨x17.2.2.1.take ((p0.Elements.length:Int).toNat),x17.2.2.2.1.take ((p0.Elements.length:Int).toNat),x17.2.2.2.2.take p1.length⟩:GTick).Lost):List GLost).map Qay)),(.dat 1 ((((⟨x17.2.2.1.take ((p0.Elements.length:Int).toNat),x17.2.2.2.1.take ((p0.Elements.length:Int).toNat),x17.2.2.2.2.take p1.length⟩:GTick).State):List Int).map Qak))]])]) [(6,.ref 1 3 0 0),(7,I 0),(8,I 0)] [1] [(.own 3 [[(Qo5 x17 p0),(Qu2 x17 p0),(.dat 1 ((x17.2.2.2.2.take p1.length:List Int).map Qak))]])] hφ0 (pc (.rn (rqr rfl)) (pc rwl (pc rwl pn))) (qc (spb (lc (rnd Qan) (lc (rnd Qaw) (lc (rnd Qae) ln)))) qn))<|Qaf ?_
     obtain rfl:=osi h
     exact ⟨_,Mor.rfl,⟨⟨[(.agg [(Zga x17 p0 p1),(Zf9 x17 p0 p1),(Zf8 x17 p0 p1)]),I 0,I 0],⟨Qbv (n:=0) (m:=3) (j:=0) (i:=0) (xs:=[[(Zga x17 p0 p1),(Zf9 x17 p0 p1),(Zf8 x17 p0 p1)]]) (by kernel_rfl) (by kernel_rfl) ti34 (by decide) rfl (nle rfl) rfl,rot,rot,trivial⟩,rfl⟩,(NLt.tup _ (nlc (NLt.agg _ (nlc (nld Qan _) (nlc (nld Qaw _) (nlc (nld Qae _) nl0)))) (nlcc nl0))),Nat.le_refl _,fun n hn=>absurd hn (Nat.not_lt_zero n)⟩⟩
def Qot (_N:Nat):Option (GNet×(List GStream)):=
  some ((⟨[(⟨100,101,419,2676,150⟩:GRow),(⟨150,476,632,2746,300⟩:GRow),(⟨200,1555,852,2793,600⟩:GRow)],[(⟨1,[],2,0,1000,1000000,[]⟩:GElement),(⟨3,[(⟨0,0⟩:GPort)],2,2000,1000,1000000,[]⟩:GElement),(⟨4,[(⟨1,0⟩:GPort)],0,100,1000,1000000,[]⟩:GElement)]⟩:GNet),[(⟨1000,852000,250000,50⟩:GStream)])
def Zhi:AV:=.agg [(I (100)),(I (101)),(I (419)),(I (2676)),(I (150))]
def Zhh:AV:=.agg [(I (150)),(I (476)),(I (632)),(I (2746)),(I (300))]
def Zhg:AV:=.agg [(I (200)),(I (1555)),(I (852)),(I (2793)),(I (600))]
def Q5p:AV:=.dat 5 (([(⟨100,101,419,2676,150⟩:GRow),(⟨150,476,632,2746,300⟩:GRow),(⟨200,1555,852,2793,600⟩:GRow)]:List GRow).map Qa0)
def Zln:AV:=.agg [(K .u8 (1)),nilS,(I (2)),(I (0)),(I (1000)),(I (1000000)),nilS]
def Zhf:AV:=.agg [(I (0)),(I (0))]
def Q73:AV:=.dat 2 (([(⟨0,0⟩:GPort)]:List GPort).map Qas)
def Zlm:AV:=.agg [(K .u8 (3)),Q73,(I (2)),(I (2000)),(I (1000)),(I (1000000)),nilS]
def Zhe:AV:=.agg [(I (1)),(I (0))]
def Q72:AV:=.dat 2 (([(⟨1,0⟩:GPort)]:List GPort).map Qas)
def Zf6:AV:=.agg [(K .u8 (4)),Q72,(I (0)),(I (100)),(I (1000)),(I (1000000)),nilS]
def Qu0:AV:=.dat 7 (([(⟨1,[],2,0,1000,1000000,[]⟩:GElement),(⟨3,[(⟨0,0⟩:GPort)],2,2000,1000,1000000,[]⟩:GElement),(⟨4,[(⟨1,0⟩:GPort)],0,100,1000,1000000,[]⟩:GElement)]:List GElement).map Qad)
def Q75:AV:=.dat 1 (([]:List Int).map Qak)
def Zf5:AV:=.agg [(K .u8 (1)),(.dat 2 (([]:List GPort).map Qas)),(I (2)),(I (0)),(I (1000)),(I (1000000)),Q75]
def Zf4:AV:=.agg [(K .u8 (3)),Q73,(I (2)),(I (2000)),(I (1000)),(I (1000000)),Q75]
def Zf3:AV:=.agg [(K .u8 (4)),Q72,(I (0)),(I (100)),(I (1000)),(I (1000000)),Q75]
def Q74:AV:=.agg [(I (1000)),(I (852000)),(I (250000)),(I (50))]
def Zf2:AV:=.dat 4 (([(⟨1000,852000,250000,50⟩:GStream)]:List GStream).map Qaa)
theorem Quw (N:Nat) (r:(GNet×(List GStream))) (h:Qot N=some r):Spec Tryz.prog 55 [] [] (.tup [(.agg (Qhv r.1)),(.dat 4 (r.2.map Qaa))]) []:=by
  refine Qai Tryz.func55 rfl 0 (nle rfl) (fun X φ0 w0 hφ0 hd0=>?_)
  unfold Qot at h
  refine wxz<|wx tbk [(0,rp [ci 100,ci 101,ci 419,ci 2676,ci 150] Zhi),(1,rp [ci 150,ci 476,ci 632,ci 2746,ci 300] Zhh),(2,rp [ci 200,ci 1555,ci 852,ci 2793,ci 600] Zhg),(3,rp [(.tmp 4,Zhi),(.tmp 5,Zhh),(.tmp 6,Zhg)] Q5p)] ⟨Qau (vs:=[I 100,I 101,I 419,I 2676,I 150]) rfl Zc9 Q1o rfl (by rfl) rfl,Qau (vs:=[I 150,I 476,I 632,I 2746,I 300]) rfl Zc9 Q1o rfl (by rfl) rfl,Qau (vs:=[I 200,I 1555,I 852,I 2793,I 600]) rfl Zc9 Q1o rfl (by rfl) rfl,Qbo (vs:=[Zhi,Zhh,Zhg]) rfl Tryz.underlying39 Quq Q1o rfl (by decide) rfl (by decide) (by rfl) (by rfl) (by rfl) rfl,trivial⟩ ?_
  refine wx tbk [(0,rp [(.const (.int .u8 1),(K .u8 (1))),ci 2,ci 1000,ci 1000000] Zln),(1,rp [] Zhf),(2,rp [(.tmp 9,Zhf)] Q73),(3,rp [(.const (.int .u8 3),(K .u8 (3))),(.tmp 10,Q73),ci 2,ci 2000,ci 1000,ci 1000000] Zlm),(4,rp [ci 1] Zhe),(5,rp [(.tmp 12,Zhe)] Q72),(6,rp [(.const (.int .u8 4),(K .u8 (4))),(.tmp 13,Q72),ci 100,ci 1000,ci 1000000] Zf6),(7,rp [(.tmp 8,Zln),(.tmp 11,Zlm),(.tmp 14,Zf6)] Qu0)] ⟨Qau (vs:=[(K .u8 (1)),I 2,I 1000,I 1000000]) rfl Zda Q1p rfl (by rfl) rfl,Qau (vs:=[]) rfl Qru Qm2 rfl (by rfl) rfl,Qbo (vs:=[Zhf]) rfl Tryz.underlying116 Qlo Qm2 rfl (by decide) rfl (by decide) (by rfl) (by rfl) (by rfl) rfl,Qau (vs:=[(K .u8 (3)),Q73,I 2,I 2000,I 1000,I 1000000]) rfl Zda Q1p rfl (by rfl) rfl,Qau (vs:=[I 1]) rfl Qru Qm2 rfl (by rfl) rfl,Qbo (vs:=[Zhe]) rfl Tryz.underlying116 Qlo Qm2 rfl (by decide) rfl (by decide) (by rfl) (by rfl) (by rfl) rfl,Qau (vs:=[(K .u8 (4)),Q72,I 100,I 1000,I 1000000]) rfl Zda Q1p rfl (by rfl) rfl,awk (rd':=[(.tmp 8,Zf5),(.tmp 11,Zf4),(.tmp 14,Zf3)]) ⟨rfl,(Less.agg ⟨lrf,Less.nil,lrf,lrf,lrf,lrf,Less.nil,trivial⟩),rfl,(Less.agg ⟨lrf,lrf,lrf,lrf,lrf,lrf,Less.nil,trivial⟩),rfl,(Less.agg ⟨lrf,lrf,lrf,lrf,lrf,lrf,Less.nil,trivial⟩),trivial⟩ (Qbo (vs:=[Zf5,Zf4,Zf3]) rfl Tryz.underlying40 Qjz Q1p rfl (by decide) rfl (by decide) (by rfl) (by rfl) (by rfl) rfl),trivial⟩ ?_
  refine wx tbk [(2,rp [(.tmp 16,Q5p),(.tmp 17,Qu0)] (.agg [Q5p,Qu0])),(3,rp [ci 1000,ci 852000,ci 250000,ci 50] Q74),(4,rp [(.tmp 19,Q74)] Zf2)] ⟨Qau (vs:=[Q5p,Qu0]) rfl ts42 tz42 rfl (by rfl) rfl,Qau (vs:=[I 1000,I 852000,I 250000,I 50]) rfl ts63 tz63 rfl (by rfl) rfl,Qbo (vs:=[Q74]) rfl Tryz.underlying45 ti63 tz63 rfl (by decide) rfl (by decide) (by rfl) (by rfl) (by rfl) rfl,trivial⟩<|Qaf ?_
  obtain rfl:=osi h
  exact fend ⟨[(.agg [Q5p,Qu0]),Zf2],⟨Qbv (n:=0) (m:=2) (j:=0) (i:=0) (xs:=[[Q5p,Qu0]]) (by kernel_rfl) (by kernel_rfl) ti42 (by decide) rfl (nle rfl) rfl,rot,trivial⟩,rfl⟩ (NLt.tup _ (nlc (NLt.agg _ (nlc (nld Qaj _) (nlc (nld Qab _) nl0))) (nlc (nld Qac _) nl0)))
def Qgv (N:Nat):Option Bool:=
  (Qot 2000 ).bind fun x2=>
  (Qqu N (⟨x2.1.Table,x2.1.Elements⟩:GNet)).bind fun x4=>
  (Qw4 N (⟨x2.1.Table,x2.1.Elements⟩:GNet) ([0,0,0]) x2.2).bind fun x6=>
  bif (x4.2==0) then
   bif (x6.2.2==0) then
    bif ((x4.1.length:Int)==2) then
     (getI x4.1 1).bind fun x10=>
     bif (([x10.Element,x10.Outlet]:List Int)==[2,1]) then
      bif ((x6.1.Out.length:Int)==3) then
       (getI x6.1.Out 2).bind fun x16=>
       bif ((x16.length:Int)==2) then
        bif ((x6.1.Lost.length:Int)==3) then
         (getI x16 0).bind fun x22=>
         bif (([x22.Mass,x22.Heat,x22.Silica,x22.Gas]:List Int)==[271,542596,12150,50]) then
          (getI x16 1).bind fun x27=>
          bif (([x27.Mass,x27.Heat,x27.Silica,x27.Gas]:List Int)==[729,307404,109350,0]) then
           (getI x6.1.Lost 1).bind fun x32=>
           bif (x32.Heat==2000) then
            (getI x6.1.Lost 2).bind fun x37=>
            some (x37.Scale==128500)
           else
            some false
          else
           some false
         else
          some false
        else
         some false
       else
        some false
      else
       some false
     else
      some false
    else
     some false
   else
    some false
  else
   some false
def Q76 (x2:(GNet×(List GStream))):AV:=.agg [(.dat 5 ((x2.1.Table:List GRow).map Qa0)),(.dat 7 ((x2.1.Elements:List GElement).map Qad))]
def Zhk (x2:(GNet×(List GStream))):AV:=.dat 4 ((x2.2:List GStream).map Qaa)
def Qmq (x4:((List GPort)×Int)):AV:=.dat 2 ((x4.1:List GPort).map Qas)
def Zhj:AV:=.dat 1 (([0,0,0]:List Int).map Qak)
def Qla (x6:(GTick×Int×Int)):AV:=.dat 1 ((x6.1.Out:List (List GStream)).map Qah)
def Qwb (x6:(GTick×Int×Int)):AV:=.dat 4 ((x6.1.Lost:List GLost).map Qay)
def Qj5:AV:=.agg [(I (2)),(I (1))]
def Qq9 (x10:GPort):AV:=.agg [(I (x10.Element)),(I (x10.Outlet))]
def Qli (x16:(List GStream)):AV:=.dat 4 ((x16:List GStream).map Qaa)
def Qq8:AV:=.agg [(I (271)),(I (542596)),(I (12150)),(I (50))]
def Q27 (x22:GStream):AV:=.agg [(I (x22.Mass)),(I (x22.Heat)),(I (x22.Silica)),(I (x22.Gas))]
def Qu1:AV:=.agg [(I (729)),(I (307404)),(I (109350)),(I (0))]
def Q77 (x27:GStream):AV:=.agg [(I (x27.Mass)),(I (x27.Heat)),(I (x27.Silica)),(I (x27.Gas))]
theorem Qhe (N:Nat) (r:Bool) (h:Qgv N=some r):Spec Tryz.prog 15 [] [] (B r) []:=by
  refine Qai Tryz.func15 rfl 0 (nle rfl) (fun X φ0 w0 hφ0 hd0=>?_)
  unfold Qgv at h
  refine wxz ?_
  obtain ⟨x2,hf1,h⟩:=bno h
  refine wx tbk [(0,rp [fu 55] (.tup [(Q76 x2),(Zhk x2)]))] ⟨apc (first:=[]) (cap:=[]) (vs:=[]) rfl Zku (Quw 2000  _ hf1) rfl rfl nl0 (NLt.tup _ (nlc (NLt.agg _ (nlc (nld Qaj _) (nlc (nld Qab _) nl0))) (nlc (nld Qac _) nl0))) rfl,trivial⟩ ?_
  obtain ⟨x4,hf3,h⟩:=bno h
  refine wx tbk [(1,rp [fu 47,(.tmp 13,(Q76 x2))] (.tup [(Qmq x4),I x4.2]))] ⟨apc (first:=[]) (cap:=[]) (vs:=[(Q76 x2)]) rfl Zkv (Qw3 N (⟨x2.1.Table,x2.1.Elements⟩:GNet) _ hf3) rfl rfl (nlc (NLt.agg _ (nlc (nld Qaj _) (nlc (nld Qab _) nl0))) nl0) (NLt.tup _ (nlc (nld Qa3 _) (nlc nll nl0))) rfl,trivial⟩ ?_
  obtain ⟨x6,hf5,h⟩:=bno h
  refine wx tbk [(1,rp [ci 0,ci 0,ci 0] Zhj),(3,rp [fu 16,(.tmp 18,(Q76 x2)),(.tmp 19,Zhj),(.tmp 20,(Zhk x2))] (.tup [(.agg [(Qla x6),(Qwb x6),(.dat 1 ((x6.1.State:List Int).map Qak))]),I x6.2.1,I x6.2.2]))] ⟨Qbo (vs:=[I 0,I 0,I 0]) rfl Tryz.underlying27 ti3 tz3 rfl (by decide) rfl (by decide) (by rfl) (by rfl) (by rfl) rfl,apc (first:=[]) (cap:=[]) (vs:=[(Q76 x2),Zhj,(Zhk x2)]) rfl Zk4 (Q14 N (⟨x2.1.Table,x2.1.Elements⟩:GNet) ([0,0,0]) x2.2 _ hf5) rfl rfl (nlc (NLt.agg _ (nlc (nld Qaj _) (nlc (nld Qab _) nl0))) (nlc (nld Qae _) (nlc (nld Qac _) nl0))) (NLt.tup _ (nlc (NLt.agg _ (nlc (nld Qan _) (nlc (nld Qaw _) (nlc (nld Qae _) nl0)))) (nlcc nl0))) rfl,trivial⟩ ?_
  refine bfe h (fun hb7 h=>?_) fun hb7 h=>?_
  ·refine bfe h (fun hb8 h=>?_) fun hb8 h=>?_
   ·refine bfe h (fun hb9 h=>?_) fun hb9 h=>?_
    ·obtain ⟨x10,hg11,h⟩:=bno h
     obtain ⟨hi12,hj13⟩:=gsm hg11
     refine bfe h (fun hb14 h=>?_) fun hb14 h=>?_
     ·refine bfe h (fun hb15 h=>?_) fun hb15 h=>?_
      ·obtain ⟨x16,hg17,h⟩:=bno h
       obtain ⟨hi18,hj19⟩:=gsm hg17
       refine bfe h (fun hb20 h=>?_) fun hb20 h=>?_
       ·refine bfe h (fun hb21 h=>?_) fun hb21 h=>?_
        ·obtain ⟨x22,hg23,h⟩:=bno h
         obtain ⟨hi24,hj25⟩:=gsm hg23
         refine bfe h (fun hb26 h=>?_) fun hb26 h=>?_
         ·obtain ⟨x27,hg28,h⟩:=bno h
          obtain ⟨hi29,hj30⟩:=gsm hg28
          refine bfe h (fun hb31 h=>?_) fun hb31 h=>?_
          ·obtain ⟨x32,hg33,h⟩:=bno h
           obtain ⟨hi34,hj35⟩:=gsm hg33
           refine bfe h (fun hb36 h=>?_) fun hb36 h=>?_
           ·obtain ⟨x37,hg38,h⟩:=bno h
            obtain ⟨hi39,hj40⟩:=gsm hg38
            refine wx tbk [(2,rp [(.tmp 26,(B ((x4.2==0))))] (B true)),(6,rp [(.tmp 30,(B ((x6.2.2==0))))] (B true)),(8,rp [(.tmp 31,B true),(.tmp 32,(Qmq x4))] (I ((x4.1.length:Int)))),(11,rp [(.tmp 35,(B (((x4.1.length:Int)==2))))] (B true)),(13,rp [(.tmp 36,B true),(.tmp 37,(Qmq x4)),ci 1] (.dptr (Qas (x10)) 0)),(15,rp [(.tmp 36,B true),ci 2,ci 1] Qj5),(16,rp [(.tmp 36,B true),(.tmp 39,(Qq9 x10)),(.tmp 40,Qj5)] (B ((([x10.Element,x10.Outlet]:List Int)==[2,1])))),(18,rp [(.tmp 42,(B ((([x10.Element,x10.Outlet]:List Int)==[2,1]))))] (B true)),(21,rp [(.tmp 43,B true),(.tmp 45,(Qla x6))] (I ((x6.1.Out.length:Int)))),(24,rp [(.tmp 48,(B (((x6.1.Out.length:Int)==3))))] (B true)),(27,rp [(.tmp 49,B true),(.tmp 51,(Qla x6)),ci 2] (.dptr (Qah (x16)) 0)),(29,rp [(.tmp 49,B true),(.tmp 53,(Qli x16))] (I ((x16.length:Int)))),(32,rp [(.tmp 56,(B (((x16.length:Int)==2))))] (B true)),(35,rp [(.tmp 57,B true),(.tmp 59,(Qwb x6))] (I ((x6.1.Lost.length:Int)))),(38,rp [(.tmp 62,(B (((x6.1.Lost.length:Int)==3))))] (B true)),(41,rp [(.tmp 63,B true),(.tmp 65,(Qla x6)),ci 2] (.dptr (Qah (x16)) 0)),(43,rp [(.tmp 63,B true),(.tmp 67,(Qli x16)),ci 0] (.dptr (Qaa (x22)) 0)),(45,rp [(.tmp 63,B true),ci 271,ci 542596,ci 12150,ci 50] Qq8),(46,rp [(.tmp 63,B true),(.tmp 69,(Q27 x22)),(.tmp 70,Qq8)] (B ((([x22.Mass,x22.Heat,x22.Silica,x22.Gas]:List Int)==[271,542596,12150,50])))),(48,rp [(.tmp 72,(B ((([x22.Mass,x22.Heat,x22.Silica,x22.Gas]:List Int)==[271,542596,12150,50]))))] (B true)),(51,rp [(.tmp 73,B true),(.tmp 75,(Qla x6)),ci 2] (.dptr (Qah (x16)) 0)),(53,rp [(.tmp 73,B true),(.tmp 77,(Qli x16)),ci 1] (.dptr (Qaa (x27)) 0)),(55,rp [(.tmp 73,B true),ci 729,ci 307404,ci 109350] Qu1),(56,rp [(.tmp 73,B true),(.tmp 79,(Q77 x27)),(.tmp 80,Qu1)] (B ((([x27.Mass,x27.Heat,x27.Silica,x27.Gas]:List Int)==[729,307404,109350,0])))),(58,rp [(.tmp 82,(B ((([x27.Mass,x27.Heat,x27.Silica,x27.Gas]:List Int)==[729,307404,109350,0]))))] (B true)),(61,rp [(.tmp 83,B true),(.tmp 85,(Qwb x6)),ci 1] (.dptr (Qay (x32)) 0)),(66,rp [(.tmp 90,(B ((x32.Heat==2000))))] (B true)),(69,rp [(.tmp 91,B true),(.tmp 93,(Qwb x6)),ci 2] (.dptr (Qay (x37)) 0))] ⟨asb hb7 (amv rfl),asb hb8 (amv rfl),ag_ (alm (c:=Qas) (l:=x4.1) (aln rfl Tryz.underlying116 rfl)),asb hb9 (amv rfl),ag_ (aid rfl Tryz.underlying116 Qlo rfl rfl hi12 (mgt Qas hj13) rfl),ag_ (Qau (vs:=[I 2,I 1]) rfl Qru Qm2 rfl (by rfl) rfl),ag_ (Qfb (ls:=[x10.Element,x10.Outlet]) (ks:=[2,1]) rfl rfl Qkw (by kernel_rfl) rfl rfl),asb hb14 (amv rfl),ag_ (alm (c:=Qah) (l:=x6.1.Out) (aln rfl Tryz.underlying31 rfl)),asb hb15 (amv rfl),ag_ (aid rfl Tryz.underlying31 ti45 rfl rfl hi18 (mgt Qah hj19) rfl),ag_ (alm (c:=Qaa) (l:=x16) (aln rfl Tryz.underlying45 rfl)),asb hb20 (amv rfl),ag_ (alm (c:=Qay) (l:=x6.1.Lost) (aln rfl Tryz.underlying32 rfl)),asb hb21 (amv rfl),ag_ (aid rfl Tryz.underlying31 ti45 rfl rfl hi18 (mgt Qah hj19) rfl),ag_ (aid rfl Tryz.underlying45 ti63 rfl rfl hi24 (mgt Qaa hj25) rfl),ag_ (Qau (vs:=[I 271,I 542596,I 12150,I 50]) rfl ts63 tz63 rfl (by rfl) rfl),ag_ (Qfb (ls:=[x22.Mass,x22.Heat,x22.Silica,x22.Gas]) (ks:=[271,542596,12150,50]) rfl rfl Q2f (by kernel_rfl) rfl rfl),asb hb26 (amv rfl),ag_ (aid rfl Tryz.underlying31 ti45 rfl rfl hi18 (mgt Qah hj19) rfl),ag_ (aid rfl Tryz.underlying45 ti63 rfl rfl hi29 (mgt Qaa hj30) rfl),ag_ (Qau (vs:=[I 729,I 307404,I 109350]) rfl ts63 tz63 rfl (by rfl) rfl),ag_ (Qfb (ls:=[x27.Mass,x27.Heat,x27.Silica,x27.Gas]) (ks:=[729,307404,109350,0]) rfl rfl Q2f (by kernel_rfl) rfl rfl),asb hb31 (amv rfl),ag_ (aid rfl Tryz.underlying32 ti82 rfl rfl hi34 (mgt Qay hj35) rfl),asb hb36 (amv rfl),ag_ (aid rfl Tryz.underlying32 ti82 rfl rfl hi39 (mgt Qay hj40) rfl),trivial⟩<|Qaf ?_
            obtain rfl:=osi h
            exact fend ⟨[(B ((x37.Scale==128500)))],⟨rot,trivial⟩,rfl⟩ nll
           ·refine wx tbk [(2,rp [(.tmp 26,(B ((x4.2==0))))] (B true)),(6,rp [(.tmp 30,(B ((x6.2.2==0))))] (B true)),(8,rp [(.tmp 31,B true),(.tmp 32,(Qmq x4))] (I ((x4.1.length:Int)))),(11,rp [(.tmp 35,(B (((x4.1.length:Int)==2))))] (B true)),(13,rp [(.tmp 36,B true),(.tmp 37,(Qmq x4)),ci 1] (.dptr (Qas (x10)) 0)),(15,rp [(.tmp 36,B true),ci 2,ci 1] Qj5),(16,rp [(.tmp 36,B true),(.tmp 39,(Qq9 x10)),(.tmp 40,Qj5)] (B ((([x10.Element,x10.Outlet]:List Int)==[2,1])))),(18,rp [(.tmp 42,(B ((([x10.Element,x10.Outlet]:List Int)==[2,1]))))] (B true)),(21,rp [(.tmp 43,B true),(.tmp 45,(Qla x6))] (I ((x6.1.Out.length:Int)))),(24,rp [(.tmp 48,(B (((x6.1.Out.length:Int)==3))))] (B true)),(27,rp [(.tmp 49,B true),(.tmp 51,(Qla x6)),ci 2] (.dptr (Qah (x16)) 0)),(29,rp [(.tmp 49,B true),(.tmp 53,(Qli x16))] (I ((x16.length:Int)))),(32,rp [(.tmp 56,(B (((x16.length:Int)==2))))] (B true)),(35,rp [(.tmp 57,B true),(.tmp 59,(Qwb x6))] (I ((x6.1.Lost.length:Int)))),(38,rp [(.tmp 62,(B (((x6.1.Lost.length:Int)==3))))] (B true)),(41,rp [(.tmp 63,B true),(.tmp 65,(Qla x6)),ci 2] (.dptr (Qah (x16)) 0)),(43,rp [(.tmp 63,B true),(.tmp 67,(Qli x16)),ci 0] (.dptr (Qaa (x22)) 0)),(45,rp [(.tmp 63,B true),ci 271,ci 542596,ci 12150,ci 50] Qq8),(46,rp [(.tmp 63,B true),(.tmp 69,(Q27 x22)),(.tmp 70,Qq8)] (B ((([x22.Mass,x22.Heat,x22.Silica,x22.Gas]:List Int)==[271,542596,12150,50])))),(48,rp [(.tmp 72,(B ((([x22.Mass,x22.Heat,x22.Silica,x22.Gas]:List Int)==[271,542596,12150,50]))))] (B true)),(51,rp [(.tmp 73,B true),(.tmp 75,(Qla x6)),ci 2] (.dptr (Qah (x16)) 0)),(53,rp [(.tmp 73,B true),(.tmp 77,(Qli x16)),ci 1] (.dptr (Qaa (x27)) 0)),(55,rp [(.tmp 73,B true),ci 729,ci 307404,ci 109350] Qu1),(56,rp [(.tmp 73,B true),(.tmp 79,(Q77 x27)),(.tmp 80,Qu1)] (B ((([x27.Mass,x27.Heat,x27.Silica,x27.Gas]:List Int)==[729,307404,109350,0])))),(58,rp [(.tmp 82,(B ((([x27.Mass,x27.Heat,x27.Silica,x27.Gas]:List Int)==[729,307404,109350,0]))))] (B true)),(61,rp [(.tmp 83,B true),(.tmp 85,(Qwb x6)),ci 1] (.dptr (Qay (x32)) 0)),(66,rp [(.tmp 90,(B ((x32.Heat==2000))))] (B false))] ⟨asb hb7 (amv rfl),asb hb8 (amv rfl),ag_ (alm (c:=Qas) (l:=x4.1) (aln rfl Tryz.underlying116 rfl)),asb hb9 (amv rfl),ag_ (aid rfl Tryz.underlying116 Qlo rfl rfl hi12 (mgt Qas hj13) rfl),ag_ (Qau (vs:=[I 2,I 1]) rfl Qru Qm2 rfl (by rfl) rfl),ag_ (Qfb (ls:=[x10.Element,x10.Outlet]) (ks:=[2,1]) rfl rfl Qkw (by kernel_rfl) rfl rfl),asb hb14 (amv rfl),ag_ (alm (c:=Qah) (l:=x6.1.Out) (aln rfl Tryz.underlying31 rfl)),asb hb15 (amv rfl),ag_ (aid rfl Tryz.underlying31 ti45 rfl rfl hi18 (mgt Qah hj19) rfl),ag_ (alm (c:=Qaa) (l:=x16) (aln rfl Tryz.underlying45 rfl)),asb hb20 (amv rfl),ag_ (alm (c:=Qay) (l:=x6.1.Lost) (aln rfl Tryz.underlying32 rfl)),asb hb21 (amv rfl),ag_ (aid rfl Tryz.underlying31 ti45 rfl rfl hi18 (mgt Qah hj19) rfl),ag_ (aid rfl Tryz.underlying45 ti63 rfl rfl hi24 (mgt Qaa hj25) rfl),ag_ (Qau (vs:=[I 271,I 542596,I 12150,I 50]) rfl ts63 tz63 rfl (by rfl) rfl),ag_ (Qfb (ls:=[x22.Mass,x22.Heat,x22.Silica,x22.Gas]) (ks:=[271,542596,12150,50]) rfl rfl Q2f (by kernel_rfl) rfl rfl),asb hb26 (amv rfl),ag_ (aid rfl Tryz.underlying31 ti45 rfl rfl hi18 (mgt Qah hj19) rfl),ag_ (aid rfl Tryz.underlying45 ti63 rfl rfl hi29 (mgt Qaa hj30) rfl),ag_ (Qau (vs:=[I 729,I 307404,I 109350]) rfl ts63 tz63 rfl (by rfl) rfl),ag_ (Qfb (ls:=[x27.Mass,x27.Heat,x27.Silica,x27.Gas]) (ks:=[729,307404,109350,0]) rfl rfl Q2f (by kernel_rfl) rfl rfl),asb hb31 (amv rfl),ag_ (aid rfl Tryz.underlying32 ti82 rfl rfl hi34 (mgt Qay hj35) rfl),asb hb36 (amv rfl),trivial⟩<|Qaf ?_
            obtain rfl:=osi h
            exact fend ⟨[B false],⟨rot,trivial⟩,rfl⟩ nll
          ·refine wx tbk [(2,rp [(.tmp 26,(B ((x4.2==0))))] (B true)),(6,rp [(.tmp 30,(B ((x6.2.2==0))))] (B true)),(8,rp [(.tmp 31,B true),(.tmp 32,(Qmq x4))] (I ((x4.1.length:Int)))),(11,rp [(.tmp 35,(B (((x4.1.length:Int)==2))))] (B true)),(13,rp [(.tmp 36,B true),(.tmp 37,(Qmq x4)),ci 1] (.dptr (Qas (x10)) 0)),(15,rp [(.tmp 36,B true),ci 2,ci 1] Qj5),(16,rp [(.tmp 36,B true),(.tmp 39,(Qq9 x10)),(.tmp 40,Qj5)] (B ((([x10.Element,x10.Outlet]:List Int)==[2,1])))),(18,rp [(.tmp 42,(B ((([x10.Element,x10.Outlet]:List Int)==[2,1]))))] (B true)),(21,rp [(.tmp 43,B true),(.tmp 45,(Qla x6))] (I ((x6.1.Out.length:Int)))),(24,rp [(.tmp 48,(B (((x6.1.Out.length:Int)==3))))] (B true)),(27,rp [(.tmp 49,B true),(.tmp 51,(Qla x6)),ci 2] (.dptr (Qah (x16)) 0)),(29,rp [(.tmp 49,B true),(.tmp 53,(Qli x16))] (I ((x16.length:Int)))),(32,rp [(.tmp 56,(B (((x16.length:Int)==2))))] (B true)),(35,rp [(.tmp 57,B true),(.tmp 59,(Qwb x6))] (I ((x6.1.Lost.length:Int)))),(38,rp [(.tmp 62,(B (((x6.1.Lost.length:Int)==3))))] (B true)),(41,rp [(.tmp 63,B true),(.tmp 65,(Qla x6)),ci 2] (.dptr (Qah (x16)) 0)),(43,rp [(.tmp 63,B true),(.tmp 67,(Qli x16)),ci 0] (.dptr (Qaa (x22)) 0)),(45,rp [(.tmp 63,B true),ci 271,ci 542596,ci 12150,ci 50] Qq8),(46,rp [(.tmp 63,B true),(.tmp 69,(Q27 x22)),(.tmp 70,Qq8)] (B ((([x22.Mass,x22.Heat,x22.Silica,x22.Gas]:List Int)==[271,542596,12150,50])))),(48,rp [(.tmp 72,(B ((([x22.Mass,x22.Heat,x22.Silica,x22.Gas]:List Int)==[271,542596,12150,50]))))] (B true)),(51,rp [(.tmp 73,B true),(.tmp 75,(Qla x6)),ci 2] (.dptr (Qah (x16)) 0)),(53,rp [(.tmp 73,B true),(.tmp 77,(Qli x16)),ci 1] (.dptr (Qaa (x27)) 0)),(55,rp [(.tmp 73,B true),ci 729,ci 307404,ci 109350] Qu1),(56,rp [(.tmp 73,B true),(.tmp 79,(Q77 x27)),(.tmp 80,Qu1)] (B ((([x27.Mass,x27.Heat,x27.Silica,x27.Gas]:List Int)==[729,307404,109350,0])))),(58,rp [(.tmp 82,(B ((([x27.Mass,x27.Heat,x27.Silica,x27.Gas]:List Int)==[729,307404,109350,0]))))] (B false))] ⟨asb hb7 (amv rfl),asb hb8 (amv rfl),ag_ (alm (c:=Qas) (l:=x4.1) (aln rfl Tryz.underlying116 rfl)),asb hb9 (amv rfl),ag_ (aid rfl Tryz.underlying116 Qlo rfl rfl hi12 (mgt Qas hj13) rfl),ag_ (Qau (vs:=[I 2,I 1]) rfl Qru Qm2 rfl (by rfl) rfl),ag_ (Qfb (ls:=[x10.Element,x10.Outlet]) (ks:=[2,1]) rfl rfl Qkw (by kernel_rfl) rfl rfl),asb hb14 (amv rfl),ag_ (alm (c:=Qah) (l:=x6.1.Out) (aln rfl Tryz.underlying31 rfl)),asb hb15 (amv rfl),ag_ (aid rfl Tryz.underlying31 ti45 rfl rfl hi18 (mgt Qah hj19) rfl),ag_ (alm (c:=Qaa) (l:=x16) (aln rfl Tryz.underlying45 rfl)),asb hb20 (amv rfl),ag_ (alm (c:=Qay) (l:=x6.1.Lost) (aln rfl Tryz.underlying32 rfl)),asb hb21 (amv rfl),ag_ (aid rfl Tryz.underlying31 ti45 rfl rfl hi18 (mgt Qah hj19) rfl),ag_ (aid rfl Tryz.underlying45 ti63 rfl rfl hi24 (mgt Qaa hj25) rfl),ag_ (Qau (vs:=[I 271,I 542596,I 12150,I 50]) rfl ts63 tz63 rfl (by rfl) rfl),ag_ (Qfb (ls:=[x22.Mass,x22.Heat,x22.Silica,x22.Gas]) (ks:=[271,542596,12150,50]) rfl rfl Q2f (by kernel_rfl) rfl rfl),asb hb26 (amv rfl),ag_ (aid rfl Tryz.underlying31 ti45 rfl rfl hi18 (mgt Qah hj19) rfl),ag_ (aid rfl Tryz.underlying45 ti63 rfl rfl hi29 (mgt Qaa hj30) rfl),ag_ (Qau (vs:=[I 729,I 307404,I 109350]) rfl ts63 tz63 rfl (by rfl) rfl),ag_ (Qfb (ls:=[x27.Mass,x27.Heat,x27.Silica,x27.Gas]) (ks:=[729,307404,109350,0]) rfl rfl Q2f (by kernel_rfl) rfl rfl),asb hb31 (amv rfl),trivial⟩<|Qaf ?_
           obtain rfl:=osi h
           exact fend ⟨[B false],⟨rot,trivial⟩,rfl⟩ nll
         ·refine wx tbk [(2,rp [(.tmp 26,(B ((x4.2==0))))] (B true)),(6,rp [(.tmp 30,(B ((x6.2.2==0))))] (B true)),(8,rp [(.tmp 31,B true),(.tmp 32,(Qmq x4))] (I ((x4.1.length:Int)))),(11,rp [(.tmp 35,(B (((x4.1.length:Int)==2))))] (B true)),(13,rp [(.tmp 36,B true),(.tmp 37,(Qmq x4)),ci 1] (.dptr (Qas (x10)) 0)),(15,rp [(.tmp 36,B true),ci 2,ci 1] Qj5),(16,rp [(.tmp 36,B true),(.tmp 39,(Qq9 x10)),(.tmp 40,Qj5)] (B ((([x10.Element,x10.Outlet]:List Int)==[2,1])))),(18,rp [(.tmp 42,(B ((([x10.Element,x10.Outlet]:List Int)==[2,1]))))] (B true)),(21,rp [(.tmp 43,B true),(.tmp 45,(Qla x6))] (I ((x6.1.Out.length:Int)))),(24,rp [(.tmp 48,(B (((x6.1.Out.length:Int)==3))))] (B true)),(27,rp [(.tmp 49,B true),(.tmp 51,(Qla x6)),ci 2] (.dptr (Qah (x16)) 0)),(29,rp [(.tmp 49,B true),(.tmp 53,(Qli x16))] (I ((x16.length:Int)))),(32,rp [(.tmp 56,(B (((x16.length:Int)==2))))] (B true)),(35,rp [(.tmp 57,B true),(.tmp 59,(Qwb x6))] (I ((x6.1.Lost.length:Int)))),(38,rp [(.tmp 62,(B (((x6.1.Lost.length:Int)==3))))] (B true)),(41,rp [(.tmp 63,B true),(.tmp 65,(Qla x6)),ci 2] (.dptr (Qah (x16)) 0)),(43,rp [(.tmp 63,B true),(.tmp 67,(Qli x16)),ci 0] (.dptr (Qaa (x22)) 0)),(45,rp [(.tmp 63,B true),ci 271,ci 542596,ci 12150,ci 50] Qq8),(46,rp [(.tmp 63,B true),(.tmp 69,(Q27 x22)),(.tmp 70,Qq8)] (B ((([x22.Mass,x22.Heat,x22.Silica,x22.Gas]:List Int)==[271,542596,12150,50])))),(48,rp [(.tmp 72,(B ((([x22.Mass,x22.Heat,x22.Silica,x22.Gas]:List Int)==[271,542596,12150,50]))))] (B false))] ⟨asb hb7 (amv rfl),asb hb8 (amv rfl),ag_ (alm (c:=Qas) (l:=x4.1) (aln rfl Tryz.underlying116 rfl)),asb hb9 (amv rfl),ag_ (aid rfl Tryz.underlying116 Qlo rfl rfl hi12 (mgt Qas hj13) rfl),ag_ (Qau (vs:=[I 2,I 1]) rfl Qru Qm2 rfl (by rfl) rfl),ag_ (Qfb (ls:=[x10.Element,x10.Outlet]) (ks:=[2,1]) rfl rfl Qkw (by kernel_rfl) rfl rfl),asb hb14 (amv rfl),ag_ (alm (c:=Qah) (l:=x6.1.Out) (aln rfl Tryz.underlying31 rfl)),asb hb15 (amv rfl),ag_ (aid rfl Tryz.underlying31 ti45 rfl rfl hi18 (mgt Qah hj19) rfl),ag_ (alm (c:=Qaa) (l:=x16) (aln rfl Tryz.underlying45 rfl)),asb hb20 (amv rfl),ag_ (alm (c:=Qay) (l:=x6.1.Lost) (aln rfl Tryz.underlying32 rfl)),asb hb21 (amv rfl),ag_ (aid rfl Tryz.underlying31 ti45 rfl rfl hi18 (mgt Qah hj19) rfl),ag_ (aid rfl Tryz.underlying45 ti63 rfl rfl hi24 (mgt Qaa hj25) rfl),ag_ (Qau (vs:=[I 271,I 542596,I 12150,I 50]) rfl ts63 tz63 rfl (by rfl) rfl),ag_ (Qfb (ls:=[x22.Mass,x22.Heat,x22.Silica,x22.Gas]) (ks:=[271,542596,12150,50]) rfl rfl Q2f (by kernel_rfl) rfl rfl),asb hb26 (amv rfl),trivial⟩<|Qaf ?_
          obtain rfl:=osi h
          exact fend ⟨[B false],⟨rot,trivial⟩,rfl⟩ nll
        ·refine wx tbk [(2,rp [(.tmp 26,(B ((x4.2==0))))] (B true)),(6,rp [(.tmp 30,(B ((x6.2.2==0))))] (B true)),(8,rp [(.tmp 31,B true),(.tmp 32,(Qmq x4))] (I ((x4.1.length:Int)))),(11,rp [(.tmp 35,(B (((x4.1.length:Int)==2))))] (B true)),(13,rp [(.tmp 36,B true),(.tmp 37,(Qmq x4)),ci 1] (.dptr (Qas (x10)) 0)),(15,rp [(.tmp 36,B true),ci 2,ci 1] Qj5),(16,rp [(.tmp 36,B true),(.tmp 39,(Qq9 x10)),(.tmp 40,Qj5)] (B ((([x10.Element,x10.Outlet]:List Int)==[2,1])))),(18,rp [(.tmp 42,(B ((([x10.Element,x10.Outlet]:List Int)==[2,1]))))] (B true)),(21,rp [(.tmp 43,B true),(.tmp 45,(Qla x6))] (I ((x6.1.Out.length:Int)))),(24,rp [(.tmp 48,(B (((x6.1.Out.length:Int)==3))))] (B true)),(27,rp [(.tmp 49,B true),(.tmp 51,(Qla x6)),ci 2] (.dptr (Qah (x16)) 0)),(29,rp [(.tmp 49,B true),(.tmp 53,(Qli x16))] (I ((x16.length:Int)))),(32,rp [(.tmp 56,(B (((x16.length:Int)==2))))] (B true)),(35,rp [(.tmp 57,B true),(.tmp 59,(Qwb x6))] (I ((x6.1.Lost.length:Int)))),(38,rp [(.tmp 62,(B (((x6.1.Lost.length:Int)==3))))] (B false))] ⟨asb hb7 (amv rfl),asb hb8 (amv rfl),ag_ (alm (c:=Qas) (l:=x4.1) (aln rfl Tryz.underlying116 rfl)),asb hb9 (amv rfl),ag_ (aid rfl Tryz.underlying116 Qlo rfl rfl hi12 (mgt Qas hj13) rfl),ag_ (Qau (vs:=[I 2,I 1]) rfl Qru Qm2 rfl (by rfl) rfl),ag_ (Qfb (ls:=[x10.Element,x10.Outlet]) (ks:=[2,1]) rfl rfl Qkw (by kernel_rfl) rfl rfl),asb hb14 (amv rfl),ag_ (alm (c:=Qah) (l:=x6.1.Out) (aln rfl Tryz.underlying31 rfl)),asb hb15 (amv rfl),ag_ (aid rfl Tryz.underlying31 ti45 rfl rfl hi18 (mgt Qah hj19) rfl),ag_ (alm (c:=Qaa) (l:=x16) (aln rfl Tryz.underlying45 rfl)),asb hb20 (amv rfl),ag_ (alm (c:=Qay) (l:=x6.1.Lost) (aln rfl Tryz.underlying32 rfl)),asb hb21 (amv rfl),trivial⟩<|Qaf ?_
         obtain rfl:=osi h
         exact fend ⟨[B false],⟨rot,trivial⟩,rfl⟩ nll
       ·refine wx tbk [(2,rp [(.tmp 26,(B ((x4.2==0))))] (B true)),(6,rp [(.tmp 30,(B ((x6.2.2==0))))] (B true)),(8,rp [(.tmp 31,B true),(.tmp 32,(Qmq x4))] (I ((x4.1.length:Int)))),(11,rp [(.tmp 35,(B (((x4.1.length:Int)==2))))] (B true)),(13,rp [(.tmp 36,B true),(.tmp 37,(Qmq x4)),ci 1] (.dptr (Qas (x10)) 0)),(15,rp [(.tmp 36,B true),ci 2,ci 1] Qj5),(16,rp [(.tmp 36,B true),(.tmp 39,(Qq9 x10)),(.tmp 40,Qj5)] (B ((([x10.Element,x10.Outlet]:List Int)==[2,1])))),(18,rp [(.tmp 42,(B ((([x10.Element,x10.Outlet]:List Int)==[2,1]))))] (B true)),(21,rp [(.tmp 43,B true),(.tmp 45,(Qla x6))] (I ((x6.1.Out.length:Int)))),(24,rp [(.tmp 48,(B (((x6.1.Out.length:Int)==3))))] (B true)),(27,rp [(.tmp 49,B true),(.tmp 51,(Qla x6)),ci 2] (.dptr (Qah (x16)) 0)),(29,rp [(.tmp 49,B true),(.tmp 53,(Qli x16))] (I ((x16.length:Int)))),(32,rp [(.tmp 56,(B (((x16.length:Int)==2))))] (B false))] ⟨asb hb7 (amv rfl),asb hb8 (amv rfl),ag_ (alm (c:=Qas) (l:=x4.1) (aln rfl Tryz.underlying116 rfl)),asb hb9 (amv rfl),ag_ (aid rfl Tryz.underlying116 Qlo rfl rfl hi12 (mgt Qas hj13) rfl),ag_ (Qau (vs:=[I 2,I 1]) rfl Qru Qm2 rfl (by rfl) rfl),ag_ (Qfb (ls:=[x10.Element,x10.Outlet]) (ks:=[2,1]) rfl rfl Qkw (by kernel_rfl) rfl rfl),asb hb14 (amv rfl),ag_ (alm (c:=Qah) (l:=x6.1.Out) (aln rfl Tryz.underlying31 rfl)),asb hb15 (amv rfl),ag_ (aid rfl Tryz.underlying31 ti45 rfl rfl hi18 (mgt Qah hj19) rfl),ag_ (alm (c:=Qaa) (l:=x16) (aln rfl Tryz.underlying45 rfl)),asb hb20 (amv rfl),trivial⟩<|Qaf ?_
        obtain rfl:=osi h
        exact fend ⟨[B false],⟨rot,trivial⟩,rfl⟩ nll
      ·refine wx tbk [(2,rp [(.tmp 26,(B ((x4.2==0))))] (B true)),(6,rp [(.tmp 30,(B ((x6.2.2==0))))] (B true)),(8,rp [(.tmp 31,B true),(.tmp 32,(Qmq x4))] (I ((x4.1.length:Int)))),(11,rp [(.tmp 35,(B (((x4.1.length:Int)==2))))] (B true)),(13,rp [(.tmp 36,B true),(.tmp 37,(Qmq x4)),ci 1] (.dptr (Qas (x10)) 0)),(15,rp [(.tmp 36,B true),ci 2,ci 1] Qj5),(16,rp [(.tmp 36,B true),(.tmp 39,(Qq9 x10)),(.tmp 40,Qj5)] (B ((([x10.Element,x10.Outlet]:List Int)==[2,1])))),(18,rp [(.tmp 42,(B ((([x10.Element,x10.Outlet]:List Int)==[2,1]))))] (B true)),(21,rp [(.tmp 43,B true),(.tmp 45,(Qla x6))] (I ((x6.1.Out.length:Int)))),(24,rp [(.tmp 48,(B (((x6.1.Out.length:Int)==3))))] (B false))] ⟨asb hb7 (amv rfl),asb hb8 (amv rfl),ag_ (alm (c:=Qas) (l:=x4.1) (aln rfl Tryz.underlying116 rfl)),asb hb9 (amv rfl),ag_ (aid rfl Tryz.underlying116 Qlo rfl rfl hi12 (mgt Qas hj13) rfl),ag_ (Qau (vs:=[I 2,I 1]) rfl Qru Qm2 rfl (by rfl) rfl),ag_ (Qfb (ls:=[x10.Element,x10.Outlet]) (ks:=[2,1]) rfl rfl Qkw (by kernel_rfl) rfl rfl),asb hb14 (amv rfl),ag_ (alm (c:=Qah) (l:=x6.1.Out) (aln rfl Tryz.underlying31 rfl)),asb hb15 (amv rfl),trivial⟩<|Qaf ?_
       obtain rfl:=osi h
       exact fend ⟨[B false],⟨rot,trivial⟩,rfl⟩ nll
     ·refine wx tbk [(2,rp [(.tmp 26,(B ((x4.2==0))))] (B true)),(6,rp [(.tmp 30,(B ((x6.2.2==0))))] (B true)),(8,rp [(.tmp 31,B true),(.tmp 32,(Qmq x4))] (I ((x4.1.length:Int)))),(11,rp [(.tmp 35,(B (((x4.1.length:Int)==2))))] (B true)),(13,rp [(.tmp 36,B true),(.tmp 37,(Qmq x4)),ci 1] (.dptr (Qas (x10)) 0)),(15,rp [(.tmp 36,B true),ci 2,ci 1] Qj5),(16,rp [(.tmp 36,B true),(.tmp 39,(Qq9 x10)),(.tmp 40,Qj5)] (B ((([x10.Element,x10.Outlet]:List Int)==[2,1])))),(18,rp [(.tmp 42,(B ((([x10.Element,x10.Outlet]:List Int)==[2,1]))))] (B false))] ⟨asb hb7 (amv rfl),asb hb8 (amv rfl),ag_ (alm (c:=Qas) (l:=x4.1) (aln rfl Tryz.underlying116 rfl)),asb hb9 (amv rfl),ag_ (aid rfl Tryz.underlying116 Qlo rfl rfl hi12 (mgt Qas hj13) rfl),ag_ (Qau (vs:=[I 2,I 1]) rfl Qru Qm2 rfl (by rfl) rfl),ag_ (Qfb (ls:=[x10.Element,x10.Outlet]) (ks:=[2,1]) rfl rfl Qkw (by kernel_rfl) rfl rfl),asb hb14 (amv rfl),trivial⟩<|Qaf ?_
      obtain rfl:=osi h
      exact fend ⟨[B false],⟨rot,trivial⟩,rfl⟩ nll
    ·refine wx tbk [(2,rp [(.tmp 26,(B ((x4.2==0))))] (B true)),(6,rp [(.tmp 30,(B ((x6.2.2==0))))] (B true)),(8,rp [(.tmp 31,B true),(.tmp 32,(Qmq x4))] (I ((x4.1.length:Int)))),(11,rp [(.tmp 35,(B (((x4.1.length:Int)==2))))] (B false))] ⟨asb hb7 (amv rfl),asb hb8 (amv rfl),ag_ (alm (c:=Qas) (l:=x4.1) (aln rfl Tryz.underlying116 rfl)),asb hb9 (amv rfl),trivial⟩<|Qaf ?_
     obtain rfl:=osi h
     exact fend ⟨[B false],⟨rot,trivial⟩,rfl⟩ nll
   ·refine wx tbk [(2,rp [(.tmp 26,(B ((x4.2==0))))] (B true)),(6,rp [(.tmp 30,(B ((x6.2.2==0))))] (B false))] ⟨asb hb7 (amv rfl),asb hb8 (amv rfl),trivial⟩<|Qaf ?_
    obtain rfl:=osi h
    exact fend ⟨[B false],⟨rot,trivial⟩,rfl⟩ nll
  ·refine wx tbk [(2,rp [(.tmp 26,(B ((x4.2==0))))] (B false))] ⟨asb hb7 (amv rfl),trivial⟩<|Qaf ?_
   obtain rfl:=osi h
   exact fend ⟨[B false],⟨rot,trivial⟩,rfl⟩ nll
end Go.Proofs.YtmbhnllcfmiajaaGreat
