/-
  The texts X3, X4, PTown, PTownV, PMet, PStk, PMtr of the proof, one behind the other. No conditions.
-/
import Derived.Test.YtflmombnmnblnaaG2
namespace Go.Proofs.Ytflmombnmnblnaa
open _root_.Go.Proofs.Try
open Go.RowKit
set_option maxRecDepth 100000
set_option maxHeartbeats 4000000
set_option synthInstance.maxSize 4000
set_option synthInstance.maxHeartbeats 400000
section
def Qbg (N:Nat) (p0:List Qcf) (k2:Unit→Option Bool):Nat→Int→Option Bool
  |0,_=>none
  |n5+1,y3=>
    bif (decide (y3<(p0.length:Int))) then
     (getI p0 y3).bind fun x7=>
     bif (decide (y3>0)) then
      (Qb8 N x7.Parent 0 (w64 (y3-1))).bind fun x13=>
      bif (!x13) then
       some false
      else
       (Qdb N x7.Loss).bind fun x16=>
       bif (!x16) then
        some false
       else
        (Qdb N x7.Limit).bind fun x19=>
        bif (!x19) then
         some false
        else
         (Qb8 N x7.Rank 0 100).bind fun x22=>
         bif (!x22) then
          some false
         else
          Qbg N p0 k2 n5 (w64 (y3+1))
     else
      (Qdb N x7.Loss).bind fun x25=>
      bif (!x25) then
       some false
      else
       (Qdb N x7.Limit).bind fun x28=>
       bif (!x28) then
        some false
       else
        (Qb8 N x7.Rank 0 100).bind fun x31=>
        bif (!x31) then
         some false
        else
         Qbg N p0 k2 n5 (w64 (y3+1))
    else
     k2 ()
def Qd2 (N:Nat) (p0:List Qcf):Option Bool:=
  Qc4 (fun _=>
    Qc4 (fun _=>
      some true) fun k2:Unit→Option Bool=>
    Qbg N p0 k2 N 0) fun k1:Unit→Option Bool=>
  (Qb8 N (p0.length:Int) 1 30).bind fun x34=>
  bif (!x34) then
   some false
  else
   (getI p0 0).bind fun x36=>
   bif (x36.Parent != (-1)) then
    some false
   else
    bif (x36.Loss != 0) then
     some false
    else
     bif (x36.Limit != 0) then
      some false
     else
      k1 ()
def Qhq (p0:List Qcf):AV:=.dat 4 (p0.map Qa5)
def Qoi (y3:Int) (x7:Qcf) (x13:Bool):List (Nat×Rec):=[(2,rp [((.tmp 38),(B ((decide (y3>0)))))] (B true)),(7,rp [((.tmp 39),(B true)),fu 64,((.tmp 41),(I x7.Parent)),ci 0,((.tmp 43),(I (w64 (y3-1))))] (B x13))]
def Qoh y3 x7 x13 (x16:Bool):=hcat (Qoi y3 x7 x13) [(10,rp [((.tmp 46),(B ((!x13))))] (B false)),(13,rp [((.tmp 47),(B false)),fu 97,((.tmp 49),(I x7.Loss))] (B x16))]
def Qog y3 x7 x13 x16 (x19:Bool):=hcat (Qoh y3 x7 x13 x16) [(16,rp [((.tmp 52),(B ((!x16))))] (B false)),(19,rp [((.tmp 53),(B false)),fu 97,((.tmp 55),(I x7.Limit))] (B x19))]
def Qof (y3:Int) (x7:Qcf) (x25:Bool):List (Nat×Rec):=[(2,rp [((.tmp 38),(B ((decide (y3>0)))))] (B false)),(13,rp [((.tmp 47),(B false)),fu 97,((.tmp 49),(I x7.Loss))] (B x25))]
def Qoe y3 x7 x25 (x28:Bool):=hcat (Qof y3 x7 x25) [(16,rp [((.tmp 52),(B ((!x25))))] (B false)),(19,rp [((.tmp 53),(B false)),fu 97,((.tmp 55),(I x7.Limit))] (B x28))]
def Qod (p0:List Qcf) (x34:Bool):List (Nat×Rec):=[(1,rp [((.tmp 5),(Qhq p0))] (I ((p0.length:Int)))),(2,rp [fu 64,((.tmp 6),(I ((p0.length:Int)))),ci 1,ci 30] (B x34))]
def Qoc p0 x34 (x36:Qcf):=hcat (Qod p0 x34) [(4,rp [((.tmp 8),(B ((!x34))))] (B false)),(6,rp [((.tmp 9),(B false)),((.tmp 10),(Qhq p0)),ci 0] (.dptr (Qa5 x36) 0))]
def Qob p0 x34 x36:=hcat (Qoc p0 x34 x36) [(11,rp [((.tmp 15),(B ((x36.Parent != (-1)))))] (B false)),(13,rp [((.tmp 16),(B false)),((.tmp 17),(Qhq p0)),ci 0] (.dptr (Qa5 x36) 0))]
theorem Qf4 (N:Nat) (p0:List Qcf) (r:Bool) (h:Qd2 N p0=some r):Spec prog 156 [(.dat 4 (p0.map Qa5))] [] (B r) []:=by
  refine sA func156 0 fun _ _ _ hq hd0=>?_
  unfold Qd2 at h
  refine wxz ?_
  obtain⟨k1,hk_k1,h⟩:=jko h
  refine wjn (τ:=Unit) (fun t=>k1 t=some r) (fun _=>⟨mk 66 [(0,(Qhq p0))],[]⟩) (fun t h=>?_) ?_
  ·subst hk_k1
   obtain⟨k2,hk_k2,h⟩:=jko h
   refine wjn (τ:=Unit) (fun t=>k2 t=some r) (fun _=>⟨mk 66 [],[]⟩) (fun t h=>?_) ?_
   ·subst hk_k2
    exact wxz<|Qad<|frb h
   ·skip
    refine wx tbk [(1,rp _ _)] ⟨alq 4 Qa5 p0 underlying129,tv⟩<|Qao ?_
    refine wmr (mto (n:=66) (l':=[(30,(Qhq p0)),(31,(I ((p0.length:Int)))),(32,I 0)]) (own':=[]) [(30,(Qhq p0)),(31,(I ((p0.length:Int)))),(32,I 0)] [] [] hq (pc (rnd Qbu) (pw (pw pn))) qn) ?_
    refine Qdq (τ:=Int) (fun n t=>Qbg N p0 k2 n t=some r) (fun y3=>⟨mk 66 [(30,(Qhq p0)),(31,(I ((p0.length:Int)))),(32,I y3)],[]⟩) (fun t h=>by rw[Qbg] at h;cases h) (fun n5 ih y3 h=>?_) N (0) h
    rw[Qbg] at h
    skip
    refine wxz<|wsq ?_
    refine bfe h (fun hc6 h=>?_) fun hc6 h=>?_
    ·refine wft hc6<|Qai<|thn<|wsq<|Qao ?_
     obtain⟨x7,hg8,h⟩:=bno h
     obtain⟨hi9,hj10⟩:=gsm hg8
     refine wx tbk [(1,rp _ _)] ⟨aiq underlying129 Qg5 Qa5 hi9 hj10,tv⟩ ?_
     refine bfe h (fun hb11 h=>?_) fun hb11 h=>?_
     ·obtain⟨x13,hf12,h⟩:=bno h
      refine hpre (A:=(Qoi y3 x7 x13)) ⟨asb hb11 (amv rfl),ag_ (apv Qhb (Qci N x7.Parent 0 (w64 (y3-1)) _ hf12) (nlcc (nlc nll nl0)) nll),tv⟩ fun q1_=>?_
      refine bfe h (fun hb14 h=>?_) fun hb14 h=>?_
      ·exact wx tbk (hcat (Qoi y3 x7 x13) [(10,rp [(.tmp 46,(B ((!x13))))] (B true))]) (hap q1_ ⟨asb hb14 (amv rfl),tv⟩)<|wtr<|wxz<|Qad<|Qae<|Qac<|Qac<|Qae<|Qac<|frb h
      ·obtain⟨x16,hf15,h⟩:=bno h
       refine hpre (A:=(Qoh y3 x7 x13 x16)) (hap q1_ ⟨asb hb14 (amv rfl),ag_ (apv Qha (Qdg N x7.Loss _ hf15) (nlc nll nl0) nll),tv⟩) fun q2_=>?_
       refine bfe h (fun hb17 h=>?_) fun hb17 h=>?_
       ·exact wx tbk (hcat (Qoh y3 x7 x13 x16) [(16,rp [(.tmp 52,(B ((!x16))))] (B true))]) (hap q2_ ⟨asb hb17 (amv rfl),tv⟩)<|wtr<|wxz<|Qad<|Qae<|Qac<|Qac<|Qae<|Qac<|frb h
       ·obtain⟨x19,hf18,h⟩:=bno h
        refine hpre (A:=(Qog y3 x7 x13 x16 x19)) (hap q2_ ⟨asb hb17 (amv rfl),ag_ (apv Qha (Qdg N x7.Limit _ hf18) (nlc nll nl0) nll),tv⟩) fun q3_=>?_
        refine bfe h (fun hb20 h=>?_) fun hb20 h=>?_
        ·exact wx tbk (hcat (Qog y3 x7 x13 x16 x19) [(22,rp [(.tmp 58,(B ((!x19))))] (B true))]) (hap q3_ ⟨asb hb20 (amv rfl),tv⟩)<|wtr<|wxz<|Qad<|Qae<|Qac<|Qac<|Qae<|Qac<|frb h
        ·obtain⟨x22,hf21,h⟩:=bno h
         refine wx tbk (hcat (Qog y3 x7 x13 x16 x19) [(22,rp [(.tmp 58,(B ((!x19))))] (B false)),(25,rp [(.tmp 59,B false),fu 64,(.tmp 61,I x7.Rank),ci 0,ci 100] (B x22))]) (hap q3_ ⟨asb hb20 (amv rfl),ag_ (apv Qhb (Qci N x7.Rank 0 100 _ hf21) (nlcc (nlc nll nl0)) nll),tv⟩) ?_
         refine bfe h (fun hc23 h=>?_) fun hc23 h=>?_
         ·exact wft hc23<|wxz<|Qad<|Qae<|Qac<|Qac<|Qae<|Qac<|frb h
         ·exact wfn hc23<|Qai<|bln<|thn<|wxz1<|thn<|arm (mto (n:=66) [(30,(Qhq p0)),(31,(I ((p0.length:Int)))),(32,(I (w64 (y3+1))))] [] [] hq (pc (rnd Qbu) (pw (pw pn))) qn) (ih (w64 (y3+1)) h)
     ·obtain⟨x25,hf24,h⟩:=bno h
      refine hpre (A:=(Qof y3 x7 x25)) ⟨asb hb11 (amv rfl),ag_ (apv Qha (Qdg N x7.Loss _ hf24) (nlc nll nl0) nll),tv⟩ fun q4_=>?_
      refine bfe h (fun hb26 h=>?_) fun hb26 h=>?_
      ·exact wx tbk (hcat (Qof y3 x7 x25) [(16,rp [(.tmp 52,(B ((!x25))))] (B true))]) (hap q4_ ⟨asb hb26 (amv rfl),tv⟩)<|wtr<|wxz<|Qad<|Qae<|Qac<|Qac<|Qae<|Qac<|frb h
      ·obtain⟨x28,hf27,h⟩:=bno h
       refine hpre (A:=(Qoe y3 x7 x25 x28)) (hap q4_ ⟨asb hb26 (amv rfl),ag_ (apv Qha (Qdg N x7.Limit _ hf27) (nlc nll nl0) nll),tv⟩) fun q5_=>?_
       refine bfe h (fun hb29 h=>?_) fun hb29 h=>?_
       ·exact wx tbk (hcat (Qoe y3 x7 x25 x28) [(22,rp [(.tmp 58,(B ((!x28))))] (B true))]) (hap q5_ ⟨asb hb29 (amv rfl),tv⟩)<|wtr<|wxz<|Qad<|Qae<|Qac<|Qac<|Qae<|Qac<|frb h
       ·obtain⟨x31,hf30,h⟩:=bno h
        refine wx tbk (hcat (Qoe y3 x7 x25 x28) [(22,rp [(.tmp 58,(B ((!x28))))] (B false)),(25,rp [(.tmp 59,B false),fu 64,(.tmp 61,I x7.Rank),ci 0,ci 100] (B x31))]) (hap q5_ ⟨asb hb29 (amv rfl),ag_ (apv Qhb (Qci N x7.Rank 0 100 _ hf30) (nlcc (nlc nll nl0)) nll),tv⟩) ?_
        refine bfe h (fun hc32 h=>?_) fun hc32 h=>?_
        ·exact wft hc32<|wxz<|Qad<|Qae<|Qac<|Qac<|Qae<|Qac<|frb h
        ·exact wfn hc32<|Qai<|bln<|thn<|wxz1<|thn<|arm (mto (n:=66) [(30,(Qhq p0)),(31,(I ((p0.length:Int)))),(32,(I (w64 (y3+1))))] [] [] hq (pc (rnd Qbu) (pw (pw pn))) qn) (ih (w64 (y3+1)) h)
    ·exact wfn hc6<|Qcs<|Qbp<|Qbp<|Qcr rfl<|thn<|⟨(),h,(mto (n:=66) [] [] [] hq pn qn)⟩
  ·skip
   obtain⟨x34,hf33,h⟩:=bno h
   refine hpre (A:=(Qod p0 x34)) ⟨alq 4 Qa5 p0 underlying129,apv Qhb (Qci N (p0.length:Int) 1 30 _ hf33) (nlcc (nlc nll nl0)) nll,tv⟩ fun q6_=>?_
   refine bfe h (fun hb35 h=>?_) fun hb35 h=>?_
   ·exact wx tbk (hcat (Qod p0 x34) [(4,rp [(.tmp 8,(B ((!x34))))] (B true))]) (hap q6_ ⟨asb hb35 (amv rfl),tv⟩)<|wtr<|wxz<|Qad<|Qac<|frb h
   ·obtain⟨x36,hg37,h⟩:=bno h
    obtain⟨hi38,hj39⟩:=gsm hg37
    refine hpre (A:=(Qoc p0 x34 x36)) (hap q6_ ⟨asb hb35 (amv rfl),ag_ (aiq underlying129 Qg5 Qa5 hi38 hj39),tv⟩) fun q7_=>?_
    refine bfe h (fun hb40 h=>?_) fun hb40 h=>?_
    ·exact wx tbk (hcat (Qoc p0 x34 x36) [(11,rp [(.tmp 15,(B ((x36.Parent != (-1)))))] (B true))]) (hap q7_ ⟨asb hb40 (amv rfl),tv⟩)<|wtr<|wxz<|Qad<|Qac<|frb h
    ·refine hpre (A:=(Qob p0 x34 x36)) (hap q7_ ⟨asb hb40 (amv rfl),ag_ (aiq underlying129 Qg5 Qa5 hi38 hj39),tv⟩) fun q8_=>?_
     refine bfe h (fun hb41 h=>?_) fun hb41 h=>?_
     ·exact wx tbk (hcat (Qob p0 x34 x36) [(18,rp [(.tmp 22,(B ((x36.Loss != 0))))] (B true))]) (hap q8_ ⟨asb hb41 (amv rfl),tv⟩)<|wtr<|wxz<|Qad<|Qac<|frb h
     ·refine wx tbk (hcat (Qob p0 x34 x36) [(18,rp [(.tmp 22,(B ((x36.Loss != 0))))] (B false)),(20,rp [(.tmp 23,B false),(.tmp 24,(Qhq p0)),ci 0] (.dptr (Qa5 x36) 0))]) (hap q8_ ⟨asb hb41 (amv rfl),ag_ (aiq underlying129 Qg5 Qa5 hi38 hj39),tv⟩) ?_
      refine bfe h (fun hc42 h=>?_) fun hc42 h=>?_
      ·exact wft hc42<|wxz<|Qad<|Qac<|frb h
      ·exact wfn hc42<|Qai<|thn<|⟨(),h,(mto (n:=66) [(0,(Qhq p0))] [] [] hq (pc (rnd Qbu) pn) qn)⟩
def Qdr (N:Nat) (p0:Int):Option Bool:=
  (Qdb N p0).bind fun x3=>
  some (!x3)
abbrev Qqa:Slot:=.own 1 [[(.fn (.func 97) [] [])]]
theorem Qfv (N:Nat) (p0:Int) (r:Bool) (h:Qdr N p0=some r):Spec prog 207 [(I p0),(.ref 0 1 (0) 0)] [Qqa] (B r) [Qqa]:=by
  refine sF func207 1 fun _ _ _ hq hd0=>?_
  unfold Qdr at h
  refine wxz ?_
  obtain⟨x3,hf2,h⟩:=bno h
  refine wx tbk [(2,rp _ _)] ⟨apw Qha (Qdg N p0 _ hf2),tv⟩ ?_
  refine wmr (mto (n:=8) (l':=[(3,(B ((!x3))))]) (own':=[Qqa]) [(3,(B ((!x3))))] [0] [Qqa] hq (pw pn) (qb (lc (.rn (Qct rn0 rn0)) ln) qn))<|Qad ?_
  obtain rfl:=osi h
  exact⟨_,Mor.rfl,fio [(B ((!x3)))] ⟨rot,tv⟩⟩
def Qav (N:Nat) (p0:List Int) (k2:Unit→Option Int):Nat→Int→Option Int
  |0,_=>none
  |n5+1,y3=>
    bif (decide (y3<(p0.length:Int))) then
     (getI p0 y3).bind fun x7=>
     (Qdr N x7).bind fun x12=>
     bif x12 then
      some y3
     else
      Qav N p0 k2 n5 (w64 (y3+1))
    else
     k2 ()
def Qca (N:Nat) (p0:List Int):Option Int:=
  Qc4 (fun _=>
    some (-1)) fun k2:Unit→Option Int=>
  Qav N p0 k2 N 0
abbrev Qoa:AV:=.fn (.func 207) [] [(.ref 0 1 (0) 0)]
abbrev Qgf:Slot:=.own 1 [[(.fn (.func 97) [] [])]]
theorem Qdw (N:Nat) (p0:List Int) (r:Int) (h:Qca N p0=some r):Spec prog 48 [(.dat 1 (p0.map Qab)),Qoa] [Qgf] (I r) [Qgf]:=by
  refine sF func48 1 fun _ _ _ hq hd0=>?_
  unfold Qca at h
  refine wxz ?_
  obtain⟨k2,hk_k2,h⟩:=jko h
  refine wjn (τ:=Unit) (fun t=>k2 t=some r) (fun _=>⟨mk 19 [],[Qgf]⟩) (fun t h=>?_) ?_
  ·subst hk_k2
   refine wxz<|wmr (mto (n:=19) (l':=[(4,(I ((-1))))]) (own':=[Qgf]) [(4,(I ((-1))))] [0] [Qgf] hq (pw pn) (qb (lc (.rn (Qct rn0 rn0)) ln) qn))<|Qad ?_
   obtain rfl:=osi h
   exact⟨_,Mor.rfl,fio [(I ((-1)))] ⟨rot,tv⟩⟩
  ·skip
   refine wx tbk [(1,rp _ _)] ⟨alq 1 Qab p0 underlying22,tv⟩<|Qao ?_
   refine wmr (mto (n:=19) (l':=[(0,(.dat 1 (p0.map Qab))),(1,Qoa),(7,(I ((p0.length:Int)))),(8,I 0)]) (own':=[Qgf]) [(0,(.dat 1 (p0.map Qab))),(1,Qoa),(7,(I ((p0.length:Int)))),(8,I 0)] [0] [Qgf] hq (pc (rnd Qah) (pc (.rn (Qct rn0 (rnc (rqr rfl) rn0))) (pw (pw pn)))) (qb (lc (.rn (Qct rn0 rn0)) ln) qn)) ?_
   refine Qdq (τ:=Int) (fun n t=>Qav N p0 k2 n t=some r) (fun y3=>⟨mk 19 [(0,(.dat 1 (p0.map Qab))),(1,Qoa),(7,(I ((p0.length:Int)))),(8,I y3)],[Qgf]⟩) (fun t h=>by rw[Qav] at h;cases h) (fun n5 ih y3 h=>?_) N (0) h
   rw[Qav] at h
   skip
   refine wxz<|wsq ?_
   refine bfe h (fun hc6 h=>?_) fun hc6 h=>?_
   ·refine wft hc6<|Qai<|thn<|wsq<|Qao<|wxz ?_
    obtain⟨x7,hg8,h⟩:=bno h
    obtain⟨hi9,hj10⟩:=gsm hg8
    obtain⟨x12,hf11,h⟩:=bno h
    refine wx tbk [(3,rp _ _),(5,⟨_,_,_,_,false⟩)] ⟨aiq underlying22 ti3 Qab hi9 hj10,Qc6 (first:=[]) (cap:=[.ref 0 1 0 0]) (vs:=[I x7]) (σr:=[Qgf]) (σr':=[Qgf]) (res':=(B x12)) [0] rfl Qq8 (Qfv N x7 _ hf11) rfl (Qdc (rnc (.plain _ nll) (rnc (Qck rfl) rn0))) (slc (Qa1 (rnc (.plain _ (NLt.fn _ _ _ nl0 nl0)) rn0)) Qa0) (slc (Qa1 (rnc (.plain _ (NLt.fn _ _ _ nl0 nl0)) rn0)) Qa0) (.plain _ nll) rfl rfl rfl,tv⟩ ?_
    refine bfe h (fun hc13 h=>?_) fun hc13 h=>?_
    ·refine wft hc13<|wxz ?_
     refine wmr (mto (n:=19) (l':=[(4,I y3)]) (own':=[Qgf]) [(4,I y3)] [0] [Qgf] hq (pw pn) (qb (lc (.rn (Qct rn0 rn0)) ln) qn))<|Qad<|Qae<|Qac<|Qac<|Qae<|Qac ?_
     obtain rfl:=osi h
     exact⟨_,Mor.rfl,fio [I y3] ⟨rot,tv⟩⟩
    ·exact wfn hc13<|Qai<|bln<|thn<|wxz1<|thn<|arm (mto (n:=19) [(0,(.dat 1 (p0.map Qab))),(1,Qoa),(7,(I ((p0.length:Int)))),(8,(I (w64 (y3+1))))] [0] [Qgf] hq (pc (rnd Qah) (pc (.rn (Qct rn0 (rnc (rqr rfl) rn0))) (pw (pw pn)))) (qb (lc (.rn (Qct rn0 rn0)) ln) qn)) (ih (w64 (y3+1)) h)
   ·exact wfn hc6<|Qcs<|Qbp<|Qbp<|Qcr rfl<|thn<|⟨(),h,(mto (n:=19) [] [0] [Qgf] hq pn (qb (lc (.rn (Qct rn0 rn0)) ln) qn))⟩
def Qb5 (N:Nat) (p0:List Int):Option Bool:=
  (Qca N p0).bind fun x3=>
  some (decide (x3≥0))
abbrev Quq:AV:=.fn (.func 207) [] [(.ref 0 1 (0) 0)]
abbrev Qm6:Slot:=.own 1 [[(.fn (.func 97) [] [])]]
theorem Qdl (N:Nat) (p0:List Int) (r:Bool) (h:Qb5 N p0=some r):Spec prog 117 [(.dat 1 (p0.map Qab)),Quq] [Qm6] (B r) [Qm6]:=by
  refine sF func117 1 fun _ _ _ hq hd0=>?_
  unfold Qb5 at h
  refine wxz ?_
  obtain⟨x3,hf2,h⟩:=bno h
  refine wx tbk [(2,⟨_,_,_,_,false⟩)] ⟨acq [(.dat 1 (p0.map Qab)),Quq] [Qm6] [Qm6] (I x3) [0] Ql0 (Qdw N p0 _ hf2) (Qdc (rnc (pld Qah) (rnc (Qct rn0 (rnc (Qck rfl) rn0)) rn0))) (slc (Qa1 (rnc (.plain _ (NLt.fn _ _ _ nl0 nl0)) rn0)) Qa0) (slc (Qa1 (rnc (.plain _ (NLt.fn _ _ _ nl0 nl0)) rn0)) Qa0) (.plain _ nll),tv⟩ ?_
  refine wmr (mto (n:=9) (l':=[(4,(B ((decide (x3≥0)))))]) (own':=[Qm6]) [(4,(B ((decide (x3≥0)))))] [0] [Qm6] hq (pw pn) (qb (lc (.rn (Qct rn0 rn0)) ln) qn))<|Qad ?_
  obtain rfl:=osi h
  exact⟨_,Mor.rfl,fio [(B ((decide (x3≥0))))] ⟨rot,tv⟩⟩
def Qed (N:Nat) (p0:List Int):Option Bool:=
  (Qb5 N p0).bind fun x2=>
  some (!x2)
def Qur:AV:=.fn (.func 207) [] [(.ref 0 1 (0) 0)]
def Qus:Slot:=.own 1 [[(.fn (.func 97) [] [])]]
theorem Qgm (N:Nat) (p0:List Int) (r:Bool) (h:Qed N p0=some r):Spec prog 157 [(.dat 1 (p0.map Qab)),(.fn (.func 97) [] [])] [] (B r) []:=by
  refine sA func157 0 fun _ _ _ hq hd0=>?_
  unfold Qed at h
  refine wxz ?_
  obtain⟨x2,hf1,h⟩:=bno h
  refine wx tbk [(1,rp [(.tmp 3,.ref 0 1 0 0)] Qur),(2,⟨_,_,_,_,false⟩)] ⟨Qcw (fs:=[]) (cs:=[.ref 0 1 0 0]) rfl rfl rfl rfl,acq [(.dat 1 (p0.map Qab)),Qur] [Qus] [Qus] (B x2) [0] Qmu (Qdl N p0 _ hf1) (Qdc (rnc (pld Qah) (rnc (Qct rn0 (rnc (Qck rfl) rn0)) rn0))) (slc (Qa1 (rnc (.plain _ (NLt.fn _ _ _ nl0 nl0)) rn0)) Qa0) (slc (Qa1 (rnc (.plain _ (NLt.fn _ _ _ nl0 nl0)) rn0)) Qa0) (.plain _ nll),tv⟩<|Qad ?_
  obtain rfl:=osi h
  exact fend ⟨[(B ((!x2)))],⟨rot,tv⟩,rfl⟩ nll
def Qg3 (N:Nat) (p0:List Qcf) (p1:List Int):Option Int:=
  (Qd2 N p0).bind fun x2=>
  bif (!x2) then
   some 1
  else
   bif ((p1.length:Int) != (p0.length:Int)) then
    some 2
   else
    (Qed N p1).bind fun x6=>
    bif (!x6) then
     some 2
    else
     some 0
def Qsl (p1:List Int) (p0:List Qcf):List (Nat×Rec):=[(1,rp [((.tmp 10),(.dat 1 (p1.map Qab)))] (I ((p1.length:Int)))),(3,rp [((.tmp 12),(.dat 4 (p0.map Qa5)))] (I ((p0.length:Int))))]
theorem Qjd (N:Nat) (p0:List Qcf) (p1:List Int) (r:Int) (h:Qg3 N p0 p1=some r):Spec prog 94 [(.dat 4 (p0.map Qa5)),(.dat 1 (p1.map Qab))] [] (I r) []:=by
  refine sA func94 0 fun _ _ _ hq hd0=>?_
  unfold Qg3 at h
  refine wxz<|wsq<|Qao ?_
  obtain⟨x2,hf1,h⟩:=bno h
  refine wx tbk [(1,rp _ _)] ⟨apw Qrj (Qf4 N p0 _ hf1),tv⟩ ?_
  refine bfe h (fun hc3 h=>?_) fun hc3 h=>?_
  ·refine wft hc3<|wxz<|Qad<|Qae<|Qac ?_
   obtain rfl:=osi h
   exact fend ⟨[I 1],⟨rot,tv⟩,rfl⟩ nll
  ·refine wfn hc3<|hpre (A:=(Qsl p1 p0)) ⟨alq 1 Qab p1 underlying22,alq 4 Qa5 p0 underlying129,tv⟩ fun q1_=>?_
   refine bfe h (fun hb4 h=>?_) fun hb4 h=>?_
   ·refine wx tbk (hcat (Qsl p1 p0) [(5,rp [(.tmp 14,(B (((p1.length:Int) != (p0.length:Int)))))] (B true))]) (hap q1_ ⟨asb hb4 (amv rfl),tv⟩)<|wtr<|wxz<|Qad<|Qae<|Qac ?_
    obtain rfl:=osi h
    exact fend ⟨[I 2],⟨rot,tv⟩,rfl⟩ nll
   ·obtain⟨x6,hf5,h⟩:=bno h
    refine wx tbk (hcat (Qsl p1 p0) [(5,rp [(.tmp 14,(B (((p1.length:Int) != (p0.length:Int)))))] (B false)),(7,rp [(.tmp 15,B false),fu 157,(.tmp 16,(.dat 1 (p1.map Qab))),fu 97] (B x6))]) (hap q1_ ⟨asb hb4 (amv rfl),ag_ (acq [(.dat 1 (p1.map Qab)),(.fn (.func 97) [] [])] [] [] (B x6) [] Qri (Qgm N p1 _ hf5) (Qdc (rnc (pld Qah) (rnc (.plain _ (NLt.fn _ _ _ nl0 nl0)) rn0))) Qa0 Qa0 (.plain _ nll)),tv⟩) ?_
    refine bfe h (fun hc7 h=>?_) fun hc7 h=>?_
    ·refine wft hc7<|wxz<|Qad<|Qae<|Qac ?_
     obtain rfl:=osi h
     exact fend ⟨[I 2],⟨rot,tv⟩,rfl⟩ nll
    ·refine wfn hc7<|Qai<|bln<|thn<|wxz<|Qad ?_
     obtain rfl:=osi h
     exact fend ⟨[I 0],⟨rot,tv⟩,rfl⟩ nll
def Qcq (_N:Nat) (p0:List Int):Option Unit:=
  chk (!p0.isEmpty)<|
  chk (!p0.isEmpty)<|
  chk (decide ((0+p0.length)*8≤140737488355328))<|
  some ()
def Qun:AV:=.acc 0 3 1 ((([]:List Int):List Int).map Qab)
theorem Qek (N:Nat) (p0:List Int) (r:Unit) (h:Qcq N p0=some r):Spec prog 158 [(.dat 1 (p0.map Qab))] [] (.own 0 1 (0) p0.length) [(.own 1 (p0.map Qab))]:=by
  refine sF func158 1 fun _ _ _ hq hd0=>?_
  unfold Qcq at h
  refine wxz<|wsq ?_
  obtain⟨hz1,h⟩:=cko h
  refine wx tbk [(1,rp [(.tmp 3,(.dat 1 (p0.map Qab))),((.const (.slice none 0 0)),nilS)] (B false))] ⟨Ql9 rfl underlying22 rfl (Qh2 hz1),tv⟩<|wfa<|Qai<|thn ?_
  obtain⟨ha3,h⟩:=cko h
  obtain⟨ha2,h⟩:=cko h
  refine wx tbk [(0,⟨[],[(0,.unused)],Qun,[(0,.tok)],false⟩),(2,⟨[(.tmp 5,Qun),(.tmp 6,(.dat 1 (p0.map Qab)))],[(0,.tok),(1,.unused)],(.own 1 1 (0) p0.length),[(0,.dead),(1,(.own 1 (p0.map Qab)))],false⟩)] ⟨Qe9 rfl underlying22 ti3 tz3,Qnz rfl underlying22 te3 (Base.acc _ _) rfl rfl (Qh2 ha3) (Qjj Qab Qlx _) (Qr1 Qab ha2) (Qr0 Qab ha2 (by decide)) (List.length_map _),tv⟩ ?_
  refine wmr (mto (n:=8) (l':=[(2,(.own 0 1 (0) p0.length))]) (own':=[(.own 1 (p0.map Qab))]) [(2,(.own 1 1 (0) p0.length))] [1] [(.own 1 (p0.map Qab))] hq (pc (.rn (Qef rfl)) pn) (qc (spr Qah) qn))<|Qad ?_
  obtain rfl:=osi h
  exact⟨_,Mor.rfl,fio [(.own 0 1 (0) p0.length)] ⟨rot,tv⟩⟩
def Qbe (_N:Nat) (_p0:List Qcf):Option Unit:=
  some ()
abbrev Qn9:AV:=.fn (.func 208) [] [(.ref 0 1 (0) 0)]
theorem Qcy (N:Nat) (p0:List Qcf) (r:Unit) (h:Qbe N p0=some r):Spec prog 160 [(.dat 4 (p0.map Qa5))] [] Qn9 [(.own 1 [[(.dat 4 (p0.map Qa5))]])]:=by
  refine sF func160 1 fun _ _ _ hq hd0=>?_
  unfold Qbe at h
  refine wxz<|wx tbk [(0,rp [(.tmp 1,.ref 0 1 0 0)] Qn9)] ⟨Qcw (fs:=[]) (cs:=[.ref 0 1 0 0]) rfl rfl rfl rfl,tv⟩ ?_
  refine wmr (mto (n:=4) (l':=[(2,Qn9)]) (own':=[(.own 1 [[(.dat 4 (p0.map Qa5))]])]) [(2,Qn9)] [0] [(.own 1 [[(.dat 4 (p0.map Qa5))]])] hq (pc (.rn (Qct rn0 (rnc (rqr rfl) rn0))) pn) (qb (lc (rnd Qbu) ln) qn))<|Qad ?_
  obtain rfl:=osi h
  exact⟨_,Mor.rfl,fio [Qn9] ⟨rot,tv⟩⟩
def Qal (N:Nat) (p0:List Qcf):Nat→Int→Option (List (Int×Qcf))
  |0,_=>none
  |n7+1,y3=>
    bif (decide (y3≥0)) then
     (getI p0 y3).bind fun x9=>
     yld (y3,x9)<|
     Qal N p0 n7 (w64 (y3-1))
    else
     some ([])
def Qbd (N:Nat) (p0:List Qcf):Option (List (Int×Qcf)):=
  (some (w64 ((p0.length:Int)-1))).bind fun x1=>
  Qal N p0 N x1
abbrev Qhp (p0:List Qcf):AV:=.dat 4 (p0.map Qa5)
def Qp8 (x9:Qcf):AV:=.agg [(I x9.Parent),(I x9.Loss),(I x9.Limit),(I x9.Rank)]
theorem Qcx (N:Nat) (p0:List Qcf) (r:(List (Int×Qcf))) (h:Qbd N p0=some r):Qj2 prog 208 [(.ref 0 1 (0) 0)] [(.own 1 [[(Qhp p0)]])] (fun x=>[(.int .i64 x.1),(.agg #[(.int .i64 x.2.Parent),(.int .i64 x.2.Loss),(.int .i64 x.2.Limit),(.int .i64 x.2.Rank)])]) r:=by
  refine Qne func208 rfl rfl (fun X φ0 w0 l J hq hy=>?_)
  unfold Qbd at h
  obtain⟨x1,hl2,h⟩:=bno h
  refine wx tbk [(1,rp _ _),(3,rp [(.tmp 6,(I (w64 ((p0.length:Int)-1))))] (I x1))] ⟨alq 4 Qa5 p0 underlying129,Qjy hl2 (aas rfl),tv⟩<|Qao ?_
  refine wmr (mto (n:=19) (l':=[(0,(.lit (.func (.yield l) #[] #[]))),(1,.ref 0 1 0 0),(3,I x1)]) (own':=[(.own 1 [[(Qhp p0)]]),(.far (J (some r)))]) [(0,(.lit (.func (.yield l) #[] #[]))),(1,.ref 0 1 0 0),(3,I x1)] [0,1] [(.own 1 [[(Qhp p0)]]),(.far (J (some r)))] hq (pw (prr (pw pn))) (qb (lc (rnd Qbu) ln) (qc (.far _) qn))) ?_
  refine Qdq (τ:=(Int)×List (Int×Qcf)) (fun n t=>Qal N p0 n t.1=some t.2) (fun ⟨y3,q4⟩=>⟨mk 19 [(0,(.lit (.func (.yield l) #[] #[]))),(1,.ref 0 1 0 0),(3,I y3)],[(.own 1 [[(Qhp p0)]]),(.far (J (some q4)))]⟩) (fun t h=>by rw[Qal] at h;cases h) (fun n7 ih t h=>?_) N ((x1),r) h
  obtain⟨y3,q4⟩:=t
  rw[Qal] at h
  try dsimp only at h
  refine wsq<|wxz ?_
  refine bfe h (fun hc8 h=>?_) fun hc8 h=>?_
  ·refine wft hc8<|Qai<|thn<|wsq<|Qao ?_
   obtain⟨x9,hg10,h⟩:=bno h
   obtain⟨hi11,hj12⟩:=gsm hg10
   obtain⟨q13,hy_,hq_⟩:=Qs2 h
   clear h
   subst hq_
   have h:=hy_
   clear hy_
   refine Qru 6 [mv 0 (.lit (.func (.yield l) #[] #[])),mv 3 (I y3),rb [(.tmp 1,.ref 0 1 0 0)] [(0,(.own 1 [[(Qhp p0)]]))] (Qhp p0),mv 3 (I y3),rp [(.tmp 13,(Qhp p0)),(.tmp 14,I y3)] (.dptr (Qa5 x9) 0),rp [(.tmp 15,(.dptr (Qa5 x9) 0))] (Qp8 x9),⟨[(.tmp 11,(.lit (.func (.yield l) #[] #[]))),(.tmp 12,I y3),(.tmp 16,(Qp8 x9))],[(1,(.far (J (some ((y3,x9)::q13)))))],B true,[(1,(.far (J (some q13))))],false⟩,rp [(.tmp 17,B true)] (B false)] [mv 0 (.lit (.func (.yield l) #[] #[])),mv 3 (I y3),rb [(.tmp 1,.ref 0 1 0 0)] [(0,(.own 1 [[(Qhp p0)]]))] (Qhp p0),mv 3 (I y3),rp [(.tmp 13,(Qhp p0)),(.tmp 14,I y3)] (.dptr (Qa5 x9) 0),rp [(.tmp 15,(.dptr (Qa5 x9) 0))] (Qp8 x9),⟨[(.tmp 11,(.lit (.func (.yield l) #[] #[]))),(.tmp 12,I y3),(.tmp 16,(Qp8 x9))],[(1,(.far (J (some ((y3,x9)::q13)))))],B false,[(1,(.far (J none)))],false⟩,rp [(.tmp 17,B false)] (B true)] (by exact⟨by kernel_rfl,by kernel_rfl⟩) (by exact⟨by kernel_rfl,by kernel_rfl⟩) rfl rfl rfl rfl (Qmc (rd':=(.tmp 11,.lit (.func (.yield l) #[] #[]))::[(.tmp 12,.lit (.int .i64 y3)),(.tmp 16,.lit (.agg #[(.int .i64 x9.Parent),(.int .i64 x9.Loss),(.int .i64 x9.Limit),(.int .i64 x9.Rank)]))]) ⟨rfl,lrf,rfl,lrf,rfl,(Less.lits [(.int .i64 x9.Parent),(.int .i64 x9.Loss),(.int .i64 x9.Limit),(.int .i64 x9.Rank)]),tv⟩ (Qk2 (x:=(y3,x9)) (rest:=q13) rfl rfl hy rfl)) (⟨fun _ _=>amv rfl,fun _ _=>amv rfl,fun _ _=>ald rfl Qs6 (by decide) rfl (nle rfl) rfl,fun _ _=>amv rfl,fun _ _=>aiq underlying129 Qg5 Qa5 hi11 hj12,fun _ _=>ald_ rfl Qg5 (by decide) (nle rfl) rfl,fun _ h=>absurd rfl h,fun _ _=>Qid rfl,tv⟩) (⟨fun _ _=>amv rfl,fun _ _=>amv rfl,fun _ _=>ald rfl Qs6 (by decide) rfl (nle rfl) rfl,fun _ _=>amv rfl,fun _ _=>aiq underlying129 Qg5 Qa5 hi11 hj12,fun _ _=>ald_ rfl Qg5 (by decide) (nle rfl) rfl,fun _ h=>absurd rfl h,fun _ _=>Qid rfl,tv⟩) ?_ ?_
   ·skip
    exact wfa<|Qai<|bln<|thn<|wxz1<|thn<|arm (mto (n:=19) [(0,(.lit (.func (.yield l) #[] #[]))),(1,.ref 0 1 0 0),(3,(I (w64 (y3-1))))] [0,1] [(.own 1 [[(Qhp p0)]]),(.far (J (some q13)))] hq (pw (prr (pw pn))) (qb (lc (rnd Qbu) ln) (qc (.far _) qn))) (ih ((w64 (y3-1)),q13) h)
   ·clear h
    exact wtr<|Qad<|Qae<|Qac<|Qac<|Qae<|Or.inr (by kernel_rfl)
  ·refine wfn hc8<|Qcs<|Qbp<|Qbp<|Qcr rfl ?_
   obtain rfl:=osi h
   exact Or.inl rfl
def Qda (_N:Nat) (p0:Int) (p1:Nat) (p2:List Qcf) (p3:List Int):Option (List Int):=
  Qc4 (fun y2=>
    (getI p2 p0).bind fun x4=>
    bif (decide (x4.Parent≥0)) then
     chk (decide (0≤x4.Parent)&&decide (x4.Parent.toNat<p1))<|
     (y2[x4.Parent.toNat]?).bind fun x10=>
     chk (decide (0≤p0)&&decide (p0.toNat<p1))<|
     (y2[p0.toNat]?).bind fun x13=>
     chk (decide (0≤x4.Parent)&&decide (x4.Parent.toNat<p1))<|
     (y2[x4.Parent.toNat]?).bind fun _=>
     some (y2.set x4.Parent.toNat (w64 (x10+x13)))
    else
     some y2) fun k3:(List Int)→Option (List Int)=>
  chk (decide (0≤p0)&&decide (p0.toNat<p1))<|
  (p3[p0.toNat]?).bind fun x19=>
  bif (decide (x19>0)) then
   chk (decide (0≤p0)&&decide (p0.toNat<p1))<|
   (p3[p0.toNat]?).bind fun x23=>
   (getI p2 p0).bind fun x25=>
   chk (decide (0≤p0)&&decide (p0.toNat<p1))<|
   (p3[p0.toNat]?).bind fun _=>
   k3 (p3.set p0.toNat (w64 (x23+x25.Loss)))
  else
   k3 (p3)
abbrev Qjb (p1:Nat):Slot:=.own 1 [[(.own 2 1 (0) p1)]]
abbrev Qja (p2:List Qcf):AV:=.dat 4 (p2.map Qa5)
theorem Qew (N:Nat) (p0:Int) (p1:Nat) (p2:List Qcf) (p3 r:List Int) (h:Qda N p0 p1 p2 p3=some r):Spec prog 159 [(I p0),(.ref 0 1 (0) 0),(.ref 1 1 (0) 0)] [(Qjb p1),(.own 1 [[(Qja p2)]]),(.own 1 (p3.map Qab))] (.tup []) [(Qjb p1),(.own 1 [[(Qja p2)]]),(.own 1 (r.map Qab))]:=by
  refine sF func159 3 fun _ _ _ hq hd0=>?_
  unfold Qda at h
  obtain⟨k3,hk_k3,h⟩:=jko h
  refine wjn (τ:=(List Int)) (fun t=>k3 t=some r) (fun y2=>⟨mk 38 [(0,I p0),(1,.ref 0 1 0 0),(2,.ref 1 1 0 0)],[(Qjb p1),(.own 1 [[(Qja p2)]]),(.own 1 (y2.map Qab))]⟩) (fun y2 h=>?_) ?_
  ·subst hk_k3
   obtain⟨x4,hg5,h⟩:=bno h
   obtain⟨hi6,hj7⟩:=gsm hg5
   refine wx tbk [(2,rp _ _)] ⟨aiq underlying129 Qg5 Qa5 hi6 hj7,tv⟩<|wxz ?_
   refine bfe h (fun hc8 h=>?_) fun hc8 h=>?_
   ·refine wft hc8 ?_
    obtain⟨hi9,h⟩:=cko h
    obtain⟨hi9a,hi9b⟩:=Qgc hi9
    obtain⟨x10,hg11,h⟩:=bno h
    obtain⟨hi12,h⟩:=cko h
    obtain⟨hi12a,hi12b⟩:=Qgc hi12
    obtain⟨x13,hg14,h⟩:=bno h
    obtain⟨hi15,h⟩:=cko h
    obtain⟨hi15a,hi15b⟩:=Qgc hi15
    obtain⟨x16,hg17,h⟩:=bno h
    refine wy1 tbk [(2,rb [(.tmp 28,(.own 2 1 (0) p1)),(.tmp 29,I x4.Parent)] [(2,(.own 1 (y2.map Qab)))] (.ref 2 1 x4.Parent.toNat 0)),(3,rb [(.tmp 30,(.ref 2 1 x4.Parent.toNat 0))] [(2,(.own 1 (y2.map Qab)))] (I x10)),(6,rb [(.tmp 32,(.own 2 1 (0) p1)),(.tmp 33,I p0)] [(2,(.own 1 (y2.map Qab)))] (.ref 2 1 p0.toNat 0)),(7,rb [(.tmp 34,(.ref 2 1 p0.toNat 0))] [(2,(.own 1 (y2.map Qab)))] (I x13)),(9,rb [(.tmp 28,(.own 2 1 (0) p1)),(.tmp 29,I x4.Parent)] [(2,(.own 1 (y2.map Qab)))] (.ref 2 1 x4.Parent.toNat 0)),(10,⟨[(.tmp 37,(.ref 2 1 x4.Parent.toNat 0)),(.tmp 36,(I (w64 (x10+x13))))],[(2,(.own 1 (y2.map Qab)))],.any,[(2,(.own 1 ((y2.set x4.Parent.toNat (w64 (x10+x13)):List Int).map Qab)))],false⟩)] ⟨aio rfl underlying22 ti3 (odt hi9a) (odt hi9b) (Nat.zero_add _),ald rfl ti3 (by decide) (mgt Qab hg11) (nle rfl) rfl,aio rfl underlying22 ti3 (odt hi12a) (odt hi12b) (Nat.zero_add _),ald rfl ti3 (by decide) (mgt Qab hg14) (nle rfl) rfl,aio rfl underlying22 ti3 (odt hi15a) (odt hi15b) (Nat.zero_add _),ast rfl ti3 (by rfl) (mgt Qab hg17) (nle rfl) (Qlt Qab rfl),tv⟩ ?_
    obtain rfl:=osi h
    exact⟨_,(mto (n:=38) (l':=[]) (own':=[(Qjb p1),(.own 1 [[(Qja p2)]]),(.own 1 (((y2.set x4.Parent.toNat (w64 (x10+x13))):List Int).map Qab))]) [] [0,1,2] [(Qjb p1),(.own 1 [[(Qja p2)]]),(.own 1 ((y2.set x4.Parent.toNat (w64 (x10+x13)):List Int).map Qab))] hq pn (qb (lc (.rn (Qef rfl)) ln) (qb (lc (rnd Qbu) ln) (qc (spr Qah) qn)))),fio [] tv⟩
   ·refine wfn hc8<|Qai ?_
    obtain rfl:=osi h
    exact⟨_,(mto (n:=38) (l':=[]) (own':=[(Qjb p1),(.own 1 [[(Qja p2)]]),(.own 1 (y2.map Qab))]) [] [0,1,2] [(Qjb p1),(.own 1 [[(Qja p2)]]),(.own 1 (y2.map Qab))] hq pn (qb (lc (.rn (Qef rfl)) ln) (qb (lc (rnd Qbu) ln) (qc (spr Qah) qn)))),fio [] tv⟩
  ·skip
   obtain⟨hi18,h⟩:=cko h
   obtain⟨hi18a,hi18b⟩:=Qgc hi18
   obtain⟨x19,hg20,h⟩:=bno h
   refine wx tbk [(2,rb [(.tmp 5,(.own 2 1 (0) p1)),(.tmp 6,I p0)] [(2,(.own 1 (p3.map Qab)))] (.ref 2 1 p0.toNat 0)),(3,rb [(.tmp 7,(.ref 2 1 p0.toNat 0))] [(2,(.own 1 (p3.map Qab)))] (I x19))] ⟨aio rfl underlying22 ti3 (odt hi18a) (odt hi18b) (Nat.zero_add _),ald rfl ti3 (by decide) (mgt Qab hg20) (nle rfl) rfl,tv⟩ ?_
   refine bfe h (fun hc21 h=>?_) fun hc21 h=>?_
   ·refine wft hc21 ?_
    obtain⟨hi22,h⟩:=cko h
    obtain⟨hi22a,hi22b⟩:=Qgc hi22
    obtain⟨x23,hg24,h⟩:=bno h
    obtain⟨x25,hg26,h⟩:=bno h
    obtain⟨hi27,hj28⟩:=gsm hg26
    obtain⟨hi29,h⟩:=cko h
    obtain⟨hi29a,hi29b⟩:=Qgc hi29
    obtain⟨x30,hg31,h⟩:=bno h
    refine wy1 tbk [(2,rb [(.tmp 10,(.own 2 1 (0) p1)),(.tmp 11,I p0)] [(2,(.own 1 (p3.map Qab)))] (.ref 2 1 p0.toNat 0)),(3,rb [(.tmp 12,(.ref 2 1 p0.toNat 0))] [(2,(.own 1 (p3.map Qab)))] (I x23)),(6,rp _ _),(10,rb [(.tmp 10,(.own 2 1 (0) p1)),(.tmp 11,I p0)] [(2,(.own 1 (p3.map Qab)))] (.ref 2 1 p0.toNat 0)),(11,⟨[(.tmp 20,(.ref 2 1 p0.toNat 0)),(.tmp 19,(I (w64 (x23+x25.Loss))))],[(2,(.own 1 (p3.map Qab)))],.any,[(2,(.own 1 ((p3.set p0.toNat (w64 (x23+x25.Loss)):List Int).map Qab)))],false⟩)] ⟨aio rfl underlying22 ti3 (odt hi22a) (odt hi22b) (Nat.zero_add _),ald rfl ti3 (by decide) (mgt Qab hg24) (nle rfl) rfl,aiq underlying129 Qg5 Qa5 hi27 hj28,aio rfl underlying22 ti3 (odt hi29a) (odt hi29b) (Nat.zero_add _),ast rfl ti3 (by rfl) (mgt Qab hg31) (nle rfl) (Qlt Qab rfl),tv⟩<|thn ?_
    exact⟨(p3.set p0.toNat (w64 (x23+x25.Loss))),h,(mto (n:=38) [(0,I p0),(1,.ref 0 1 0 0),(2,.ref 1 1 0 0)] [0,1,2] [(Qjb p1),(.own 1 [[(Qja p2)]]),(.own 1 ((p3.set p0.toNat (w64 (x23+x25.Loss)):List Int).map Qab))] hq (pw (prr (prr pn))) (qb (lc (.rn (Qef rfl)) ln) (qb (lc (rnd Qbu) ln) (qc (spr Qah) qn))))⟩
   ·exact wfn hc21<|Qai<|thn<|⟨(p3),h,(mto (n:=38) [(0,I p0),(1,.ref 0 1 0 0),(2,.ref 1 1 0 0)] [0,1,2] [(Qjb p1),(.own 1 [[(Qja p2)]]),(.own 1 (p3.map Qab))] hq (pw (prr (prr pn))) (qb (lc (.rn (Qef rfl)) ln) (qb (lc (rnd Qbu) ln) (qc (spr Qah) qn))))⟩
def Qbq (N:Nat) (p0:List Qcf) (p1:List Int) (k6:(List Int)→Option (List Int)):(List (Int×Qcf))→(List Int)→Option (List Int)
  |[],y12=>
    k6 (y12)
  |x15::q16,y12=>
    (Qda N x15.1 p1.length p0 y12).bind fun x25=>
    Qbq N p0 p1 k6 q16 x25
def Qd3 (N:Nat) (p0:List Qcf) (p1:List Int):Option (List Int):=
  (Qcq N p1).bind fun _=>
  Qc4 (fun y5=>
    chk (decide (p1.length≤y5.length))<|
    some (y5.take p1.length)) fun k6:(List Int)→Option (List Int)=>
  (Qbe N p0).bind fun _=>
  (Qbd N p0).bind fun q10=>
  Qbq N p0 p1 k6 q10 p1
def Qup:AV:=.fn (.func 159) [] [(.ref 2 1 (0) 0),(.ref 0 1 (0) 0)]
def Qmg (y5 p1:List Int):AV:=.dat 1 ((y5.take p1.length:List Int).map Qab)
def Qhm (p0:List Qcf):AV:=.dat 4 (p0.map Qa5)
def Quo:AV:=.fn (.func 208) [] [(.ref 4 1 (0) 0)]
def Qln (p1:List Int):Slot:=.own 1 [[(.own 3 1 (0) p1.length)]]
def Qp9:AV:=.fn (.func 159) [] [(.ref 0 1 (0) 0),(.ref 4 1 (0) 0)]
theorem Qf5 (N:Nat) (p0:List Qcf) (p1 r:List Int) (h:Qd3 N p0 p1=some r):Spec prog 95 [(.dat 4 (p0.map Qa5)),(.dat 1 (p1.map Qab))] [] (.dat 1 (r.map Qab)) []:=by
  refine sF func95 0 fun _ _ _ hq hd0=>?_
  unfold Qd3 at h
  refine wxz ?_
  obtain⟨x4,hf3,h⟩:=bno h
  refine wx tbk [(1,⟨_,_,_,_,false⟩)] ⟨acq [(.dat 1 (p1.map Qab))] [] [(.own 1 (p1.map Qab))] (.own 1 1 (0) p1.length) [1] Qrh (Qek N p1 _ hf3) (Qdc (rnc (pld Qah) rn0)) Qa0 (slc (Qls Qah) Qa0) (Qoz rfl),tv⟩ ?_
  refine wx tbk [(0,rp [(.tmp 5,.ref 2 1 0 0),(.tmp 2,.ref 0 1 0 0)] Qup)] ⟨Qcw (fs:=[]) (cs:=[.ref 2 1 0 0,.ref 0 1 0 0]) rfl rfl rfl rfl,tv⟩ ?_
  obtain⟨k6,hk_k6,h⟩:=jko h
  refine wjn (τ:=(List Int)) (fun t=>k6 t=some r) (fun y5=>⟨mk 19 [(5,.ref 0 1 0 0)],[(.own 1 [[(.own 1 1 (0) p1.length)]]),(.own 1 (y5.map Qab))]⟩) (fun y5 h=>?_) ?_
  ·subst hk_k6
   refine wxz ?_
   obtain⟨hz7,h⟩:=cko h
   refine wmr (Qsa (n:=19) (l':=[(4,(Qmg y5 p1))]) 1 [(4,(.own 1 1 (0) p1.length))] (by kernel_rfl) (by kernel_rfl) (by kernel_rfl) ⟨rfl,(Qpi hz7),tv⟩ rfl) ?_
   refine wmr (mto (n:=19) (l':=[(4,(Qmg y5 p1))]) (own':=[]) [(4,(Qmg y5 p1))] [] [] hq (pc (rnd Qah) pn) qn)<|Qad ?_
   obtain rfl:=osi h
   exact⟨_,Mor.rfl,fio [(Qmg y5 p1)] ⟨rot,tv⟩⟩
  ·skip
   obtain⟨x9,hf8,h⟩:=bno h
   refine wx tbk [(1,⟨_,_,_,_,false⟩)] ⟨acq [(Qhm p0)] [] [(.own 1 [[(Qhm p0)]])] Quo [4] Qrf (Qcy N p0 _ hf8) (Qdc (rnc (pld Qbu) rn0)) Qa0 (slc (Qa1 (rnc (pld Qbu) rn0)) Qa0) (Qct rn0 (rnc (Qoy rfl) rn0)),tv⟩<|Qao ?_
   obtain⟨q10,hL11,h⟩:=bno h
   refine wmr (mto (n:=19) (l':=[(5,.ref 0 1 0 0),(6,.ref 1 1 0 0),(12,(.fn (.func 208) [] [.ref 2 1 0 0]))]) (own':=[(Qln p1),(.own 1 [[Qp9]]),(.own 1 [[(Qhm p0)]]),(.own 1 (p1.map Qab)),(.own 1 [[(Qhm p0)]])]) [(5,.ref 2 1 0 0),(6,.ref 3 1 0 0),(12,Quo)] [2,3,4,1,0] [(.own 1 [[(.own 1 1 (0) p1.length)]]),(.own 1 [[Qup]]),(.own 1 [[(Qhm p0)]]),(.own 1 (p1.map Qab)),(.own 1 [[(Qhm p0)]])] hq (prr (prr (pc (.rn (Qct rn0 (rnc (rqr rfl) rn0))) pn))) (qb (lc (.rn (Qef rfl)) ln) (qb (lc (.rn (Qct rn0 (rnc (rqr rfl) (rnc (rqr rfl) rn0)))) ln) (qb (lc (rnd Qbu) ln) (qc (spr Qah) (qb (lc (rnd Qbu) ln) qn)))))) ?_
   refine Qnp (τ:=((List Int))) (kb:=5) (caps:=[.ref 2 1 0 0]) (σr:=[(.own 1 [[(Qhm p0)]])]) (encs:=fun x=>[(.int .i64 x.1),(.agg #[(.int .i64 x.2.Parent),(.int .i64 x.2.Loss),(.int .i64 x.2.Limit),(.int .i64 x.2.Rank)])]) (fun x=>[I x.1,(.agg [I x.2.Parent,I x.2.Loss,I x.2.Limit,I x.2.Rank])]) [2] (fun n hn=>hq n (Nat.le_trans (nle rfl) hn)) hd0 (Qcx N p0 _ hL11) Qq7 (by kernel_rfl) (by kernel_rfl) (Qdc (rnc (Qoy rfl) rn0)) (slc (Qa1 (rnc (pld Qbu) rn0)) Qa0) (by kernel_rfl) (fun _=>rfl) (fun x=>⟨lrf,(Less.unlits [(.int .i64 x.2.Parent),(.int .i64 x.2.Loss),(.int .i64 x.2.Limit),(.int .i64 x.2.Rank)]),tv⟩) (Qvc (Qjk (NLt.ref _ _ _ _ (by decide)) (Qjk (NLt.ref _ _ _ _ (by decide)) (Qjk (NLt.fn _ _ _ nl0 (nlc (NLt.ref _ _ _ _ (by decide)) nl0)) Qtp)))) (fun y12=>[(Qln p1),(.own 1 [[Qp9]]),.dead,(.own 1 (y12.map Qab)),(.own 1 [[(Qhm p0)]])]) (fun _=>rfl) (fun _=>rfl) (fun l t=>Qbq N p0 p1 k6 l t=some r) p1 h (by kernel_rfl) ?_ ?_
   ·intro l17 o18 X21 φ22 w23 hφ20 x15 q16 y12 h
    rw[Qbq] at h
    refine wxz1 ?_
    refine⟨by kernel_rfl,fun o19=>?_⟩
    refine Qao ?_
    obtain⟨x25,hf24,h⟩:=bno h
    refine wx1 tbk [(2,⟨_,_,_,_,false⟩)] ⟨Qc6 (first:=[]) (cap:=[.ref 0 1 0 0,.ref 4 1 0 0]) (vs:=[I x15.1]) (σr:=[(Qln p1),(.own 1 [[(Qhm p0)]]),(.own 1 (y12.map Qab))]) (σr':=[(Qln p1),(.own 1 [[(Qhm p0)]]),(.own 1 (x25.map Qab))]) (res':=(.tup [])) [0,4,3] rfl Qrg (Qew N x15.1 p1.length p0 y12 _ hf24) rfl (Qdc (rnc (.plain _ nll) (rnc (Qck rfl) (rnc (Qck rfl) rn0)))) (slc (Qa1 (rnc (Qtg rfl) rn0)) (slc (Qa1 (rnc (pld Qbu) rn0)) (slc (Qls Qah) Qa0))) (slc (Qa1 (rnc (Qoz rfl) rn0)) (slc (Qa1 (rnc (pld Qbu) rn0)) (slc (Qls Qah) Qa0))) (.plain _ (NLt.tup _ nl0)) rfl rfl rfl,tv⟩<|bln ?_
    exact⟨(x25),h,Qu9 (own':=[(Qln p1),(.own 1 [[Qp9]]),.dead,(.own 1 (x25.map Qab)),(.own 1 [[(Qhm p0)]]),(.far (farL l17 o19))]) [0,1,2,3,4,5] [(Qln p1),(.own 1 [[Qp9]]),.dead,(.own 1 (x25.map Qab)),(.own 1 [[(Qhm p0)]]),(.far (farL l17 o19))] (by kernel_rfl) (by kernel_rfl) ⟨(spb (lc (.rn (Qef rfl)) ln)),(spb (lc (.rn (Qct rn0 (rnc (rqr rfl) (rnc (rqr rfl) rn0)))) ln)),.dead,(spr Qah),(spb (lc (rnd Qbu) ln)),.far _,tv⟩⟩
   ·intro y12 h
    rw[Qbq] at h
    exact bln<|thn<|⟨(y12),h,(mto (n:=19) [(5,.ref 0 1 0 0)] [0,3] [(Qln p1),(.own 1 (y12.map Qab))] hq (prr pn) (qb (lc (.rn (Qef rfl)) ln) (qc (spr Qah) qn)))⟩
def Qbm (N:Nat) (p0:List Qcf) (k1:Unit→Option Int) (p1:List Int):Nat→Int→Option Int
  |0,_=>none
  |n4+1,y2=>
    bif (decide (y2<(p1.length:Int))) then
     (getI p1 y2).bind fun x6=>
     bif (decide (y2>0)) then
      (getI p0 y2).bind fun x11=>
      bif (decide (x6>x11.Limit)) then
       some y2
      else
       Qbm N p0 k1 p1 n4 (w64 (y2+1))
     else
      Qbm N p0 k1 p1 n4 (w64 (y2+1))
    else
     k1 ()
def Qee (N:Nat) (p0:List Qcf) (p1:List Int):Option Int:=
  Qc4 (fun _=>
    some (-1)) fun k1:Unit→Option Int=>
  Qbm N p0 k1 p1 N 0
def Qm5 (p0:List Qcf):AV:=.dat 4 (p0.map Qa5)
theorem Qgn (N:Nat) (p0:List Qcf) (p1:List Int) (r:Int) (h:Qee N p0 p1=some r):Spec prog 96 [(.dat 4 (p0.map Qa5)),(.dat 1 (p1.map Qab))] [] (I r) []:=by
  refine sA func96 0 fun _ _ _ hq hd0=>?_
  unfold Qee at h
  refine wxz ?_
  obtain⟨k1,hk_k1,h⟩:=jko h
  refine wjn (τ:=Unit) (fun t=>k1 t=some r) (fun _=>⟨mk 27 [],[]⟩) (fun t h=>?_) ?_
  ·subst hk_k1
   refine wxz<|Qad ?_
   obtain rfl:=osi h
   exact fend ⟨[(I ((-1)))],⟨rot,tv⟩,rfl⟩ nll
  ·skip
   refine wx tbk [(1,rp _ _)] ⟨alq 1 Qab p1 underlying22,tv⟩<|Qao ?_
   refine wmr (mto (n:=27) (l':=[(0,(Qm5 p0)),(7,(.dat 1 (p1.map Qab))),(8,(I ((p1.length:Int)))),(9,I 0)]) (own':=[]) [(0,(Qm5 p0)),(7,(.dat 1 (p1.map Qab))),(8,(I ((p1.length:Int)))),(9,I 0)] [] [] hq (pc (rnd Qbu) (pc (rnd Qah) (pw (pw pn)))) qn) ?_
   refine Qdq (τ:=Int) (fun n t=>Qbm N p0 k1 p1 n t=some r) (fun y2=>⟨mk 27 [(0,(Qm5 p0)),(7,(.dat 1 (p1.map Qab))),(8,(I ((p1.length:Int)))),(9,I y2)],[]⟩) (fun t h=>by rw[Qbm] at h;cases h) (fun n4 ih y2 h=>?_) N (0) h
   rw[Qbm] at h
   skip
   refine wxz<|wsq ?_
   refine bfe h (fun hc5 h=>?_) fun hc5 h=>?_
   ·refine wft hc5<|Qai<|thn<|wsq<|Qao ?_
    obtain⟨x6,hg7,h⟩:=bno h
    obtain⟨hi8,hj9⟩:=gsm hg7
    refine wx tbk [(1,rp _ _)] ⟨aiq underlying22 ti3 Qab hi8 hj9,tv⟩ ?_
    refine bfe h (fun hb10 h=>?_) fun hb10 h=>?_
    ·obtain⟨x11,hg12,h⟩:=bno h
     obtain⟨hi13,hj14⟩:=gsm hg12
     refine wx tbk [(2,rp [(.tmp 15,(B ((decide (y2>0)))))] (B true)),(6,rp [(.tmp 16,B true),(.tmp 18,(Qm5 p0)),(.tmp 19,I y2)] (.dptr (Qa5 x11) 0))] ⟨asb hb10 (amv rfl),ag_ (aiq underlying129 Qg5 Qa5 hi13 hj14),tv⟩ ?_
     refine bfe h (fun hc15 h=>?_) fun hc15 h=>?_
     ·refine wft hc15<|wxz<|Qad<|Qae<|Qac<|Qac<|Qae<|Qac ?_
      obtain rfl:=osi h
      exact fend ⟨[I y2],⟨rot,tv⟩,rfl⟩ nll
     ·exact wfn hc15<|Qai<|bln<|thn<|wxz1<|thn<|arm (mto (n:=27) [(0,(Qm5 p0)),(7,(.dat 1 (p1.map Qab))),(8,(I ((p1.length:Int)))),(9,(I (w64 (y2+1))))] [] [] hq (pc (rnd Qbu) (pc (rnd Qah) (pw (pw pn)))) qn) (ih (w64 (y2+1)) h)
    ·exact wx tbk [(2,rp [(.tmp 15,(B ((decide (y2>0)))))] (B false))] ⟨asb hb10 (amv rfl),tv⟩<|wfa<|Qai<|bln<|thn<|wxz1<|thn<|arm (mto (n:=27) [(0,(Qm5 p0)),(7,(.dat 1 (p1.map Qab))),(8,(I ((p1.length:Int)))),(9,(I (w64 (y2+1))))] [] [] hq (pc (rnd Qbu) (pc (rnd Qah) (pw (pw pn)))) qn) (ih (w64 (y2+1)) h)
   ·exact wfn hc5<|Qcs<|Qbp<|Qbp<|Qcr rfl<|thn<|⟨(),h,(mto (n:=27) [] [] [] hq pn qn)⟩
def Qf6 (N:Nat) (p0:List Qcf) (p1:List Int):Option ((List Int)×Int×Int):=
  (Qg3 N p0 p1).bind fun x2=>
  bif (x2 != 0) then
   some ([],0,x2)
  else
   (Qd3 N p0 p1).bind fun x5=>
   (Qee N p0 x5).bind fun x7=>
   bif (decide (x7≥0)) then
    some ([],x7,11)
   else
    some (x5,0,0)
def Qut:AV:=.dat 1 (([]:List Int).map Qab)
theorem Qil (N:Nat) (p0:List Qcf) (p1:List Int) (r:((List Int)×Int×Int)) (h:Qf6 N p0 p1=some r):Spec prog 43 [(.dat 4 (p0.map Qa5)),(.dat 1 (p1.map Qab))] [] (.tup [(.dat 1 (r.1.map Qab)),(I r.2.1),(I r.2.2)]) []:=by
  refine sA func43 0 fun _ _ _ hq hd0=>?_
  unfold Qf6 at h
  refine wxz<|wsq ?_
  obtain⟨x2,hf1,h⟩:=bno h
  refine wx tbk [(2,rp _ _)] ⟨apw Qt0 (Qjd N p0 p1 _ hf1),tv⟩<|wxz ?_
  refine bfe h (fun hc3 h=>?_) fun hc3 h=>?_
  ·refine wft hc3<|wxz<|Qad<|Qac ?_
   obtain rfl:=osi h
   exact fie [Qut,I 0,I x2] ⟨Qeb (v:=nilS) rot Less.nil,rot,rot,tv⟩
  ·refine wfn hc3<|Qai<|thn ?_
   obtain⟨x5,hf4,h⟩:=bno h
   refine wx tbk [(2,rp _ _)] ⟨apw Qtz (Qf5 N p0 p1 _ hf4),tv⟩<|wsq ?_
   obtain⟨x7,hf6,h⟩:=bno h
   refine wx tbk [(2,rp _ _)] ⟨apw Qty (Qgn N p0 x5 _ hf6),tv⟩<|wxz ?_
   refine bfe h (fun hc8 h=>?_) fun hc8 h=>?_
   ·refine wft hc8<|wxz<|Qad<|Qac ?_
    obtain rfl:=osi h
    exact fie [Qut,I x7,I 11] ⟨Qeb (v:=nilS) rot Less.nil,rot,rot,tv⟩
   ·refine wfn hc8<|Qai<|thn<|wxz<|Qad ?_
    obtain rfl:=osi h
    exact fie [(.dat 1 (x5.map Qab)),I 0,I 0] ⟨rot,rot,rot,tv⟩
def Qc3 (N:Nat):Option Bool:=
  (Qf6 N ([(⟨(-1),0,0,0⟩:Qcf)]) ([9])).bind fun x2=>
  bif (x2.2.2==0) then
   bif ((x2.1.length:Int)==1) then
    (getI x2.1 0).bind fun x5=>
    some (x5==9)
   else
    some false
  else
   some false
def Qum:AV:=.agg [(I ((-1))),(I (0)),(I (0)),(I (0))]
def Qvu:AV:=.dat 4 (([(⟨(-1),0,0,0⟩:Qcf)]:List Qcf).map Qa5)
def Qvt:AV:=.dat 1 (([9]:List Int).map Qab)
def Qsk (x2:((List Int)×Int×Int)):List (Nat×Rec):=[(2,rp [((.tmp 13),(B ((x2.2.2==0))))] (B true)),(4,rp [((.tmp 14),(B true)),((.tmp 15),(.dat 1 (x2.1.map Qab)))] (I ((x2.1.length:Int))))]
theorem Qco (N:Nat) (r:Bool) (h:Qc3 N=some r):Spec prog 8 [] [] (B r) []:=by
  refine sA func8 0 fun _ _ _ hq hd0=>?_
  unfold Qc3 at h
  refine wxz ?_
  obtain⟨x2,hf1,h⟩:=bno h
  refine wx tbk [(0,rp _ _),(1,rp [(.tmp 5,Qum)] Qvu),(2,rp [ci 9] Qvt),(3,rp _ _)] ⟨Qbz (vs:=[(I ((-1)))]) rfl Qv8 Qs5 rfl (by rfl) rfl,Qbo (vs:=[Qum]) rfl underlying129 Qg5 Qs5 rfl (by decide) rfl (by decide) (by rfl) (by rfl) (by rfl) rfl,Qbo (vs:=[I 9]) rfl underlying22 ti3 tz3 rfl (by decide) rfl (by decide) (by rfl) (by rfl) (by rfl) rfl,apw Qt9 (Qil N ([(⟨(-1),0,0,0⟩:Qcf)]) ([9]) _ hf1),tv⟩ ?_
  refine bfe h (fun hb3 h=>?_) fun hb3 h=>?_
  ·refine hpre (A:=(Qsk x2)) ⟨asb hb3 (amv rfl),ag_ (alq 1 Qab x2.1 underlying22),tv⟩ fun q1_=>?_
   refine bfe h (fun hb4 h=>?_) fun hb4 h=>?_
   ·obtain⟨x5,hg6,h⟩:=bno h
    obtain⟨hi7,hj8⟩:=gsm hg6
    refine wx tbk (hcat (Qsk x2) [(7,rp [(.tmp 18,(B (((x2.1.length:Int)==1))))] (B true)),(9,rp [(.tmp 19,B true),(.tmp 20,(.dat 1 (x2.1.map Qab))),ci 0] (.dptr (Qab x5) 0))]) (hap q1_ ⟨asb hb4 (amv rfl),ag_ (aiq underlying22 ti3 Qab hi7 hj8),tv⟩)<|Qad ?_
    obtain rfl:=osi h
    exact fend ⟨[(B ((x5==9)))],⟨rot,tv⟩,rfl⟩ nll
   ·exact wx tbk (hcat (Qsk x2) [(7,rp [(.tmp 18,(B (((x2.1.length:Int)==1))))] (B false))]) (hap q1_ ⟨asb hb4 (amv rfl),tv⟩)<|Qad<|frb h
  ·exact wx tbk [(2,rp [(.tmp 13,(B ((x2.2.2==0))))] (B false))] ⟨asb hb3 (amv rfl),tv⟩<|Qad<|frb h
end
section
def Qaq (N:Nat) (p0:List Int) (p1:List Qb2) (p2:List Int) (k8:(List Qaa)×(List Qaa)×Bool×Bool→Option Bool):Nat→(List Qaa)→(List Qaa)→Bool→Bool→Int→Option Bool
  |0,_,_,_,_,_=>none
  |n48+1,y38,y39,y40,y41,y42=>
    bif (decide (y42<(p0.length:Int))) then
     Qc4 (fun ⟨y50,y51⟩=>
       (getI p1 y42).bind fun x53=>
       (Qc7 N x53).bind fun x58=>
       (getI p0 y42).bind fun x59=>
       (Qc7 N (⟨x59,0⟩:Qb2)).bind fun x64=>
       Qc4 (fun ⟨y65,y66⟩=>
         chk (decide (ByteArray.size (⟨#[109]⟩)+ByteArray.size (strOfNums [IntKind.wrap .u8 (w64 (97+y42))])≤9223372036854775807))<|
         chk (decide ((y65.length+([(⟨ByteArray.append (⟨#[109]⟩) (strOfNums [IntKind.wrap .u8 (w64 (97+y42))]),0,[y42],[1],(⟨x58.1.Lo,x58.1.Hi⟩:Qaj)⟩:Qaa)]).length)*88≤140737488355328))<|
         chk (decide ((y66.length+([(⟨ByteArray.append (⟨#[109]⟩) (strOfNums [IntKind.wrap .u8 (w64 (97+y42))]),0,[y42],[1],(⟨x64.1.Lo,x64.1.Hi⟩:Qaj)⟩:Qaa)]).length)*88≤140737488355328))<|
         bif y40 then
          bif (decide (x59≥x58.1.Lo)) then
           bif y41 then
            (getI p2 y42).bind fun x74=>
            Qaq N p0 p1 p2 k8 n48 (y65++([(⟨ByteArray.append (⟨#[109]⟩) (strOfNums [IntKind.wrap .u8 (w64 (97+y42))]),0,[y42],[1],(⟨x58.1.Lo,x58.1.Hi⟩:Qaj)⟩:Qaa)])) (y66++([(⟨ByteArray.append (⟨#[109]⟩) (strOfNums [IntKind.wrap .u8 (w64 (97+y42))]),0,[y42],[1],(⟨x64.1.Lo,x64.1.Hi⟩:Qaj)⟩:Qaa)])) (decide (x59≤x58.1.Hi)) (x59==x74) (w64 (y42+1))
           else
            Qaq N p0 p1 p2 k8 n48 (y65++([(⟨ByteArray.append (⟨#[109]⟩) (strOfNums [IntKind.wrap .u8 (w64 (97+y42))]),0,[y42],[1],(⟨x58.1.Lo,x58.1.Hi⟩:Qaj)⟩:Qaa)])) (y66++([(⟨ByteArray.append (⟨#[109]⟩) (strOfNums [IntKind.wrap .u8 (w64 (97+y42))]),0,[y42],[1],(⟨x64.1.Lo,x64.1.Hi⟩:Qaj)⟩:Qaa)])) (decide (x59≤x58.1.Hi)) false (w64 (y42+1))
          else
           bif y41 then
            (getI p2 y42).bind fun x79=>
            Qaq N p0 p1 p2 k8 n48 (y65++([(⟨ByteArray.append (⟨#[109]⟩) (strOfNums [IntKind.wrap .u8 (w64 (97+y42))]),0,[y42],[1],(⟨x58.1.Lo,x58.1.Hi⟩:Qaj)⟩:Qaa)])) (y66++([(⟨ByteArray.append (⟨#[109]⟩) (strOfNums [IntKind.wrap .u8 (w64 (97+y42))]),0,[y42],[1],(⟨x64.1.Lo,x64.1.Hi⟩:Qaj)⟩:Qaa)])) false (x59==x79) (w64 (y42+1))
           else
            Qaq N p0 p1 p2 k8 n48 (y65++([(⟨ByteArray.append (⟨#[109]⟩) (strOfNums [IntKind.wrap .u8 (w64 (97+y42))]),0,[y42],[1],(⟨x58.1.Lo,x58.1.Hi⟩:Qaj)⟩:Qaa)])) (y66++([(⟨ByteArray.append (⟨#[109]⟩) (strOfNums [IntKind.wrap .u8 (w64 (97+y42))]),0,[y42],[1],(⟨x64.1.Lo,x64.1.Hi⟩:Qaj)⟩:Qaa)])) false false (w64 (y42+1))
         else
          bif y41 then
           (getI p2 y42).bind fun x84=>
           Qaq N p0 p1 p2 k8 n48 (y65++([(⟨ByteArray.append (⟨#[109]⟩) (strOfNums [IntKind.wrap .u8 (w64 (97+y42))]),0,[y42],[1],(⟨x58.1.Lo,x58.1.Hi⟩:Qaj)⟩:Qaa)])) (y66++([(⟨ByteArray.append (⟨#[109]⟩) (strOfNums [IntKind.wrap .u8 (w64 (97+y42))]),0,[y42],[1],(⟨x64.1.Lo,x64.1.Hi⟩:Qaj)⟩:Qaa)])) false (x59==x84) (w64 (y42+1))
          else
           Qaq N p0 p1 p2 k8 n48 (y65++([(⟨ByteArray.append (⟨#[109]⟩) (strOfNums [IntKind.wrap .u8 (w64 (97+y42))]),0,[y42],[1],(⟨x58.1.Lo,x58.1.Hi⟩:Qaj)⟩:Qaa)])) (y66++([(⟨ByteArray.append (⟨#[109]⟩) (strOfNums [IntKind.wrap .u8 (w64 (97+y42))]),0,[y42],[1],(⟨x64.1.Lo,x64.1.Hi⟩:Qaj)⟩:Qaa)])) false false (w64 (y42+1))) fun k67:(List Qaa)×(List Qaa)→Option Bool=>
       bif (x58.2 != 0) then
        some false
       else
        bif (x64.2 != 0) then
         some false
        else
         k67 (y50,y51)) fun k52:(List Qaa)×(List Qaa)→Option Bool=>
     (getI p0 y42).bind fun x90=>
     (Qdz N x90 0 100000).bind fun x95=>
     bif (!x95) then
      (Qc3 2000 ).bind fun x98=>
      some x98
     else
      (getI p2 y42).bind fun x99=>
      (Qdz N x99 0 100000).bind fun x104=>
      bif (!x104) then
       (Qc3 2000 ).bind fun x107=>
       some x107
      else
       (getI p1 y42).bind fun x108=>
       (Qcl N x108).bind fun x113=>
       bif (!x113) then
        (Qc3 2000 ).bind fun x116=>
        some x116
       else
        k52 (y38,y39)
    else
     k8 (y38,y39,y40,y41)
def Qdu (N:Nat) (p0:List Int) (p1:List Qb2) (p2:List Int):Option Bool:=
  Qc4 (fun _=>
    chk (decide ((([]:List Int).length+p0.length)*8≤140737488355328))<|
    chk (decide ((([]:List Int).length+p2.length)*8≤140737488355328))<|
    Qc4 (fun ⟨y4,y5,y6,y7⟩=>
      (Qb4 N (⟨(p0.length:Int),1,1,1⟩:Qar) ([(⟨⟨#[116,114,117,101]⟩,([]:List Int)++p0⟩:Qau),(⟨⟨#[111,116,104,101,114]⟩,([]:List Int)++p2⟩:Qau)]) y4).bind fun x10=>
      (Qb4 N (⟨(p0.length:Int),1,1,1⟩:Qar) ([(⟨⟨#[116,114,117,101]⟩,([]:List Int)++p0⟩:Qau),(⟨⟨#[111,116,104,101,114]⟩,([]:List Int)++p2⟩:Qau)]) y5).bind fun x12=>
      Qc4 (fun _=>
        bif (((x12.1.length:Int)==2)==y7) then
         (Qc3 2000 ).bind fun x16=>
         some x16
        else
         some false) fun k13:Unit→Option Bool=>
      bif (x10.2.2 != 0) then
       some false
      else
       bif (x12.2.2 != 0) then
        some false
       else
        bif (decide ((x10.1.length:Int)>0)) then
         (getI x10.1 0).bind fun x20=>
         bif (!(y6==(x20==0))) then
          some false
         else
          bif (decide ((x12.1.length:Int)<1)) then
           some false
          else
           (getI x12.1 0).bind fun x26=>
           bif (x26 != 0) then
            some false
           else
            k13 ()
        else
         bif (!(y6==false)) then
          some false
         else
          bif (decide ((x12.1.length:Int)<1)) then
           some false
          else
           (getI x12.1 0).bind fun x33=>
           bif (x33 != 0) then
            some false
           else
            k13 ()) fun k8:(List Qaa)×(List Qaa)×Bool×Bool→Option Bool=>
    Qaq N p0 p1 p2 k8 N ([]) ([]) true true 0) fun k1:Unit→Option Bool=>
  bif (decide ((p0.length:Int)<1)) then
   (Qc3 2000 ).bind fun x119=>
   some x119
  else
   bif (decide ((p0.length:Int)>8)) then
    (Qc3 2000 ).bind fun x122=>
    some x122
   else
    bif ((p1.length:Int) != (p0.length:Int)) then
     (Qc3 2000 ).bind fun x125=>
     some x125
    else
     bif ((p2.length:Int) != (p0.length:Int)) then
      (Qc3 2000 ).bind fun x128=>
      some x128
     else
      k1 ()
def Qff (p1:List Qb2):AV:=.dat 2 (p1.map Qch)
def Qp7 (p0:List Int):AV:=.agg [(I ((p0.length:Int))),(I (1)),(I (1)),(I (1))]
def Qul:AV:=.acc 1 3 1 ((([]:List Int):List Int).map Qab)
def Qsh (p0:List Int):AV:=.acc 2 3 1 ((([]:List Int)++p0:List Int).map Qab)
def Quk:AV:=.acc 3 3 1 ((([]:List Int):List Int).map Qab)
def Qsg (p2:List Int):AV:=.acc 4 3 1 ((([]:List Int)++p2:List Int).map Qab)
def Qvs (p2:List Int):AV:=.agg [(Sx (⟨#[111,116,104,101,114]⟩)),(Qsg p2)]
def Qdf (p0 p2:List Int):AV:=.dat 2 (([(⟨⟨#[116,114,117,101]⟩,([]:List Int)++p0⟩:Qau),(⟨⟨#[111,116,104,101,114]⟩,([]:List Int)++p2⟩:Qau)]:List Qau).map Qb7)
def Qf1 (p0:List Int):Slot:=.own 4 [[(I ((p0.length:Int))),(I (1)),(I (1)),(I (1))]]
def Qge (x12:((List Int)×(List Qbc)×Int)):AV:=.dat 1 (x12.1.map Qab)
def Qlm (x12:((List Int)×(List Qbc)×Int)) (y7:Bool):List (Nat×Rec):=[(1,rp [((.tmp 228),(Qge x12))] (I ((x12.1.length:Int)))),(4,rp [((.tmp 230),(B (((x12.1.length:Int)==2)))),((.tmp 231),(B y7))] (B ((((x12.1.length:Int)==2)==y7))))]
def Qll (x10:((List Int)×(List Qbc)×Int)):List (Nat×Rec):=[(2,rp [((.tmp 199),(B ((x10.2.2 != 0))))] (B false))]
def Qlk x10 (x12:((List Int)×(List Qbc)×Int)):=hcat (Qll x10) [(6,rp [((.tmp 203),(B ((x12.2.2 != 0))))] (B false)),(9,rp [((.tmp 204),(B false)),((.tmp 206),(.dat 1 (x10.1.map Qab)))] (I ((x10.1.length:Int))))]
def Qlj x10 x12 (x20:Int) (y6:Bool):=hcat (Qlk x10 x12) [(11,rp [((.tmp 204),(B false)),((.tmp 208),(B ((decide ((x10.1.length:Int)>0)))))] (B true)),(13,rp [((.tmp 209),(B true)),((.tmp 210),(.dat 1 (x10.1.map Qab))),ci 0] (.dptr (Qab x20) 0)),(17,rp [((.tmp 204),(B false)),((.tmp 205),(B y6)),((.tmp 214),(B ((x20==0))))] (B ((!(y6==(x20==0))))))]
def Qli x10 x12 x20 y6:=hcat (Qlj x10 x12 x20 y6) [(19,rp [((.tmp 216),(B ((!(y6==(x20==0))))))] (B false)),(21,rp [((.tmp 217),(B false)),((.tmp 218),(Qge x12))] (I ((x12.1.length:Int))))]
def Qlh x10 x12 (y6:Bool):=hcat (Qlk x10 x12) [(11,rp [((.tmp 204),(B false)),((.tmp 208),(B ((decide ((x10.1.length:Int)>0)))))] (B false)),(17,rp [((.tmp 204),(B false)),((.tmp 205),(B y6)),((.tmp 214),(B false))] (B ((!(y6==false)))))]
def Qlg x10 x12 y6:=hcat (Qlh x10 x12 y6) [(19,rp [((.tmp 216),(B ((!(y6==false)))))] (B false)),(21,rp [((.tmp 217),(B false)),((.tmp 218),(Qge x12))] (I ((x12.1.length:Int))))]
def Qsj (x58:(Qaj×Int)):AV:=.agg [(I x58.1.Lo),(I x58.1.Hi)]
def Qsi (x64:(Qaj×Int)):AV:=.agg [(I x64.1.Lo),(I x64.1.Hi)]
def Qn8 (y42:Int):AV:=.dat 1 (([IntKind.wrap .u8 (w64 (97+y42))]:List Int).map c_u8)
def Qg1 (y42:Int):AV:=.dat 1 (([y42]:List Int).map Qab)
def Qin:AV:=.dat 1 (([1]:List Int).map Qab)
def Qn7 (y42:Int) (x58:(Qaj×Int)):AV:=.agg [(Sx (ByteArray.append (⟨#[109]⟩) (strOfNums [IntKind.wrap .u8 (w64 (97+y42))]))),(I (0)),(Qg1 y42),Qin,(I x58.1.Lo),(I x58.1.Hi)]
def Qn6 (y42:Int) (x58:(Qaj×Int)):AV:=.dat 6 (([(⟨ByteArray.append (⟨#[109]⟩) (strOfNums [IntKind.wrap .u8 (w64 (97+y42))]),0,[y42],[1],(⟨x58.1.Lo,x58.1.Hi⟩:Qaj)⟩:Qaa)]:List Qaa).map Qaf)
def Qf3 (y65:List Qaa) (y42:Int) (x58:(Qaj×Int)):AV:=.acc 5 44 6 ((y65++([(⟨ByteArray.append (⟨#[109]⟩) (strOfNums [IntKind.wrap .u8 (w64 (97+y42))]),0,[y42],[1],(⟨x58.1.Lo,x58.1.Hi⟩:Qaj)⟩:Qaa)]):List Qaa).map Qaf)
def Qn5 (y42:Int) (x64:(Qaj×Int)):AV:=.agg [(Sx (ByteArray.append (⟨#[109]⟩) (strOfNums [IntKind.wrap .u8 (w64 (97+y42))]))),(I (0)),(Qg1 y42),Qin,(I x64.1.Lo),(I x64.1.Hi)]
def Qn4 (y42:Int) (x64:(Qaj×Int)):AV:=.dat 6 (([(⟨ByteArray.append (⟨#[109]⟩) (strOfNums [IntKind.wrap .u8 (w64 (97+y42))]),0,[y42],[1],(⟨x64.1.Lo,x64.1.Hi⟩:Qaj)⟩:Qaa)]:List Qaa).map Qaf)
def Qf2 (y66:List Qaa) (y42:Int) (x64:(Qaj×Int)):AV:=.acc 6 44 6 ((y66++([(⟨ByteArray.append (⟨#[109]⟩) (strOfNums [IntKind.wrap .u8 (w64 (97+y42))]),0,[y42],[1],(⟨x64.1.Lo,x64.1.Hi⟩:Qaj)⟩:Qaa)]):List Qaa).map Qaf)
def Qlf (y40:Bool) (p0:List Int) (y42 x59:Int):List (Nat×Rec):=[(1,rp [((.tmp 151),(B y40))] (B true)),(4,rp [((.tmp 152),(B true)),((.tmp 153),(.dat 1 (p0.map Qab))),((.tmp 154),(I y42))] (.dptr (Qab x59) 0))]
def Qle (p0:List Int) (y42 x90:Int) (x95:Bool):List (Nat×Rec):=[(2,rp [((.tmp 66),(.dat 1 (p0.map Qab))),((.tmp 67),(I y42))] (.dptr (Qab x90) 0)),(4,rp [fu 9,((.tmp 69),(I x90)),ci 0,ci 100000] (B x95))]
def Qld p0 y42 x90 x95 (p2:List Int) (x99:Int) (x104:Bool):=hcat (Qle p0 y42 x90 x95) [(6,rp [((.tmp 71),(B ((!x95))))] (B false)),(9,rp [((.tmp 72),(B false)),((.tmp 73),(.dat 1 (p2.map Qab))),((.tmp 74),(I y42))] (.dptr (Qab x99) 0)),(11,rp [((.tmp 72),(B false)),fu 9,((.tmp 76),(I x99)),ci 0,ci 100000] (B x104))]
def Qlc (p0:List Int):List (Nat×Rec):=[(1,rp [((.tmp 25),(.dat 1 (p0.map Qab)))] (I ((p0.length:Int))))]
def Qlb p0:=hcat (Qlc p0) [(3,rp [((.tmp 27),(B ((decide ((p0.length:Int)<1)))))] (B false)),(5,rp [((.tmp 28),(B false)),((.tmp 29),(.dat 1 (p0.map Qab)))] (I ((p0.length:Int))))]
def Qla p0 (p1:List Qb2):=hcat (Qlb p0) [(8,rp [((.tmp 32),(B ((decide ((p0.length:Int)>8)))))] (B false)),(10,rp [((.tmp 33),(B false)),((.tmp 34),(Qff p1))] (I ((p1.length:Int)))),(12,rp [((.tmp 33),(B false)),((.tmp 36),(.dat 1 (p0.map Qab)))] (I ((p0.length:Int))))]
theorem Qg4 (N:Nat) (p0:List Int) (p1:List Qb2) (p2:List Int) (r:Bool) (h:Qdu N p0 p1 p2=some r):Spec prog 3 [(.dat 1 (p0.map Qab)),(.dat 2 (p1.map Qch)),(.dat 1 (p2.map Qab))] [] (B r) []:=by
  refine sA func3 0 fun _ _ _ hq hd0=>?_
  unfold Qdu at h
  refine wxz ?_
  obtain⟨k1,hk_k1,h⟩:=jko h
  refine wjn (τ:=Unit) (fun t=>k1 t=some r) (fun _=>⟨mk 236 [(0,(.dat 1 (p0.map Qab))),(1,(Qff p1)),(2,(.dat 1 (p2.map Qab)))],[]⟩) (fun t h=>?_) ?_
  ·subst hk_k1
   refine wx tbk [(1,rp _ _),(2,rp _ _)] ⟨alq 1 Qab p0 underlying22,Qbz (vs:=[(I ((p0.length:Int))),I 1,I 1,I 1]) rfl ts26 tz26 rfl (by rfl) rfl,tv⟩ ?_
   obtain⟨ha2,h⟩:=cko h
   obtain⟨ha3,h⟩:=cko h
   refine wx tbk [(0,⟨[],[(1,.unused)],Qul,[(1,.tok)],false⟩),(2,⟨[(.tmp 51,Qul),(.tmp 52,(.dat 1 (p0.map Qab)))],[(1,.tok),(2,.unused)],(Qsh p0),[(1,.dead),(2,.tok)],false⟩),(3,rp _ _),(4,⟨[],[(3,.unused)],Quk,[(3,.tok)],false⟩),(6,⟨[(.tmp 55,Quk),(.tmp 56,(.dat 1 (p2.map Qab)))],[(3,.tok),(4,.unused)],(Qsg p2),[(3,.dead),(4,.tok)],false⟩),(7,rp _ _),(8,rp [(.tmp 54,(.agg [(Sx (⟨#[116,114,117,101]⟩)),(Qsh p0)])),(.tmp 58,(Qvs p2))] (Qdf p0 p2))] ⟨Qe9 rfl underlying22 ti3 tz3,Qev rfl underlying22 te3 (Base.acc _ _) rfl rfl (Qjj Qab Qlx _) (Qhf Qab ha2) (Qhe Qab ha2 (by decide)) (Qhd Qab) rfl rfl,Qbz (vs:=[(Sx (⟨#[116,114,117,101]⟩)),(Qsh p0)]) rfl ts28 tz28 rfl (by rfl) rfl,Qe9 rfl underlying22 ti3 tz3,Qev rfl underlying22 te3 (Base.acc _ _) rfl rfl (Qjj Qab Qlx _) (Qhf Qab ha3) (Qhe Qab ha3 (by decide)) (Qhd Qab) rfl rfl,Qbz (vs:=[(Sx (⟨#[111,116,104,101,114]⟩)),(Qsg p2)]) rfl ts28 tz28 rfl (by rfl) rfl,awk (rd':=[(.tmp 54,(.agg [(Sx (⟨#[116,114,117,101]⟩)),(.dat 1 ((([]:List Int)++p0:List Int).map Qab))])),(.tmp 58,(.agg [(Sx (⟨#[111,116,104,101,114]⟩)),(.dat 1 ((([]:List Int)++p2:List Int).map Qab))]))]) ⟨rfl,(Less.agg ⟨lrf,Less.acc,tv⟩),rfl,(Less.agg ⟨lrf,Less.acc,tv⟩),tv⟩ (Qbo (vs:=[(.agg [(Sx (⟨#[116,114,117,101]⟩)),(.dat 1 ((([]:List Int)++p0:List Int).map Qab))]),(.agg [(Sx (⟨#[111,116,104,101,114]⟩)),(.dat 1 ((([]:List Int)++p2:List Int).map Qab))])]) rfl underlying29 ti28 tz28 rfl (by decide) rfl (by decide) (by rfl) (by rfl) (by rfl) rfl),tv⟩<|wxz<|wxz ?_
   obtain⟨k8,hk_k8,h⟩:=jko h
   refine wjn (τ:=(List Qaa)×(List Qaa)×Bool×Bool) (fun t=>k8 t=some r) (fun ⟨y4,y5,y6,y7⟩=>⟨mk 236 [(7,.ref 0 4 0 0),(8,(Qdf p0 p2)),(9,(.acc 1 44 6 (y4.map Qaf))),(10,(.acc 2 44 6 (y5.map Qaf))),(11,B y6),(12,B y7)],[(Qf1 p0),.tok,.tok]⟩) (fun t h=>?_) ?_
   ·subst hk_k8
    obtain⟨y4,y5,y6,y7⟩:=t
    obtain⟨x10,hf9,h⟩:=bno h
    refine wx tbk [(3,rp [fu 12,(.tmp 183,(Qp7 p0)),(.tmp 184,(Qdf p0 p2)),(.tmp 185,(.acc 1 44 6 (y4.map Qaf)))] (.tup [(.dat 1 (x10.1.map Qab)),(.dat 3 (x10.2.1.map Qby)),I x10.2.2]))] ⟨awk (rd':=(.func 12,(.fn (.func 12) [] []))::[(.tmp 183,(Qp7 p0)),(.tmp 184,(Qdf p0 p2)),(.tmp 185,(.dat 6 (y4.map Qaf)))]) ⟨rfl,lrf,rfl,lrf,rfl,lrf,rfl,Less.acc,tv⟩ (apv Qpm (Qes N (⟨(p0.length:Int),1,1,1⟩:Qar) ([(⟨⟨#[116,114,117,101]⟩,([]:List Int)++p0⟩:Qau),(⟨⟨#[111,116,104,101,114]⟩,([]:List Int)++p2⟩:Qau)]) y4 _ hf9) (nlc (NLt.agg _ (nlcc (nlcc nl0))) (nlc (nld Qaw _) (nlc (nld Qag _) nl0))) (NLt.tup _ (nlc (nld Qah _) (nlc (nld Qds _) (nlc nll nl0))))),tv⟩ ?_
    obtain⟨x12,hf11,h⟩:=bno h
    refine wx tbk [(3,rp [fu 12,(.tmp 191,(Qp7 p0)),(.tmp 192,(Qdf p0 p2)),(.tmp 193,(.acc 2 44 6 (y5.map Qaf)))] (.tup [(Qge x12),(.dat 3 (x12.2.1.map Qby)),I x12.2.2]))] ⟨awk (rd':=(.func 12,(.fn (.func 12) [] []))::[(.tmp 191,(Qp7 p0)),(.tmp 192,(Qdf p0 p2)),(.tmp 193,(.dat 6 (y5.map Qaf)))]) ⟨rfl,lrf,rfl,lrf,rfl,lrf,rfl,Less.acc,tv⟩ (apv Qpm (Qes N (⟨(p0.length:Int),1,1,1⟩:Qar) ([(⟨⟨#[116,114,117,101]⟩,([]:List Int)++p0⟩:Qau),(⟨⟨#[111,116,104,101,114]⟩,([]:List Int)++p2⟩:Qau)]) y5 _ hf11) (nlc (NLt.agg _ (nlcc (nlcc nl0))) (nlc (nld Qaw _) (nlc (nld Qag _) nl0))) (NLt.tup _ (nlc (nld Qah _) (nlc (nld Qds _) (nlc nll nl0))))),tv⟩ ?_
    obtain⟨k13,hk_k13,h⟩:=jko h
    refine wjn (τ:=Unit) (fun t=>k13 t=some r) (fun _=>⟨mk 236 [(12,B y7),(22,(Qge x12))],[]⟩) (fun t h=>?_) ?_
    ·subst hk_k13
     refine hpre (A:=(Qlm x12 y7)) ⟨alq 1 Qab x12.1 underlying22,Qpz rfl underlying4,tv⟩ fun q1_=>?_
     refine bfe h (fun hb14 h=>?_) fun hb14 h=>?_
     ·obtain⟨x16,hf15,h⟩:=bno h
      exact wx tbk (hcat (Qlm x12 y7) [(5,rp [(.tmp 232,(B ((((x12.1.length:Int)==2)==y7))))] (B true)),(6,rp [(.tmp 233,B true),fu 8] (B x16))]) (hap q1_ ⟨asb hb14 (amv rfl),ag_ (apv Qhh (Qco 2000  _ hf15) nl0 nll),tv⟩)<|Qad<|frb h
     ·exact wx tbk (hcat (Qlm x12 y7) [(5,rp [(.tmp 232,(B ((((x12.1.length:Int)==2)==y7))))] (B false))]) (hap q1_ ⟨asb hb14 (amv rfl),tv⟩)<|Qad<|frb h
    ·skip
     refine bfe h (fun hb17 h=>?_) fun hb17 h=>?_
     ·exact wx tbk [(2,rp [(.tmp 199,(B ((x10.2.2 != 0))))] (B true))] ⟨asb hb17 (amv rfl),tv⟩<|wtr<|wxz<|Qad<|Qac<|frb h
     ·refine hpre (A:=(Qll x10)) ⟨asb hb17 (amv rfl),tv⟩ fun q2_=>?_
      refine bfe h (fun hb18 h=>?_) fun hb18 h=>?_
      ·exact wx tbk (hcat (Qll x10) [(6,rp [(.tmp 203,(B ((x12.2.2 != 0))))] (B true))]) (hap q2_ ⟨asb hb18 (amv rfl),tv⟩)<|wtr<|wxz<|Qad<|Qac<|frb h
      ·refine hpre (A:=(Qlk x10 x12)) (hap q2_ ⟨asb hb18 (amv rfl),ag_ (alq 1 Qab x10.1 underlying22),tv⟩) fun q3_=>?_
       refine bfe h (fun hb19 h=>?_) fun hb19 h=>?_
       ·obtain⟨x20,hg21,h⟩:=bno h
        obtain⟨hi22,hj23⟩:=gsm hg21
        refine hpre (A:=(Qlj x10 x12 x20 y6)) (hap q3_ ⟨asb hb19 (ag_ (amv rfl)),ag_ (aiq underlying22 ti3 Qab hi22 hj23),ag_ (Qk4 rfl underlying4),tv⟩) fun q4_=>?_
        refine bfe h (fun hb24 h=>?_) fun hb24 h=>?_
        ·exact wx tbk (hcat (Qlj x10 x12 x20 y6) [(19,rp [(.tmp 216,(B ((!(y6==(x20==0))))))] (B true))]) (hap q4_ ⟨asb hb24 (amv rfl),tv⟩)<|wtr<|wxz<|Qad<|Qac<|frb h
        ·refine hpre (A:=(Qli x10 x12 x20 y6)) (hap q4_ ⟨asb hb24 (amv rfl),ag_ (alq 1 Qab x12.1 underlying22),tv⟩) fun q5_=>?_
         refine bfe h (fun hb25 h=>?_) fun hb25 h=>?_
         ·exact wx tbk (hcat (Qli x10 x12 x20 y6) [(24,rp [(.tmp 221,(B ((decide ((x12.1.length:Int)<1)))))] (B true))]) (hap q5_ ⟨asb hb25 (amv rfl),tv⟩)<|wtr<|wxz<|Qad<|Qac<|frb h
         ·obtain⟨x26,hg27,h⟩:=bno h
          obtain⟨hi28,hj29⟩:=gsm hg27
          refine wx tbk (hcat (Qli x10 x12 x20 y6) [(24,rp [(.tmp 221,(B ((decide ((x12.1.length:Int)<1)))))] (B false)),(26,rp [(.tmp 222,B false),(.tmp 223,(Qge x12)),ci 0] (.dptr (Qab x26) 0))]) (hap q5_ ⟨asb hb25 (amv rfl),ag_ (aiq underlying22 ti3 Qab hi28 hj29),tv⟩) ?_
          refine bfe h (fun hc30 h=>?_) fun hc30 h=>?_
          ·exact wft hc30<|wxz<|Qad<|Qac<|frb h
          ·exact wfn hc30<|Qai<|thn<|⟨(),h,(mto (n:=236) [(12,B y7),(22,(Qge x12))] [] [] hq (pw (pc (rnd Qah) pn)) qn)⟩
       ·refine hpre (A:=(Qlh x10 x12 y6)) (hap q3_ ⟨asb hb19 (ag_ (amv rfl)),ag_ (Qk4 rfl underlying4),tv⟩) fun q6_=>?_
        refine bfe h (fun hb31 h=>?_) fun hb31 h=>?_
        ·exact wx tbk (hcat (Qlh x10 x12 y6) [(19,rp [(.tmp 216,(B ((!(y6==false)))))] (B true))]) (hap q6_ ⟨asb hb31 (amv rfl),tv⟩)<|wtr<|wxz<|Qad<|Qac<|frb h
        ·refine hpre (A:=(Qlg x10 x12 y6)) (hap q6_ ⟨asb hb31 (amv rfl),ag_ (alq 1 Qab x12.1 underlying22),tv⟩) fun q7_=>?_
         refine bfe h (fun hb32 h=>?_) fun hb32 h=>?_
         ·exact wx tbk (hcat (Qlg x10 x12 y6) [(24,rp [(.tmp 221,(B ((decide ((x12.1.length:Int)<1)))))] (B true))]) (hap q7_ ⟨asb hb32 (amv rfl),tv⟩)<|wtr<|wxz<|Qad<|Qac<|frb h
         ·obtain⟨x33,hg34,h⟩:=bno h
          obtain⟨hi35,hj36⟩:=gsm hg34
          refine wx tbk (hcat (Qlg x10 x12 y6) [(24,rp [(.tmp 221,(B ((decide ((x12.1.length:Int)<1)))))] (B false)),(26,rp [(.tmp 222,B false),(.tmp 223,(Qge x12)),ci 0] (.dptr (Qab x33) 0))]) (hap q7_ ⟨asb hb32 (amv rfl),ag_ (aiq underlying22 ti3 Qab hi35 hj36),tv⟩) ?_
          refine bfe h (fun hc37 h=>?_) fun hc37 h=>?_
          ·exact wft hc37<|wxz<|Qad<|Qac<|frb h
          ·exact wfn hc37<|Qai<|thn<|⟨(),h,(mto (n:=236) [(12,B y7),(22,(Qge x12))] [] [] hq (pw (pc (rnd Qah) pn)) qn)⟩
   ·skip
    refine wxz<|Qao ?_
    refine wmr (Mor.trans (Qjm 5 44 6 9 (by kernel_rfl) (by kernel_rfl)) (Mor.trans (Qjm 6 44 6 10 (by kernel_rfl) (by kernel_rfl)) (mto (n:=236) (l':=[(0,(.dat 1 (p0.map Qab))),(1,(Qff p1)),(2,(.dat 1 (p2.map Qab))),(7,.ref 0 4 0 0),(8,(Qdf p0 p2)),(9,(.acc 1 44 6 ((([]):List Qaa).map Qaf))),(10,(.acc 2 44 6 ((([]):List Qaa).map Qaf))),(11,B true),(12,B true),(13,I 0)]) (own':=[(Qf1 p0),.tok,.tok]) [(0,(.dat 1 (p0.map Qab))),(1,(Qff p1)),(2,(.dat 1 (p2.map Qab))),(7,.ref 0 4 0 0),(8,(Qdf p0 p2)),(9,(.acc 5 44 6 (([]:List Qaa).map Qaf))),(10,(.acc 6 44 6 (([]:List Qaa).map Qaf))),(11,B true),(12,B true),(13,I 0)] [0,5,6] [(Qf1 p0),.tok,.tok] hq (pc (rnd Qah) (pc (rnd Qcu) (pc (rnd Qah) (prr (pc (rnd Qaw) (pc (.rn (Qb1 rfl (Qbh Qag _))) (pc (.rn (Qb1 rfl (Qbh Qag _))) (pw (pw (pw pn)))))))))) (qb (lcc (lcc ln)) (qc .tok (qc .tok qn)))))) ?_
    refine Qdq (τ:=(List Qaa)×(List Qaa)×Bool×Bool×Int) (fun n t=>Qaq N p0 p1 p2 k8 n t.1 t.2.1 t.2.2.1 t.2.2.2.1 t.2.2.2.2=some r) (fun ⟨y38,y39,y40,y41,y42⟩=>⟨mk 236 [(0,(.dat 1 (p0.map Qab))),(1,(Qff p1)),(2,(.dat 1 (p2.map Qab))),(7,.ref 0 4 0 0),(8,(Qdf p0 p2)),(9,(.acc 1 44 6 (y38.map Qaf))),(10,(.acc 2 44 6 (y39.map Qaf))),(11,B y40),(12,B y41),(13,I y42)],[(Qf1 p0),.tok,.tok]⟩) (fun t h=>by rw[Qaq] at h;cases h) (fun n48 ih t h=>?_) N ([],[],true,true,0) h
    obtain⟨y38,y39,y40,y41,y42⟩:=t
    rw[Qaq] at h
    skip
    refine wsq<|wx tbk [(2,rp _ _)] ⟨alq 1 Qab p0 underlying22,tv⟩ ?_
    refine bfe h (fun hc49 h=>?_) fun hc49 h=>?_
    ·refine wft hc49<|Qai<|thn<|wsq<|Qao ?_
     obtain⟨k52,hk_k52,h⟩:=jko h
     refine wjn (τ:=(List Qaa)×(List Qaa)) (fun t=>k52 t=some r) (fun ⟨y50,y51⟩=>⟨mk 236 [(0,(.dat 1 (p0.map Qab))),(1,(Qff p1)),(2,(.dat 1 (p2.map Qab))),(7,.ref 0 4 0 0),(8,(Qdf p0 p2)),(9,(.acc 1 44 6 (y50.map Qaf))),(10,(.acc 2 44 6 (y51.map Qaf))),(11,B y40),(12,B y41),(13,I y42)],[(Qf1 p0),.tok,.tok]⟩) (fun t h=>?_) ?_
     ·subst hk_k52
      obtain⟨y50,y51⟩:=t
      obtain⟨x53,hg54,h⟩:=bno h
      obtain⟨hi55,hj56⟩:=gsm hg54
      obtain⟨x58,hf57,h⟩:=bno h
      refine wxd tbk [(2,rp _ _),(7,rp _ _),(10,rp _ _),(11,rp _ _)] ⟨aiq underlying23 ti34 Qch hi55 hj56,aiq underlying23 ti34 Qch hi55 hj56,Qbz (vs:=[I x53.Reading,I x53.Off]) rfl ts40 tz40 rfl (by rfl) rfl,apw Qpn (Qfa N x53 _ hf57),tv⟩ ?_
      obtain⟨x59,hg60,h⟩:=bno h
      obtain⟨hi61,hj62⟩:=gsm hg60
      obtain⟨x64,hf63,h⟩:=bno h
      refine wx tbk [(2,rp _ _),(4,rp _ _),(5,rp _ _)] ⟨aiq underlying22 ti3 Qab hi61 hj62,Qbz (vs:=[I x59]) rfl ts40 tz40 rfl (by rfl) rfl,apw Qpn (Qfa N (⟨x59,0⟩:Qb2) _ hf63),tv⟩ ?_
      obtain⟨k67,hk_k67,h⟩:=jko h
      refine wjn (τ:=(List Qaa)×(List Qaa)) (fun t=>k67 t=some r) (fun ⟨y65,y66⟩=>⟨mk 236 [(0,(.dat 1 (p0.map Qab))),(1,(Qff p1)),(2,(.dat 1 (p2.map Qab))),(7,.ref 0 4 0 0),(8,(Qdf p0 p2)),(9,(.acc 1 44 6 (y65.map Qaf))),(10,(.acc 2 44 6 (y66.map Qaf))),(11,B y40),(12,B y41),(13,I y42),(14,.ref 3 2 0 0),(16,.ref 4 2 0 0)],[(Qf1 p0),.tok,.tok,(.own 2 [[I x58.1.Lo,I x58.1.Hi]]),(.own 2 [[I x64.1.Lo,I x64.1.Hi]])]⟩) (fun t h=>?_) ?_
      ·subst hk_k67
       obtain⟨y65,y66⟩:=t
       obtain⟨hz68,h⟩:=cko h
       refine wx tbk [(2,rp [(.tmp 120,(I (w64 (97+y42))))] (K .u8 (IntKind.wrap .u8 (w64 (97+y42))))),(3,rp [(.tmp 121,(K .u8 (IntKind.wrap .u8 (w64 (97+y42)))))] (Qn8 y42)),(4,rp [(.tmp 122,(Qn8 y42))] (Sx (strOfNums [IntKind.wrap .u8 (w64 (97+y42))]))),(5,rp [((.const (.string (.mk #[109]))),(Sx (⟨#[109]⟩))),(.tmp 123,(Sx (strOfNums [IntKind.wrap .u8 (w64 (97+y42))])))] (Sx (ByteArray.append (⟨#[109]⟩) (strOfNums [IntKind.wrap .u8 (w64 (97+y42))]))))] ⟨acv rfl (by rw[underlying3];rfl) underlying5,Qbo (vs:=[(K .u8 (IntKind.wrap .u8 (w64 (97+y42))))]) rfl underlying41 ti5 tz5 rfl (by decide) rfl (by decide) (by rfl) (by rfl) (by rfl) rfl,Qma (l:=[IntKind.wrap .u8 (w64 (97+y42))]) rfl underlying41 underlying5 underlying9 rfl (by simp),Qp0 rfl hz68,tv⟩ ?_
       obtain⟨ha69,h⟩:=cko h
       refine wx tbk [(3,rp [(.tmp 127,I y42)] (Qg1 y42)),(4,rp [ci 1] Qin),(9,rp _ _),(10,rp _ _),(11,rp [(.tmp 135,(Qn7 y42 x58))] (Qn6 y42 x58)),(12,⟨[(.tmp 125,(.acc 1 44 6 (y65.map Qaf))),(.tmp 136,(Qn6 y42 x58))],[(1,.tok),(5,.unused)],(Qf3 y65 y42 x58),[(1,.dead),(5,.tok)],false⟩)] ⟨Qbo (vs:=[I y42]) rfl underlying22 ti3 tz3 rfl (by decide) rfl (by decide) (by rfl) (by rfl) (by rfl) rfl,Qbo (vs:=[I 1]) rfl underlying22 ti3 tz3 rfl (by decide) rfl (by decide) (by rfl) (by rfl) (by rfl) rfl,Qbz (vs:=[I x58.1.Lo,I x58.1.Hi]) rfl ts42 tz42 rfl (by rfl) rfl,Qbz (vs:=[(Sx (ByteArray.append (⟨#[109]⟩) (strOfNums [IntKind.wrap .u8 (w64 (97+y42))]))),(Qg1 y42),Qin,(Qsj x58)]) rfl ts44 tz44 rfl (by rfl) rfl,Qbo (vs:=[(Qn7 y42 x58)]) rfl underlying30 ti44 tz44 rfl (by decide) rfl (by decide) (by rfl) (by rfl) (by rfl) rfl,Qev rfl underlying30 te44 (Base.acc _ _) rfl rfl (by rfl) (Qhf Qaf ha69) (Qhe Qaf ha69 (by decide)) (Qhd Qaf) rfl rfl,tv⟩ ?_
       obtain⟨ha70,h⟩:=cko h
       refine wx tbk [(3,rp [(.tmp 140,I y42)] (Qg1 y42)),(4,rp [ci 1] Qin),(9,rp _ _),(10,rp _ _),(11,rp [(.tmp 148,(Qn5 y42 x64))] (Qn4 y42 x64)),(12,⟨[(.tmp 138,(.acc 2 44 6 (y66.map Qaf))),(.tmp 149,(Qn4 y42 x64))],[(2,.tok),(6,.unused)],(Qf2 y66 y42 x64),[(2,.dead),(6,.tok)],false⟩)] ⟨Qbo (vs:=[I y42]) rfl underlying22 ti3 tz3 rfl (by decide) rfl (by decide) (by rfl) (by rfl) (by rfl) rfl,Qbo (vs:=[I 1]) rfl underlying22 ti3 tz3 rfl (by decide) rfl (by decide) (by rfl) (by rfl) (by rfl) rfl,Qbz (vs:=[I x64.1.Lo,I x64.1.Hi]) rfl ts42 tz42 rfl (by rfl) rfl,Qbz (vs:=[(Sx (ByteArray.append (⟨#[109]⟩) (strOfNums [IntKind.wrap .u8 (w64 (97+y42))]))),(Qg1 y42),Qin,(Qsi x64)]) rfl ts44 tz44 rfl (by rfl) rfl,Qbo (vs:=[(Qn5 y42 x64)]) rfl underlying30 ti44 tz44 rfl (by decide) rfl (by decide) (by rfl) (by rfl) (by rfl) rfl,Qev rfl underlying30 te44 (Base.acc _ _) rfl rfl (by rfl) (Qhf Qaf ha70) (Qhe Qaf ha70 (by decide)) (Qhd Qaf) rfl rfl,tv⟩ ?_
       refine bfe h (fun hb71 h=>?_) fun hb71 h=>?_
       ·refine hpre (A:=(Qlf y40 p0 y42 x59)) ⟨asb hb71 (amv rfl),ag_ (aiq underlying22 ti3 Qab hi61 hj62),tv⟩ fun q8_=>?_
        refine bfe h (fun hb72 h=>?_) fun hb72 h=>?_
        ·refine wxd tbk (hcat (Qlf y40 p0 y42 x59) [(10,rp [(.tmp 160,(B ((decide (x59≥x58.1.Lo)))))] (B true)),(13,rp [(.tmp 161,B true),(.tmp 162,(.dat 1 (p0.map Qab))),(.tmp 163,I y42)] (.dptr (Qab x59) 0))]) (hap q8_ ⟨asb hb72 (amv rfl),ag_ (aiq underlying22 ti3 Qab hi61 hj62),tv⟩) ?_
         refine bfe h (fun hb73 h=>?_) fun hb73 h=>?_
         ·obtain⟨x74,hg75,h⟩:=bno h
          obtain⟨hi76,hj77⟩:=gsm hg75
          refine wy1 tbk [(1,rp [(.tmp 170,B y41)] (B true)),(4,rp [(.tmp 171,B true),(.tmp 172,(.dat 1 (p0.map Qab))),(.tmp 173,I y42)] (.dptr (Qab x59) 0)),(8,rp [(.tmp 171,B true),(.tmp 176,(.dat 1 (p2.map Qab))),(.tmp 177,I y42)] (.dptr (Qab x74) 0))] ⟨asb hb73 (amv rfl),ag_ (aiq underlying22 ti3 Qab hi61 hj62),ag_ (aiq underlying22 ti3 Qab hi76 hj77),tv⟩<|bln<|thn<|wxz1<|thn ?_
          exact arm (mto (n:=236) [(0,(.dat 1 (p0.map Qab))),(1,(Qff p1)),(2,(.dat 1 (p2.map Qab))),(7,.ref 0 4 0 0),(8,(Qdf p0 p2)),(9,(Qf3 y65 y42 x58)),(10,(Qf2 y66 y42 x64)),(11,(B ((decide (x59≤x58.1.Hi))))),(12,(B ((x59==x74)))),(13,(I (w64 (y42+1))))] [0,5,6] [(Qf1 p0),.tok,.tok] hq (pc (rnd Qah) (pc (rnd Qcu) (pc (rnd Qah) (prr (pc (rnd Qaw) (pc (.rn (Qb1 rfl (Qbh Qag _))) (pc (.rn (Qb1 rfl (Qbh Qag _))) (pw (pw (pw pn)))))))))) (qb (lcc (lcc ln)) (qc .tok (qc .tok qn)))) (ih (y65++([(⟨ByteArray.append (⟨#[109]⟩) (strOfNums [IntKind.wrap .u8 (w64 (97+y42))]),0,[y42],[1],(⟨x58.1.Lo,x58.1.Hi⟩:Qaj)⟩:Qaa)]),y66++([(⟨ByteArray.append (⟨#[109]⟩) (strOfNums [IntKind.wrap .u8 (w64 (97+y42))]),0,[y42],[1],(⟨x64.1.Lo,x64.1.Hi⟩:Qaj)⟩:Qaa)]),(decide (x59≤x58.1.Hi)),(x59==x74),w64 (y42+1)) h)
         ·exact wy1 tbk [(1,rp [(.tmp 170,B y41)] (B false))] ⟨asb hb73 (amv rfl),tv⟩<|bln<|thn<|wxz1<|thn<|arm (mto (n:=236) [(0,(.dat 1 (p0.map Qab))),(1,(Qff p1)),(2,(.dat 1 (p2.map Qab))),(7,.ref 0 4 0 0),(8,(Qdf p0 p2)),(9,(Qf3 y65 y42 x58)),(10,(Qf2 y66 y42 x64)),(11,(B ((decide (x59≤x58.1.Hi))))),(12,B false),(13,(I (w64 (y42+1))))] [0,5,6] [(Qf1 p0),.tok,.tok] hq (pc (rnd Qah) (pc (rnd Qcu) (pc (rnd Qah) (prr (pc (rnd Qaw) (pc (.rn (Qb1 rfl (Qbh Qag _))) (pc (.rn (Qb1 rfl (Qbh Qag _))) (pw (pw (pw pn)))))))))) (qb (lcc (lcc ln)) (qc .tok (qc .tok qn)))) (ih (y65++([(⟨ByteArray.append (⟨#[109]⟩) (strOfNums [IntKind.wrap .u8 (w64 (97+y42))]),0,[y42],[1],(⟨x58.1.Lo,x58.1.Hi⟩:Qaj)⟩:Qaa)]),y66++([(⟨ByteArray.append (⟨#[109]⟩) (strOfNums [IntKind.wrap .u8 (w64 (97+y42))]),0,[y42],[1],(⟨x64.1.Lo,x64.1.Hi⟩:Qaj)⟩:Qaa)]),(decide (x59≤x58.1.Hi)),false,w64 (y42+1)) h)
        ·refine wxd tbk (hcat (Qlf y40 p0 y42 x59) [(10,rp [(.tmp 160,(B ((decide (x59≥x58.1.Lo)))))] (B false))]) (hap q8_ ⟨asb hb72 (amv rfl),tv⟩) ?_
         refine bfe h (fun hb78 h=>?_) fun hb78 h=>?_
         ·obtain⟨x79,hg80,h⟩:=bno h
          obtain⟨hi81,hj82⟩:=gsm hg80
          refine wy1 tbk [(1,rp [(.tmp 170,B y41)] (B true)),(4,rp [(.tmp 171,B true),(.tmp 172,(.dat 1 (p0.map Qab))),(.tmp 173,I y42)] (.dptr (Qab x59) 0)),(8,rp [(.tmp 171,B true),(.tmp 176,(.dat 1 (p2.map Qab))),(.tmp 177,I y42)] (.dptr (Qab x79) 0))] ⟨asb hb78 (amv rfl),ag_ (aiq underlying22 ti3 Qab hi61 hj62),ag_ (aiq underlying22 ti3 Qab hi81 hj82),tv⟩<|bln<|thn<|wxz1<|thn ?_
          exact arm (mto (n:=236) [(0,(.dat 1 (p0.map Qab))),(1,(Qff p1)),(2,(.dat 1 (p2.map Qab))),(7,.ref 0 4 0 0),(8,(Qdf p0 p2)),(9,(Qf3 y65 y42 x58)),(10,(Qf2 y66 y42 x64)),(11,B false),(12,(B ((x59==x79)))),(13,(I (w64 (y42+1))))] [0,5,6] [(Qf1 p0),.tok,.tok] hq (pc (rnd Qah) (pc (rnd Qcu) (pc (rnd Qah) (prr (pc (rnd Qaw) (pc (.rn (Qb1 rfl (Qbh Qag _))) (pc (.rn (Qb1 rfl (Qbh Qag _))) (pw (pw (pw pn)))))))))) (qb (lcc (lcc ln)) (qc .tok (qc .tok qn)))) (ih (y65++([(⟨ByteArray.append (⟨#[109]⟩) (strOfNums [IntKind.wrap .u8 (w64 (97+y42))]),0,[y42],[1],(⟨x58.1.Lo,x58.1.Hi⟩:Qaj)⟩:Qaa)]),y66++([(⟨ByteArray.append (⟨#[109]⟩) (strOfNums [IntKind.wrap .u8 (w64 (97+y42))]),0,[y42],[1],(⟨x64.1.Lo,x64.1.Hi⟩:Qaj)⟩:Qaa)]),false,(x59==x79),w64 (y42+1)) h)
         ·exact wy1 tbk [(1,rp [(.tmp 170,B y41)] (B false))] ⟨asb hb78 (amv rfl),tv⟩<|bln<|thn<|wxz1<|thn<|arm (mto (n:=236) [(0,(.dat 1 (p0.map Qab))),(1,(Qff p1)),(2,(.dat 1 (p2.map Qab))),(7,.ref 0 4 0 0),(8,(Qdf p0 p2)),(9,(Qf3 y65 y42 x58)),(10,(Qf2 y66 y42 x64)),(11,B false),(12,B false),(13,(I (w64 (y42+1))))] [0,5,6] [(Qf1 p0),.tok,.tok] hq (pc (rnd Qah) (pc (rnd Qcu) (pc (rnd Qah) (prr (pc (rnd Qaw) (pc (.rn (Qb1 rfl (Qbh Qag _))) (pc (.rn (Qb1 rfl (Qbh Qag _))) (pw (pw (pw pn)))))))))) (qb (lcc (lcc ln)) (qc .tok (qc .tok qn)))) (ih (y65++([(⟨ByteArray.append (⟨#[109]⟩) (strOfNums [IntKind.wrap .u8 (w64 (97+y42))]),0,[y42],[1],(⟨x58.1.Lo,x58.1.Hi⟩:Qaj)⟩:Qaa)]),y66++([(⟨ByteArray.append (⟨#[109]⟩) (strOfNums [IntKind.wrap .u8 (w64 (97+y42))]),0,[y42],[1],(⟨x64.1.Lo,x64.1.Hi⟩:Qaj)⟩:Qaa)]),false,false,w64 (y42+1)) h)
       ·refine wxd tbk [(1,rp [(.tmp 151,B y40)] (B false))] ⟨asb hb71 (amv rfl),tv⟩ ?_
        refine bfe h (fun hb83 h=>?_) fun hb83 h=>?_
        ·obtain⟨x84,hg85,h⟩:=bno h
         obtain⟨hi86,hj87⟩:=gsm hg85
         refine wy1 tbk [(1,rp [(.tmp 170,B y41)] (B true)),(4,rp [(.tmp 171,B true),(.tmp 172,(.dat 1 (p0.map Qab))),(.tmp 173,I y42)] (.dptr (Qab x59) 0)),(8,rp [(.tmp 171,B true),(.tmp 176,(.dat 1 (p2.map Qab))),(.tmp 177,I y42)] (.dptr (Qab x84) 0))] ⟨asb hb83 (amv rfl),ag_ (aiq underlying22 ti3 Qab hi61 hj62),ag_ (aiq underlying22 ti3 Qab hi86 hj87),tv⟩<|bln<|thn<|wxz1<|thn ?_
         exact arm (mto (n:=236) [(0,(.dat 1 (p0.map Qab))),(1,(Qff p1)),(2,(.dat 1 (p2.map Qab))),(7,.ref 0 4 0 0),(8,(Qdf p0 p2)),(9,(Qf3 y65 y42 x58)),(10,(Qf2 y66 y42 x64)),(11,B false),(12,(B ((x59==x84)))),(13,(I (w64 (y42+1))))] [0,5,6] [(Qf1 p0),.tok,.tok] hq (pc (rnd Qah) (pc (rnd Qcu) (pc (rnd Qah) (prr (pc (rnd Qaw) (pc (.rn (Qb1 rfl (Qbh Qag _))) (pc (.rn (Qb1 rfl (Qbh Qag _))) (pw (pw (pw pn)))))))))) (qb (lcc (lcc ln)) (qc .tok (qc .tok qn)))) (ih (y65++([(⟨ByteArray.append (⟨#[109]⟩) (strOfNums [IntKind.wrap .u8 (w64 (97+y42))]),0,[y42],[1],(⟨x58.1.Lo,x58.1.Hi⟩:Qaj)⟩:Qaa)]),y66++([(⟨ByteArray.append (⟨#[109]⟩) (strOfNums [IntKind.wrap .u8 (w64 (97+y42))]),0,[y42],[1],(⟨x64.1.Lo,x64.1.Hi⟩:Qaj)⟩:Qaa)]),false,(x59==x84),w64 (y42+1)) h)
        ·exact wy1 tbk [(1,rp [(.tmp 170,B y41)] (B false))] ⟨asb hb83 (amv rfl),tv⟩<|bln<|thn<|wxz1<|thn<|arm (mto (n:=236) [(0,(.dat 1 (p0.map Qab))),(1,(Qff p1)),(2,(.dat 1 (p2.map Qab))),(7,.ref 0 4 0 0),(8,(Qdf p0 p2)),(9,(Qf3 y65 y42 x58)),(10,(Qf2 y66 y42 x64)),(11,B false),(12,B false),(13,(I (w64 (y42+1))))] [0,5,6] [(Qf1 p0),.tok,.tok] hq (pc (rnd Qah) (pc (rnd Qcu) (pc (rnd Qah) (prr (pc (rnd Qaw) (pc (.rn (Qb1 rfl (Qbh Qag _))) (pc (.rn (Qb1 rfl (Qbh Qag _))) (pw (pw (pw pn)))))))))) (qb (lcc (lcc ln)) (qc .tok (qc .tok qn)))) (ih (y65++([(⟨ByteArray.append (⟨#[109]⟩) (strOfNums [IntKind.wrap .u8 (w64 (97+y42))]),0,[y42],[1],(⟨x58.1.Lo,x58.1.Hi⟩:Qaj)⟩:Qaa)]),y66++([(⟨ByteArray.append (⟨#[109]⟩) (strOfNums [IntKind.wrap .u8 (w64 (97+y42))]),0,[y42],[1],(⟨x64.1.Lo,x64.1.Hi⟩:Qaj)⟩:Qaa)]),false,false,w64 (y42+1)) h)
      ·skip
       refine bfe h (fun hb88 h=>?_) fun hb88 h=>?_
       ·refine wx tbk [(2,rp [(.tmp 114,(B ((x58.2 != 0))))] (B true))] ⟨asb hb88 (amv rfl),tv⟩<|wtr<|wxz<|Qad<|Qac<|Qae<|Qac<|Qac<|Qae<|Qac ?_
        exact frb h
       ·refine wx tbk [(2,rp [(.tmp 114,(B ((x58.2 != 0))))] (B false))] ⟨asb hb88 (amv rfl),tv⟩ ?_
        refine bfe h (fun hc89 h=>?_) fun hc89 h=>?_
        ·exact wft hc89<|wxz<|Qad<|Qac<|Qae<|Qac<|Qac<|Qae<|Qac<|frb h
        ·exact wfn hc89<|Qai<|thn<|⟨(y50,y51),h,(mto (n:=236) [(0,(.dat 1 (p0.map Qab))),(1,(Qff p1)),(2,(.dat 1 (p2.map Qab))),(7,.ref 0 4 0 0),(8,(Qdf p0 p2)),(9,(.acc 1 44 6 (y50.map Qaf))),(10,(.acc 2 44 6 (y51.map Qaf))),(11,B y40),(12,B y41),(13,I y42),(14,.ref 3 2 0 0),(16,.ref 4 2 0 0)] [0,1,2,3,4] [(Qf1 p0),.tok,.tok,(.own 2 [[I x58.1.Lo,I x58.1.Hi]]),(.own 2 [[I x64.1.Lo,I x64.1.Hi]])] hq (pc (rnd Qah) (pc (rnd Qcu) (pc (rnd Qah) (prr (pc (rnd Qaw) (pc (.rn (Qb1 rfl (Qbh Qag _))) (pc (.rn (Qb1 rfl (Qbh Qag _))) (pw (pw (pw (prr (prr pn)))))))))))) (qb (lcc (lcc ln)) (qc .tok (qc .tok (qb (lcc ln) (qb (lcc ln) qn))))))⟩
     ·skip
      obtain⟨x90,hg91,h⟩:=bno h
      obtain⟨hi92,hj93⟩:=gsm hg91
      obtain⟨x95,hf94,h⟩:=bno h
      refine hpre (A:=(Qle p0 y42 x90 x95)) ⟨aiq underlying22 ti3 Qab hi92 hj93,apv Qmt (Qem N x90 0 100000 _ hf94) (nlcc (nlc nll nl0)) nll,tv⟩ fun q9_=>?_
      refine bfe h (fun hb96 h=>?_) fun hb96 h=>?_
      ·refine wx tbk (hcat (Qle p0 y42 x90 x95) [(6,rp [(.tmp 71,(B ((!x95))))] (B true))]) (hap q9_ ⟨asb hb96 (amv rfl),tv⟩)<|wtr ?_
       obtain⟨x98,hf97,h⟩:=bno h
       exact wx tbk [(0,rp _ _)] ⟨apw Qhh (Qco 2000  _ hf97),tv⟩<|Qad<|Qac<|Qae<|Qac<|Qac<|Qae<|Qac<|frb h
      ·obtain⟨x99,hg100,h⟩:=bno h
       obtain⟨hi101,hj102⟩:=gsm hg100
       obtain⟨x104,hf103,h⟩:=bno h
       refine hpre (A:=(Qld p0 y42 x90 x95 p2 x99 x104)) (hap q9_ ⟨asb hb96 (amv rfl),ag_ (aiq underlying22 ti3 Qab hi101 hj102),ag_ (apv Qmt (Qem N x99 0 100000 _ hf103) (nlcc (nlc nll nl0)) nll),tv⟩) fun q10_=>?_
       refine bfe h (fun hb105 h=>?_) fun hb105 h=>?_
       ·refine wx tbk (hcat (Qld p0 y42 x90 x95 p2 x99 x104) [(14,rp [(.tmp 79,(B ((!x104))))] (B true))]) (hap q10_ ⟨asb hb105 (amv rfl),tv⟩)<|wtr ?_
        obtain⟨x107,hf106,h⟩:=bno h
        exact wx tbk [(0,rp _ _)] ⟨apw Qhh (Qco 2000  _ hf106),tv⟩<|Qad<|Qac<|Qae<|Qac<|Qac<|Qae<|Qac<|frb h
       ·obtain⟨x108,hg109,h⟩:=bno h
        obtain⟨hi110,hj111⟩:=gsm hg109
        obtain⟨x113,hf112,h⟩:=bno h
        refine wx tbk (hcat (Qld p0 y42 x90 x95 p2 x99 x104) [(14,rp [(.tmp 79,(B ((!x104))))] (B false)),(17,rp [(.tmp 80,B false),(.tmp 81,(Qff p1)),(.tmp 82,I y42)] (.dptr (Qch x108) 0)),(19,rp [(.tmp 80,B false),fu 10,(.tmp 84,(.agg [I x108.Reading,I x108.Off]))] (B x113))]) (hap q10_ ⟨asb hb105 (amv rfl),ag_ (aiq underlying23 ti34 Qch hi110 hj111),ag_ (apv Qua (Qfx N x108 _ hf112) (nlc (NLt.agg _ (nlcc nl0)) nl0) nll),tv⟩) ?_
        refine bfe h (fun hc114 h=>?_) fun hc114 h=>?_
        ·refine wft hc114 ?_
         obtain⟨x116,hf115,h⟩:=bno h
         exact wx tbk [(0,rp _ _)] ⟨apw Qhh (Qco 2000  _ hf115),tv⟩<|Qad<|Qac<|Qae<|Qac<|Qac<|Qae<|Qac<|frb h
        ·exact wfn hc114<|Qai<|thn<|⟨(y38,y39),h,(mto (n:=236) [(0,(.dat 1 (p0.map Qab))),(1,(Qff p1)),(2,(.dat 1 (p2.map Qab))),(7,.ref 0 4 0 0),(8,(Qdf p0 p2)),(9,(.acc 1 44 6 (y38.map Qaf))),(10,(.acc 2 44 6 (y39.map Qaf))),(11,B y40),(12,B y41),(13,I y42)] [0,1,2] [(Qf1 p0),.tok,.tok] hq (pc (rnd Qah) (pc (rnd Qcu) (pc (rnd Qah) (prr (pc (rnd Qaw) (pc (.rn (Qb1 rfl (Qbh Qag _))) (pc (.rn (Qb1 rfl (Qbh Qag _))) (pw (pw (pw pn)))))))))) (qb (lcc (lcc ln)) (qc .tok (qc .tok qn))))⟩
    ·exact wfn hc49<|Qcs<|Qbp<|Qbp<|Qcr rfl<|thn<|⟨(y38,y39,y40,y41),h,(mto (n:=236) [(7,.ref 0 4 0 0),(8,(Qdf p0 p2)),(9,(.acc 1 44 6 (y38.map Qaf))),(10,(.acc 2 44 6 (y39.map Qaf))),(11,B y40),(12,B y41)] [0,1,2] [(Qf1 p0),.tok,.tok] hq (prr (pc (rnd Qaw) (pc (.rn (Qb1 rfl (Qbh Qag _))) (pc (.rn (Qb1 rfl (Qbh Qag _))) (pw (pw pn)))))) (qb (lcc (lcc ln)) (qc .tok (qc .tok qn))))⟩
  ·skip
   refine hpre (A:=(Qlc p0)) ⟨alq 1 Qab p0 underlying22,tv⟩ fun q11_=>?_
   refine bfe h (fun hb117 h=>?_) fun hb117 h=>?_
   ·refine wx tbk (hcat (Qlc p0) [(3,rp [(.tmp 27,(B ((decide ((p0.length:Int)<1)))))] (B true))]) (hap q11_ ⟨asb hb117 (amv rfl),tv⟩)<|wtr ?_
    obtain⟨x119,hf118,h⟩:=bno h
    exact wx tbk [(0,rp _ _)] ⟨apw Qhh (Qco 2000  _ hf118),tv⟩<|Qad<|Qac<|frb h
   ·refine hpre (A:=(Qlb p0)) (hap q11_ ⟨asb hb117 (amv rfl),ag_ (alq 1 Qab p0 underlying22),tv⟩) fun q12_=>?_
    refine bfe h (fun hb120 h=>?_) fun hb120 h=>?_
    ·refine wx tbk (hcat (Qlb p0) [(8,rp [(.tmp 32,(B ((decide ((p0.length:Int)>8)))))] (B true))]) (hap q12_ ⟨asb hb120 (amv rfl),tv⟩)<|wtr ?_
     obtain⟨x122,hf121,h⟩:=bno h
     exact wx tbk [(0,rp _ _)] ⟨apw Qhh (Qco 2000  _ hf121),tv⟩<|Qad<|Qac<|frb h
    ·refine hpre (A:=(Qla p0 p1)) (hap q12_ ⟨asb hb120 (amv rfl),ag_ (alq 2 Qch p1 underlying23),ag_ (alq 1 Qab p0 underlying22),tv⟩) fun q13_=>?_
     refine bfe h (fun hb123 h=>?_) fun hb123 h=>?_
     ·refine wx tbk (hcat (Qla p0 p1) [(15,rp [(.tmp 39,(B (((p1.length:Int) != (p0.length:Int)))))] (B true))]) (hap q13_ ⟨asb hb123 (amv rfl),tv⟩)<|wtr ?_
      obtain⟨x125,hf124,h⟩:=bno h
      exact wx tbk [(0,rp _ _)] ⟨apw Qhh (Qco 2000  _ hf124),tv⟩<|Qad<|Qac<|frb h
     ·refine wx tbk (hcat (Qla p0 p1) [(15,rp [(.tmp 39,(B (((p1.length:Int) != (p0.length:Int)))))] (B false)),(17,rp [(.tmp 40,B false),(.tmp 41,(.dat 1 (p2.map Qab)))] (I ((p2.length:Int)))),(19,rp [(.tmp 40,B false),(.tmp 43,(.dat 1 (p0.map Qab)))] (I ((p0.length:Int))))]) (hap q13_ ⟨asb hb123 (amv rfl),ag_ (alq 1 Qab p2 underlying22),ag_ (alq 1 Qab p0 underlying22),tv⟩) ?_
      refine bfe h (fun hc126 h=>?_) fun hc126 h=>?_
      ·refine wft hc126 ?_
       obtain⟨x128,hf127,h⟩:=bno h
       exact wx tbk [(0,rp _ _)] ⟨apw Qhh (Qco 2000  _ hf127),tv⟩<|Qad<|Qac<|frb h
      ·exact wfn hc126<|Qai<|thn<|⟨(),h,(mto (n:=236) [(0,(.dat 1 (p0.map Qab))),(1,(Qff p1)),(2,(.dat 1 (p2.map Qab)))] [] [] hq (pc (rnd Qah) (pc (rnd Qcu) (pc (rnd Qah) pn))) qn)⟩
end
section
theorem Qcz {x:Int}(h:-9223372036854775808≤x) (h':x≤9223372036854775807):w64 x=x:=by
 unfold w64
 rw[IntKind.wrap_i64]
 omega
theorem Qfi {α:Type}{l:List α}{i:Nat}{x:α}(h:l[i]? = some x):getI l (i:Int)=some x:=by
 simp[getI,h]
def btw (a lo hi:Int):Bool:=decide (lo≤a)&&decide (a≤hi)
theorem Qgb {a lo hi:Int}:btw a lo hi=true↔lo≤a∧a≤hi:=by simp[btw]
theorem Qj3 (N:Nat) (a lo hi:Int):Qb8 N a lo hi=some (btw a lo hi):=by
 unfold Qb8 btw
 by_cases h:lo≤a<;>simp[h]
theorem Qq1 (N:Nat) (a lo hi:Int):Qdz N a lo hi=some (btw a lo hi):=by
 unfold Qdz btw
 by_cases h:lo≤a<;>simp[h]
theorem Qfo {α:Type}{t:List α}{i:Nat}{a:α}{l:List α}(h:t.drop i=a::l):t[i]? = some a∧t.drop (i+1)=l∧i<t.length:=by
 have hlt:i<t.length:=by
  rcases Nat.lt_or_ge i t.length with h' |h'
  ·exact h'
  ·rw[List.drop_eq_nil_of_le h'] at h;cases h
 rw[List.drop_eq_getElem_cons hlt] at h
 simp only[List.cons.injEq] at h
 exact⟨by rw[List.getElem?_eq_getElem hlt,h.1],h.2,hlt⟩
theorem Qgw {α:Type}{t:List α}{i:Nat}(h:t.drop i=[]):t.length≤i:=List.drop_eq_nil_iff.1 h
end
section
theorem Qu3 (N:Nat) (x:Int):Qdb N x=some (btw x 0 1000000000):=by
 unfold Qdb
 rw[Qj3]
 rfl
structure Qwm (i:Nat) (x:Qcf):Prop where
 par:0<i→0≤x.Parent∧x.Parent<i
 top:i=0→x.Parent=-1∧x.Loss=0∧x.Limit=0
 loss:0≤x.Loss∧x.Loss≤1000000000
 limit:0≤x.Limit∧x.Limit≤1000000000
 rank:0≤x.Rank∧x.Rank≤100
end
section
theorem Qh4 {α:Type}{l:List α}{i:Nat}(d:α) (h:i<l.length):getI l (i:Int)=some (l.getD i d):=by
 rw[Qfi (List.getElem?_eq_getElem h),List.getD_eq_getElem?_getD,List.getElem?_eq_getElem h,Option.getD_some]
def thr (m:Qb2):Qaj:=⟨(1000*m.Reading+(1000+m.Off)-1).tdiv (1000+m.Off),(1000*m.Reading).tdiv (1000-m.Off)⟩
def Qeo (m:Qb2):Bool:=btw m.Reading 0 1000000000&&btw m.Off 0 500
theorem Qgp {m:Qb2}:Qeo m=true↔(0≤m.Reading∧m.Reading≤1000000000)∧(0≤m.Off∧m.Off≤500):=by
 simp[Qeo,Qgb]
theorem Qou {a b:Int}(ha:0≤a) (hb:0<b):0≤a.tdiv b∧a.tdiv b≤a:=by
 rw[Int.tdiv_eq_ediv_of_nonneg ha]
 exact⟨Int.ediv_nonneg ha (by omega),Int.ediv_le_self _ ha⟩
theorem Qr6 {m:Qb2}(h:Qeo m=true):(0≤(thr m).Lo∧(thr m).Lo≤2000000000000)∧0≤(thr m).Hi∧(thr m).Hi≤2000000000000:=by
 obtain⟨⟨h1,h2⟩,h3,h4⟩:=Qgp.1 h
 have a1:=Qou (a:=1000*m.Reading+(1000+m.Off)-1) (b:=1000+m.Off) (by omega) (by omega)
 have a2:=Qou (a:=1000*m.Reading) (b:=1000-m.Off) (by omega) (by omega)
 unfold thr
 dsimp only
 omega
theorem Qlr {N:Nat}{m:Qb2}(h:Qeo m=true):Qb9 N m=some (thr m):=by
 obtain⟨⟨h1,h2⟩,h3,h4⟩:=Qgp.1 h
 obtain⟨⟨b1,b2⟩,b3,b4⟩:=Qr6 h
 unfold thr at b1 b2 b3 b4
 dsimp only at b1 b2 b3 b4
 unfold Qb9 thr
 rw[Qcz (x:=1000*m.Reading) (by omega) (by omega),Qcz (x:=1000+m.Off) (by omega) (by omega),Qcz (x:=1000-m.Off) (by omega) (by omega),Qcz (x:=1000*m.Reading+(1000+m.Off)) (by omega) (by omega),Qcz (x:=1000*m.Reading+(1000+m.Off)-1) (by omega) (by omega)]
 simp only[Option.bind_some,chk]
 rw[Qcz (by omega) (by omega),Qcz (by omega) (by omega),bne_iff_ne.2 (show(1000+m.Off)≠0 by omega),bne_iff_ne.2 (show(1000-m.Off)≠0 by omega)]
 rfl
theorem Qo1 (N:Nat) (m:Qb2):Qcj N m=some (Qeo m):=by
 unfold Qcj Qeo
 rw[Qu3,Qj3]
 cases btw m.Reading 0 1000000000<;>rfl
theorem Qo0 (N:Nat) (m:Qb2):Qcl N m=some (Qeo m):=by
 unfold Qcl Qeo
 rw[Qq1,Qq1]
 cases btw m.Reading 0 1000000000<;>rfl
theorem Qik (N:Nat) (m:Qb2):Qc7 N m=some (if Qeo m then(thr m,0) else(⟨0,0⟩,2)):=by
 unfold Qc7
 rw[Qo1,Option.bind_some]
 cases h:Qeo m with
 |false=>rfl
 |true=>rw[Qlr h];rfl
abbrev m0:Qb2:=⟨0,0⟩
end
section
theorem Qmw {α:Type}{F:Nat→Int→List ByteArray→Option Int}{p:List α}{q:α→Option (ByteArray×Int)}{nm:α→ByteArray}{k:Unit→Option Int}
  (h:∀n y s,F (n+1) y s=bif decide (y<(p.length:Int)) then(getI p y).bind fun x=>(q x).bind fun e=>bif (e.2 != 0) then some e.2 else bif s.contains e.1 then some 6 else F n (w64 (y+1)) (addS s e.1) else k ())
  (hq:∀x∈p,q x=some (nm x,0)) (hd:(p.map nm).Nodup) (hk:k ()=some 0) (hl:p.length≤1000):∀(n i:Nat),(p.drop i).length<n→F n i ((p.take i).map nm)=some 0:=by
 intro n
 induction n with
 |zero=>intro i h;exact absurd h (Nat.not_lt_zero _)
 |succ n ih=>
  intro i hn
  rw[h]
  cases hdr:p.drop i with
  |nil=>
   have:=Qgw hdr
   rw[decide_eq_false (show ¬((i:Int)<(p.length:Int)) by omega),cond_false,hk]
  |cons a l=>
   obtain⟨h1,h2,h3⟩:=Qfo hdr
   rw[decide_eq_true (show(i:Int)<(p.length:Int) by omega),cond_true,Qfi h1,Option.bind_some,hq a (List.mem_of_getElem? h1),Option.bind_some]
   dsimp only
   rw[show((0:Int) != 0)=false from rfl,cond_false]
   have hc:((p.take i).map nm).contains (nm a)=false:=by
    have he:p.map nm=(p.take i).map nm++nm a::l.map nm:=by
     conv=>lhs;rw[←List.take_append_drop i p,hdr]
     simp
    rw[he] at hd
    rw[List.nodup_append] at hd
    cases hcc:((p.take i).map nm).contains (nm a) with
    |false=>rfl
    |true=>
     have hm:nm a∈(p.take i).map nm:=by simpa using hcc
     exact absurd rfl (hd.2.2 (nm a) hm (nm a) List.mem_cons_self)
   rw[hc,cond_false,Qcz (x:=(i:Int)+1) (by omega) (by omega),show(i:Int)+1=((i+1:Nat):Int) by omega]
   unfold addS
   rw[hc,cond_false]
   have e:(p.take i).map nm++[nm a]=(p.take (i+1)).map nm:=by rw[List.take_add_one,h1];simp
   rw[e]
   exact ih (i+1) (by rw[h2];rw[hdr] at hn;simp at hn;omega)
def Qf8 (x:Qaa) (s:Int):Int:=if s>x.In.Hi then s-x.In.Hi else if s<x.In.Lo then s-x.In.Lo else 0
def okM (S:Qaa→Qau→Int) (l:List Qaa) (m:Qau):Bool:=l.all fun x=>decide (x.In.Lo≤S x m)&&decide (S x m≤x.In.Hi)
def Qh3 (ok:Qau→Bool):Nat→List Qau→List Int
 |_,[]=>[]
 |k,m::ms=>bif ok m then(k:Int)::Qh3 ok (k+1) ms else Qh3 ok (k+1) ms
theorem Qpa {x:Qaa}{s:Int}:(Qf8 x s != 0)=!(decide (x.In.Lo≤s)&&decide (s≤x.In.Hi)):=by
 unfold Qf8
 by_cases h1:s>x.In.Hi
 ·rw[if_pos h1,decide_eq_false (show ¬s≤x.In.Hi by omega),Bool.and_false]
  exact bne_iff_ne.2 (by omega)
 ·rw[if_neg h1,decide_eq_true (show s≤x.In.Hi by omega),Bool.and_true]
  by_cases h2:s<x.In.Lo
  ·rw[if_pos h2,decide_eq_false (by omega)];exact bne_iff_ne.2 (by omega)
  ·rw[if_neg h2,decide_eq_true (by omega)];rfl
section
variable {N : Nat} {F : Qar} {S : Qaa → Qau → Int} {l : List Qaa} {m : Qau}
structure Qn2 (N:Nat) (F:Qar) (S:Qaa→Qau→Int) (x:Qaa) (m:Qau):Prop where
 run:Qc5 N ⟨F,x.Kind,x.Blocks,x.Weights⟩ m=some (S x m)
 bd:-10000000000≤S x m∧S x m≤10000000000
 lo:-10000000000≤x.In.Lo
 le:x.In.Lo≤x.In.Hi
 hi:x.In.Hi≤10000000000
theorem Qqy {x:Qaa}(h:Qn2 N F S x m):Qcm N ⟨x.In.Lo,x.In.Hi⟩ (S x m)=some (Qf8 x (S x m)):=by
 obtain⟨_,b,l1,l2,l3⟩:=h
 unfold Qcm Qf8
 dsimp only
 by_cases h1:S x m>x.In.Hi
 ·rw[decide_eq_true h1,cond_true,if_pos h1,Qcz (by omega) (by omega)]
 ·rw[decide_eq_false h1,cond_false,if_neg h1]
  by_cases h2:S x m<x.In.Lo
  ·rw[decide_eq_true h2,cond_true,if_pos h2,Qcz (by omega) (by omega)]
  ·rw[decide_eq_false h2,cond_false,if_neg h2]
theorem Qly (hS:∀x∈l,Qn2 N F S x m) (hl:l.length≤1000) (k:List Int→Option (List Int)):∀(n i:Nat),(l.drop i).length<n→i≤l.length →
  Qax N F m l k n i ((l.take i).map (fun x=>Qf8 x (S x m))++List.replicate (l.length-i) 0)=k (l.map fun x=>Qf8 x (S x m)):=by
 intro n
 induction n with
 |zero=>intro i h;exact absurd h (Nat.not_lt_zero _)
 |succ n ih=>
  intro i hn hi
  rw[Qax]
  cases hdr:l.drop i with
  |nil=>
   have:=Qgw hdr
   rw[decide_eq_false (show ¬((i:Int)<(l.length:Int)) by omega),cond_false,show l.length-i=0 by omega,List.take_of_length_le this,List.replicate_zero,List.append_nil]
  |cons a q=>
   obtain⟨h1,h2,h3⟩:=Qfo hdr
   have hs:=hS a (List.mem_of_getElem? h1)
   have hlen:((l.take i).map fun x=>Qf8 x (S x m)).length=i:=by simp;omega
   rw[decide_eq_true (show(i:Int)<(l.length:Int) by omega),cond_true,Qfi h1,Option.bind_some]
   unfold Qce chk
   rw[Option.bind_some,hs.run,Option.bind_some,Qqy hs,Option.bind_some,show(decide ((0:Int)≤(i:Int))&&decide ((i:Int).toNat<(l.length:Int).toNat))=true from by simp;omega,cond_true,Int.toNat_natCast]
   rw[List.getElem?_append_right (by omega),hlen,Nat.sub_self,show l.length-i=(l.length-(i+1))+1 by omega,List.replicate_succ,List.getElem?_cons_zero,Option.bind_some,List.set_append_right _ _ (by omega),hlen,Nat.sub_self,List.set_cons_zero,Qcz (x:=(i:Int)+1) (by omega) (by omega),show(i:Int)+1=((i+1:Nat):Int) by omega]
   have e:(l.take i).map (fun x=>Qf8 x (S x m))++Qf8 a (S a m)::List.replicate (l.length-(i+1)) 0=(l.take (i+1)).map (fun x=>Qf8 x (S x m))++List.replicate (l.length-(i+1)) 0:=by
    rw[List.take_add_one,h1];simp
   rw[e]
   exact ih (i+1) (by rw[h2];rw[hdr] at hn;simp at hn;omega) h3
theorem Qo9 (hS:∀x∈l,Qn2 N F S x m) (hl:l.length≤1000) (hN:1001≤N):Qcc N F m l=some (l.map fun x=>Qf8 x (S x m)):=by
 unfold Qcc Qc4
 dsimp only
 have:=Qly hS hl (fun y4=>chk (decide ((l.length:Int).toNat≤y4.length))<|some (y4.take (l.length:Int).toNat)) N 0 (by simp;omega) (Nat.zero_le _)
 rw[List.take_zero,List.map_nil,List.nil_append,Nat.sub_zero,show((0:Nat):Int)=0 from rfl] at this
 unfold chk at this ⊢
 rw[show(decide (0≤(l.length:Int))&&decide (8*(l.length:Int)≤281474976710656)&&decide ((l.length:Int)≤9223372036854775807))=true from by simp;omega,cond_true,Int.toNat_natCast]
 rw[Int.toNat_natCast] at this
 rw[this,decide_eq_true (by simp),cond_true,List.take_of_length_le (by simp)]
theorem Qq2 (N:Nat) (p:List Int) (hl:p.length≤1000):∀(n i:Nat),(p.drop i).length<n→∃x:Int,Qam N p (fun _=>some (-1)) n i=some x∧decide (x≥0)=(p.drop i).any (fun z=>z != 0)∧(x≥0→x.toNat<p.length):=by
 intro n
 induction n with
 |zero=>intro i h;exact absurd h (Nat.not_lt_zero _)
 |succ n ih=>
  intro i hn
  rw[Qam]
  cases hdr:p.drop i with
  |nil=>
   have:=Qgw hdr
   exact⟨-1,by rw[decide_eq_false (show ¬((i:Int)<(p.length:Int)) by omega),cond_false],rfl,fun h=>by omega⟩
  |cons a q=>
   obtain⟨h1,h2,h3⟩:=Qfo hdr
   rw[decide_eq_true (show(i:Int)<(p.length:Int) by omega),cond_true,Qfi h1,Option.bind_some,List.any_cons]
   unfold Qdd
   rw[Option.bind_some]
   cases ha:(a != 0) with
   |true=>exact⟨i,rfl,by rw[Bool.true_or];exact decide_eq_true (by omega),fun _=>by omega⟩
   |false=>
    obtain⟨x,e,hx,hb⟩:=ih (i+1) (by rw[h2];rw[hdr] at hn;simp at hn;omega)
    rw[h2] at hx
    exact⟨x,by rw[cond_false,Qcz (x:=(i:Int)+1) (by omega) (by omega),show(i:Int)+1=((i+1:Nat):Int) by omega,e],by rw[Bool.false_or];exact hx,hb⟩
theorem Qj6 {ms:List Qau}(hS:∀x∈l,∀m∈ms,Qn2 N F S x m) (hl:l.length≤1000) (hm:ms.length≤1000) (hN:1001≤N) (k:List Int×List Qbc→Option (List Int×List Qbc×Int)):∀(n i:Nat) (L:List Int) (st:List Qbc),(ms.drop i).length<n→L.length≤i→st.length≤i →
  ∃st',Qa6 N F ms l k n L st i=k (L++Qh3 (okM S l) i (ms.drop i),st'):=by
 intro n
 induction n with
 |zero=>intro i _ _ h;exact absurd h (Nat.not_lt_zero _)
 |succ n ih=>
  intro i L st hn hL hst
  rw[Qa6]
  cases hdr:ms.drop i with
  |nil=>
   have:=Qgw hdr
   exact⟨st,by rw[decide_eq_false (show ¬((i:Int)<(ms.length:Int)) by omega),cond_false,Qh3,List.append_nil]⟩
  |cons a q=>
   obtain⟨h1,h2,h3⟩:=Qfo hdr
   have ha:=List.mem_of_getElem? h1
   rw[decide_eq_true (show(i:Int)<(ms.length:Int) by omega),cond_true,Qfi h1,Option.bind_some,Qo9 (fun x hx=>hS x hx a ha) hl hN,Option.bind_some]
   have hw:w64 ((i:Int)+1)=((i+1:Nat):Int):=Qcz (by omega) (by omega)
   have hlen:(l.map fun x=>Qf8 x (S x a)).length=l.length:=List.length_map _
   obtain⟨x,e,hx,hb⟩:=Qq2 N (l.map fun x=>Qf8 x (S x a)) (by omega) N 0 (by simp;omega)
   rw[show((0:Nat):Int)=0 from rfl] at e
   unfold Qbr Qc4
   dsimp only
   rw[e,Option.bind_some]
   have hok:decide (x≥0)=!okM S l a:=by
    rw[hx,List.drop_zero,List.any_map]
    unfold okM
    rw[List.not_all_eq_any_not]
    have hc:∀z∈l,((fun z:Int=>z != 0) ∘ fun x=>Qf8 x (S x a)) z=!(decide (z.In.Lo≤S z a)&&decide (S z a≤z.In.Hi)):=fun z hz=>Qpa
    rw[Bool.eq_iff_iff,List.any_eq_true,List.any_eq_true]
    exact⟨fun ⟨z,hz,h⟩=>⟨z,hz,(hc z hz)▸h⟩,fun ⟨z,hz,h⟩=>⟨z,hz,(hc z hz).symm▸h⟩⟩
   rw[Qh3]
   cases ho:okM S l a with
   |true=>
    rw[ho] at hok
    rw[hok,Bool.not_true,cond_false,cond_true]
    unfold chk
    rw[show decide ((L.length+([(i:Int)]).length)*8≤140737488355328)=true from by simp;omega,cond_true,hw]
    obtain⟨st',e'⟩:=ih (i+1) (L++[(i:Int)]) st (by rw[h2];rw[hdr] at hn;simp at hn;omega) (by simp;omega) (by omega)
    exact⟨st',by rw[e',h2,List.append_assoc];rfl⟩
   |false=>
    rw[ho] at hok
    have hx0:x≥0:=of_decide_eq_true hok
    have hxl:=hb hx0
    obtain⟨v,hg⟩:∃v,getI (l.map fun x=>Qf8 x (S x a)) x=some v:=by
     have:=Qfi (i:=x.toNat) (List.getElem?_eq_getElem hxl)
     rw[Int.toNat_of_nonneg hx0] at this
     exact⟨_,this⟩
    rw[hok,Bool.not_false,cond_true,cond_false,hg,Option.bind_some]
    unfold chk
    rw[show ∀z:Qbc,decide ((st.length+([z]).length)*24≤140737488355328)=true from fun z=>by simp;omega,cond_true,hw]
    obtain⟨st',e'⟩:=ih (i+1) L (st++[(⟨(i:Int),x,v⟩:Qbc)]) (by rw[h2];rw[hdr] at hn;simp at hn;omega) (by omega) (by simp;omega)
    exact⟨st',by rw[e',h2]⟩
theorem Qnc {ms:List Qau}(hF:Qbw N F=some 0) (hM:∀m∈ms,Qb6 N F m=some 0) (hMd:(ms.map fun m=>m.Name).Nodup) (hm1:1≤ms.length) (hm:ms.length≤40)
  (hX:∀x∈l,Qb0 N F x=some 0) (hXd:(l.map fun x=>x.Name).Nodup) (hl:l.length≤12) (hS:∀x∈l,∀m∈ms,Qn2 N F S x m) (hN:1001≤N):∃st,Qb4 N F ms l=some (Qh3 (okM S l) 0 ms,st,0):=by
 have e1:Qbi N ms F.X F.Y F.Z F.Kinds=some 0:=by
  unfold Qbi Qc4
  exact Qmw (F:=Qat N ms F.X (fun _=>some 0) F.Y F.Z F.Kinds) (q:=fun x=>Qbx N x F.X F.Y F.Z F.Kinds) (nm:=fun m=>m.Name) (k:=fun _=>some 0) (fun n y s=>rfl)
   (fun x hx=>by unfold Qbx;rw[hM x hx,Option.bind_some]) hMd rfl (by omega) N 0 (by simp;omega)
 have e2:Qbb N l F.X F.Y F.Z F.Kinds=some 0:=by
  unfold Qbb Qc4
  exact Qmw (F:=Qas N l F.X (fun _=>some 0) F.Y F.Z F.Kinds) (q:=fun x=>Qbj N x F.X F.Y F.Z F.Kinds) (nm:=fun m=>m.Name) (k:=fun _=>some 0) (fun n y s=>rfl)
   (fun x hx=>by unfold Qbj;rw[hX x hx,Option.bind_some]) hXd rfl (by omega) N 0 (by simp;omega)
 have e3:Qb3 N F ms=some 0:=by
  unfold Qb3 Qa8
  rw[decide_eq_true (show(1:Int)≤(ms.length:Int) by omega),cond_true,decide_eq_true (show(ms.length:Int)≤40 by omega),Option.bind_some,Bool.not_true,cond_false,e1,Option.bind_some]
 have e4:Qbn N F l=some 0:=by
  unfold Qbn
  rw[decide_eq_false (show ¬((l.length:Int)>12) by omega),cond_false,e2,Option.bind_some]
 have e5:Qeh N F ms l=some 0:=by
  unfold Qeh Qdv Qdp Qdo Qc4
  show(((Qbw N F).bind _).bind _:Option Int)=_
  rw[hF,Option.bind_some,show((0:Int) != 0)=false from rfl,cond_false,show Qb3 N ⟨F.X,F.Y,F.Z,F.Kinds⟩ ms=some 0 from e3,Option.bind_some,Option.bind_some,show((0:Int) != 0)=false from rfl,cond_false,show Qbn N ⟨F.X,F.Y,F.Z,F.Kinds⟩ l=some 0 from e4,Option.bind_some,Option.bind_some]
  rfl
 unfold Qb4 Qc4
 dsimp only
 rw[e5,Option.bind_some,show((0:Int) != 0)=false from rfl,cond_false]
 obtain⟨st,e⟩:=Qj6 hS (by omega) (by omega) hN (fun x=>some (x.1,x.2,0)) N 0 [] [] (by simp;omega) (Nat.le_refl _) (Nat.le_refl _)
 refine⟨st,?_⟩
 rw[show((0:Nat):Int)=0 from rfl,List.drop_zero,List.nil_append] at e
 exact e
end
end
section
theorem Qfg:Qc3 2000=some true:=by decide +kernel
theorem Qs7 {m:Qb2}(h:Qeo m=true):0≤(thr m).Lo∧(thr m).Lo≤(thr m).Hi∧(thr m).Hi≤2000000000:=by
 obtain⟨⟨h1,h2⟩,h3,h4⟩:=Qgp.1 h
 have b:=(Qr6 h).1.1
 unfold thr at b ⊢
 dsimp only at b ⊢
 rw[Int.tdiv_eq_ediv_of_nonneg (by omega)] at b
 rw[Int.tdiv_eq_ediv_of_nonneg (by omega),Int.tdiv_eq_ediv_of_nonneg (by omega)]
 generalize m.Reading=r at *
 generalize m.Off=o at *
 have p1:0≤o*r:=Int.mul_nonneg h3 h1
 have q1:(1000*r+(1000+o)-1)/(1000+o)≤r:=by
  have:(1000*r+(1000+o)-1)/(1000+o)<r+1:=by
   refine Int.ediv_lt_of_lt_mul (by omega) ?_
   rw[Int.add_mul,Int.mul_add,Int.mul_comm r o]
   omega
  omega
 have q2:r≤1000*r/(1000-o):=by
  refine Int.le_ediv_of_mul_le (by omega) ?_
  rw[Int.mul_sub,Int.mul_comm r o]
  omega
 have q3:1000*r/(1000-o)<2*r+1:=by
  refine Int.ediv_lt_of_lt_mul (by omega) ?_
  have p2:0≤r*(500-o):=Int.mul_nonneg h1 (by omega)
  rw[Int.mul_sub] at p2
  have p3:2*r*o=2*(o*r):=by rw[Int.mul_assoc,Int.mul_comm r o]
  rw[Int.mul_comm r o] at p2
  rw[Int.add_mul,Int.one_mul,Int.mul_sub,p3]
  omega
 omega
theorem Qot (u:Int) (h:0≤u):thr ⟨u,0⟩=⟨u,u⟩:=by
 unfold thr
 dsimp only
 rw[Int.tdiv_eq_ediv_of_nonneg (by omega),Int.tdiv_eq_ediv_of_nonneg (by omega)]
 have e1:(1000*u+(1000+0)-1)/(1000+0)=u:=by omega
 have e2:1000*u/(1000-0)=u:=by omega
 rw[e1,e2]
def nmM (i:Nat):ByteArray:=ByteArray.append ⟨#[109]⟩ (strOfNums [IntKind.wrap .u8 (w64 (97+(i:Int)))])
theorem Qts:∀i:_root_.Fin 8,Qcp 2000 (nmM i)=some true:=by decide +kernel
theorem Qu7:∀i:_root_.Fin 8,decide (ByteArray.size ⟨#[109]⟩+ByteArray.size (strOfNums [IntKind.wrap .u8 (w64 (97+((i:Nat):Int)))])≤9223372036854775807)=true:=by decide +kernel
theorem Qwh:∀i j:_root_.Fin 8,nmM i=nmM j→i=j:=by decide +kernel
theorem Qtq:Qcp 2000 ⟨#[116,114,117,101]⟩=some true:=by decide +kernel
theorem Qtr:Qcp 2000 ⟨#[111,116,104,101,114]⟩=some true:=by decide +kernel
def mea (i:Nat) (r:Qaj):Qaa:=⟨nmM i,0,[(i:Int)],[1],⟨r.Lo,r.Hi⟩⟩
def meaL (R:Nat→Qaj) (i:Nat):List Qaa:=(List.range i).map fun j=>mea j (R j)
theorem Qkj (R:Nat→Qaj) (i:Nat):meaL R (i+1)=meaL R i++[mea i (R i)]:=by
 unfold meaL;rw[List.range_succ,List.map_append];rfl
theorem Qjn (R:Nat→Qaj) (i:Nat):(meaL R i).length=i:=by simp[meaL]
theorem Qnk (R:Nat→Qaj) {n:Nat}(h:n≤8):((meaL R n).map fun x=>x.Name).Nodup:=by
 unfold meaL
 rw[List.map_map]
 refine List.pairwise_map.2 ((List.nodup_range (n:=n)).imp_of_mem fun {a b} ha hb hne e=>?_)
 have h1:=List.mem_range.1 ha
 have h2:=List.mem_range.1 hb
 have:=Qwh ⟨a,by omega⟩ ⟨b,by omega⟩ e
 exact hne (by simpa using this)
def fldN (n:Nat):Qar:=⟨(n:Int),1,1,1⟩
theorem Qgy (N:Nat) {n:Nat}(h:n≤8):Qa4 N (fldN n)=some (n:Int):=by
 unfold Qa4 fldN
 dsimp only
 rw[Int.mul_one,Int.mul_one,Qcz (x:=(n:Int)) (by omega) (by omega),Qcz (by omega) (by omega)]
 rfl
theorem Qfp (N:Nat) (a lo hi:Int):Qa8 N a lo hi=some (btw a lo hi):=by
 unfold Qa8 btw
 by_cases h:lo≤a<;>simp[h]
theorem Qqt (N:Nat) {n:Nat}(h1:1≤n) (h:n≤8):Qbw N (fldN n)=some 0:=by
 have hb:=Qgy N h
 unfold Qbw Qc1
 rw[hb]
 simp only[Qfp,Option.bind_some]
 unfold fldN
 dsimp only
 rw[Qgb.2 ⟨show(1:Int)≤n by omega,by omega⟩,Qgb.2 ⟨show(1:Int)≤1 by omega,show(1:Int)≤8 by omega⟩,Qgb.2 ⟨show(1:Int)≤1 by omega,show(1:Int)≤6 by omega⟩,decide_eq_true (show(n:Int)≤64 by omega)]
 rfl
theorem Quj {v:List Int}(hv:∀x∈v,0≤x∧x≤100000) (hl:v.length≤8):Qcv 2000 v=some true:=by
 have hc:∀(n i:Nat),(v.drop i).length<n→Qan 2000 v (fun _=>some (-1)) n i=some (-1):=by
  intro n
  induction n with
  |zero=>intro i h;exact absurd h (Nat.not_lt_zero _)
  |succ n ih=>
   intro i hn
   rw[Qan]
   cases hd:v.drop i with
   |nil=>
    have:=Qgw hd
    rw[decide_eq_false (show ¬((i:Int)<(v.length:Int)) by omega),cond_false]
   |cons a q=>
    obtain⟨g1,g2,g3⟩:=Qfo hd
    have:=hv a (List.mem_of_getElem? g1)
    unfold Qc0 Qcg
    rw[decide_eq_true (show(i:Int)<(v.length:Int) by omega),cond_true,Qfi g1,Option.bind_some,Qfp,Qgb.2 ⟨by omega,by omega⟩,Option.bind_some,Option.bind_some,Option.bind_some,Bool.not_true,cond_false,Qcz (x:=(i:Int)+1) (by omega) (by omega),show(i:Int)+1=((i+1:Nat):Int) by omega]
    exact ih (i+1) (by rw[g2];rw[hd] at hn;simp at hn;omega)
 unfold Qcv Qbf Qbs Qc4
 dsimp only
 have:=hc 2000 0 (by simp;omega)
 rw[show((0:Nat):Int)=0 from rfl] at this
 rw[this]
 rfl
theorem Qml {n:Nat}(h:n≤8) {nm:ByteArray}(hn:Qcp 2000 nm=some true) {v:List Int}(hv:∀x∈v,0≤x∧x≤100000) (hl:v.length=n):Qb6 2000 (fldN n) ⟨nm,v⟩=some 0:=by
 unfold Qb6
 rw[hn,Option.bind_some,Bool.not_true,cond_false,Qgy 2000 h,Option.bind_some]
 unfold fldN
 dsimp only
 rw[Int.one_mul,Qcz (by omega) (by omega),hl,bne_self_eq_false,cond_false,Quj hv (by omega),Option.bind_some]
 rfl
theorem Qvg {n:Nat}(h:n≤8) {i:Nat}(hi:i<n) {r:Qaj}(h0:0≤r.Lo) (h1:r.Lo≤r.Hi) (h2:r.Hi≤2000000000):Qb0 2000 (fldN n) (mea i r)=some 0:=by
 have hs:Qcn 2000 (fldN n) 0 [(i:Int)] [1]=some true:=by
  unfold Qcn Qc4
  dsimp only
  rw[Qfp,show btw 0 0 (w64 ((fldN n).Kinds-1))=true from rfl,Option.bind_some,Bool.not_true,cond_false]
  rw[show decide ((([(i:Int)]:List Int).length:Int)<1)=false from rfl,cond_false,show((([(i:Int)]:List Int).length:Int) != (([1]:List Int).length:Int))=false from rfl,cond_false]
  rw[show(2000:Nat)=1999+1 from rfl,Qa3,show decide ((0:Int)<(([(i:Int)]:List Int).length:Int))=true from rfl,cond_true,show getI [(i:Int)] 0=some (i:Int) from rfl,Option.bind_some,decide_eq_false (show ¬((i:Int)≤-1) by omega),cond_false,Qgy _ h,Option.bind_some,decide_eq_false (show ¬((i:Int)≥(n:Int)) by omega),cond_false,show getI ([1]:List Int) 0=some 1 from rfl,Option.bind_some,Qfp,show btw 1 (-1000) 1000=true from rfl,Option.bind_some,Bool.not_true,cond_false]
  rw[show(1999:Nat)=1998+1 from rfl,Qa3,show decide (w64 (0+1)<(([(i:Int)]:List Int).length:Int))=false from by rw[Qcz (by omega) (by omega)];rfl,cond_false]
 unfold Qb0 mea
 dsimp only
 rw[Qts ⟨i,by omega⟩,Option.bind_some,Bool.not_true,cond_false,hs,Option.bind_some,Bool.not_true,cond_false]
 unfold Qc9
 dsimp only
 rw[decide_eq_true (show -10000000000≤r.Lo by omega),cond_true,decide_eq_true h1,cond_true,decide_eq_true (show r.Hi≤10000000000 by omega),Option.bind_some]
 rfl
def atB (x:Qaa) (m:Qau):Int:=m.Values.getD (x.Blocks.getD 0 0).toNat 0
theorem Qr7 {n:Nat}(h:n≤8) {i:Nat}(hi:i<n) {r:Qaj}(h0:0≤r.Lo) (h1:r.Lo≤r.Hi) (h2:r.Hi≤2000000000) {m:Qau}(hv:∀x∈m.Values,0≤x∧x≤100000) (hl:m.Values.length=n):Qn2 2000 (fldN n) atB (mea i r) m:=by
 have hx:m.Values[i]? = some (m.Values[i]'(by omega)):=List.getElem?_eq_getElem _
 generalize m.Values[i]'(by omega)=v at hx
 have hb:=hv v (List.mem_of_getElem? hx)
 have ha:atB (mea i r) m=v:=by
  unfold atB mea
  show m.Values.getD ((i:Int)).toNat 0=v
  rw[Int.toNat_natCast,List.getD_eq_getElem?_getD,hx,Option.getD_some]
 refine⟨?_,by rw[ha];omega,show -10000000000≤r.Lo by omega,h1,show r.Hi≤10000000000 by omega⟩
 rw[ha]
 unfold Qc5 Qc4 mea
 dsimp only
 rw[show(2000:Nat)=1999+1 from rfl,Qba,show decide ((0:Int)<(([(i:Int)]:List Int).length:Int))=true from rfl,cond_true,show getI [(i:Int)] 0=some (i:Int) from rfl,Option.bind_some,show getI ([1]:List Int) 0=some 1 from rfl,Option.bind_some,show Qa4 (1999+1) ⟨(fldN n).X,(fldN n).Y,(fldN n).Z,(fldN n).Kinds⟩=some (n:Int) from Qgy _ h,Option.bind_some,Int.zero_mul,Qcz (x:=0) (by omega) (by omega),Int.zero_add,Qcz (x:=(i:Int)) (by omega) (by omega),Qfi hx,Option.bind_some,Int.one_mul,Qcz (x:=v) (by omega) (by omega),Int.zero_add,Qcz (x:=v) (by omega) (by omega),Option.bind_some]
 rw[show(1999:Nat)=1998+1 from rfl,Qba,show decide (w64 (0+1)<(([(i:Int)]:List Int).length:Int))=false from by rw[Qcz (by omega) (by omega)];rfl,cond_false]
theorem Qto {R:Nat→Qaj}{n:Nat}{m:Qau}:okM atB (meaL R n) m=(List.range n).all fun j=>decide ((R j).Lo≤m.Values.getD j 0)&&decide (m.Values.getD j 0≤(R j).Hi):=by
 unfold okM meaL
 rw[List.all_map]
 rfl
theorem Qmp (ok:Qau→Bool) (a b:Qau):Qh3 ok 0 [a,b]=(bif ok a then(bif ok b then[0,1] else[0]) else(bif ok b then[1] else[])):=by
 rw[Qh3,Qh3,Qh3]
 cases ok a<;>cases ok b<;>rfl
section
variable {us : List Int} {ms : List Qb2} {ot : List Int}
def Rm (ms:List Qb2) (i:Nat):Qaj:=thr (ms.getD i ⟨0,0⟩)
def Re (us:List Int) (i:Nat):Qaj:=thr ⟨us.getD i 0,0⟩
def inM (us:List Int) (ms:List Qb2) (i:Nat):Bool:=(List.range i).all fun j=>decide ((Rm ms j).Lo≤us.getD j 0)&&decide (us.getD j 0≤(Rm ms j).Hi)
def Qj8 (us ot:List Int) (i:Nat):Bool:=(List.range i).all fun j=>us.getD j 0==ot.getD j 0
theorem Qm3 (f:Nat→Bool) (i:Nat):(List.range (i+1)).all f=((List.range i).all f&&f i):=by
 rw[List.range_succ,List.all_append];simp
structure ValM (us:List Int) (ms:List Qb2) (ot:List Int) (i:Nat):Prop where
 u:∀j,j<i→0≤us.getD j 0∧us.getD j 0≤100000
 o:∀j,j<i→0≤ot.getD j 0∧ot.getD j 0≤100000
 m:∀j,j<i→Qeo (ms.getD j ⟨0,0⟩)=true
theorem Qqz {n:Nat}(hu:us.length=n) (hm:ms.length=n) (ho:ot.length=n) (h8:n≤8) (k:List Qaa×List Qaa×Bool×Bool→Option Bool)
  (hk:ValM us ms ot n→k (meaL (Rm ms) n,meaL (Re us) n,inM us ms n,Qj8 us ot n)=some true):∀(d i:Nat),n-i<d→i≤n→ValM us ms ot i →
  Qaq 2000 us ms ot k d (meaL (Rm ms) i) (meaL (Re us) i) (inM us ms i) (Qj8 us ot i) i=some true:=by
 intro d
 induction d with
 |zero=>intro i h;omega
 |succ d ih=>
  intro i hd hi hv
  rw[Qaq]
  rcases Nat.lt_or_ge i n with hlt |hge
  ·have gu:getI us (i:Int)=some (us.getD i 0):=Qh4 0 (by omega)
   have gm:getI ms (i:Int)=some (ms.getD i ⟨0,0⟩):=Qh4 _ (by omega)
   have go:getI ot (i:Int)=some (ot.getD i 0):=Qh4 0 (by omega)
   unfold Qc4
   dsimp only
   rw[decide_eq_true (show(i:Int)<(us.length:Int) by omega),cond_true,gu,Option.bind_some,Qq1,Option.bind_some]
   cases h1:btw (us.getD i 0) 0 100000 with
   |false=>rw[Bool.not_false,cond_true,Qfg,Option.bind_some]
   |true=>
   rw[Bool.not_true,cond_false,go,Option.bind_some,Qq1,Option.bind_some]
   cases h2:btw (ot.getD i 0) 0 100000 with
   |false=>rw[Bool.not_false,cond_true,Qfg,Option.bind_some]
   |true=>
   rw[Bool.not_true,cond_false,gm,Option.bind_some,Qo0,Option.bind_some]
   cases h3:Qeo (ms.getD i ⟨0,0⟩) with
   |false=>rw[Bool.not_false,cond_true,Qfg,Option.bind_some]
   |true=>
   have b1:=Qgb.1 h1
   have b2:=Qgb.1 h2
   have h4:Qeo ⟨us.getD i 0,0⟩=true:=Qgp.2 ⟨⟨by dsimp only;omega,by dsimp only;omega⟩,by dsimp only;omega,by dsimp only;omega⟩
   have hv':ValM us ms ot (i+1):=⟨fun j hj=>by
    rcases Nat.lt_or_ge j i with h |h
    ·exact hv.u j h
    ·rw[show j=i by omega];exact b1,fun j hj=>by
    rcases Nat.lt_or_ge j i with h |h
    ·exact hv.o j h
    ·rw[show j=i by omega];exact b2,fun j hj=>by
    rcases Nat.lt_or_ge j i with h |h
    ·exact hv.m j h
    ·rw[show j=i by omega];exact h3⟩
   have ih':=ih (i+1) (by omega) hlt hv'
   have hw:w64 ((i:Int)+1)=((i+1:Nat):Int):=Qcz (by omega) (by omega)
   have e1:meaL (Rm ms) i++[(⟨ByteArray.append ⟨#[109]⟩ (strOfNums [IntKind.wrap .u8 (w64 (97+(i:Int)))]),0,[(i:Int)],[1],⟨(thr (ms.getD i ⟨0,0⟩)).Lo,(thr (ms.getD i ⟨0,0⟩)).Hi⟩⟩:Qaa)]=meaL (Rm ms) (i+1):=(Qkj _ _).symm
   have e2:meaL (Re us) i++[(⟨ByteArray.append ⟨#[109]⟩ (strOfNums [IntKind.wrap .u8 (w64 (97+(i:Int)))]),0,[(i:Int)],[1],⟨(thr ⟨us.getD i 0,0⟩).Lo,(thr ⟨us.getD i 0,0⟩).Hi⟩⟩:Qaa)]=meaL (Re us) (i+1):=(Qkj _ _).symm
   have e3:inM us ms (i+1)=(inM us ms i&&(decide ((Rm ms i).Lo≤us.getD i 0)&&decide (us.getD i 0≤(Rm ms i).Hi))):=Qm3 _ _
   have e4:Qj8 us ot (i+1)=(Qj8 us ot i&&(us.getD i 0==ot.getD i 0)):=Qm3 _ _
   rw[Bool.not_true,cond_false,Option.bind_some,Qik,if_pos h3,Option.bind_some,Option.bind_some,Qik,if_pos h4,Option.bind_some]
   dsimp only
   rw[show((0:Int) != 0)=false from rfl,cond_false,cond_false]
   unfold chk
   rw[Qu7 ⟨i,by omega⟩,cond_true,show ∀z:Qaa,decide (((meaL (Rm ms) i).length+([z]).length)*88≤140737488355328)=true from fun z=>decide_eq_true (by rw[Qjn,List.length_singleton];omega),cond_true,show ∀z:Qaa,decide (((meaL (Re us) i).length+([z]).length)*88≤140737488355328)=true from fun z=>decide_eq_true (by rw[Qjn,List.length_singleton];omega),cond_true]
   rw[e1,e2,hw]
   rw[e3,e4] at ih'
   have hd1:(decide (us.getD i 0≥(thr (ms.getD i ⟨0,0⟩)).Lo))=decide ((Rm ms i).Lo≤us.getD i 0):=rfl
   have hd2:(decide (us.getD i 0≤(thr (ms.getD i ⟨0,0⟩)).Hi))=decide (us.getD i 0≤(Rm ms i).Hi):=rfl
   rw[hd1,hd2]
   simp only[Option.bind_some]
   cases hin:inM us ms i<;>cases hsm:Qj8 us ot i<;>cases hlo:decide ((Rm ms i).Lo≤us.getD i 0)<;>(rw[hin,hsm,hlo] at ih';simp only[cond_true,cond_false,Bool.true_and,Bool.false_and] at ih' ⊢;exact ih')
  ·have:i=n:=by omega
   subst this
   rw[decide_eq_false (show ¬((i:Int)<(us.length:Int)) by omega),cond_false]
   exact hk hv
end
theorem Qmq {l:List Int}{n:Nat}(hl:l.length=n) (h:∀j,j<n→0≤l.getD j 0∧l.getD j 0≤100000):∀x∈l,0≤x∧x≤100000:=fun x hx=>by
 obtain⟨j,hj⟩:=List.mem_iff_getElem?.1 hx
 have hlt:=(List.getElem?_eq_some_iff.1 hj).1
 have:=h j (by omega)
 rwa [List.getD_eq_getElem?_getD,hj,Option.getD_some] at this
theorem Qjp {κ β:Type}(k:κ) (f:κ→Option β):Qc4 k f=f k:=by rw[Qc4]
theorem Qnj (us:List Int) (ms:List Qb2) (ot:List Int) (_:Qlz us) (_:Qiv ms) (_:Qlz ot):Qdu 2000 us ms ot=some true:=by
 unfold Qdu
 rw[Qjp]
 by_cases h1:(us.length:Int)<1
 ·rw[decide_eq_true h1,cond_true,Qfg,Option.bind_some]
 rw[decide_eq_false h1,cond_false]
 by_cases h8:(us.length:Int)>8
 ·rw[decide_eq_true h8,cond_true,Qfg,Option.bind_some]
 rw[decide_eq_false h8,cond_false]
 by_cases hm:(ms.length:Int)=us.length
 rotate_left
 ·rw[bne_iff_ne.2 hm,cond_true,Qfg,Option.bind_some]
 rw[hm,bne_self_eq_false,cond_false]
 by_cases ho:(ot.length:Int)=us.length
 rotate_left
 ·rw[bne_iff_ne.2 ho,cond_true,Qfg,Option.bind_some]
 rw[ho,bne_self_eq_false,cond_false]
 unfold chk
 rw[decide_eq_true (show(([]:List Int).length+us.length)*8≤140737488355328 by rw[List.length_nil];omega),cond_true,decide_eq_true (show(([]:List Int).length+ot.length)*8≤140737488355328 by rw[List.length_nil];omega),cond_true]
 have hn:us.length≤8:=by omega
 rw[Qjp]
 refine Qqz (n:=us.length) rfl (by omega) (by omega) hn _ (fun hv=>?_) 2000 0 (by omega) (by omega) ⟨fun j hj=>by omega,fun j hj=>by omega,fun j hj=>by omega⟩
 have vu:=Qmq rfl hv.u
 have vo:=Qmq (n:=us.length) (by omega) hv.o
 have rm:∀j,j<us.length→0≤(Rm ms j).Lo∧(Rm ms j).Lo≤(Rm ms j).Hi∧(Rm ms j).Hi≤2000000000:=fun j hj=>Qs7 (hv.m j hj)
 have rx:∀j,j<us.length→Re us j=⟨us.getD j 0,us.getD j 0⟩:=fun j hj=>Qot _ (hv.u j hj).1
 have re:∀j,j<us.length→0≤(Re us j).Lo∧(Re us j).Lo≤(Re us j).Hi∧(Re us j).Hi≤2000000000:=fun j hj=>by
  have:=hv.u j hj
  rw[rx j hj];dsimp only;omega
 have key:∀(R:Nat→Qaj),(∀j,j<us.length→0≤(R j).Lo∧(R j).Lo≤(R j).Hi∧(R j).Hi≤2000000000)→∃st,Qb4 2000 (fldN us.length) [⟨⟨#[116,114,117,101]⟩,us⟩,⟨⟨#[111,116,104,101,114]⟩,ot⟩] (meaL R us.length)=some (Qh3 (okM atB (meaL R us.length)) 0 [⟨⟨#[116,114,117,101]⟩,us⟩,⟨⟨#[111,116,104,101,114]⟩,ot⟩],st,0):=fun R hR=>by
  have mem:∀x∈meaL R us.length,∃j,j<us.length∧x=mea j (R j):=fun x hx=>by
   obtain⟨j,hj,rfl⟩:=List.mem_map.1 hx
   exact⟨j,List.mem_range.1 hj,rfl⟩
  refine Qnc (Qqt 2000 (by omega) hn) (fun m hmm=>?_) ?_ (Nat.le_of_ble_eq_true rfl) (Nat.le_of_ble_eq_true rfl) (fun x hx=>?_) (Qnk R hn) (by rw[Qjn];omega) (fun x hx m hmm=>?_) (Nat.le_of_ble_eq_true rfl)
  ·rcases List.mem_cons.1 hmm with rfl |hmm
   ·exact Qml hn Qtq vu rfl
   ·rw[List.mem_singleton.1 hmm];exact Qml hn Qtr vo (by omega)
  ·show List.Nodup [(⟨#[116,114,117,101]⟩:ByteArray),⟨#[111,116,104,101,114]⟩]
   simp
  ·obtain⟨j,hj,rfl⟩:=mem x hx
   obtain⟨a,b,c⟩:=hR j hj
   exact Qvg hn hj a b c
  ·obtain⟨j,hj,rfl⟩:=mem x hx
   obtain⟨a,b,c⟩:=hR j hj
   rcases List.mem_cons.1 hmm with rfl |hmm
   ·exact Qr7 hn hj a b c vu rfl
   ·rw[List.mem_singleton.1 hmm];exact Qr7 hn hj a b c vo (by dsimp only;omega)
 obtain⟨s1,k1⟩:=key (Rm ms) rm
 obtain⟨s2,k2⟩:=key (Re us) re
 have o1:okM atB (meaL (Rm ms) us.length) ⟨⟨#[116,114,117,101]⟩,us⟩=inM us ms us.length:=Qto
 have o2:okM atB (meaL (Re us) us.length) ⟨⟨#[116,114,117,101]⟩,us⟩=true:=by
  rw[Qto,List.all_eq_true]
  intro j hj
  rw[rx j (List.mem_range.1 hj)]
  simp
 have o3:okM atB (meaL (Re us) us.length) ⟨⟨#[111,116,104,101,114]⟩,ot⟩=Qj8 us ot us.length:=by
  rw[Qto]
  unfold Qj8
  rw[Bool.eq_iff_iff,List.all_eq_true,List.all_eq_true]
  have hq:∀j,j<us.length→((decide ((Re us j).Lo≤ot.getD j 0)&&decide (ot.getD j 0≤(Re us j).Hi))=true↔(us.getD j 0==ot.getD j 0)=true):=fun j hj=>by
   rw[rx j hj]
   simp only[Bool.and_eq_true,decide_eq_true_eq,beq_iff_eq]
   omega
  exact⟨fun h j hj=>(hq j (List.mem_range.1 hj)).1 (h j hj),fun h j hj=>(hq j (List.mem_range.1 hj)).2 (h j hj)⟩
 rw[Qmp,o1] at k1
 rw[Qmp,o2,o3,cond_true] at k2
 show((Qb4 2000 (fldN us.length) [⟨⟨#[116,114,117,101]⟩,us⟩,⟨⟨#[111,116,104,101,114]⟩,ot⟩] (meaL (Rm ms) us.length)).bind _)=_
 rw[k1,Option.bind_some]
 show((Qb4 2000 (fldN us.length) [⟨⟨#[116,114,117,101]⟩,us⟩,⟨⟨#[111,116,104,101,114]⟩,ot⟩] (meaL (Re us) us.length)).bind _)=_
 rw[k2,Option.bind_some,Qjp]
 dsimp only
 rw[show((0:Int) != 0)=false from rfl,cond_false,cond_false]
 have w:=Qfg
 cases hin:inM us ms us.length<;>cases hsm:Qj8 us ot us.length<;>cases hb:okM atB (meaL (Rm ms) us.length) ⟨⟨#[111,116,104,101,114]⟩,ot⟩<;>simp[getI,w]
end
end Go.Proofs.Ytflmombnmnblnaa
