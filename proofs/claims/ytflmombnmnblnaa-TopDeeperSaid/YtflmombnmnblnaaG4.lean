/-
  The texts X4, PVal, PFla, PPlant, PRw, PShr, PShb, PShc, PSort, PSym, PGre, PGrd, PShd, PShl, X5, PDr of the proof, one behind the other. No conditions.
-/
import Derived.Test.YtflmombnmnblnaaG3
namespace Go.Proofs.Ytflmombnmnblnaa
open _root_.Go.Proofs.Try
open Go.RowKit
set_option maxRecDepth 100000
set_option maxHeartbeats 4000000
set_option synthInstance.maxSize 4000
set_option synthInstance.maxHeartbeats 400000
section
def Qdr (N:Nat) (x3:((List Qbm)×Int)) (k6:(List Int)→Option ((List Int)×Bool)):Nat→(List Int)→Int→Option ((List Int)×Bool)
  |0,_,_=>none
  |n13+1,y9,y10=>
    bif (decide (y10≥0)) then
     (getI x3.1 y10).bind fun x15=>
     chk (decide ((y9.length+([x15.Steam.Mass]).length)*8≤140737488355328))<|
     Qdr N x3 k6 n13 (y9++([x15.Steam.Mass])) (w64 (y10-1))
    else
     k6 (y9)
def Qg8 (N:Nat) (p0:List GRow) (p1:List Int) (p2:Qap):Option ((List Int)×Bool):=
  chk (decide ((0+p1.length)*8≤140737488355328))<|
  (Qgn N p0 p1 p2).bind fun x3=>
  Qb5 (fun _=>
    Qb5 (fun y5=>
      some (y5,true)) fun k6:(List Int)→Option ((List Int)×Bool)=>
    (some (w64 ((x3.1.length:Int)-1))).bind fun x7=>
    Qdr N x3 k6 N ([]) x7) fun k4:Unit→Option ((List Int)×Bool)=>
  bif (x3.2 != 0) then
   some ([],false)
  else
   bif ((x3.1.length:Int) != (p1.length:Int)) then
    some ([],false)
   else
    k4 ()
def Q5b (p2:Qap):AV:=.agg [(I p2.Mass),(I p2.Heat),(I p2.Silica),(I p2.Gas)]
def Qpb (x3:((List Qbm)×Int)):AV:=.dat 10 (x3.1.map Qcw)
def Q1y:AV:=.dat 1 (([]:List Int).map Qab)
theorem Qkh (N:Nat) (p0:List GRow) (p1:List Int) (p2:Qap) (r:((List Int)×Bool)) (h:Qg8 N p0 p1 p2=some r):Spec prog 30 [(.dat 5 (p0.map Qat)),(.dat 1 (p1.map Qab)),(.agg (Qet p2))] [] (.tup [(.dat 1 (r.1.map Qab)),(B r.2)]) []:=by
  refine sA func30 0 fun _ _ _ hq hd0=>?_
  unfold Qg8 at h
  refine wxz ?_
  obtain⟨ha1,h⟩:=cko h
  obtain⟨x3,hf2,h⟩:=bno h
  refine wxd tbk [(2,⟨[((.const (.slice none 0 0)),nilS),(.tmp 14,(.dat 1 (p1.map Qab)))],[(1,.unused)],(.acc 1 3 1 (p1.map Qab)),[(1,.tok)],false⟩),(4,rp [fu 75,(.tmp 13,(.dat 5 (p0.map Qat))),(.tmp 15,(.acc 1 3 1 (p1.map Qab))),(.tmp 16,(Q5b p2))] (.tup [(Qpb x3),I x3.2]))] ⟨Qfv rfl underlying22 te3 (Base.nil) rfl rfl (Qkp Qab Qmj _) (Ql0 Qab ha1) (Qlz Qab ha1 (by decide)) (Qpa Qab) rfl rfl,awk (rd':=(.func 75,(.fn (.func 75) [] []))::[(.tmp 13,(.dat 5 (p0.map Qat))),(.tmp 15,(.dat 1 (p1.map Qab))),(.tmp 16,(Q5b p2))]) ⟨rfl,lrf,rfl,lrf,rfl,Less.acc,rfl,lrf,tv⟩ (apv Q4s (Ql8 N p0 p1 p2 _ hf2) (nlc (nld Qbn _) (nlc (nld Qad _) (nlc (NLt.agg _ (nlcc (nlcc nl0))) nl0))) (NLt.tup _ (nlc (nld Qfo _) (nlc nll nl0)))),tv⟩ ?_
  obtain⟨k4,hk_k4,h⟩:=jko h
  refine wjn (τ:=Unit) (fun t=>k4 t=some r) (fun _=>⟨mk 46 [(8,(Qpb x3))],[]⟩) (fun t h=>?_) ?_
  ·subst hk_k4
   refine wxz ?_
   obtain⟨k6,hk_k6,h⟩:=jko h
   refine wjn (τ:=(List Int)) (fun t=>k6 t=some r) (fun y5=>⟨mk 46 [(10,(.acc 0 3 1 (y5.map Qab)))],[.tok]⟩) (fun y5 h=>?_) ?_
   ·subst hk_k6
    refine wxz<|Qae ?_
    obtain rfl:=osi h
    exact fie [(.dat 1 (y5.map Qab)),B true] ⟨Qd3 (v:=(.acc 0 3 1 (y5.map Qab))) rot Less.acc,rot,tv⟩
   ·skip
    obtain⟨x7,hl8,h⟩:=bno h
    refine wx tbk [(1,rp _ _),(3,rp [(.tmp 31,(I (w64 ((x3.1.length:Int)-1))))] (I x7))] ⟨alq 10 Qcw x3.1 underlying174,Qfh hl8 (aas rfl),tv⟩<|Qag ?_
    refine wmr (Mor.trans (Qml 0 3 1 10 (by kernel_rfl) (by kernel_rfl)) (mto (n:=46) (l':=[(8,(Qpb x3)),(10,(.acc 0 3 1 ((([]):List Int).map Qab))),(11,I x7)]) (own':=[.tok]) [(8,(Qpb x3)),(10,(.acc 0 3 1 (([]:List Int).map Qab))),(11,I x7)] [0] [.tok] hq (pc (rnd Qfo) (pc (.rn (Qe1 rfl (Qdw Qad _))) (pw pn))) (qc .tok qn))) ?_
    refine Qb8 (τ:=(List Int)×Int) (fun n t=>Qdr N x3 k6 n t.1 t.2=some r) (fun ⟨y9,y10⟩=>⟨mk 46 [(8,(Qpb x3)),(10,(.acc 0 3 1 (y9.map Qab))),(11,I y10)],[.tok]⟩) (fun t h=>by rw[Qdr] at h;cases h) (fun n13 ih t h=>?_) N ([],x7) h
    obtain⟨y9,y10⟩:=t
    rw[Qdr] at h
    skip
    refine wsq<|wxz ?_
    refine bfe h (fun hc14 h=>?_) fun hc14 h=>?_
    ·refine wft hc14<|Qan<|thn<|wsq<|Qag ?_
     obtain⟨x15,hg16,h⟩:=bno h
     obtain⟨hi17,hj18⟩:=gsm hg16
     obtain⟨ha19,h⟩:=cko h
     refine wx1 tbk [(3,rp _ _),(7,rp [(.tmp 42,I x15.Steam.Mass)] (.dat 1 (([x15.Steam.Mass]:List Int).map Qab))),(8,⟨[(.tmp 36,(.acc 0 3 1 (y9.map Qab))),(.tmp 43,(.dat 1 (([x15.Steam.Mass]:List Int).map Qab)))],[(0,.tok),(1,.unused)],(.acc 1 3 1 ((y9++([x15.Steam.Mass]):List Int).map Qab)),[(0,.dead),(1,.tok)],false⟩)] ⟨aiq underlying174 Qq1 Qcw hi17 hj18,Qd0 (vs:=[I x15.Steam.Mass]) rfl underlying22 ti3 tz3 rfl (by decide) rfl (by decide) (by rfl) (by rfl) (by rfl) rfl,Qfv rfl underlying22 te3 (Base.acc _ _) rfl rfl (by rfl) (Qj5 Qab ha19) (Qj4 Qab ha19 (by decide)) (Qj3 Qab) rfl rfl,tv⟩<|bln<|thn<|wxz1<|thn ?_
     exact arm (mto (n:=46) [(8,(Qpb x3)),(10,(.acc 1 3 1 ((y9++([x15.Steam.Mass]):List Int).map Qab))),(11,(I (w64 (y10-1))))] [1] [.tok] hq (pc (rnd Qfo) (pc (.rn (Qe1 rfl (Qdw Qad _))) (pw pn))) (qc .tok qn)) (ih (y9++([x15.Steam.Mass]),w64 (y10-1)) h)
    ·exact wfn hc14<|Qbi<|Qaw<|Qaw<|Qbh rfl<|thn<|⟨(y9),h,(mto (n:=46) [(10,(.acc 0 3 1 (y9.map Qab)))] [0] [.tok] hq (pc (.rn (Qe1 rfl (Qdw Qad _))) pn) (qc .tok qn))⟩
  ·skip
   refine bfe h (fun hb20 h=>?_) fun hb20 h=>?_
   ·refine wx tbk [(2,rp [(.tmp 21,(B ((x3.2 != 0))))] (B true))] ⟨asb hb20 (amv rfl),tv⟩<|wtr<|wxz<|Qae<|Qak ?_
    obtain rfl:=osi h
    exact fie [Q1y,B false] ⟨Qd3 (v:=nilS) rot Less.nil,rot,tv⟩
   ·refine wx tbk [(2,rp [(.tmp 21,(B ((x3.2 != 0))))] (B false)),(4,rp [(.tmp 22,B false),(.tmp 23,(Qpb x3))] (I ((x3.1.length:Int)))),(6,rp [(.tmp 22,B false),(.tmp 25,(.dat 1 (p1.map Qab)))] (I ((p1.length:Int))))] ⟨asb hb20 (amv rfl),ag_ (alq 10 Qcw x3.1 underlying174),ag_ (alq 1 Qab p1 underlying22),tv⟩ ?_
    refine bfe h (fun hc21 h=>?_) fun hc21 h=>?_
    ·refine wft hc21<|wxz<|Qae<|Qak ?_
     obtain rfl:=osi h
     exact fie [Q1y,B false] ⟨Qd3 (v:=nilS) rot Less.nil,rot,tv⟩
    ·exact wfn hc21<|Qan<|thn<|⟨(),h,(mto (n:=46) [(8,(Qpb x3))] [] [] hq (pc (rnd Qfo) pn) qn)⟩
def Qc5 (N:Nat) (p0:Qah) (k1:Unit→Option Bool):Nat→Int→Option Bool
  |0,_=>none
  |n8+1,y6=>
    bif (decide (y6<(p0.Parts.length:Int))) then
     (getI p0.Parts y6).bind fun x10=>
     (Qdu N x10.Width 1 100000).bind fun x15=>
     bif (!x15) then
      some false
     else
      (Qdu N x10.Gain 0 1000).bind fun x18=>
      bif (!x18) then
       some false
      else
       bif (decide (y6>0)) then
        (getI p0.Parts (w64 (y6-1))).bind fun x21=>
        bif (decide (x10.Gain>x21.Gain)) then
         some false
        else
         Qc5 N p0 k1 n8 (w64 (y6+1))
       else
        Qc5 N p0 k1 n8 (w64 (y6+1))
    else
     k1 ()
def Qf2 (N:Nat) (p0:Qah):Option Bool:=
  Qb5 (fun _=>
    (Qdu N p0.Inlet 0 5).bind fun x3=>
    bif x3 then
     bif (decide ((p0.Parts.length:Int)≥1)) then
      some (decide ((p0.Parts.length:Int)≤8))
     else
      some false
    else
     some false) fun k1:Unit→Option Bool=>
  Qc5 N p0 k1 N 0
def Qyu (p0:Qah):AV:=.dat 2 (p0.Parts.map Qbe)
def Qqr (p0:Qah):Slot:=.own 2 [[(I p0.Inlet),(Qyu p0)]]
def Qvc (p0:Qah) (x3:Bool):List (Nat×Rec):=[(2,rp [fu 73,((.tmp 44),(I p0.Inlet)),ci 0,ci 5] (B x3))]
def Qvb p0 x3:=hcat (Qvc p0 x3) [(3,rp [((.tmp 45),(B x3))] (B true)),(6,rp [((.tmp 46),(B true)),((.tmp 48),(Qyu p0))] (I ((p0.Parts.length:Int))))]
def Qva (x10:Qa8) (x15:Bool):List (Nat×Rec):=[(2,rp [fu 73,((.tmp 18),(I x10.Width)),ci 1,ci 100000] (B x15))]
def Qr2 x10 x15 (x18:Bool):=hcat (Qva x10 x15) [(4,rp [((.tmp 20),(B ((!x15))))] (B false)),(7,rp [((.tmp 21),(B false)),fu 73,((.tmp 23),(I x10.Gain)),ci 0,ci 1000] (B x18))]
theorem Qi2 (N:Nat) (p0:Qah) (r:Bool) (h:Qf2 N p0=some r):Spec prog 28 [(.agg (Qaj p0))] [] (B r) []:=by
  refine sA func28 0 fun _ _ _ hq hd0=>?_
  unfold Qf2 at h
  refine wxz ?_
  obtain⟨k1,hk_k1,h⟩:=jko h
  refine wjn (τ:=Unit) (fun t=>k1 t=some r) (fun _=>⟨mk 58 [(1,.ref 0 2 0 0)],[(Qqr p0)]⟩) (fun t h=>?_) ?_
  ·subst hk_k1
   obtain⟨x3,hf2,h⟩:=bno h
   refine hpre (A:=(Qvc p0 x3)) ⟨apv Qgh (Qdf N p0.Inlet 0 5 _ hf2) (nlcc (nlc nll nl0)) nll,tv⟩ fun q1_=>?_
   refine bfe h (fun hb4 h=>?_) fun hb4 h=>?_
   ·refine hpre (A:=(Qvb p0 x3)) (hap q1_ ⟨asb hb4 (amv rfl),ag_ (alq 2 Qbe p0.Parts underlying90),tv⟩) fun q2_=>?_
    refine bfe h (fun hb5 h=>?_) fun hb5 h=>?_
    ·refine wx tbk (hcat (Qvb p0 x3) [(9,rp [(.tmp 51,(B ((decide ((p0.Parts.length:Int)≥1)))))] (B true)),(12,rp [(.tmp 52,B true),(.tmp 54,(Qyu p0))] (I ((p0.Parts.length:Int))))]) (hap q2_ ⟨asb hb5 (amv rfl),ag_ (alq 2 Qbe p0.Parts underlying90),tv⟩)<|Qae ?_
     obtain rfl:=osi h
     exact fend ⟨[(B ((decide ((p0.Parts.length:Int)≤8))))],⟨rot,tv⟩,rfl⟩ nll
    ·exact wx tbk (hcat (Qvb p0 x3) [(9,rp [(.tmp 51,(B ((decide ((p0.Parts.length:Int)≥1)))))] (B false))]) (hap q2_ ⟨asb hb5 (amv rfl),tv⟩)<|Qae<|frb h
   ·exact wx tbk (hcat (Qvc p0 x3) [(3,rp [(.tmp 45,B x3)] (B false))]) (hap q1_ ⟨asb hb4 (amv rfl),tv⟩)<|Qae<|frb h
  ·skip
   refine wxz<|Qag ?_
   refine wmr (mto (n:=58) (l':=[(1,.ref 0 2 0 0),(3,I 0)]) (own':=[(Qqr p0)]) [(1,.ref 0 2 0 0),(3,I 0)] [0] [(Qqr p0)] hq (prr (pw pn)) (qb (lc rwl (lc (rnd Qbo) ln)) qn)) ?_
   refine Qb8 (τ:=Int) (fun n t=>Qc5 N p0 k1 n t=some r) (fun y6=>⟨mk 58 [(1,.ref 0 2 0 0),(3,I y6)],[(Qqr p0)]⟩) (fun t h=>by rw[Qc5] at h;cases h) (fun n8 ih y6 h=>?_) N (0) h
   rw[Qc5] at h
   skip
   refine wsq<|wx tbk [(3,rp _ _)] ⟨alq 2 Qbe p0.Parts underlying90,tv⟩ ?_
   refine bfe h (fun hc9 h=>?_) fun hc9 h=>?_
   ·refine wft hc9<|Qan<|thn<|wsq<|Qag ?_
    obtain⟨x10,hg11,h⟩:=bno h
    obtain⟨hi12,hj13⟩:=gsm hg11
    refine wx tbk [(3,rp _ _)] ⟨aiq underlying90 Qwf Qbe hi12 hj13,tv⟩ ?_
    obtain⟨x15,hf14,h⟩:=bno h
    refine hpre (A:=(Qva x10 x15)) ⟨apv Qgh (Qdf N x10.Width 1 100000 _ hf14) (nlcc (nlc nll nl0)) nll,tv⟩ fun q3_=>?_
    refine bfe h (fun hb16 h=>?_) fun hb16 h=>?_
    ·exact wxd tbk (hcat (Qva x10 x15) [(4,rp [(.tmp 20,(B ((!x15))))] (B true))]) (hap q3_ ⟨asb hb16 (amv rfl),tv⟩)<|wtr<|wxz<|Qae<|Qa3<|Qak<|Qak<|Qa3<|Qak<|frb h
    ·obtain⟨x18,hf17,h⟩:=bno h
     refine hpre (A:=(Qr2 x10 x15 x18)) (hap q3_ ⟨asb hb16 (amv rfl),ag_ (apv Qgh (Qdf N x10.Gain 0 1000 _ hf17) (nlcc (nlc nll nl0)) nll),tv⟩) fun q4_=>?_
     refine bfe h (fun hb19 h=>?_) fun hb19 h=>?_
     ·exact wxd tbk (hcat (Qr2 x10 x15 x18) [(10,rp [(.tmp 26,(B ((!x18))))] (B true))]) (hap q4_ ⟨asb hb19 (amv rfl),tv⟩)<|wtr<|wxz<|Qae<|Qa3<|Qak<|Qak<|Qa3<|Qak<|frb h
     ·refine bfe h (fun hb20 h=>?_) fun hb20 h=>?_
      ·obtain⟨x21,hg22,h⟩:=bno h
       obtain⟨hi23,hj24⟩:=gsm hg22
       refine wxd tbk (hcat (Qr2 x10 x15 x18) [(10,rp [(.tmp 26,(B ((!x18))))] (B false)),(13,rp [(.tmp 27,B false),(.tmp 29,(B ((decide (y6>0)))))] (B true)),(20,rp [(.tmp 30,B true),(.tmp 34,(Qyu p0)),(.tmp 36,(I (w64 (y6-1))))] (.dptr (Qbe x21) 0))]) (hap q4_ ⟨asb hb19 (amv rfl),asb hb20 (ag_ (amv rfl)),ag_ (aiq underlying90 Qwf Qbe hi23 hj24),tv⟩) ?_
       refine bfe h (fun hc25 h=>?_) fun hc25 h=>?_
       ·exact wft hc25<|wxz<|Qae<|Qa3<|Qak<|Qak<|Qa3<|Qak<|frb h
       ·exact wfn hc25<|Qan<|bln<|thn<|wxz1<|thn<|arm (mto (n:=58) [(1,.ref 0 2 0 0),(3,(I (w64 (y6+1))))] [0] [(Qqr p0)] hq (prr (pw pn)) (qb (lc rwl (lc (rnd Qbo) ln)) qn)) (ih (w64 (y6+1)) h)
      ·exact wxd tbk (hcat (Qr2 x10 x15 x18) [(10,rp [(.tmp 26,(B ((!x18))))] (B false)),(13,rp [(.tmp 27,B false),(.tmp 29,(B ((decide (y6>0)))))] (B false))]) (hap q4_ ⟨asb hb19 (amv rfl),asb hb20 (ag_ (amv rfl)),tv⟩)<|wfa<|Qan<|bln<|thn<|wxz1<|thn<|arm (mto (n:=58) [(1,.ref 0 2 0 0),(3,(I (w64 (y6+1))))] [0] [(Qqr p0)] hq (prr (pw pn)) (qb (lc rwl (lc (rnd Qbo) ln)) qn)) (ih (w64 (y6+1)) h)
   ·exact wfn hc9<|Qbi<|Qaw<|Qaw<|Qbh rfl<|thn<|⟨(),h,(mto (n:=58) [(1,.ref 0 2 0 0)] [0] [(Qqr p0)] hq (prr pn) (qb (lc rwl (lc (rnd Qbo) ln)) qn))⟩
def Qcm (N:Nat) (p0:List Int) (p1:List Qah) (k2:Unit→Option Bool):Nat→Int→Option Bool
  |0,_=>none
  |n8+1,y6=>
    bif (decide (y6<(p1.length:Int))) then
     (getI p1 y6).bind fun x10=>
     (Qf2 N x10).bind fun x15=>
     bif (!x15) then
      some false
     else
      bif (decide (x10.Inlet≥(p0.length:Int))) then
       some false
      else
       Qcm N p0 p1 k2 n8 (w64 (y6+1))
    else
     k2 ()
def Qcl (N:Nat) (p0:List Int) (k1:Unit→Option Bool):Nat→Int→Option Bool
  |0,_=>none
  |n20+1,y18=>
    bif (decide (y18<(p0.length:Int))) then
     (getI p0 y18).bind fun x22=>
     (Qdu N x22 0 1000000).bind fun x27=>
     bif (!x27) then
      some false
     else
      Qcl N p0 k1 n20 (w64 (y18+1))
    else
     k1 ()
def Qe2 (N:Nat) (p0:List Int) (p1:List Qah):Option Bool:=
  Qb5 (fun _=>
    Qb5 (fun _=>
      bif (decide ((p0.length:Int)≥1)) then
       bif (decide ((p0.length:Int)≤6)) then
        bif (decide ((p1.length:Int)≥1)) then
         some (decide ((p1.length:Int)≤10))
        else
         some false
       else
        some false
      else
       some false) fun k2:Unit→Option Bool=>
    Qcm N p0 p1 k2 N 0) fun k1:Unit→Option Bool=>
  Qcl N p0 k1 N 0
def Qjm (p1:List Qah):AV:=.dat 2 (p1.map Qaj)
def Qu9 (p0:List Int):List (Nat×Rec):=[(1,rp [((.tmp 41),(.dat 1 (p0.map Qab)))] (I ((p0.length:Int))))]
def Qu8 p0:=hcat (Qu9 p0) [(3,rp [((.tmp 43),(B ((decide ((p0.length:Int)≥1)))))] (B true)),(5,rp [((.tmp 44),(B true)),((.tmp 45),(.dat 1 (p0.map Qab)))] (I ((p0.length:Int))))]
def Qu7 p0 (p1:List Qah):=hcat (Qu8 p0) [(8,rp [((.tmp 48),(B ((decide ((p0.length:Int)≤6)))))] (B true)),(10,rp [((.tmp 49),(B true)),((.tmp 50),(Qjm p1))] (I ((p1.length:Int))))]
def Qu6 (p1:List Qah) (y6:Int) (x10:Qah) (x15:Bool):List (Nat×Rec):=[(2,rp [((.tmp 25),(Qjm p1)),((.tmp 26),(I y6))] (.dptr (Qaj x10) 0)),(4,rp [fu 28,((.tmp 28),(.agg [(I x10.Inlet),(.dat 2 (x10.Parts.map Qbe))]))] (B x15))]
theorem Qjn (N:Nat) (p0:List Int) (p1:List Qah) (r:Bool) (h:Qe2 N p0 p1=some r):Spec prog 33 [(.dat 1 (p0.map Qab)),(.dat 2 (p1.map Qaj))] [] (B r) []:=by
  refine sA func33 0 fun _ _ _ hq hd0=>?_
  unfold Qe2 at h
  refine wxz ?_
  obtain⟨k1,hk_k1,h⟩:=jko h
  refine wjn (τ:=Unit) (fun t=>k1 t=some r) (fun _=>⟨mk 59 [(0,(.dat 1 (p0.map Qab))),(1,(Qjm p1))],[]⟩) (fun t h=>?_) ?_
  ·subst hk_k1
   obtain⟨k2,hk_k2,h⟩:=jko h
   refine wjn (τ:=Unit) (fun t=>k2 t=some r) (fun _=>⟨mk 59 [(0,(.dat 1 (p0.map Qab))),(1,(Qjm p1))],[]⟩) (fun t h=>?_) ?_
   ·subst hk_k2
    refine hpre (A:=(Qu9 p0)) ⟨alq 1 Qab p0 underlying22,tv⟩ fun q1_=>?_
    refine bfe h (fun hb3 h=>?_) fun hb3 h=>?_
    ·refine hpre (A:=(Qu8 p0)) (hap q1_ ⟨asb hb3 (amv rfl),ag_ (alq 1 Qab p0 underlying22),tv⟩) fun q2_=>?_
     refine bfe h (fun hb4 h=>?_) fun hb4 h=>?_
     ·refine hpre (A:=(Qu7 p0 p1)) (hap q2_ ⟨asb hb4 (amv rfl),ag_ (alq 2 Qaj p1 underlying89),tv⟩) fun q3_=>?_
      refine bfe h (fun hb5 h=>?_) fun hb5 h=>?_
      ·refine wx tbk (hcat (Qu7 p0 p1) [(13,rp [(.tmp 53,(B ((decide ((p1.length:Int)≥1)))))] (B true)),(15,rp [(.tmp 54,B true),(.tmp 55,(Qjm p1))] (I ((p1.length:Int))))]) (hap q3_ ⟨asb hb5 (amv rfl),ag_ (alq 2 Qaj p1 underlying89),tv⟩)<|Qae ?_
       obtain rfl:=osi h
       exact fend ⟨[(B ((decide ((p1.length:Int)≤10))))],⟨rot,tv⟩,rfl⟩ nll
      ·exact wx tbk (hcat (Qu7 p0 p1) [(13,rp [(.tmp 53,(B ((decide ((p1.length:Int)≥1)))))] (B false))]) (hap q3_ ⟨asb hb5 (amv rfl),tv⟩)<|Qae<|frb h
     ·exact wx tbk (hcat (Qu8 p0) [(8,rp [(.tmp 48,(B ((decide ((p0.length:Int)≤6)))))] (B false))]) (hap q2_ ⟨asb hb4 (amv rfl),tv⟩)<|Qae<|frb h
    ·exact wx tbk (hcat (Qu9 p0) [(3,rp [(.tmp 43,(B ((decide ((p0.length:Int)≥1)))))] (B false))]) (hap q1_ ⟨asb hb3 (amv rfl),tv⟩)<|Qae<|frb h
   ·skip
    refine wxz<|Qag ?_
    refine wmr (mto (n:=59) (l':=[(0,(.dat 1 (p0.map Qab))),(1,(Qjm p1)),(6,I 0)]) (own':=[]) [(0,(.dat 1 (p0.map Qab))),(1,(Qjm p1)),(6,I 0)] [] [] hq (pc (rnd Qad) (pc (rnd Qai) (pw pn))) qn) ?_
    refine Qb8 (τ:=Int) (fun n t=>Qcm N p0 p1 k2 n t=some r) (fun y6=>⟨mk 59 [(0,(.dat 1 (p0.map Qab))),(1,(Qjm p1)),(6,I y6)],[]⟩) (fun t h=>by rw[Qcm] at h;cases h) (fun n8 ih y6 h=>?_) N (0) h
    rw[Qcm] at h
    skip
    refine wsq<|wx tbk [(2,rp _ _)] ⟨alq 2 Qaj p1 underlying89,tv⟩ ?_
    refine bfe h (fun hc9 h=>?_) fun hc9 h=>?_
    ·refine wft hc9<|Qan<|thn<|wsq<|Qag ?_
     obtain⟨x10,hg11,h⟩:=bno h
     obtain⟨hi12,hj13⟩:=gsm hg11
     obtain⟨x15,hf14,h⟩:=bno h
     refine hpre (A:=(Qu6 p1 y6 x10 x15)) ⟨aiq underlying89 ti92 Qaj hi12 hj13,apv Qx2 (Qi2 N x10 _ hf14) (nlc (NLt.agg _ (nlc nll (nlc (nld Qbo _) nl0))) nl0) nll,tv⟩ fun q4_=>?_
     refine bfe h (fun hb16 h=>?_) fun hb16 h=>?_
     ·exact wx tbk (hcat (Qu6 p1 y6 x10 x15) [(6,rp [(.tmp 30,(B ((!x15))))] (B true))]) (hap q4_ ⟨asb hb16 (amv rfl),tv⟩)<|wtr<|wxz<|Qae<|Qa3<|Qak<|Qak<|Qa3<|Qak<|frb h
     ·refine wx tbk (hcat (Qu6 p1 y6 x10 x15) [(6,rp [(.tmp 30,(B ((!x15))))] (B false)),(9,rp [(.tmp 31,B false),(.tmp 32,(Qjm p1)),(.tmp 33,I y6)] (.dptr (Qaj x10) 0)),(13,rp [(.tmp 31,B false),(.tmp 37,(.dat 1 (p0.map Qab)))] (I ((p0.length:Int))))]) (hap q4_ ⟨asb hb16 (amv rfl),ag_ (aiq underlying89 ti92 Qaj hi12 hj13),ag_ (alq 1 Qab p0 underlying22),tv⟩) ?_
      refine bfe h (fun hc17 h=>?_) fun hc17 h=>?_
      ·exact wft hc17<|wxz<|Qae<|Qa3<|Qak<|Qak<|Qa3<|Qak<|frb h
      ·exact wfn hc17<|Qan<|bln<|thn<|wxz1<|thn<|arm (mto (n:=59) [(0,(.dat 1 (p0.map Qab))),(1,(Qjm p1)),(6,(I (w64 (y6+1))))] [] [] hq (pc (rnd Qad) (pc (rnd Qai) (pw pn))) qn) (ih (w64 (y6+1)) h)
    ·exact wfn hc9<|Qbi<|Qaw<|Qaw<|Qbh rfl<|thn<|⟨(),h,(mto (n:=59) [(0,(.dat 1 (p0.map Qab))),(1,(Qjm p1))] [] [] hq (pc (rnd Qad) (pc (rnd Qai) pn)) qn)⟩
  ·skip
   refine wxz<|Qag ?_
   refine wmr (mto (n:=59) (l':=[(0,(.dat 1 (p0.map Qab))),(1,(Qjm p1)),(5,I 0)]) (own':=[]) [(0,(.dat 1 (p0.map Qab))),(1,(Qjm p1)),(5,I 0)] [] [] hq (pc (rnd Qad) (pc (rnd Qai) (pw pn))) qn) ?_
   refine Qb8 (τ:=Int) (fun n t=>Qcl N p0 k1 n t=some r) (fun y18=>⟨mk 59 [(0,(.dat 1 (p0.map Qab))),(1,(Qjm p1)),(5,I y18)],[]⟩) (fun t h=>by rw[Qcl] at h;cases h) (fun n20 ih y18 h=>?_) N (0) h
   rw[Qcl] at h
   skip
   refine wsq<|wx tbk [(2,rp _ _)] ⟨alq 1 Qab p0 underlying22,tv⟩ ?_
   refine bfe h (fun hc21 h=>?_) fun hc21 h=>?_
   ·refine wft hc21<|Qan<|thn<|wsq<|Qag ?_
    obtain⟨x22,hg23,h⟩:=bno h
    obtain⟨hi24,hj25⟩:=gsm hg23
    obtain⟨x27,hf26,h⟩:=bno h
    refine wx tbk [(2,rp _ _),(4,rp _ _)] ⟨aiq underlying22 ti3 Qab hi24 hj25,apw Qgh (Qdf N x22 0 1000000 _ hf26),tv⟩ ?_
    refine bfe h (fun hc28 h=>?_) fun hc28 h=>?_
    ·exact wft hc28<|wxz<|Qae<|Qa3<|Qak<|Qak<|Qa3<|Qak<|frb h
    ·exact wfn hc28<|Qan<|bln<|thn<|wxz1<|thn<|arm (mto (n:=59) [(0,(.dat 1 (p0.map Qab))),(1,(Qjm p1)),(5,(I (w64 (y18+1))))] [] [] hq (pc (rnd Qad) (pc (rnd Qai) (pw pn))) qn) (ih (w64 (y18+1)) h)
   ·exact wfn hc21<|Qbi<|Qaw<|Qaw<|Qbh rfl<|thn<|⟨(),h,(mto (n:=59) [(0,(.dat 1 (p0.map Qab))),(1,(Qjm p1))] [] [] hq (pc (rnd Qad) (pc (rnd Qai) pn)) qn)⟩
def Qdx (N:Nat) (p0:Qah) (k2:(List Qa8)→Option Qah):Nat→Int→(List Qa8)→Option Qah
  |0,_,_=>none
  |n7+1,y3,y4=>
    bif (decide (y3<(p0.Parts.length:Int))) then
     (getI p0.Parts y3).bind fun x9=>
     chk (decide ((y4.length+([x9]).length)*16≤140737488355328))<|
     Qdx N p0 k2 n7 (w64 (y3+1)) (y4++([x9]))
    else
     k2 (y4)
def Qgg (N:Nat) (p0:Qah):Option Qah:=
  Qb5 (fun y1=>
    some (⟨p0.Inlet,y1⟩:Qah)) fun k2:(List Qa8)→Option Qah=>
  Qdx N p0 k2 N 0 ([])
def Qtg:Slot:=.own 2 [[(I (0)),nilS]]
def Q65 (p0:Qah):AV:=.dat 2 (p0.Parts.map Qbe)
def Qyr (p0:Qah):Slot:=.own 2 [[(I p0.Inlet),(Q65 p0)]]
def Q1w (x9:Qa8):AV:=.agg [(I x9.Width),(I x9.Gain)]
theorem Qjq (N:Nat) (p0 r:Qah) (h:Qgg N p0=some r):Spec prog 79 [(.agg (Qaj p0))] [] (.agg (Qaj r)) []:=by
  refine sA func79 0 fun _ _ _ hq hd0=>?_
  unfold Qgg at h
  refine wxz<|wx tbk [(2,rp _ _)] ⟨Qd6 (vs:=[I p0.Inlet]) rfl Q6b Qwb rfl (by rfl) rfl,tv⟩ ?_
  obtain⟨k2,hk_k2,h⟩:=jko h
  refine wjn (τ:=(List Qa8)) (fun t=>k2 t=some r) (fun y1=>⟨mk 34 [(2,.ref 0 2 0 0),(3,.ref 1 2 0 0)],[Qtg,(.own 2 [[I p0.Inlet,(.acc 2 170 2 (y1.map Qbe))]]),.tok]⟩) (fun y1 h=>?_) ?_
  ·subst hk_k2
   refine wxz<|Qae ?_
   obtain rfl:=osi h
   exact fie [(.agg [I p0.Inlet,(.dat 2 (y1.map Qbe))])] ⟨Qd3 (v:=(.agg [I p0.Inlet,(.acc 2 170 2 (y1.map Qbe))])) (Qg9 (n:=0) (m:=2) (j:=0) (i:=0) (xs:=[[I p0.Inlet,(.acc 2 170 2 (y1.map Qbe))]]) (by kernel_rfl) (by kernel_rfl) Qn6 (by decide) rfl (nle rfl) rfl) (Less.agg ⟨lrf,Less.acc,tv⟩),tv⟩
  ·skip
   refine wxz<|Qag ?_
   refine wmr (Mor.trans (Qsf (n:=3) (ty:=170) (m:=2) (q:=2) (mq:=2) (c:=[I p0.Inlet,nilS]) 1 (by kernel_rfl) (by kernel_rfl) (by kernel_rfl) (by decide)) (mto (n:=34) (l':=[(1,.ref 0 2 0 0),(2,.ref 1 2 0 0),(3,.ref 2 2 0 0),(4,I 0)]) (own':=[(Qyr p0),Qtg,(.own 2 [[I p0.Inlet,(.acc 3 170 2 ((([]):List Qa8).map Qbe))]]),.tok]) [(1,.ref 0 2 0 0),(2,.ref 1 2 0 0),(3,.ref 2 2 0 0),(4,I 0)] [0,1,2,3] [(Qyr p0),Qtg,(.own 2 [[I p0.Inlet,(.acc 3 170 2 (([]:List Qa8).map Qbe))]]),.tok] hq (prr (prr (prr (pw pn)))) (qb (lc rwl (lc (rnd Qbo) ln)) (qb (lcc ln) (qb (lc rwl (lc (.rn (Qe1 rfl (Qdw Qbo _))) ln)) (qc .tok qn)))))) ?_
   refine Qb8 (τ:=Int×(List Qa8)) (fun n t=>Qdx N p0 k2 n t.1 t.2=some r) (fun ⟨y3,y4⟩=>⟨mk 34 [(1,.ref 0 2 0 0),(2,.ref 1 2 0 0),(3,.ref 2 2 0 0),(4,I y3)],[(Qyr p0),Qtg,(.own 2 [[I p0.Inlet,(.acc 3 170 2 (y4.map Qbe))]]),.tok]⟩) (fun t h=>by rw[Qdx] at h;cases h) (fun n7 ih t h=>?_) N (0,[]) h
   obtain⟨y3,y4⟩:=t
   rw[Qdx] at h
   skip
   refine wsq<|wx tbk [(3,rp _ _)] ⟨alq 2 Qbe p0.Parts underlying90,tv⟩ ?_
   refine bfe h (fun hc8 h=>?_) fun hc8 h=>?_
   ·refine wft hc8<|Qan<|thn<|wsq<|Qag ?_
    obtain⟨x9,hg10,h⟩:=bno h
    obtain⟨hi11,hj12⟩:=gsm hg10
    obtain⟨ha13,h⟩:=cko h
    refine wy1 tbk [(5,rp _ _),(11,rp _ _),(14,rp _ _),(15,rp [(.tmp 29,(Q1w x9))] (.dat 2 (([x9]:List Qa8).map Qbe))),(16,⟨[(.tmp 16,(.acc 3 170 2 (y4.map Qbe))),(.tmp 30,(.dat 2 (([x9]:List Qa8).map Qbe)))],[(3,.tok),(4,.unused)],(.acc 4 170 2 ((y4++([x9]):List Qa8).map Qbe)),[(3,.dead),(4,.tok)],false⟩)] ⟨aiq underlying90 Qwf Qbe hi11 hj12,aiq underlying90 Qwf Qbe hi11 hj12,Qd6 (vs:=[I x9.Width,I x9.Gain]) rfl Q6c Qwc rfl (by rfl) rfl,Qd0 (vs:=[(Q1w x9)]) rfl underlying171 Ql5 Qwc rfl (by decide) rfl (by decide) (by rfl) (by rfl) (by rfl) rfl,Qfv rfl underlying171 Q7u (Base.acc _ _) rfl rfl (by rfl) (Qj5 Qbe ha13) (Qj4 Qbe ha13 (by decide)) (Qj3 Qbe) rfl rfl,tv⟩<|bln<|thn<|wxz1<|thn ?_
    exact arm (mto (n:=34) [(1,.ref 0 2 0 0),(2,.ref 1 2 0 0),(3,.ref 2 2 0 0),(4,(I (w64 (y3+1))))] [0,1,2,4] [(Qyr p0),Qtg,(.own 2 [[I p0.Inlet,(.acc 4 170 2 ((y4++([x9]):List Qa8).map Qbe))]]),.tok] hq (prr (prr (prr (pw pn)))) (qb (lc rwl (lc (rnd Qbo) ln)) (qb (lcc ln) (qb (lc rwl (lc (.rn (Qe1 rfl (Qdw Qbo _))) ln)) (qc .tok qn))))) (ih (w64 (y3+1),y4++([x9])) h)
   ·exact wfn hc8<|Qbi<|Qaw<|Qaw<|Qbh rfl<|thn<|⟨(y4),h,(mto (n:=34) [(2,.ref 1 2 0 0),(3,.ref 2 2 0 0)] [1,2,3] [Qtg,(.own 2 [[I p0.Inlet,(.acc 3 170 2 (y4.map Qbe))]]),.tok] hq (prr (prr pn)) (qb (lcc ln) (qb (lc rwl (lc (.rn (Qe1 rfl (Qdw Qbo _))) ln)) (qc .tok qn))))⟩
def Qdp (N:Nat) (p0:List Qah) (k2:(List Qah)→Option (List Qah)):Nat→(List Qah)→Int→Option (List Qah)
  |0,_,_=>none
  |n7+1,y3,y4=>
    bif (decide (y4<(p0.length:Int))) then
     (getI p0 y4).bind fun x9=>
     (Qgg N x9).bind fun x14=>
     chk (decide ((y3.length+([x14]).length)*32≤140737488355328))<|
     Qdp N p0 k2 n7 (y3++([x14])) (w64 (y4+1))
    else
     k2 (y3)
def Qgu (N:Nat) (p0:List Qah):Option (List Qah):=
  Qb5 (fun y1=>
    some y1) fun k2:(List Qah)→Option (List Qah)=>
  Qdp N p0 k2 N ([]) 0
def Qys (p0:List Qah):AV:=.dat 2 (p0.map Qaj)
def Q1x (x14:Qah):AV:=.agg [(I x14.Inlet),(.dat 2 (x14.Parts.map Qbe))]
theorem Qmm (N:Nat) (p0 r:List Qah) (h:Qgu N p0=some r):Spec prog 35 [(.dat 2 (p0.map Qaj))] [] (.dat 2 (r.map Qaj)) []:=by
  refine sA func35 0 fun _ _ _ hq hd0=>?_
  unfold Qgu at h
  refine wxz<|wxz ?_
  obtain⟨k2,hk_k2,h⟩:=jko h
  refine wjn (τ:=(List Qah)) (fun t=>k2 t=some r) (fun y1=>⟨mk 20 [(3,(.acc 0 173 2 (y1.map Qaj)))],[.tok]⟩) (fun y1 h=>?_) ?_
  ·subst hk_k2
   refine wxz<|Qae ?_
   obtain rfl:=osi h
   exact fie [(.dat 2 (y1.map Qaj))] ⟨Qd3 (v:=(.acc 0 173 2 (y1.map Qaj))) rot Less.acc,tv⟩
  ·skip
   refine wxz<|Qag ?_
   refine wmr (Mor.trans (Qml 0 173 2 3 (by kernel_rfl) (by kernel_rfl)) (mto (n:=20) (l':=[(0,(Qys p0)),(3,(.acc 0 173 2 ((([]):List Qah).map Qaj))),(4,I 0)]) (own':=[.tok]) [(0,(Qys p0)),(3,(.acc 0 173 2 (([]:List Qah).map Qaj))),(4,I 0)] [0] [.tok] hq (pc (rnd Qai) (pc (.rn (Qe1 rfl (Qdw Qai _))) (pw pn))) (qc .tok qn))) ?_
   refine Qb8 (τ:=(List Qah)×Int) (fun n t=>Qdp N p0 k2 n t.1 t.2=some r) (fun ⟨y3,y4⟩=>⟨mk 20 [(0,(Qys p0)),(3,(.acc 0 173 2 (y3.map Qaj))),(4,I y4)],[.tok]⟩) (fun t h=>by rw[Qdp] at h;cases h) (fun n7 ih t h=>?_) N ([],0) h
   obtain⟨y3,y4⟩:=t
   rw[Qdp] at h
   skip
   refine wsq<|wx tbk [(2,rp _ _)] ⟨alq 2 Qaj p0 underlying89,tv⟩ ?_
   refine bfe h (fun hc8 h=>?_) fun hc8 h=>?_
   ·refine wft hc8<|Qan<|thn<|wsq<|Qag ?_
    obtain⟨x9,hg10,h⟩:=bno h
    obtain⟨hi11,hj12⟩:=gsm hg10
    obtain⟨x14,hf13,h⟩:=bno h
    obtain⟨ha15,h⟩:=cko h
    refine wx1 tbk [(3,rp _ _),(5,rp _ _),(6,rp [(.tmp 16,(Q1x x14))] (.dat 2 (([x14]:List Qah).map Qaj))),(7,⟨[(.tmp 11,(.acc 0 173 2 (y3.map Qaj))),(.tmp 17,(.dat 2 (([x14]:List Qah).map Qaj)))],[(0,.tok),(1,.unused)],(.acc 1 173 2 ((y3++([x14]):List Qah).map Qaj)),[(0,.dead),(1,.tok)],false⟩)] ⟨aiq underlying89 ti92 Qaj hi11 hj12,apw Qxx (Qjq N x9 _ hf13),Qd0 (vs:=[(Q1x x14)]) rfl underlying107 Qn6 Qwb rfl (by decide) rfl (by decide) (by rfl) (by rfl) (by rfl) rfl,Qfv rfl underlying107 Q6e (Base.acc _ _) rfl rfl (by rfl) (Qj5 Qaj ha15) (Qj4 Qaj ha15 (by decide)) (Qj3 Qaj) rfl rfl,tv⟩<|bln<|thn<|wxz1<|thn ?_
    exact arm (mto (n:=20) [(0,(Qys p0)),(3,(.acc 1 173 2 ((y3++([x14]):List Qah).map Qaj))),(4,(I (w64 (y4+1))))] [1] [.tok] hq (pc (rnd Qai) (pc (.rn (Qe1 rfl (Qdw Qai _))) (pw pn))) (qc .tok qn)) (ih (y3++([x14]),w64 (y4+1)) h)
   ·exact wfn hc8<|Qbi<|Qaw<|Qaw<|Qbh rfl<|thn<|⟨(y3),h,(mto (n:=20) [(3,(.acc 0 173 2 (y3.map Qaj)))] [0] [.tok] hq (pc (.rn (Qe1 rfl (Qdw Qai _))) pn) (qc .tok qn))⟩
end
section
theorem Qa5 {x:Int}(h:-9223372036854775808≤x) (h':x≤9223372036854775807):w64 x=x:=by
 unfold w64
 rw[IntKind.wrap_i64]
 omega
theorem Qcv {α:Type}{l:List α}{i:Nat}{x:α}(h:l[i]? = some x):getI l (i:Int)=some x:=by
 simp[getI,h]
def btw (a lo hi:Int):Bool:=decide (lo≤a)&&decide (a≤hi)
def rowB (r:GRow):Bool:=btw r.T 0 400&&btw r.P 1 10000&&btw r.Liquid 0 4000&&btw r.Silica 0 2000&&decide (r.Liquid<r.Vapour)&&decide (r.Vapour≤4000)
def Qwj (o r:GRow):Bool:=decide (o.T<r.T)&&decide (o.P<r.P)&&decide (o.Liquid<r.Liquid)&&decide (o.Silica≤r.Silica)
def Qki:List GRow→Bool
 |a::b::l=>Qwj a b&&Qki (b::l)
 |_=>true
def tabB (t:List GRow):Bool:=btw t.length 2 20&&t.all rowB&&Qki t
theorem Qt8 (N:Nat) (a lo hi:Int):Qdu N a lo hi=some (btw a lo hi):=by
 unfold Qdu btw
 by_cases h:lo≤a<;>simp[h]
theorem Qiw (N:Nat) (a lo hi:Int):Qci N a lo hi=some (btw a lo hi):=by
 unfold Qci btw
 by_cases h:lo≤a<;>simp[h]
theorem Q1u (N:Nat) (r:GRow):Qe9 N r=some (rowB r):=by
 unfold Qe9 rowB
 simp only[Qiw,Option.bind_some]
 cases btw r.T 0 400<;>cases btw r.P 1 10000<;>cases btw r.Liquid 0 4000<;>cases btw r.Silica 0 2000<;>by_cases h:r.Liquid<r.Vapour<;>simp[h]
theorem Qdg {α:Type}{t:List α}{i:Nat}{a:α}{l:List α}(h:t.drop i=a::l):t[i]? = some a∧t.drop (i+1)=l∧i<t.length:=by
 have hlt:i<t.length:=by
  rcases Nat.lt_or_ge i t.length with h' |h'
  ·exact h'
  ·rw[List.drop_eq_nil_of_le h'] at h;cases h
 rw[List.drop_eq_getElem_cons hlt] at h
 injection h with h1 h2
 exact⟨by rw[List.getElem?_eq_getElem hlt,h1],h2,hlt⟩
theorem Qd4 {α:Type}{t:List α}{i:Nat}(h:t.drop i=[]):t.length≤i:=List.drop_eq_nil_iff.1 h
theorem Qro (N:Nat) (t:List GRow) (k:Unit→Option Int) (hl:t.length≤1000):∀(n i:Nat),(t.drop i).length<n→i≤t.length →
  Qa2 N t k n i=bif (t.drop i).all rowB then k () else some ((i:Int)+((t.drop i).findIdx fun r=>!rowB r:Nat)):=by
 intro n
 induction n with
 |zero=>intro i h;omega
 |succ n ih=>
  intro i h hi
  unfold Qa2
  cases hd:t.drop i with
  |nil=>
   have:=Qd4 hd
   rw[show(decide ((i:Int)<(t.length:Int)))=false by simp;omega]
   rfl
  |cons a l=>
   obtain⟨h1,h2,h3⟩:=Qdg hd
   rw[show(decide ((i:Int)<(t.length:Int)))=true by simp;omega]
   simp only[cond_true,Qcv h1,Option.bind_some,Qd2,Q1u]
   cases hr:rowB a with
   |false=>simp[hr,List.findIdx_cons]
   |true=>
    have e:w64 ((i:Int)+1)=((i+1:Nat):Int):=by rw[Qa5]<;>omega
    rw[e]
    have:=ih (i+1) (by rw[h2];rw[hd] at h;simpa using h) (by omega)
    simp only[Bool.not_true,cond_false,this,h2,List.all_cons,hr,Bool.true_and,List.findIdx_cons]
    congr 2
    push_cast
    omega
theorem Qyp {N:Nat}{t:List GRow}(hl:t.length≤1000) (hN:1001≤N):Qdt N t=some (t.all rowB):=by
 have:=Qro N t (fun _=>some (-1)) hl N 0 (by simp;omega) (Nat.zero_le _)
 rw[show((0:Nat):Int)=0 from rfl,List.drop_zero] at this
 unfold Qdt Qbw Qca Qb5
 dsimp only
 rw[this]
 cases h:t.all rowB with
 |true=>simp
 |false=>simp
theorem Qtw (N:Nat) (t:List GRow) (k:Unit→Option Bool) (hl:t.length≤1000):∀(n i:Nat),(t.drop i).length<n→i<t.length →
  Qcc N t k n i=bif Qki (t.drop i) then k () else some false:=by
 intro n
 induction n with
 |zero=>intro i h;omega
 |succ n ih=>
  intro i h hi
  unfold Qcc
  have hdr:∀x,(t.drop (1:Int).toNat)[i]? = some x↔t[i+1]? = some x:=fun x=>by
   rw[show(1:Int).toNat=1 from rfl,List.getElem?_drop,Nat.add_comm]
  have hlen:(t.drop (1:Int).toNat).length=t.length-1:=by simp
  cases hd:t.drop i with
  |nil=>have:=Qd4 hd;omega
  |cons a l=>
   obtain⟨h1,h2,h3⟩:=Qdg hd
   cases l with
   |nil=>
    have:=Qd4 h2
    rw[show(decide ((i:Int)<((t.drop (1:Int).toNat).length:Int)))=false by rw[hlen];simp;omega]
    rfl
   |cons b l=>
    obtain⟨h4,h5,h6⟩:=Qdg h2
    rw[show(decide ((i:Int)<((t.drop (1:Int).toNat).length:Int)))=true by rw[hlen];simp;omega]
    have e:w64 ((i:Int)+1)=((i+1:Nat):Int):=by rw[Qa5]<;>omega
    simp only[cond_true,Qcv ((hdr b).2 h4),Qcv h1,Option.bind_some,e]
    have:=ih (i+1) (by rw[h2];rw[hd] at h;simpa using h) (by omega)
    simp only[this,h2,Qki,Qwj]
    by_cases c1:b.T≤a.T
    ·simp[c1,Int.not_lt.2 c1]
    ·by_cases c2:b.P≤a.P
     ·simp[c1,c2,Int.not_lt.2 c2]
     ·by_cases c3:b.Liquid≤a.Liquid
      ·simp[c1,c2,c3,Int.not_lt.2 c3]
      ·by_cases c4:b.Silica<a.Silica
       ·simp[c1,c2,c3,c4,Int.not_le.2 c4]
       ·simp[c1,c2,c3,c4,Int.not_le.1 c1,Int.not_le.1 c2,Int.not_le.1 c3,Int.not_lt.1 c4]
theorem Qzg {N:Nat}{t:List GRow}(hl:t.length≤1000) (hN:1001≤N):Qen N t=some (tabB t):=by
 unfold Qen tabB
 rw[Qiw,Qyp hl hN]
 cases hb:btw t.length 2 20 with
 |false=>rfl
 |true=>
  have h2:2≤t.length:=by simp[btw] at hb;omega
  cases ha:t.all rowB with
  |false=>rfl
  |true=>
   have:=Qtw N t (fun _=>some true) hl N 0 (by simp;omega) (by omega)
   rw[show((0:Nat):Int)=0 from rfl,List.drop_zero] at this
   simp only[Option.bind_some,Bool.not_true,cond_false,Qb5,Bool.true_and]
   rw[this]
   rw[show(decide ((1:Int)≤(t.length:Int)))=true by rw[decide_eq_true_eq];omega]
   cases Qki t<;>simp[chk]
def Qrb:Option GRow→List GRow→Bool
 |_,[]=>true
 |o,a::l=>rowB a&&(match o with |none=>true |some p=>Qwj p a)&&Qrb (some a) l
theorem Qnj:∀(a:GRow) (l:List GRow),Qrb (some a) l=(l.all rowB&&Qki (a::l))
 |_,[]=>rfl
 |a,b::l=>by
  rw[Qrb,Qnj b l,List.all_cons,Qki]
  cases rowB b<;>cases l.all rowB<;>cases Qwj a b<;>simp
theorem Qt6:∀(t:List GRow),Qrb none t=(t.all rowB&&Qki t)
 |[]=>rfl
 |a::l=>by
  rw[Qrb,Qnj a l,List.all_cons]
  cases rowB a<;>simp
theorem Qty (N:Nat) (t:List GRow) (k:Unit→Option Bool) (hl:t.length≤9223372036854775807):∀(n i:Nat),(t.drop i).length<n→i≤t.length →
  Qc6 N t k n i=bif Qrb (if i=0 then none else t[i-1]?) (t.drop i) then k () else some false:=by
 intro n
 induction n with
 |zero=>intro i h;omega
 |succ n ih=>
  intro i h hi
  unfold Qc6
  cases hd:t.drop i with
  |nil=>
   have:=Qd4 hd
   rw[show(decide ((i:Int)<(t.length:Int)))=false by simp;omega]
   rfl
  |cons a l=>
   obtain⟨h1,h2,h3⟩:=Qdg hd
   rw[show(decide ((i:Int)<(t.length:Int)))=true by simp;omega]
   have e:w64 ((i:Int)+1)=((i+1:Nat):Int):=by rw[Qa5]<;>omega
   have:=ih (i+1) (by rw[h2];rw[hd] at h;simpa using h) (by omega)
   simp only[Nat.add_sub_cancel,Nat.succ_ne_zero,if_false,h1,h2] at this
   simp only[cond_true,Qcv h1,Option.bind_some,e,Qt8,this,Qrb,rowB,Qb5]
   cases btw a.T 0 400
   ·rfl
   cases btw a.P 1 10000
   ·rfl
   cases btw a.Liquid 0 4000
   ·rfl
   cases btw a.Silica 0 2000
   ·rfl
   by_cases c1:a.Vapour≤a.Liquid
   ·simp[c1,Int.not_lt.2 c1]
   by_cases c2:a.Vapour>4000
   ·simp[c1,c2,Int.not_le.2 c2]
   cases i with
   |zero=>simp[c1,c2,Int.not_le.1 c1,Int.not_lt.1 c2]
   |succ i=>
    have hp:t[i]? = some t[i]:=List.getElem?_eq_getElem (by omega)
    have e2:w64 (((i+1:Nat):Int)-1)=(i:Int):=by rw[Qa5]<;>omega
    have e3:(decide (((i+1:Nat):Int)>0))=true:=by rw[decide_eq_true_eq];omega
    generalize t[i]=b at hp
    simp only[Bool.not_true,cond_false,e3,cond_true,e2,Qcv hp,Option.bind_some,Nat.add_sub_cancel,hp,Qwj,show ¬(i+1=0) by omega,if_false,decide_eq_false c1,decide_eq_false c2,decide_eq_true (Int.not_le.1 c1),decide_eq_true (Int.not_lt.1 c2),Bool.true_and]
    by_cases d1:a.T≤b.T
    ·simp[d1,Int.not_lt.2 d1]
    ·by_cases d2:a.P≤b.P
     ·simp[d1,d2,Int.not_lt.2 d2]
     ·by_cases d3:a.Liquid≤b.Liquid
      ·simp[d1,d2,d3,Int.not_lt.2 d3]
      ·by_cases d4:a.Silica<b.Silica
       ·simp[d1,d2,d3,d4,Int.not_le.2 d4]
       ·simp[d1,d2,d3,d4,Int.not_le.1 d1,Int.not_le.1 d2,Int.not_le.1 d3,Int.not_lt.1 d4]
theorem Qzt {N:Nat}{t:List GRow}(hl:t.length≤9223372036854775807) (hN:t.length<N):Qgs N t=some (tabB t):=by
 have:=fun k=>Qty N t k hl N 0 (by simp;omega) (Nat.zero_le _)
 unfold Qgs Qb5 tabB
 rw[show((0:Nat):Int)=0 from rfl] at this
 dsimp only
 rw[this]
 simp only[List.drop_zero,if_true,Qt6,btw]
 by_cases h:(2:Int)≤t.length<;>cases t.all rowB<;>cases Qki t<;>simp[h]
theorem Qx6 (N:Nat) (t:List GRow) (k:List GRow→Option (List GRow)) (hl:t.length≤1000):∀(n i:Nat) (acc:List GRow),(t.drop i).length<n→i≤t.length→acc.length=i →
  Qdq N t k n acc i=k (acc++t.drop i):=by
 intro n
 induction n with
 |zero=>intro i acc h;omega
 |succ n ih=>
  intro i acc h hi ha
  unfold Qdq
  cases hd:t.drop i with
  |nil=>
   have:=Qd4 hd
   rw[show(decide ((i:Int)<(t.length:Int)))=false by simp;omega]
   simp
  |cons a l=>
   obtain⟨h1,h2,h3⟩:=Qdg hd
   rw[show(decide ((i:Int)<(t.length:Int)))=true by simp;omega]
   have e:w64 ((i:Int)+1)=((i+1:Nat):Int):=by rw[Qa5]<;>omega
   have hc:decide ((acc.length+[a].length)*40≤140737488355328)=true:=by simp;omega
   simp only[cond_true,Qcv h1,Option.bind_some,e,hc,chk]
   rw[ih (i+1) _ (by rw[h2];rw[hd] at h;simpa using h) (by omega) (by simp[ha]),h2]
   simp
theorem Qzm {N:Nat}{t:List GRow}(hl:t.length≤1000) (hN:1001≤N):Qf3 N t=some t:=by
 have:=Qx6 N t (fun y=>some y) hl N 0 [] (by simp;omega) (Nat.zero_le _) rfl
 rw[show((0:Nat):Int)=0 from rfl] at this
 unfold Qf3 Qb5
 dsimp only
 rw[this]
 simp
theorem Qwi (N:Nat) (s:Qap):Qgb N s=some s:=rfl
def strB (s:Qap):Bool:=btw s.Mass 0 1000000&&btw s.Heat 0 (4000*s.Mass)&&btw s.Silica 0 (10000*s.Mass)&&btw s.Gas 0 1000000000
theorem Qlr {s:Qap}(h:btw s.Mass 0 1000000=true):w64 (4000*s.Mass)=4000*s.Mass∧w64 (10000*s.Mass)=10000*s.Mass:=by
 simp only[btw,Bool.and_eq_true,decide_eq_true_eq] at h
 exact⟨Qa5 (by omega) (by omega),Qa5 (by omega) (by omega)⟩
theorem Qm5 (N:Nat) (s:Qap):Qeo N s=some (strB s):=by
 unfold Qeo strB
 simp only[Qt8,Option.bind_some]
 cases h:btw s.Mass 0 1000000 with
 |false=>rfl
 |true=>
  rw[(Qlr h).1,(Qlr h).2]
  cases btw s.Heat 0 (4000*s.Mass)<;>cases btw s.Silica 0 (10000*s.Mass)<;>cases btw s.Gas 0 1000000000<;>rfl
theorem Qm4 (N:Nat) (s:Qap):Qdv N s=some (strB s):=by
 unfold Qdv strB
 simp only[Qiw,Option.bind_some]
 cases h:btw s.Mass 0 1000000 with
 |false=>rfl
 |true=>
  rw[(Qlr h).1,(Qlr h).2]
  cases btw s.Heat 0 (4000*s.Mass)<;>cases btw s.Silica 0 (10000*s.Mass)<;>cases btw s.Gas 0 1000000000<;>rfl
def decB:List Int→Bool
 |a::b::l=>decide (b<a)&&decB (b::l)
 |_=>true
def levB (n:Int) (l:List Int):Bool:=btw l.length 1 20&&l.all (fun x=>btw x 0 (n-1))&&decB l
theorem Qo3 (N:Nat) (t:List GRow) (l:List Int) (k:Unit→Option Int) (ht:t.length≤1000) (hl:l.length≤1000):∀(n i:Nat),(l.drop i).length<n→i≤l.length →
  Qbf N l t k n i=bif (l.drop i).all (fun x=>btw x 0 (t.length-1)) then k () else some ((i:Int)+((l.drop i).findIdx fun x=>!btw x 0 (t.length-1):Nat)):=by
 intro n
 induction n with
 |zero=>intro i h;omega
 |succ n ih=>
  intro i h hi
  unfold Qbf
  cases hd:l.drop i with
  |nil=>
   have:=Qd4 hd
   rw[show(decide ((i:Int)<(l.length:Int)))=false by simp;omega]
   rfl
  |cons a q=>
   obtain⟨h1,h2,h3⟩:=Qdg hd
   rw[show(decide ((i:Int)<(l.length:Int)))=true by simp;omega]
   have e0:w64 ((t.length:Int)-1)=(t.length:Int)-1:=by rw[Qa5]<;>omega
   simp only[cond_true,Qcv h1,Option.bind_some,Qfi,Qfx,Qiw,e0]
   cases hr:btw a 0 ((t.length:Int)-1) with
   |false=>simp[hr,List.findIdx_cons]
   |true=>
    have e:w64 ((i:Int)+1)=((i+1:Nat):Int):=by rw[Qa5]<;>omega
    rw[e]
    have:=ih (i+1) (by rw[h2];rw[hd] at h;simpa using h) (by omega)
    simp only[Bool.not_true,cond_false,this,h2,List.all_cons,hr,Bool.true_and,List.findIdx_cons]
    congr 2
    push_cast
    omega
theorem Qrw {N:Nat}{t:List GRow}{l:List Int}(ht:t.length≤1000) (hl:l.length≤1000) (hN:1001≤N):Qe8 N l t=some (l.all fun x=>btw x 0 (t.length-1)):=by
 have:=Qo3 N t l (fun _=>some (-1)) ht hl N 0 (by simp;omega) (Nat.zero_le _)
 rw[show((0:Nat):Int)=0 from rfl,List.drop_zero] at this
 unfold Qe8 Qc3 Qdi Qb5
 dsimp only
 rw[this]
 cases h:l.all fun x=>btw x 0 ((t.length:Int)-1) with
 |true=>simp
 |false=>simp
theorem Q1f (N:Nat) (l:List Int) (k:Unit→Option ((List Qbm)×Int)) (hl:l.length≤1000):∀(n i:Nat),(l.drop i).length<n→i<l.length →
  Qdh N l k n i=bif decB (l.drop i) then k () else some ([],2):=by
 intro n
 induction n with
 |zero=>intro i h;omega
 |succ n ih=>
  intro i h hi
  unfold Qdh
  have hlen:(l.drop (1:Int).toNat).length=l.length-1:=by simp
  cases hd:l.drop i with
  |nil=>have:=Qd4 hd;omega
  |cons a q=>
   obtain⟨h1,h2,h3⟩:=Qdg hd
   cases q with
   |nil=>
    have:=Qd4 h2
    rw[show(decide ((i:Int)<((l.drop (1:Int).toNat).length:Int)))=false by rw[hlen];simp;omega]
    rfl
   |cons b q=>
    obtain⟨h4,h5,h6⟩:=Qdg h2
    rw[show(decide ((i:Int)<((l.drop (1:Int).toNat).length:Int)))=true by rw[hlen];simp;omega]
    have e:w64 ((i:Int)+1)=((i+1:Nat):Int):=by rw[Qa5]<;>omega
    simp only[cond_true,e,Qcv h4,Qcv h1,Option.bind_some]
    have:=ih (i+1) (by rw[h2];rw[hd] at h;simpa using h) (by omega)
    simp only[this,h2,decB]
    by_cases c1:b≥a
    ·simp[c1,Int.not_lt.2 c1]
    ·simp[c1,Int.not_le.1 c1]
def Qra (n:Int):Option Int→List Int→Bool
 |_,[]=>true
 |o,a::l=>btw a 0 (n-1)&&(match o with |none=>true |some p=>decide (a<p))&&Qra n (some a) l
theorem Qni (n:Int):∀(a:Int) (l:List Int),Qra n (some a) l=(l.all (fun x=>btw x 0 (n-1))&&decB (a::l))
 |_,[]=>rfl
 |a,b::l=>by
  rw[Qra,Qni n b l,List.all_cons,decB]
  cases btw b 0 (n-1)<;>cases l.all (fun x=>btw x 0 (n-1))<;>by_cases h:b<a<;>simp[h]
theorem Qt5 (n:Int):∀(l:List Int),Qra n none l=(l.all (fun x=>btw x 0 (n-1))&&decB l)
 |[]=>rfl
 |a::l=>by
  rw[Qra,Qni n a l,List.all_cons]
  cases btw a 0 (n-1)<;>simp
theorem Qrc (N:Nat) (m:Int) (l:List Int) (k:Unit→Option Bool) (hl:l.length≤9223372036854775807) (hm:w64 (m-1)=m-1):∀(n i:Nat),(l.drop i).length<n→i≤l.length →
  Qct N m k l n i=bif Qra m (if i=0 then none else l[i-1]?) (l.drop i) then k () else some false:=by
 intro n
 induction n with
 |zero=>intro i h;omega
 |succ n ih=>
  intro i h hi
  unfold Qct
  cases hd:l.drop i with
  |nil=>
   have:=Qd4 hd
   rw[show(decide ((i:Int)<(l.length:Int)))=false by simp;omega]
   rfl
  |cons a q=>
   obtain⟨h1,h2,h3⟩:=Qdg hd
   rw[show(decide ((i:Int)<(l.length:Int)))=true by simp;omega]
   have e:w64 ((i:Int)+1)=((i+1:Nat):Int):=by rw[Qa5]<;>omega
   have:=ih (i+1) (by rw[h2];rw[hd] at h;simpa using h) (by omega)
   simp only[Nat.add_sub_cancel,Nat.succ_ne_zero,if_false,h1,h2] at this
   simp only[cond_true,Qcv h1,Option.bind_some,e,Qt8,this,Qra,hm]
   cases btw a 0 (m-1)
   ·rfl
   cases i with
   |zero=>simp
   |succ i=>
    have hp:l[i]? = some l[i]:=List.getElem?_eq_getElem (by omega)
    have e2:w64 (((i+1:Nat):Int)-1)=(i:Int):=by rw[Qa5]<;>omega
    have e3:(decide (((i+1:Nat):Int)>0))=true:=by rw[decide_eq_true_eq];omega
    generalize l[i]=b at hp
    simp only[Bool.not_true,cond_false,e3,cond_true,e2,Qcv hp,Option.bind_some,Nat.add_sub_cancel,hp,show ¬(i+1=0) by omega,if_false,Bool.true_and]
    by_cases d1:a≥b
    ·simp[d1,Int.not_lt.2 d1]
    ·simp[d1,Int.not_le.1 d1]
theorem Qxg {N:Nat}{m:Int}{l:List Int}(hl:l.length≤9223372036854775807) (hm:w64 (m-1)=m-1) (hN:l.length<N):Qf9 N m l=some (levB m l):=by
 have:=fun k=>Qrc N m l k hl hm N 0 (by simp;omega) (Nat.zero_le _)
 unfold Qf9 Qb5 levB
 rw[show((0:Nat):Int)=0 from rfl] at this
 dsimp only
 rw[this]
 simp only[List.drop_zero,if_true,Qt5,btw]
 by_cases h:(1:Int)≤l.length<;>cases l.all (fun x=>decide (0≤x)&&decide (x≤m-1))<;>cases decB l<;>simp[h]
end
section
structure RowV (r:GRow):Prop where
 l0:0≤r.Liquid
 l1:r.Liquid≤4000
 lv:r.Liquid<r.Vapour
 v1:r.Vapour≤4000
 s0:0≤r.Silica
 s1:r.Silica≤2000
theorem Q38 {r:GRow}(h:rowB r=true):RowV r:=by
 simp[rowB,btw] at h
 exact⟨by omega,by omega,by omega,by omega,by omega,by omega⟩
structure StrV (s:Qap):Prop where
 m0:0≤s.Mass
 m1:s.Mass≤1000000
 h0:0≤s.Heat
 h1:s.Heat≤4000*s.Mass
 s0:0≤s.Silica
 s1:s.Silica≤10000*s.Mass
 g0:0≤s.Gas
 g1:s.Gas≤1000000000
theorem Qsa {s:Qap}:strB s=true↔StrV s:=by
 simp only[strB,btw,Bool.and_eq_true,decide_eq_true_eq]
 exact⟨fun h=>⟨by omega,by omega,by omega,by omega,by omega,by omega,by omega,by omega⟩,fun h=>by obtain⟨_,_,_,_,_,_,_,_⟩:=h;omega⟩
theorem bdp {x y a b:Int}(hx:0≤x) (hx':x≤a) (hy:0≤y) (hy':y≤b) (ha:0≤a):0≤x*y∧x*y≤a*b:=
 ⟨Int.mul_nonneg hx hy,Int.mul_le_mul hx' hy' hy ha⟩
def stm (r:GRow) (s:Qap):Int:=
 if s.Heat-s.Mass*r.Liquid≤0 then 0 else if s.Mass*r.Vapour≤s.Heat then s.Mass else(s.Heat-s.Mass*r.Liquid).tdiv (r.Vapour-r.Liquid)
def flG (r:GRow) (s:Qap):Qbm:=
 if stm r s=0 then⟨⟨0,0,0,0⟩,⟨s.Mass,s.Heat,min (s.Mass*r.Silica) s.Silica,s.Gas⟩,if 0<s.Mass then max (s.Heat-s.Mass*r.Liquid) 0 else 0,s.Silica-min (s.Mass*r.Silica) s.Silica⟩
 else if stm r s=s.Mass then⟨⟨s.Mass,s.Heat,0,s.Gas⟩,⟨0,0,0,0⟩,0,s.Silica⟩
 else⟨⟨stm r s,stm r s*r.Vapour,0,s.Gas⟩,⟨s.Mass-stm r s,s.Heat-stm r s*r.Vapour,min ((s.Mass-stm r s)*r.Silica) s.Silica,0⟩,s.Heat-stm r s*r.Vapour-(s.Mass-stm r s)*r.Liquid,s.Silica-min ((s.Mass-stm r s)*r.Silica) s.Silica⟩
theorem Ql7 {r:GRow}{s:Qap}(hr:RowV r) (hs:StrV s) :
  (s.Heat-s.Mass*r.Liquid≤0∧stm r s=0) ∨
  (0<s.Heat-s.Mass*r.Liquid∧s.Mass*r.Vapour≤s.Heat∧stm r s=s.Mass∧0<s.Mass) ∨
  (0<s.Heat-s.Mass*r.Liquid∧s.Heat<s.Mass*r.Vapour∧stm r s=(s.Heat-s.Mass*r.Liquid).tdiv (r.Vapour-r.Liquid)∧0≤stm r s∧stm r s<s.Mass∧stm r s*(r.Vapour-r.Liquid)≤s.Heat-s.Mass*r.Liquid∧s.Heat-s.Mass*r.Liquid<stm r s*(r.Vapour-r.Liquid)+(r.Vapour-r.Liquid)):=by
 obtain⟨l0,l1,lv,v1,s0,s1⟩:=hr
 obtain⟨m0,m1,h0,h1,_,_,_,_⟩:=hs
 by_cases c1:s.Heat-s.Mass*r.Liquid≤0
 ·exact .inl ⟨c1,by unfold stm;rw[if_pos c1]⟩
 ·by_cases c2:s.Mass*r.Vapour≤s.Heat
  ·refine .inr (.inl ⟨by omega,c2,by unfold stm;rw[if_neg c1,if_pos c2],?_⟩)
   rcases Int.lt_or_eq_of_le m0 with h |h
   ·exact h
   ·rw[←h] at h1 c1
    simp at h1 c1
    omega
  ·have e:stm r s=(s.Heat-s.Mass*r.Liquid).tdiv (r.Vapour-r.Liquid):=by unfold stm;rw[if_neg c1,if_neg c2]
   have e2:stm r s=(s.Heat-s.Mass*r.Liquid)/(r.Vapour-r.Liquid):=by rw[e,Int.tdiv_eq_ediv_of_nonneg (by omega)]
   have d0:0<r.Vapour-r.Liquid:=by omega
   have q1:=Int.ediv_mul_le (s.Heat-s.Mass*r.Liquid) (b:=r.Vapour-r.Liquid) (by omega)
   have q2:=Int.lt_mul_ediv_self_add (x:=s.Heat-s.Mass*r.Liquid) (k:=r.Vapour-r.Liquid) d0
   have q3:0≤stm r s:=by rw[e2];exact Int.ediv_nonneg (by omega) (by omega)
   rw[←e2] at q1 q2
   rw[Int.mul_comm (r.Vapour-r.Liquid)] at q2
   refine .inr (.inr ⟨by omega,by omega,e,q3,?_,q1,q2⟩)
   rw[e2]
   refine Int.ediv_lt_of_lt_mul d0 ?_
   rw[Int.mul_sub]
   omega
structure Q77 (r:GRow) (s:Qap):Prop where
 a:w64 (s.Mass*r.Liquid)=s.Mass*r.Liquid
 b:w64 (s.Heat-s.Mass*r.Liquid)=s.Heat-s.Mass*r.Liquid
 c:w64 (s.Mass*r.Vapour)=s.Mass*r.Vapour
 d:w64 (r.Vapour-r.Liquid)=r.Vapour-r.Liquid
theorem Q3q {r:GRow}{s:Qap}(hr:RowV r) (hs:StrV s):Q77 r s:=by
 obtain⟨l0,l1,lv,v1,s0,s1⟩:=hr
 obtain⟨m0,m1,h0,h1,_,_,_,_⟩:=hs
 have p1:=bdp m0 m1 l0 l1 (by omega)
 have p2:=bdp (y:=r.Vapour) m0 m1 (by omega) v1 (by omega)
 exact⟨Qa5 (by omega) (by omega),Qa5 (by omega) (by omega),Qa5 (by omega) (by omega),Qa5 (by omega) (by omega)⟩
theorem Qzo (N:Nat) {r:GRow}{s:Qap}(hr:RowV r) (hs:StrV s):Qem N ⟨r⟩ s=some (stm r s):=by
 obtain⟨wa,wb,wc,wd⟩:=Q3q hr hs
 have hlv:=hr.lv
 have hd:((r.Vapour-r.Liquid) != 0)=true:=by simp;omega
 have hs':=hs
 obtain⟨m0,m1,h0,h1,_,_,_,_⟩:=hs'
 unfold Qem
 simp only[wa,wb,wc,wd,Option.bind_some,hd,chk,cond_true]
 rcases Ql7 hr hs with ⟨a,b⟩ |⟨a,b,c,d⟩ |⟨a,b,c,d,e,_,_⟩
 ·rw[decide_eq_true a,b];rfl
 ·rw[decide_eq_false (show ¬s.Heat-s.Mass*r.Liquid≤0 by omega),decide_eq_true (show s.Heat≥s.Mass*r.Vapour from b),c];rfl
 ·rw[decide_eq_false (show ¬s.Heat-s.Mass*r.Liquid≤0 by omega),decide_eq_false (show ¬s.Heat≥s.Mass*r.Vapour by omega),←c,Qa5 (by omega) (by omega)];rfl
theorem Q72 (N:Nat) {r:GRow}{s:Qap}(hr:RowV r) (hs:StrV s):Qez N ⟨r⟩ s=some (flG r s):=by
 have hw:=Q3q hr hs
 have hc:=Ql7 hr hs
 have he:=Qzo N hr hs
 obtain⟨l0,l1,lv,v1,s0,s1⟩:=hr
 obtain⟨m0,m1,h0,h1,q0,q1,_,_⟩:=hs
 unfold Qez
 have:(⟨⟨r.T,r.P,r.Liquid,r.Vapour,r.Silica⟩⟩:Qhr)=⟨r⟩:=rfl
 dsimp only at this ⊢
 rw[he]
 have p1:=bdp m0 m1 s0 s1 (by omega)
 simp only[Option.bind_some,Qb5]
 unfold flG
 generalize hm:stm r s=m at *
 by_cases z:m=0
 ·subst z
  rw[if_pos rfl,hw.a,Qa5 (x:=s.Mass*r.Silica) (by omega) (by omega),hw.b]
  simp only[beq_self_eq_true,cond_true]
  have:w64 (s.Silica-(if s.Mass*r.Silica<s.Silica then s.Mass*r.Silica else s.Silica))=s.Silica-min (s.Mass*r.Silica) s.Silica:=by
   rw[Qa5]<;>(repeat split)<;>omega
  rw[this]
  by_cases c:0<s.Mass
  ·rw[decide_eq_true (show s.Mass>0 from c),if_pos c]
   simp only[cond_true]
   congr 2
   ·congr 1;split<;>omega
   ·split<;>omega
  ·rw[decide_eq_false (show ¬s.Mass>0 from c),if_neg c]
   simp only[cond_false]
   congr 2
   congr 1;split<;>omega
 ·have z1:(m==0)=false:=by simpa using z
  rw[if_neg z,z1]
  by_cases f:m=s.Mass
  ·have f1:(m==s.Mass)=true:=by simpa using f
   rw[f1,if_pos f]
   have:w64 (0*r.Silica)=0:=by rw[Int.zero_mul];rfl
   simp only[cond_false,cond_true,this]
   have:w64 (s.Silica-(if 0<s.Silica then 0 else s.Silica))=s.Silica:=by rw[Qa5]<;>split<;>omega
   rw[this]
   simp only[show decide ((0:Int)>0)=false from rfl,cond_false]
   congr 2
   ·rw[f]
   ·congr 1;split<;>omega
  ·have f1:(m==s.Mass)=false:=by simpa using f
   rw[f1,if_neg f]
   rcases hc with ⟨a,b⟩ |⟨a,b,c,d⟩ |⟨a,b,c,d,e,g1,g2⟩
   ·exact absurd b z
   ·exact absurd c f
   ·have k1:=bdp d (show m≤1000000 by omega) (show 0≤r.Vapour by omega) v1 (by omega)
    have k2:=bdp (show 0≤s.Mass-m by omega) (show s.Mass-m≤1000000 by omega) s0 s1 (by omega)
    have k3:=bdp (show 0≤s.Mass-m by omega) (show s.Mass-m≤1000000 by omega) l0 l1 (by omega)
    rw[Int.mul_sub] at g1
    have k4:0≤s.Heat-m*r.Vapour-(s.Mass-m)*r.Liquid:=by rw[Int.sub_mul];omega
    simp only[cond_false]
    rw[Qa5 (x:=s.Mass-m) (by omega) (by omega),Qa5 (x:=m*r.Vapour) (by omega) (by omega),Qa5 (x:=s.Heat-m*r.Vapour) (by omega) (by omega),Qa5 (x:=(s.Mass-m)*r.Silica) (by omega) (by omega),Qa5 (x:=(s.Mass-m)*r.Liquid) (by omega) (by omega),Qa5 (x:=s.Heat-m*r.Vapour-(s.Mass-m)*r.Liquid) (by omega) (by omega),decide_eq_true (show s.Mass-m>0 by omega)]
    have:w64 (s.Silica-(if (s.Mass-m)*r.Silica<s.Silica then(s.Mass-m)*r.Silica else s.Silica))=s.Silica-min ((s.Mass-m)*r.Silica) s.Silica:=by
     rw[Qa5]<;>(repeat split)<;>omega
    rw[this]
    simp only[cond_true]
    congr 2
    ·congr 1;split<;>omega
    ·split<;>omega
structure Q79 (s:Qap) (p:Qbm):Prop where
 st:StrV p.Steam
 wa:StrV p.Water
 km:p.Steam.Mass+p.Water.Mass=s.Mass
 kh:p.Steam.Heat+p.Water.Heat=s.Heat
 ks:p.Water.Silica+p.Scale=s.Silica
 kg:p.Steam.Gas+p.Water.Gas=s.Gas
 z:p.Steam.Silica=0
 sc:0≤p.Scale
theorem Qss {r:GRow}{s:Qap}(hr:RowV r) (hs:StrV s):Q79 s (flG r s):=by
 have hc:=Ql7 hr hs
 obtain⟨l0,l1,lv,v1,s0,s1⟩:=hr
 obtain⟨m0,m1,h0,h1,q0,q1,y0,y1⟩:=hs
 have p1:=bdp m0 m1 s0 s1 (by omega)
 unfold flG
 by_cases z:stm r s=0
 ·rw[if_pos z]
  refine⟨⟨?_,?_,?_,?_,?_,?_,?_,?_⟩,⟨?_,?_,?_,?_,?_,?_,?_,?_⟩,?_,?_,?_,?_,?_,?_⟩<;>dsimp only<;>omega
 ·rw[if_neg z]
  by_cases f:stm r s=s.Mass
  ·rw[if_pos f]
   refine⟨⟨?_,?_,?_,?_,?_,?_,?_,?_⟩,⟨?_,?_,?_,?_,?_,?_,?_,?_⟩,?_,?_,?_,?_,?_,?_⟩<;>dsimp only<;>omega
  ·rw[if_neg f]
   rcases hc with ⟨a,b⟩ |⟨a,b,c,d⟩ |⟨a,b,c,d,e,g1,g2⟩
   ·exact absurd b z
   ·exact absurd c f
   ·generalize stm r s=m at *
    have k1:=bdp d (show m≤1000000 by omega) (show 0≤r.Vapour by omega) v1 (by omega)
    have k2:=bdp (show 0≤s.Mass-m by omega) (show s.Mass-m≤1000000 by omega) s0 s1 (by omega)
    have k5:m*r.Vapour≤m*4000:=Int.mul_le_mul_of_nonneg_left v1 d
    have k6:(s.Mass-m)*r.Silica≤(s.Mass-m)*2000:=Int.mul_le_mul_of_nonneg_left s1 (by omega)
    have k7:(s.Mass-m-1)*(r.Vapour-r.Liquid)≥0:=Int.mul_nonneg (by omega) (by omega)
    have k8:(s.Mass-m)*r.Vapour≤(s.Mass-m)*4000:=Int.mul_le_mul_of_nonneg_left v1 (by omega)
    have k9:0≤s.Mass*r.Liquid-m*r.Liquid:=by rw[←Int.sub_mul];exact Int.mul_nonneg (by omega) l0
    simp only[Int.mul_sub,Int.sub_mul,Int.one_mul] at g1 g2 k7 k8 k6 k2
    refine⟨⟨?_,?_,?_,?_,?_,?_,?_,?_⟩,⟨?_,?_,?_,?_,?_,?_,?_,?_⟩,?_,?_,?_,?_,?_,?_⟩<;>dsimp only<;>(try simp only[Int.sub_mul])<;>omega
def Qf0 (t:List GRow):Qap→List Int→List Qbm
 |_,[]=>[]
 |s,l::ls=>flG ((getI t l).getD ⟨0,0,0,0,0⟩) s::Qf0 t (flG ((getI t l).getD ⟨0,0,0,0,0⟩) s).Water ls
theorem Qjh (t:List GRow):∀(l:List Int) (s:Qap),(Qf0 t s l).length=l.length
 |[],_=>rfl
 |_::l,_=>by simp[Qf0,Qjh t l]
theorem Q2h {t:List GRow}(ht:tabB t=true) {l:Int}(h:btw l 0 (t.length-1)=true):getI t l=some ((getI t l).getD ⟨0,0,0,0,0⟩)∧RowV ((getI t l).getD ⟨0,0,0,0,0⟩):=by
 simp only[btw,Bool.and_eq_true,decide_eq_true_eq] at h
 have hi:l.toNat<t.length:=by omega
 have e:getI t l=some t[l.toNat]:=by unfold getI;rw[if_pos h.1,List.getElem?_eq_getElem hi]
 rw[e]
 refine⟨rfl,?_⟩
 simp only[tabB,Bool.and_eq_true] at ht
 exact Q38 (List.all_eq_true.1 ht.1.2 _ (List.getElem_mem hi))
theorem Qq0 (N:Nat) {t:List GRow}(ht:tabB t=true) (l:List Int) (hl:l.length≤1000) (ha:∀x∈l,btw x 0 ((t.length:Int)-1)=true):∀(n i:Nat) (s:Qap),StrV s→(l.drop i).length<n→i≤l.length →
  Qb6 N l t n i s.Mass s.Heat s.Silica s.Gas=some (Qf0 t s (l.drop i)):=by
 intro n
 induction n with
 |zero=>intro i s _ h;omega
 |succ n ih=>
  intro i s hs h hi
  unfold Qb6
  cases hd:l.drop i with
  |nil=>
   have:=Qd4 hd
   rw[show(decide ((i:Int)<(l.length:Int)))=false by simp;omega]
   rfl
  |cons a q=>
   obtain⟨h1,h2,h3⟩:=Qdg hd
   rw[show(decide ((i:Int)<(l.length:Int)))=true by simp;omega]
   have e:w64 ((i:Int)+1)=((i+1:Nat):Int):=by rw[Qa5]<;>omega
   obtain⟨g1,g2⟩:=Q2h ht (ha a (List.mem_of_getElem? h1))
   simp only[cond_true,Qcv h1,Option.bind_some,e,Qf5,Qf0]
   rw[g1]
   simp only[Option.getD_some,Option.bind_some]
   generalize (getI t a).getD ⟨0,0,0,0,0⟩=r at g2
   have ho:Qez N ⟨⟨r.T,r.P,r.Liquid,r.Vapour,r.Silica⟩⟩ ⟨s.Mass,s.Heat,s.Silica,s.Gas⟩=some (flG r s):=Q72 N g2 hs
   rw[ho]
   simp only[Option.bind_some]
   rw[ih (i+1) _ (Qss g2 hs).wa (by rw[h2];rw[hd] at h;simpa using h) (by omega),h2]
   rfl
theorem Qku (N:Nat) (k:List Qbm→Option (List Qbm)):∀(q y:List Qbm),y.length+q.length≤1000→Qaq N k q y=k (y++q)
 |[],y,_=>by simp[Qaq]
 |x::q,y,h=>by
  have hc:decide ((y.length+[x].length)*80≤140737488355328)=true:=by simp at h ⊢;omega
  rw[Qaq]
  have hc':decide ((y.length+[(⟨⟨x.Steam.Mass,x.Steam.Heat,x.Steam.Silica,x.Steam.Gas⟩,⟨x.Water.Mass,x.Water.Heat,x.Water.Silica,x.Water.Gas⟩,x.Rest,x.Scale⟩:Qbm)].length)*80≤140737488355328)=true:=hc
  rw[hc']
  simp only[chk,cond_true]
  rw[Qku N k q _ (by simp at h ⊢;omega)]
  simp
theorem Que {N:Nat}(hN:1001≤N) {t:List GRow}(ht:tabB t=true) {l:List Int}(hl:l.length≤20) (ha:∀x∈l,btw x 0 ((t.length:Int)-1)=true) {s:Qap}(hs:StrV s):Qb9 N l t s.Mass s.Heat s.Silica s.Gas=some (Qf0 t s l):=by
 have:=Qq0 N ht l (by omega) ha N 0 s hs (by simp;omega) (Nat.zero_le _)
 rw[show((0:Nat):Int)=0 from rfl,List.drop_zero] at this
 unfold Qb9 Qbt Qex Qb5
 rw[this]
 simp only[Option.bind_some]
 rw[Qku N _ _ _ (by rw[Qjh];simp;omega)]
 rfl
def Qwe (t:List GRow) (l:List Int) (s:Qap):List Qbm×Int:=
 bif !tabB t then([],1) else bif !levB t.length l then([],2) else bif !strB s then([],1) else(Qf0 t s l,0)
theorem Qsk {n:Int}{l:List Int}(h:levB n l=true):(1≤l.length∧l.length≤20)∧(∀x∈l,btw x 0 (n-1)=true)∧decB l=true:=by
 simp only[levB,Bool.and_eq_true] at h
 refine⟨?_,fun x hx=>List.all_eq_true.1 h.1.2 x hx,h.2⟩
 have:=h.1.1
 simp only[btw,Bool.and_eq_true,decide_eq_true_eq] at this
 omega
theorem Qzj {N:Nat}(hN:1001≤N) {t:List GRow}(ht:t.length≤1000) {l:List Int}(hl:l.length≤1000) (s:Qap):Qgn N t l s=some (Qwe t l s):=by
 unfold Qgn Qwe
 rw[Qzg ht hN]
 cases hT:tabB t with
 |false=>rfl
 |true=>
  simp only[Option.bind_some,Bool.not_true,cond_false,Qb5,Qiw,Qrw ht hl hN]
  cases h1:btw l.length 1 20 with
  |false=>simp[levB,h1]
  |true=>
   cases h2:l.all fun x=>btw x 0 ((t.length:Int)-1) with
   |false=>simp[levB,h1,h2]
   |true=>
    have hlen:1≤l.length:=by simp[btw] at h1;omega
    have:=Q1f N l (fun _=>
      (Qdv N s).bind fun x7=>
      bif (!x7) then
       some ([],1)
      else
       (Qd7 N t l s).bind fun _=>
       (Qb9 N l t s.Mass s.Heat s.Silica s.Gas).bind fun x12=>
       some (x12,0)) hl N 0 (by simp;omega) (by omega)
    rw[show((0:Nat):Int)=0 from rfl,List.drop_zero] at this
    simp only[Bool.not_true,cond_false]
    rw[this,show(decide ((1:Int)≤(l.length:Int)))=true by rw[decide_eq_true_eq];omega]
    cases h3:decB l with
    |false=>simp[levB,h1,h2,h3,chk]
    |true=>
     simp only[levB,h1,h2,h3,Qm4,Option.bind_some,chk,Bool.and_true,Bool.not_true,cond_false,cond_true,decide_true,Int.le_refl]
     cases h4:strB s with
     |false=>rfl
     |true=>
      simp only[Bool.not_true,cond_false,Qd7,Option.bind_some]
      rw[Que hN hT (by simp[btw] at h1;omega) (fun x hx=>List.all_eq_true.1 h2 x hx) (Qsa.1 h4)]
      simp
end
section
theorem Qpf (a b:Int):w64 (w64 a+b)=w64 (a+b):=by
 unfold w64
 rw[IntKind.wrap_i64,IntKind.wrap_i64,IntKind.wrap_i64]
 omega
theorem Qc1 {a lo hi:Int}:btw a lo hi=true↔lo≤a∧a≤hi:=by simp[btw]
theorem Qh2 (N:Nat) (a lo hi:Int):Qdb N a lo hi=some (btw a lo hi):=by
 unfold Qdb btw
 by_cases h:lo≤a<;>simp[h]
theorem Qpz:maxLen=9223372036854775807:=rfl
def Qif:Int→List Qa8→Bool
 |_,[]=>true
 |last,p::l=>btw p.Gain 0 last&&btw p.Width 1 100000&&Qif p.Gain l
def Qhi (u:Qah):Bool:=btw u.Inlet 0 5&&btw u.Parts.length 1 8&&Qif 1000 u.Parts
theorem Qv7 (N:Nat) (p:Qa8) (last:Int):Qc9 N p last=some (!(btw p.Gain 0 last&&btw p.Width 1 100000)):=by
 unfold Qc9 Qes
 simp only[Qh2,Option.bind_some]
 cases btw p.Gain 0 last<;>simp
theorem Qt7 (N:Nat) (t:List Qa8) (last0:Int) (hl:(t.length:Int)≤9223372036854775807):∀(n i:Nat) (last:Int),(t.drop i).length<n →
  ∃x y:Int,Qa0 N t (fun y3=>some ((-1),y3)) n i last=some (x,y)∧(decide (x≥0))=!(Qif last (t.drop i)):=by
 intro n
 induction n with
 |zero=>intro i last h;exact absurd h (Nat.not_lt_zero _)
 |succ n ih=>
  intro i last h
  rw[Qa0]
  cases hd:t.drop i with
  |nil=>
   have:=Qd4 hd
   exact⟨-1,last,by simp[show ¬((i:Int)<t.length) from by omega],rfl⟩
  |cons p l=>
   obtain⟨hi,hd',hlt⟩:=Qdg hd
   have e1:w64 ((i:Int)+1)=((i+1:Nat):Int):=Qa5 (by omega) (by omega)
   simp only[show decide ((i:Int)<t.length)=true from by simpa using hlt,cond_true,Qcv hi,Option.bind_some,Qv7,e1,Qif]
   cases hv:(btw p.Gain 0 last&&btw p.Width 1 100000) with
   |false=>exact⟨i,p.Gain,by simp,by simp⟩
   |true=>
    have ih':=ih (i+1) p.Gain (by rw[hd'];rw[hd] at h;simp at h;omega)
    rw[hd'] at ih'
    simpa using ih'
theorem Q3u {N:Nat}{u:Qah}(hN:100≤N):Qef N u=some (Qhi u):=by
 unfold Qef Qhi
 simp only[Qh2,Option.bind_some]
 cases h0:btw u.Inlet 0 5<;>simp only[cond_true,cond_false,Bool.false_and,Bool.true_and]
 cases h1:btw u.Parts.length 1 8<;>simp only[cond_true,cond_false,Bool.false_and,Bool.true_and]
 obtain⟨h2,h3⟩:=Qc1.1 h1
 unfold Qed Qbs Qb0
 obtain⟨x,y,e1,e2⟩:=Qt7 N u.Parts 1000 (by omega) N 0 1000 (by simp;omega)
 rw[show((0:Nat):Int)=0 from rfl] at e1
 rw[List.drop_zero] at e2
 simp only[Qb5,e1,Option.bind_some,e2,Bool.not_not]
def Qjb (t:List Qa8) (i:Nat):Int:=if i=0 then 1000 else(t[i-1]?.map (·.Gain)).getD 0
theorem Qpo (N:Nat) (u:Qah) (k:Unit→Option Bool) (hl:(u.Parts.length:Int)≤9223372036854775807):∀(n i:Nat),(u.Parts.drop i).length<n→Qjb u.Parts i≤1000 →
  Qc5 N u k n i=bif Qif (Qjb u.Parts i) (u.Parts.drop i) then k () else some false:=by
 intro n
 induction n with
 |zero=>intro i h;exact absurd h (Nat.not_lt_zero _)
 |succ n ih=>
  intro i h hlast
  rw[Qc5]
  cases hd:u.Parts.drop i with
  |nil=>
   have:=Qd4 hd
   simp[show ¬((i:Int)<u.Parts.length) from by omega,Qif]
  |cons p l=>
   obtain⟨hi,hd',hlt⟩:=Qdg hd
   have e1:w64 ((i:Int)+1)=((i+1:Nat):Int):=Qa5 (by omega) (by omega)
   have hnext:Qjb u.Parts (i+1)=p.Gain:=by simp[Qjb,hi]
   simp only[show decide ((i:Int)<u.Parts.length)=true from by simpa using hlt,cond_true,Qcv hi,Option.bind_some,Qt8,e1,Qif]
   cases hw:btw p.Width 1 100000
   ·simp
   ·cases hg:btw p.Gain 0 1000
    ·have:btw p.Gain 0 (Qjb u.Parts i)=false:=by
      cases hb:btw p.Gain 0 (Qjb u.Parts i) with
      |false=>rfl
      |true=>
       have:=Qc1.1 hb
       rw[Qc1.2 (by omega)] at hg
       cases hg
     simp[this]
    ·have hg':=Qc1.1 hg
     have ih':=ih (i+1) (by rw[hd'];rw[hd] at h;simp at h;omega) (by rw[hnext];omega)
     rw[hd',hnext] at ih'
     simp only[Bool.not_true,cond_false,ih',Bool.and_true]
     rcases Nat.eq_zero_or_pos i with rfl |hp
     ·simp[Qjb,hg]
     ·obtain⟨a,ha⟩:∃a,u.Parts[i-1]? = some a:=⟨_,List.getElem?_eq_getElem (by omega)⟩
      have e2:w64 ((i:Int)-1)=((i-1:Nat):Int):=by rw[Qa5 (by omega) (by omega)];omega
      have e3:Qjb u.Parts i=a.Gain:=by rw[Qjb,if_neg (by omega),ha];rfl
      simp only[e2,Qcv ha,Option.bind_some,show decide ((i:Int)>0)=true from by simpa using hp,cond_true,e3]
      by_cases hga:p.Gain>a.Gain
      ·have:btw p.Gain 0 a.Gain=false:=by
        cases hb:btw p.Gain 0 a.Gain with
        |false=>rfl
        |true=>have:=Qc1.1 hb;omega
       simp[hga,this]
      ·have:btw p.Gain 0 a.Gain=true:=Qc1.2 (by omega)
       simp[hga,this]
theorem Qnd {N:Nat}{u:Qah}(hl:(u.Parts.length:Int)≤9223372036854775807) (hN:u.Parts.length+100≤N):Qf2 N u=some (Qhi u):=by
 unfold Qf2 Qhi
 simp only[Qb5]
 have:=Qpo N u (fun _=>(Qdu N u.Inlet 0 5).bind fun x3=>bif x3 then bif decide ((u.Parts.length:Int)≥1) then some (decide ((u.Parts.length:Int)≤8)) else some false else some false) hl N 0 (by simp;omega) (by simp[Qjb])
 rw[show((0:Nat):Int)=0 from rfl,List.drop_zero] at this
 rw[this,show Qjb u.Parts 0=1000 from rfl]
 simp only[Qt8,Option.bind_some]
 unfold btw
 cases Qif 1000 u.Parts<;>by_cases h1:(0:Int)≤u.Inlet<;>by_cases h2:u.Inlet≤5<;>by_cases h3:(1:Int)≤u.Parts.length<;>simp[h1,h2,h3]
theorem Qel {u:Qah}(h:Qhi u=true):(0≤u.Inlet∧u.Inlet≤5)∧(1≤u.Parts.length∧u.Parts.length≤8)∧Qif 1000 u.Parts=true:=by
 unfold Qhi at h
 simp only[Bool.and_eq_true,Qc1] at h
 exact⟨h.1.1,by omega,h.2⟩
theorem Qud (N:Nat) (u:Qah) (k:List Qa8→Option Qah) (hl:u.Parts.length≤100):∀(n i:Nat) (acc:List Qa8),(u.Parts.drop i).length<n→acc.length=i →
  Qdx N u k n i acc=k (acc++u.Parts.drop i):=by
 intro n
 induction n with
 |zero=>intro i _ h;exact absurd h (Nat.not_lt_zero _)
 |succ n ih=>
  intro i acc h hacc
  rw[Qdx]
  cases hd:u.Parts.drop i with
  |nil=>
   have:=Qd4 hd
   simp[show ¬((i:Int)<u.Parts.length) from by omega]
  |cons b l=>
   obtain⟨hg,hd',hlt⟩:=Qdg hd
   have e1:w64 ((i:Int)+1)=((i+1:Nat):Int):=Qa5 (by omega) (by omega)
   simp only[show decide ((i:Int)<u.Parts.length)=true from by simpa using hlt,cond_true,Qcv hg,Option.bind_some,e1]
   rw[ih (i+1) (acc++[b]) (by rw[hd'];rw[hd] at h;simp at h;omega) (by simp[hacc]),hd']
   simp only[chk,show decide ((acc.length+[b].length)*16≤140737488355328)=true from by simp;omega,cond_true,List.append_assoc,List.cons_append,List.nil_append]
theorem Qs3 {N:Nat}{u:Qah}(hl:u.Parts.length≤100) (hN:200≤N):Qgg N u=some u:=by
 unfold Qgg
 simp only[Qb5]
 have:=Qud N u (fun y1=>some ⟨u.Inlet,y1⟩) hl N 0 [] (by simp;omega) rfl
 simpa using this
def capI:List Qa8→Int
 |[]=>0
 |p::l=>p.Width+capI l
def powI:List Qa8→Int→Int
 |[],_=>0
 |p::l,m=>min m p.Width*p.Gain+powI l (m-min m p.Width)
theorem Qrm:∀(l:List Qa8) (last:Int),Qif last l=true→0≤capI l∧capI l≤100000*l.length
 |[],_,_=>⟨Int.le_refl _,by simp[capI]⟩
 |p::l,last,h=>by
  simp only[Qif,Bool.and_eq_true,Qc1] at h
  have:=Qrm l _ h.2
  simp only[capI,List.length_cons]
  omega
theorem Qxr {x g:Int}(x0:0≤x) (x1:x≤100000) (g0:0≤g) (g1:g≤1000):0≤x*g∧x*g≤100000000:=
 ⟨Int.mul_nonneg x0 g0,Int.le_trans (Int.mul_le_mul_of_nonneg_left g1 x0) (by omega)⟩
theorem Qq8:∀(l:List Qa8) (last m:Int),Qif last l=true→last≤1000→0≤m→0≤powI l m∧powI l m≤100000000*l.length
 |[],_,_,_,_,_=>⟨Int.le_refl _,by simp[powI]⟩
 |p::l,last,m,h,h1,h2=>by
  simp only[Qif,Bool.and_eq_true,Qc1] at h
  obtain⟨⟨h3,h4⟩,h5⟩:=h
  have ih:=Qq8 l p.Gain (m-min m p.Width) h5 (by omega) (by omega)
  have:=Qxr (x:=min m p.Width) (g:=p.Gain) (by omega) (by omega) (by omega) (by omega)
  simp only[powI,List.length_cons]
  omega
theorem Qzf:w64 0=0:=by decide
def Qts:List Qa8→Int→List (Qa8×Int)
 |[],_=>[]
 |p::l,m=>(p,min m p.Width)::Qts l (m-min m p.Width)
theorem Qv8 (N:Nat) (t:List Qa8) (hl:t.length≤1000) (hf:∀p∈t,1≤p.Width∧p.Width≤100000):∀(n i:Nat) (m:Int),(t.drop i).length<n→0≤m→m≤9223372036854775807 →
  Qcg N t n i m=some (Qts (t.drop i) m):=by
 intro n
 induction n with
 |zero=>intro i _ h;exact absurd h (Nat.not_lt_zero _)
 |succ n ih=>
  intro i m h h0 h1
  rw[Qcg]
  cases hd:t.drop i with
  |nil=>
   have:=Qd4 hd
   simp[show ¬((i:Int)<t.length) from by omega,Qts]
  |cons b l=>
   obtain⟨hg,hd',hlt⟩:=Qdg hd
   obtain⟨w0,w1⟩:=hf b (List.mem_of_getElem? hg)
   have e1:w64 ((i:Int)+1)=((i+1:Nat):Int):=Qa5 (by omega) (by omega)
   have e2:(if b.Width<m then b.Width else m)=min m b.Width:=by split<;>omega
   have e3:w64 (m-min m b.Width)=m-min m b.Width:=Qa5 (by omega) (by omega)
   simp only[show decide ((i:Int)<t.length)=true from by simpa using hlt,cond_true,Qcv hg,Option.bind_some,e1,e2,e3]
   rw[ih (i+1) _ (by rw[hd'];rw[hd] at h;simp at h;omega) (by omega) (by omega),hd']
   rfl
theorem Qoy:∀(l:List Qa8) (last:Int),Qif last l=true→last≤1000→∀p∈l,(1≤p.Width∧p.Width≤100000)∧0≤p.Gain∧p.Gain≤last
 |[],_,_,_,p,hp=>by cases hp
 |q::l,last,h,h1,p,hp=>by
  simp only[Qif,Bool.and_eq_true,Qc1] at h
  rcases List.mem_cons.1 hp with rfl |hp
  ·exact⟨h.1.2,h.1.1⟩
  ·have:=Qoy l q.Gain h.2 (by omega) p hp
   exact⟨this.1,by omega⟩
theorem Qpr (N:Nat) (k:Int→Option Int):∀(l:List Qa8) (last m a:Int),Qif last l=true→last≤1000→0≤m →
  Qb4 N k (Qts l m) (w64 a)=k (w64 (a+powI l m))
 |[],_,_,_,_,_,_=>by simp[Qts,Qb4,powI]
 |p::l,last,m,a,h,h1,h2=>by
  simp only[Qif,Bool.and_eq_true,Qc1] at h
  obtain⟨⟨h3,h4⟩,h5⟩:=h
  rw[Qts,Qb4]
  dsimp only
  have:=Qxr (x:=min m p.Width) (g:=p.Gain) (by omega) (by omega) (by omega) (by omega)
  rw[Int.mul_comm,Qa5 (show -9223372036854775808≤min m p.Width*p.Gain by omega) (by omega),Qpf,Qpr N k l p.Gain _ _ h5 (by omega) (by omega),powI,Int.add_assoc]
theorem Q4c {N:Nat}{u:Qah}{m:Int}(h:Qhi u=true) (hN:100≤N) (h0:0≤m) (hm:m≤9223372036854775807):Qeg N u m=some (powI u.Parts m):=by
 obtain⟨_,h1,h2⟩:=Qel h
 have hb:=Qq8 _ _ m h2 (Int.le_refl _) h0
 have hu:=Qv8 N u.Parts (by omega) (fun p hp=>(Qoy _ _ h2 (Int.le_refl _) p hp).1) N 0 m (by simp;omega) h0 hm
 rw[show((0:Nat):Int)=0 from rfl,List.drop_zero] at hu
 have hr:=Qpr N (fun y1=>some y1) u.Parts 1000 m 0 h2 (Int.le_refl _) h0
 rw[Qzf,Int.zero_add,Qa5 (by omega) (by omega)] at hr
 unfold Qeg
 simp only[Qb5,Qfk,Qfj,Option.bind_some,hu,hr]
end
section
def rw' {α:Type}(L:Nat) (f:Nat→α):List α:=(List.range L).map f
def updN {α:Type}(f:Nat→α) (l:Nat) (v:α):Nat→α:=fun m=>if m=l then v else f m
theorem Qik {α:Type}(L:Nat) (f:Nat→α):(rw' L f).length=L:=by simp[rw']
theorem Qhd {α:Type}{L:Nat}(f:Nat→α) {k:Nat}(h:k<L):(rw' L f)[k]? = some (f k):=by simp[rw',h]
theorem Qsc {α:Type}(L:Nat) (f:Nat→α) (l:Nat) (v:α):(rw' L f).set l v=rw' L (updN f l v):=by
 apply List.ext_getElem?
 intro i
 rw[List.getElem?_set]
 by_cases h:i<L
 ·rw[Qhd _ h,Qhd _ h,Qik]
  by_cases h1:l=i
  ·subst h1;simp[h,updN]
  ·have:¬i=l:=fun e=>h1 e.symm
   simp[h1,updN,this]
 ·have e1:(rw' L f)[i]? = none:=by rw[List.getElem?_eq_none_iff,Qik];omega
  have e2:(rw' L (updN f l v))[i]? = none:=by rw[List.getElem?_eq_none_iff,Qik];omega
  rw[e1,e2,Qik]
  split
  ·simp;omega
  ·rfl
theorem Qwo {α:Type}(L:Nat) (v:α):List.replicate L v=rw' L (fun _=>v):=by
 apply List.ext_getElem?
 intro i
 by_cases h:i<L
 ·rw[Qhd _ h];simp[h]
 ·have e2:(rw' L (fun _:Nat=>v))[i]? = none:=by rw[List.getElem?_eq_none_iff,Qik];omega
  rw[e2];simp;omega
theorem Qjp {α:Type}{L:Nat}{f g:Nat→α}(h:∀k,k<L→f k=g k):rw' L f=rw' L g:=by
 unfold rw'
 exact List.map_congr_left (fun k hk=>h k (List.mem_range.1 hk))
end
section
def Qm6 (x:Int):Bool:=btw x 0 1000000
def Qix (n:Nat) (u:Qah):Bool:=Qhi u&&decide (u.Inlet<n)
def Qgx (h:List Int) (us:List Qah):Bool:=btw h.length 1 6&&h.all Qm6&&btw us.length 1 10&&us.all (Qix h.length)
structure ShOK (h:List Int) (us:List Qah):Prop where
 h0:1≤h.length
 h1:h.length≤6
 hm:∀x∈h,0≤x∧x≤1000000
 u0:1≤us.length
 u1:us.length≤10
 ub:∀u∈us,Qhi u=true
 inl:∀u∈us,0≤u.Inlet∧u.Inlet<h.length
theorem shOK {h:List Int}{us:List Qah}(hB:Qgx h us=true):ShOK h us:=by
 unfold Qgx at hB
 simp only[Bool.and_eq_true,Qc1,List.all_eq_true] at hB
 obtain⟨⟨⟨h1,h2⟩,h3⟩,h4⟩:=hB
 refine⟨by omega,by omega,fun x hx=>Qc1.1 (h2 x hx),by omega,by omega,fun u hu=>?_,fun u hu=>?_⟩
 ·have:=h4 u hu
  unfold Qix at this
  simp only[Bool.and_eq_true] at this
  exact this.1
 ·have:=h4 u hu
  unfold Qix at this
  simp only[Bool.and_eq_true,decide_eq_true_eq] at this
  exact⟨(Qel this.1).1.1,this.2⟩
theorem Qt9 (N:Nat) (t:List Int) (hl:(t.length:Int)≤9223372036854775807):∀(n i:Nat),(t.drop i).length<n →
  ∃x:Int,Qbg N t (fun _=>some (-1)) n i=some x∧(decide (x≥0))=!((t.drop i).all Qm6):=by
 intro n
 induction n with
 |zero=>intro i h;exact absurd h (Nat.not_lt_zero _)
 |succ n ih=>
  intro i h
  rw[Qbg]
  cases hd:t.drop i with
  |nil=>
   have:=Qd4 hd
   exact⟨-1,by simp[show ¬((i:Int)<t.length) from by omega],rfl⟩
  |cons p l=>
   obtain⟨hi,hd',hlt⟩:=Qdg hd
   have e1:w64 ((i:Int)+1)=((i+1:Nat):Int):=Qa5 (by omega) (by omega)
   have e2:Qer N p=some (!Qm6 p):=by
    unfold Qer Qep
    simp only[Qh2,Option.bind_some]
    rfl
   simp only[show decide ((i:Int)<t.length)=true from by simpa using hlt,cond_true,Qcv hi,Option.bind_some,e2,e1,List.all_cons]
   cases hv:Qm6 p with
   |false=>exact⟨i,by simp,by simp⟩
   |true=>
    have ih':=ih (i+1) (by rw[hd'];rw[hd] at h;simp at h;omega)
    rw[hd'] at ih'
    simpa using ih'
theorem Qz9 {N:Nat}{t:List Int}(hl:t.length≤200) (hN:300≤N):Qfb N t=some (t.all Qm6):=by
 unfold Qfb Qc4 Qdj
 obtain⟨x,f1,f2⟩:=Qt9 N t (by omega) N 0 (by simp;omega)
 rw[show((0:Nat):Int)=0 from rfl] at f1
 rw[List.drop_zero] at f2
 simp only[Qb5,f1,Option.bind_some,f2,Bool.not_not]
theorem Qtt (N:Nat) (h:List Int) (us t:List Qah) (hl:(t.length:Int)≤9223372036854775807) (hN:300≤N):∀(n i:Nat),(t.drop i).length<n →
  ∃x:Int,Qaz N t h (fun _=>some (-1)) us n i=some x∧(decide (x≥0))=!((t.drop i).all (Qix h.length)):=by
 intro n
 induction n with
 |zero=>intro i h;exact absurd h (Nat.not_lt_zero _)
 |succ n ih=>
  intro i hh
  rw[Qaz]
  cases hd:t.drop i with
  |nil=>
   have:=Qd4 hd
   exact⟨-1,by simp[show ¬((i:Int)<t.length) from by omega],rfl⟩
  |cons p l=>
   obtain⟨hi,hd',hlt⟩:=Qdg hd
   have e1:w64 ((i:Int)+1)=((i+1:Nat):Int):=Qa5 (by omega) (by omega)
   have e2:Qc8 N p h us=some (!Qix h.length p):=by
    unfold Qc8 Qec Qix
    simp only[Q3u (by omega:100≤N),Option.bind_some]
    cases Qhi p<;>simp
   simp only[show decide ((i:Int)<t.length)=true from by simpa using hlt,cond_true,Qcv hi,Option.bind_some,e2,e1,List.all_cons]
   cases hv:Qix h.length p with
   |false=>exact⟨i,by simp,by simp⟩
   |true=>
    have ih':=ih (i+1) (by rw[hd'];rw[hd] at hh;simp at hh;omega)
    rw[hd'] at ih'
    simpa using ih'
theorem Qzh {N:Nat}{h:List Int}{us:List Qah}(hl:us.length≤200) (hN:300≤N):Qdl N us h us=some (us.all (Qix h.length)):=by
 unfold Qdl Qbr Qbz
 obtain⟨x,f1,f2⟩:=Qtt N h us us (by omega) hN N 0 (by simp;omega)
 rw[show((0:Nat):Int)=0 from rfl] at f1
 rw[List.drop_zero] at f2
 simp only[Qb5,f1,Option.bind_some,f2,Bool.not_not]
theorem Qwm {N:Nat}{h:List Int}{us:List Qah}(hN:300≤N):Qei N ⟨h,us⟩=some (Qgx h us):=by
 unfold Qei Qgx
 simp only[Qh2,Option.bind_some]
 cases h1:btw h.length 1 6 with
 |false=>rfl
 |true=>
  have b1:=Qc1.1 h1
  rw[Qz9 (by omega) hN]
  simp only[cond_true,Option.bind_some,Bool.true_and]
  cases h2:h.all Qm6 with
  |false=>rfl
  |true=>
   simp only[cond_true,Bool.true_and]
   cases h3:btw us.length 1 10 with
   |false=>rfl
   |true=>
    have b3:=Qc1.1 h3
    rw[Qzh (by omega) hN]
    simp only[cond_true,Option.bind_some,Bool.true_and]
theorem Qzu (N:Nat) (h:List Int) (K:Unit→Option Bool) (hl:(h.length:Int)≤9223372036854775807):∀(n i:Nat),(h.drop i).length<n →
  Qcl N h K n i=bif (h.drop i).all Qm6 then K () else some false:=by
 intro n
 induction n with
 |zero=>intro i h;exact absurd h (Nat.not_lt_zero _)
 |succ n ih=>
  intro i hh
  rw[Qcl]
  cases hd:h.drop i with
  |nil=>
   have:=Qd4 hd
   simp[show ¬((i:Int)<h.length) from by omega]
  |cons p l=>
   obtain⟨hi,hd',hlt⟩:=Qdg hd
   have e1:w64 ((i:Int)+1)=((i+1:Nat):Int):=Qa5 (by omega) (by omega)
   have ih':=ih (i+1) (by rw[hd'];rw[hd] at hh;simp at hh;omega)
   rw[hd'] at ih'
   simp only[show decide ((i:Int)<h.length)=true from by simpa using hlt,cond_true,Qcv hi,Option.bind_some,Qt8,e1,ih',List.all_cons,Qm6]
   cases btw p 0 1000000<;>simp
theorem Qzv (N:Nat) (h:List Int) (us:List Qah) (K:Unit→Option Bool) (hl:(us.length:Int)≤9223372036854775807) (hp:∀u∈us,(u.Parts.length:Int)≤9223372036854775807∧u.Parts.length+100≤N):∀(n i:Nat),(us.drop i).length<n →
  Qcm N h us K n i=bif (us.drop i).all (Qix h.length) then K () else some false:=by
 intro n
 induction n with
 |zero=>intro i h;exact absurd h (Nat.not_lt_zero _)
 |succ n ih=>
  intro i hh
  rw[Qcm]
  cases hd:us.drop i with
  |nil=>
   have:=Qd4 hd
   simp[show ¬((i:Int)<us.length) from by omega]
  |cons p l=>
   obtain⟨hi,hd',hlt⟩:=Qdg hd
   have e1:w64 ((i:Int)+1)=((i+1:Nat):Int):=Qa5 (by omega) (by omega)
   have ih':=ih (i+1) (by rw[hd'];rw[hd] at hh;simp at hh;omega)
   rw[hd'] at ih'
   have hpp:=hp p (List.mem_of_getElem? hi)
   simp only[show decide ((i:Int)<us.length)=true from by simpa using hlt,cond_true,Qcv hi,Option.bind_some,Qnd hpp.1 hpp.2,e1,ih',List.all_cons,Qix]
   cases Qhi p with
   |false=>simp
   |true=>
    by_cases h1:p.Inlet<h.length
    ·simp[h1,show ¬(h.length:Int)≤p.Inlet from by omega]
    ·simp[h1,show(h.length:Int)≤p.Inlet from by omega]
theorem Qwr {N:Nat}{h:List Int}{us:List Qah}(hh:(h.length:Int)≤9223372036854775807) (hu:(us.length:Int)≤9223372036854775807) (hp:∀u∈us,(u.Parts.length:Int)≤9223372036854775807∧u.Parts.length+100≤N) (hN:h.length+us.length+300≤N) :
  Qe2 N h us=some (Qgx h us):=by
 unfold Qe2
 simp only[Qb5]
 have a1:=fun K=>Qzu N h K hh N 0 (by simp;omega)
 have a2:=fun K=>Qzv N h us K hu hp N 0 (by simp;omega)
 simp only[show((0:Nat):Int)=0 from rfl,List.drop_zero] at a1 a2
 rw[a1,a2]
 unfold Qgx btw
 have bs:∀a b:Bool,(bif a then some b else some false)=some (a&&b):=by intro a b;cases a<;>rfl
 simp only[bs,ge_iff_le]
 congr 1
 ac_rfl
def fro (h:List Int) (k:Nat):Int:=(h.drop k).sum
theorem Q2g:∀(l:List Int),(∀x∈l,0≤x∧x≤1000000)→0≤l.sum∧l.sum≤1000000*l.length
 |[],_=>by simp
 |x::l,h=>by
  have h1:=Q2g l fun y hy=>h y (List.mem_cons_of_mem _ hy)
  have h2:=h x (List.mem_cons_self ..)
  simp only[List.sum_cons,List.length_cons,Int.natCast_add,Int.cast_ofNat_Int]
  omega
theorem Qxs {h:List Int}(hl:h.length≤6) (hm:∀x∈h,0≤x∧x≤1000000) (k:Nat):0≤fro h k∧fro h k≤6000000:=by
 have:=Q2g (h.drop k) fun x hx=>hm x (List.mem_of_mem_drop hx)
 have h2:((h.drop k).length:Int)≤6:=by simp;omega
 unfold fro
 omega
theorem Qsr {h:List Int}{k:Nat}{x:Int}(hk:h[k]? = some x):fro h k=x+fro h (k+1):=by
 unfold fro
 obtain⟨h1,h2⟩:=List.getElem?_eq_some_iff.1 hk
 rw[List.drop_eq_getElem_cons h1,List.sum_cons,h2]
theorem Q4m {h:List Int}{k:Nat}(hk:h.length≤k):fro h k=0:=by
 unfold fro
 rw[List.drop_of_length_le hk]
 rfl
theorem Qwp (N:Nat) (h:List Int) (us:List Qah) (K:List Int→Option (List Int)) (hl:h.length≤6) (hm:∀x∈h,0≤x∧x≤1000000):∀(n c:Nat),c<n→c+1≤h.length →
  Qb7 N ⟨h,us⟩ K n ((c:Int)-1) (rw' h.length (fun k=>if c≤k then fro h k else h.getD k 0))=K (rw' h.length (fro h)):=by
 intro n
 induction n with
 |zero=>intro c h;exact absurd h (Nat.not_lt_zero _)
 |succ n ih=>
  intro c hn hc
  rw[Qb7]
  cases c with
  |zero=>
   rw[show decide (((0:Nat):Int)-1≥0)=false from rfl,cond_false]
   congr 1
  |succ c=>
   have e0:((c+1:Nat):Int)-1=(c:Int):=by omega
   have e1:w64 ((c:Int)+1)=((c+1:Nat):Int):=Qa5 (by omega) (by omega)
   have e2:w64 ((c:Int)-1)=(c:Int)-1:=Qa5 (by omega) (by omega)
   obtain⟨x,hx⟩:∃x,h[c]? = some x:=⟨_,List.getElem?_eq_getElem (by omega)⟩
   have hb:=Qxs hl hm (c+1)
   have hxb:=hm x (List.mem_of_getElem? hx)
   have e3:w64 (h.getD c 0+fro h (c+1))=fro h c:=by
    rw[Qsr hx,List.getD_eq_getElem?_getD,hx,Option.getD_some,Qa5 (by omega) (by omega)]
   have d1:decide (0≤(c:Int))=true:=decide_eq_true (by omega)
   have d2:decide (c<h.length)=true:=decide_eq_true (by omega)
   have d3:decide (0≤((c+1:Nat):Int))=true:=decide_eq_true (by omega)
   have d4:decide (c+1<h.length)=true:=decide_eq_true (by omega)
   have g1:=Qhd (L:=h.length) (fun k=>if c+1≤k then fro h k else h.getD k 0) (k:=c) (by omega)
   have g2:=Qhd (L:=h.length) (fun k=>if c+1≤k then fro h k else h.getD k 0) (k:=c+1) (by omega)
   rw[if_neg (by omega)] at g1
   rw[if_pos (Nat.le_refl _)] at g2
   rw[e0,show decide ((c:Int)≥0)=true from decide_eq_true (by omega)]
   simp only[cond_true,e1,e2,chk,Int.toNat_natCast,d2,d3,d4,Bool.and_self,g1,g2,Option.bind_some,Qsc,e3,d1]
   have:=ih c (by omega) (by omega)
   rw[←this]
   congr 1
   apply Qjp
   intro k _
   unfold updN
   by_cases hk:k=c
   ·subst hk;simp
   ·simp only[hk,if_false]
    by_cases h':c+1≤k
    ·rw[if_pos h',if_pos (by omega)]
    ·rw[if_neg h',if_neg (by omega)]
theorem Qq4 {α:Type}(l:List α) (d:α):rw' l.length (fun k=>l.getD k d)=l:=by
 apply List.ext_getElem?
 intro i
 by_cases h:i<l.length
 ·rw[Qhd _ h,List.getD_eq_getElem?_getD,List.getElem?_eq_getElem h];rfl
 ·rw[List.getElem?_eq_none (by omega:l.length≤i),List.getElem?_eq_none (by rw[Qik];omega)]
theorem Q39 {N:Nat}{h:List Int}{us:List Qah}(h0:1≤h.length) (hl:h.length≤6) (hm:∀x∈h,0≤x∧x≤1000000) (hN:300≤N):Qd8 N ⟨h,us⟩=some (rw' h.length (fro h)):=by
 unfold Qd8 Qeb
 have hne:h.isEmpty=false:=by rw[List.isEmpty_eq_false_iff];intro e;rw[e] at h0;simp at h0
 have e1:w64 ((h.length:Int)-2)=((h.length-1:Nat):Int)-1:=by rw[Qa5 (by omega) (by omega)];omega
 simp only[chk,hne,Bool.not_false,cond_true,show decide ((0+h.length)*8≤140737488355328)=true from decide_eq_true (by omega),Option.bind_some,Qb5,e1]
 have:=Qwp N h us (fun y=>some y) hl hm N (h.length-1) (by omega) (by omega)
 rw[←this]
 congr 1
 rw[←Qq4 h 0]
 conv=>rhs;rw[Qq4 h 0]
 apply Qjp
 intro k hk
 split
 ·next hge=>
  have hk':k=h.length-1:=by omega
  obtain⟨x,hx⟩:∃x,h[k]? = some x:=⟨_,List.getElem?_eq_getElem hk⟩
  rw[Qsr hx,Q4m (by omega),List.getD_eq_getElem?_getD,hx]
  simp
 ·rfl
end
section
def Qgd:List Qah→List Int→Int
 |u::us,m::ms=>powI u.Parts m+Qgd us ms
 |_,_=>0
theorem Qg6 {α:Type}{l:List α}{i:Nat}{x:α}(h:l[i]? = some x):l.drop i=x::l.drop (i+1):=by
 obtain⟨h1,h2⟩:=List.getElem?_eq_some_iff.1 h
 rw[List.drop_eq_getElem_cons h1,h2]
theorem Qtq (N:Nat) (h:List Int) (us:List Qah) (ms:List Int) (K:Int→Option Int) (hN:100≤N) (hul:us.length≤10) (hl:ms.length=us.length) (hu:∀u∈us,Qhi u=true) (hm:∀m∈ms,0≤m∧m≤9223372036854775807):∀(n i:Nat) (a:Int),us.length-i<n→0≤a→a≤800000000*(i:Int) →
  Qcd N ⟨h,us⟩ ms K n a i=K (a+Qgd (us.drop i) (ms.drop i)):=by
 intro n
 induction n with
 |zero=>intro i _ h;exact absurd h (Nat.not_lt_zero _)
 |succ n ih=>
  intro i a hn a0 a1
  rw[Qcd]
  by_cases hi:i<us.length
  ·obtain⟨u,hu'⟩:∃u,us[i]? = some u:=⟨_,List.getElem?_eq_getElem hi⟩
   obtain⟨m,hm'⟩:∃m,ms[i]? = some m:=⟨_,List.getElem?_eq_getElem (by omega)⟩
   have hub:=hu u (List.mem_of_getElem? hu')
   have hmb:=hm m (List.mem_of_getElem? hm')
   have h2:=Qel hub
   have hp:=Qq8 u.Parts 1000 m h2.2.2 (Int.le_refl _) hmb.1
   have h4:=h2.2.1.2
   have e1:w64 ((i:Int)+1)=((i+1:Nat):Int):=Qa5 (by omega) (by omega)
   have e2:w64 (a+powI u.Parts m)=a+powI u.Parts m:=Qa5 (by omega) (by omega)
   rw[show decide ((i:Int)<(ms.length:Int))=true from decide_eq_true (by omega)]
   simp only[cond_true,Qcv hm',Qcv hu',Option.bind_some,Q4c hub hN hmb.1 hmb.2,e1,e2]
   rw[ih (i+1) _ (by omega) (by omega) (by omega),Qg6 hu',Qg6 hm',Qgd,Int.add_assoc]
  ·rw[show decide ((i:Int)<(ms.length:Int))=false from decide_eq_false (by omega),cond_false,List.drop_of_length_le (by omega),Qgd,Int.add_zero]
   simp
theorem Qzd {N:Nat}{h:List Int}{us:List Qah}{ms:List Int}(hN:300≤N) (hul:us.length≤10) (hl:ms.length=us.length) (hu:∀u∈us,Qhi u=true) (hm:∀m∈ms,0≤m∧m≤9223372036854775807):Qdk N ⟨h,us⟩ ms=some (Qgd us ms):=by
 unfold Qdk
 simp only[Qb5]
 have:=Qtq N h us ms (fun y=>some y) (by omega) hul hl hu hm N 0 0 (by omega) (Int.le_refl _) (by omega)
 rw[show((0:Nat):Int)=0 from rfl] at this
 rw[this,Int.zero_add,List.drop_zero,List.drop_zero]
def Qkw:List Qah→List Int→Bool
 |u::us,m::ms=>btw m 0 (capI u.Parts)&&Qkw us ms
 |_,_=>true
def useI:List Qah→List Int→Nat→Int
 |u::us,m::ms,k=>(if (k:Int)≤u.Inlet then m else 0)+useI us ms k
 |_,_,_=>0
def Qij (h:List Int) (us:List Qah) (ms:List Int):Bool:=decide (ms.length=us.length)&&Qkw us ms&&(List.range h.length).all fun k=>decide (useI us ms k≤fro h k)
theorem Qmr:∀{us:List Qah}{ms:List Int},(∀u∈us,Qhi u=true)→ms.length=us.length→Qkw us ms=true→∀m∈ms,0≤m∧m≤800000
 |[],[],_,_,_,_,h=>by cases h
 |u::us,m::ms,hu,hl,h,x,hx=>by
  simp only[Qkw,Bool.and_eq_true,Qc1] at h
  rcases List.mem_cons.1 hx with rfl |hx
  ·have h2:=Qel (hu u (List.mem_cons_self ..))
   have h3:=Qrm u.Parts 1000 h2.2.2
   have:=h2.2.1.2
   omega
  ·exact Qmr (fun y hy=>hu y (List.mem_cons_of_mem _ hy)) (by simpa using hl) h.2 x hx
 |[],_::_,_,hl,_,_,_=>by simp at hl
 |_::_,[],_,hl,_,_,_=>by simp at hl
def Qlf (h p:List Int):Bool:=decide (p.length=h.length)&&p.all fun x=>btw x 0 1000
def cum (p:List Int) (k:Nat):Int:=(p.take (k+1)).sum
def Qkn (c:Int):List Qa8→Int
 |[]=>0
 |q::l=>q.Width*(if q.Gain-c>0 then q.Gain-c else 0)+Qkn c l
def Qm9 (p:List Int):List Qah→Int
 |[]=>0
 |u::us=>Qkn (cum p u.Inlet.toNat) u.Parts+Qm9 p us
def Qsm (h p:List Int):Nat→Nat→Int
 |0,_=>0
 |n+1,k=>p.getD k 0*fro h k+Qsm h p n (k+1)
def Qqg (h:List Int) (us:List Qah) (p:List Int):Int:=Qsm h p h.length 0+Qm9 p us
theorem Q1g {p:List Int}{x:Int}(h:p[0]? = some x):cum p 0=x:=by
 cases p with
 |nil=>simp at h
 |cons y l=>simp at h;subst h;simp[cum]
theorem Q1h {p:List Int}{k:Nat}{x:Int}(h:p[k+1]? = some x):cum p (k+1)=cum p k+x:=by
 unfold cum
 obtain⟨h1,h2⟩:=List.getElem?_eq_some_iff.1 h
 rw[List.take_add_one,h]
 simp
theorem Qwu:∀(l:List Int),(∀x∈l,0≤x∧x≤1000)→0≤l.sum∧l.sum≤1000*l.length
 |[],_=>by simp
 |x::l,h=>by
  have h1:=Qwu l fun y hy=>h y (List.mem_cons_of_mem _ hy)
  have h2:=h x (List.mem_cons_self ..)
  simp only[List.sum_cons,List.length_cons,Int.natCast_add,Int.cast_ofNat_Int]
  omega
theorem Q6t {p:List Int}(hp:∀x∈p,0≤x∧x≤1000) (hl:p.length≤6) (k:Nat):0≤cum p k∧cum p k≤6000:=by
 have:=Qwu (p.take (k+1)) fun x hx=>hp x (List.mem_of_mem_take hx)
 have h2:((p.take (k+1)).length:Int)≤6:=by simp;omega
 unfold cum
 omega
theorem Qoh {u:Qah}(h:Qhi u=true):∀q∈u.Parts,(1≤q.Width∧q.Width≤100000)∧0≤q.Gain∧q.Gain≤1000:=Qoy u.Parts 1000 (Qel h).2.2 (Int.le_refl _)
end
section
section
variable {N : Nat} {h p : List Int} {us : List Qah}
theorem Qpt (hB:Qlf h p=true):p.length=h.length∧∀x∈p,0≤x∧x≤1000:=by
 unfold Qlf at hB
 simp only[Bool.and_eq_true,decide_eq_true_eq,List.all_eq_true] at hB
 exact⟨hB.1,fun x hx=>Qc1.1 (hB.2 x hx)⟩
def minI (f:Nat→Int):Nat→Int
 |0=>f 0
 |c+1=>if f (c+1)<minI f c then f (c+1) else minI f c
theorem Qw7 (f:Nat→Int):∀(c k:Nat),k≤c→minI f c≤f k
 |0,k,h=>by rw[show k=0 from by omega];exact Int.le_refl _
 |c+1,k,h=>by
  rw[minI]
  rcases Nat.eq_or_lt_of_le h with rfl |hlt
  ·split<;>omega
  ·have:=Qw7 f c k (by omega)
   split<;>omega
theorem Qom (f:Nat→Int):∀c:Nat,∃k,k≤c∧minI f c=f k
 |0=>⟨0,Nat.le_refl _,rfl⟩
 |c+1=>by
  rw[minI]
  split
  ·exact⟨c+1,Nat.le_refl _,rfl⟩
  ·obtain⟨k,h1,h2⟩:=Qom f c
   exact⟨k,by omega,h2⟩
theorem Qw8 (c L:Nat) (f:Nat→Int) (hc:c≤L) (hL:L≤6) (K:Int→Option Int):∀(n i:Nat),c-i<n→1≤i→i≤c →
  Qbx N c (rw' L f) K n (minI f (i-1)) i=K (minI f (c-1)):=by
 intro n
 induction n with
 |zero=>intro i h;exact absurd h (Nat.not_lt_zero _)
 |succ n ih=>
  intro i hn h1 h2
  rw[Qbx]
  rcases Nat.eq_or_lt_of_le h2 with e |hlt
  ·rw[show decide ((i:Int)<((c:Nat):Int))=false from decide_eq_false (by omega),cond_false,e]
  ·have e1:w64 ((i:Int)+1)=((i+1:Nat):Int):=Qa5 (by omega) (by omega)
   have d1:decide (0≤(i:Int))=true:=decide_eq_true (by omega)
   have d2:decide (i<c)=true:=decide_eq_true hlt
   rw[show decide ((i:Int)<((c:Nat):Int))=true from decide_eq_true (by omega)]
   simp only[cond_true,chk,Int.toNat_natCast,d1,d2,Bool.and_self,Qhd f (by omega:i<L),Option.bind_some,e1]
   have:=ih (i+1) (by omega) (by omega) hlt
   obtain⟨j,rfl⟩:∃j,i=j+1:=⟨i-1,by omega⟩
   rw[Nat.add_sub_cancel] at this ⊢
   rw[minI] at this
   exact this
theorem Q4i {c L:Nat}(f:Nat→Int) (h1:1≤c) (hc:c≤L) (hL:L≤6) (hN:300≤N):Qdz N c (rw' L f)=some (minI f (c-1)):=by
 unfold Qdz
 have d1:decide ((0:Nat)≤0)=true:=rfl
 have d2:decide (0<c)=true:=decide_eq_true (by omega)
 rw[show decide (((c:Nat):Int)<1)=false from decide_eq_false (by omega)]
 simp only[Qb5,cond_false,chk]
 rw[show(0:Int).toNat=0 from rfl]
 simp only[d1,d2,Bool.and_self,cond_true,Qhd f (by omega:0<L),Option.bind_some]
 have:=Qw8 (N:=N) c L f hc hL (fun y=>some y) N 1 (by omega) (Nat.le_refl _) h1
 exact this
end
end
section
def keyP (x:Qaa):Int:=-x.Part.Gain
def Srt (l:List Qaa):Prop:=l.Pairwise fun a b=>keyP a≤keyP b
def flt (k:Int) (l:List Qaa):List Qaa:=l.filter fun a=>decide (keyP a=k)
def Qfw (l:List Qaa):Prop:=∀x∈l,-1000000≤x.Part.Gain∧x.Part.Gain≤1000000
theorem Qrh (x:Qaa):(⟨x.unit,(⟨x.Part.Width,x.Part.Gain⟩:Qa8)⟩:Qaa)=x:=rfl
theorem Qfg (k:Int) (l r:List Qaa):flt k (l++r)=flt k l++flt k r:=List.filter_append ..
theorem Qov {k:Int}{l:List Qaa}(h:∀x∈l,keyP x≠k):flt k l=[]:=by
 unfold flt
 rw[List.filter_eq_nil_iff]
 intro x hx
 simpa using h x hx
theorem Qow {k:Int}{l:List Qaa}{x:Qaa}(h:x∈flt k l):x∈l∧keyP x=k:=by
 unfold flt at h
 simpa using h
theorem Qxa {l:List Qaa}{x:Qaa}(h:x∈l):x∈flt (keyP x) l:=by
 unfold flt
 simp[h]
structure Stb (xs ys:List Qaa):Prop where
 srt:Srt ys
 eqf:∀k,flt k ys=flt k xs
theorem Stb.mem {xs ys:List Qaa}(h:∀k,flt k ys=flt k xs) {x:Qaa}:x∈ys↔x∈xs:=
 ⟨fun hx=>(Qow (h (keyP x)▸Qxa hx)).1,fun hx=>(Qow ((h (keyP x)).symm▸Qxa hx)).1⟩
theorem Qxu:∀(l:List Qaa) (x:Qaa),l.count x=(flt (keyP x) l).count x:=fun l x=>by
 unfold flt
 rw[List.count_filter]
 simp
theorem Stb.perm {xs ys:List Qaa}(h:∀k,flt k ys=flt k xs):ys.Perm xs:=by
 rw[List.perm_iff_count]
 intro x
 rw[Qxu ys,Qxu xs,h]
theorem Stb.len {xs ys:List Qaa}(h:∀k,flt k ys=flt k xs):ys.length=xs.length:=(Stb.perm h).length_eq
theorem Stb.small {xs ys:List Qaa}(h:∀k,flt k ys=flt k xs) (hs:Qfw xs):Qfw ys:=fun x hx=>hs x ((Stb.mem h).1 hx)
theorem Qn7 {L1 L2 R1 R2 Z1 Z2:List Qaa}(hL:Srt (L1++L2)) (hR:Srt (R1++R2)) (h1:∀x∈L1,∀y∈R2,keyP x≤keyP y) (h2:∀x∈R1,∀y∈L2,keyP x<keyP y) (z1:Stb (L1++R1) Z1) (z2:Stb (L2++R2) Z2) :
  Stb ((L1++L2)++(R1++R2)) (Z1++Z2):=by
 unfold Srt at hL hR
 rw[List.pairwise_append] at hL hR
 refine⟨?_,fun k=>?_⟩
 ·unfold Srt
  rw[List.pairwise_append]
  refine⟨z1.srt,z2.srt,fun x hx y hy=>?_⟩
  have hx':=(Stb.mem z1.eqf).1 hx
  have hy':=(Stb.mem z2.eqf).1 hy
  rcases List.mem_append.1 hx' with a |a<;>rcases List.mem_append.1 hy' with b |b
  ·exact hL.2.2 x a y b
  ·exact h1 x a y b
  ·exact Int.le_of_lt (h2 x a y b)
  ·exact hR.2.2 x a y b
 ·rw[Qfg,z1.eqf,z2.eqf,Qfg,Qfg,Qfg,Qfg,Qfg]
  have key:flt k R1++flt k L2=flt k L2++flt k R1:=by
   cases h:flt k R1 with
   |nil=>simp
   |cons x l=>
    have hx:x∈flt k R1:=by rw[h];exact List.mem_cons_self ..
    have hn:flt k L2=[]:=Qov fun y hy e=>by
     have:=h2 x (Qow hx).1 y hy
     rw[(Qow hx).2,e] at this
     exact absurd this (Int.lt_irrefl _)
    rw[hn]
    simp
  rw[List.append_assoc,List.append_assoc,←List.append_assoc (flt k R1),key]
  simp
theorem Qgk {l:List Qaa}(h:Srt l):Stb l l:=⟨h,fun _=>rfl⟩
theorem Qq3:Srt []:=List.Pairwise.nil
theorem at0 {α:Type}(L:List α) (x:α) (M:List α):(L++x::M)[L.length]? = some x:=by
 rw[List.getElem?_append_right (Nat.le_refl _),Nat.sub_self]
 rfl
theorem at1 {α:Type}(L:List α) (x y:α) (M:List α):(L++x::y::M)[L.length+1]? = some y:=by
 rw[List.getElem?_append_right (by omega),Nat.add_sub_cancel_left]
 rfl
theorem set0 {α:Type}(L:List α) (x y:α) (M:List α):(L++x::M).set L.length y=L++y::M:=by
 rw[List.set_append_right _ _ (Nat.le_refl _),Nat.sub_self]
 rfl
theorem set1 {α:Type}(L:List α) (x y z:α) (M:List α):(L++x::y::M).set (L.length+1) z=L++x::z::M:=by
 rw[List.set_append_right _ _ (by omega),Nat.add_sub_cancel_left]
 rfl
theorem at_i {α:Type}{D L M:List α}{x:α}{i:Nat}(h:D=L++x::M) (hi:L.length=i):D[i]? = some x:=by subst h hi;exact at0 ..
theorem Qs5 {N:Nat}{a b:Qaa}(ha:-1000000≤a.Part.Gain∧a.Part.Gain≤1000000) (hb:-1000000≤b.Part.Gain∧b.Part.Gain≤1000000):Qbj N a b=some (keyP a-keyP b):=by
 unfold Qbj Qd9 keyP
 simp only[Option.bind_some]
 rw[Qa5 (by omega) (by omega)]
 congr 1
 omega
theorem half (x y:Nat) (h:x+y≤1000000):w64 ((IntKind.wrap .u64 (w64 ((x:Int)+(y:Int))))/2)=(((x+y)/2:Nat):Int):=by
 have e1:w64 ((x:Int)+(y:Int))=((x+y:Nat):Int):=by rw[Qa5 (by omega) (by omega)];omega
 have e2:IntKind.wrap .u64 ((x+y:Nat):Int)=((x+y:Nat):Int):=by
  rw[IntKind.wrap_u64]
  omega
 rw[e1,e2,Qa5 (by omega) (by omega)]
 omega
section
variable {N len : Nat}
theorem Qxk (a:Nat) (K:List Qaa→Option (List Qaa)) (x:Qaa) (A R:List Qaa) (hA:A.length=a) (hlen:len≤1000) (hx:-1000000≤x.Part.Gain∧x.Part.Gain≤1000000):∀(n:Nat) (P Q:List Qaa),P.length<n→Qfw P→(∀q∈Q,keyP x<keyP q)→A.length+P.length+1+Q.length+R.length=len →
  ∃P1 P2,P=P1++P2∧(∀y,P1.getLast? = some y→keyP y≤keyP x)∧(∀q∈P2++Q,keyP x<keyP q) ∧
  Qay N len a K n ((A.length+P.length:Nat):Int) (A++P++x::(Q++R))=K (A++P1++x::(P2++Q++R)):=by
 intro n
 induction n with
 |zero=>intro P _ h;exact absurd h (Nat.not_lt_zero _)
 |succ n ih=>
  intro P Q hn hP hQ hl
  rw[Qay]
  simp only[Qb5]
  rcases List.eq_nil_or_concat P with rfl |⟨P',y,rfl⟩
  ·refine⟨[],[],rfl,fun y h=>by simp at h,by simpa using hQ,?_⟩
   rw[show decide (((A.length+[].length:Nat):Int)>(a:Int))=false from decide_eq_false (by simp;omega)]
   simp
  ·rw[List.concat_eq_append] at *
   have hl':(P'++[y]).length=P'.length+1:=by simp
   rw[hl'] at hn hl
   have e0:((A.length+(P'++[y]).length:Nat):Int)=(((A++P').length+1:Nat):Int):=by simp;omega
   have e1:w64 ((((A++P').length+1:Nat):Int)-1)=(((A++P').length:Nat):Int):=by
    rw[Qa5 (by simp;omega) (by simp;omega)];omega
   have eD:A++(P'++[y])++x::(Q++R)=(A++P')++y::x::(Q++R):=by simp
   have hAP:(A++P').length=A.length+P'.length:=by simp
   rw[e0,eD,show decide ((((A++P').length+1:Nat):Int)>(a:Int))=true from decide_eq_true (by omega),e1]
   have d1:decide (0≤(((A++P').length+1:Nat):Int))=true:=decide_eq_true (by omega)
   have d2:decide ((A++P').length+1<len)=true:=decide_eq_true (by omega)
   have d3:decide (0≤(((A++P').length:Nat):Int))=true:=decide_eq_true (by omega)
   have d4:decide ((A++P').length<len)=true:=decide_eq_true (by omega)
   have hy:=hP y (by simp)
   simp only[cond_true,chk,Int.toNat_natCast,d1,d2,d3,d4,Bool.and_self,at0,at1,Option.bind_some,Qrh,Qs5 hx hy,set0,set1]
   by_cases hxy:keyP x<keyP y
   ·rw[show decide (keyP x-keyP y<0)=true from decide_eq_true (by omega),cond_true]
    obtain⟨P1,P2,h1,h2,h3,h4⟩:=ih P' (y::Q) (by omega) (fun z hz=>hP z (by simp[hz])) (fun q hq=>by
     rcases List.mem_cons.1 hq with rfl |hq
     ·exact hxy
     ·exact hQ q hq) (by simp;omega)
    refine⟨P1,P2++[y],by rw[h1];simp,h2,by simpa using h3,?_⟩
    have:=h4
    rw[←hAP] at this
    simp only[List.append_assoc,List.cons_append,List.nil_append] at this ⊢
    exact this
   ·rw[show decide (keyP x-keyP y<0)=false from decide_eq_false (by omega),cond_false]
    refine⟨P'++[y],[],by simp,fun z hz=>?_,by simpa using hQ,by simp⟩
    rw[List.getLast?_concat] at hz
    cases hz
    omega
theorem Q31 {P1 P2:List Qaa}{x:Qaa}(h:Srt (P1++P2)) (h1:∀y,P1.getLast? = some y→keyP y≤keyP x) (h2:∀q∈P2,keyP x<keyP q):Stb (P1++P2++[x]) (P1++x::P2):=by
 have hp:=h
 unfold Srt at hp
 rw[List.pairwise_append] at hp
 have hall:∀y∈P1,keyP y≤keyP x:=by
  rcases List.eq_nil_or_concat P1 with rfl |⟨Q,z,rfl⟩
  ·intro y hy;cases hy
  ·rw[List.concat_eq_append] at *
   have hz:=h1 z (by simp)
   intro y hy
   rcases List.mem_append.1 hy with a |a
   ·have:=hp.1
    rw[List.pairwise_append] at this
    exact Int.le_trans (this.2.2 y a z (by simp)) hz
   ·rw[List.mem_singleton] at a
    subst a
    exact hz
 refine⟨?_,fun k=>?_⟩
 ·unfold Srt
  rw[List.pairwise_append,List.pairwise_cons]
  refine⟨hp.1,⟨fun q hq=>Int.le_of_lt (h2 q hq),hp.2.1⟩,fun y hy q hq=>?_⟩
  rcases List.mem_cons.1 hq with rfl |hq
  ·exact hall y hy
  ·exact hp.2.2 y hy q hq
 ·rw[show P1++x::P2=P1++([x]++P2) from rfl,Qfg,Qfg,Qfg,Qfg,List.append_assoc]
  congr 1
  by_cases e:keyP x=k
  ·have:flt k P2=[]:=Qov fun q hq he=>by have:=h2 q hq;omega
   rw[this]
   simp
  ·have:flt k [x]=[]:=Qov fun q hq he=>by rw[List.mem_singleton] at hq;subst hq;exact e he
   rw[this]
   simp
theorem Qxj (a b:Nat) (A B:List Qaa) (hA:A.length=a) (hlen:len≤1000) (hN:len<N):∀(n:Nat) (P S:List Qaa),S.length<n→Srt P→Qfw P→Qfw S→1≤P.length→A.length+P.length+S.length=b→b+B.length=len →
  ∃Z,Stb (P++S) Z∧Qao N len a b n ((A.length+P.length:Nat):Int) (A++P++(S++B))=some (A++Z++B):=by
 intro n
 induction n with
 |zero=>intro P S h;exact absurd h (Nat.not_lt_zero _)
 |succ n ih=>
  intro P S hn hP sP sS h1 hb hl
  rw[Qao]
  cases S with
  |nil=>
   refine⟨P,by simpa using Qgk hP,?_⟩
   rw[show decide (((A.length+P.length:Nat):Int)<(b:Int))=false from decide_eq_false (by simp at hb;omega)]
   simp
  |cons x S=>
   simp only[List.length_cons] at hn hb
   rw[show decide (((A.length+P.length:Nat):Int)<(b:Int))=true from decide_eq_true (by omega),cond_true]
   simp only[Qb5]
   obtain⟨P1,P2,e1,e2,e3,e4⟩:=Qxk (N:=N) (len:=len) a (fun y8=>Qao N len a b n (w64 (((A.length+P.length:Nat):Int)+1)) y8) x A (S++B) hA hlen (sS x (by simp)) N P [] (by omega) sP (by simp) (by simp;omega)
   simp only[List.append_nil,List.nil_append] at e3 e4
   have hst:=Q31 (x:=x) (e1▸hP) e2 e3
   obtain⟨Z,z1,z2⟩:=ih (P1++x::P2) S (by omega) hst.srt (Stb.small hst.eqf (fun z hz=>by
    rcases List.mem_append.1 hz with h |h
    ·exact sP z (e1▸h)
    ·rw[List.mem_singleton] at h;subst h;exact sS z (by simp))) (fun z hz=>sS z (by simp[hz])) (by simp;omega) (by rw[e1] at hb;simp at hb ⊢;omega) hl
   refine⟨Z,⟨z1.srt,fun k=>?_⟩,?_⟩
   ·rw[z1.eqf,Qfg,hst.eqf,←Qfg,e1]
    simp
   ·have e5:w64 (((A.length+P.length:Nat):Int)+1)=((A.length+(P1++x::P2).length:Nat):Int):=by
     rw[Qa5 (by omega) (by omega),e1]
     simp
     omega
    rw[e5] at e4
    have:=z2
    simp only[List.append_assoc,List.cons_append] at this e4 ⊢
    rw[e5,e4,this]
theorem Q2m (a b:Nat) (A S B:List Qaa) (hA:A.length=a) (hlen:len≤1000) (hN:len<N) (hS:Qfw S) (hb:a+S.length=b) (hl:b+B.length=len):∃Z,Stb S Z∧Qa9 N len a b (A++S++B)=some (A++Z++B):=by
 unfold Qa9
 have e1:w64 ((a:Int)+1)=((a+1:Nat):Int):=Qa5 (by omega) (by omega)
 rw[e1]
 cases S with
 |nil=>
  refine⟨[],Qgk Qq3,?_⟩
  cases N with
  |zero=>omega
  |succ n=>
   rw[Qao,show decide (((a+1:Nat):Int)<(b:Int))=false from decide_eq_false (by simp at hb;omega)]
   rfl
 |cons x S=>
  obtain⟨Z,h1,h2⟩:=Qxj (N:=N) (len:=len) a b A B hA hlen hN N [x] S (by simp at hb;omega) (List.pairwise_singleton ..) (fun z hz=>hS z (by rw[List.mem_singleton] at hz;subst hz;simp)) (fun z hz=>hS z (by simp[hz])) (by simp) (by simp at hb ⊢;omega) hl
  refine⟨Z,h1,?_⟩
  rw[hA] at h2
  simpa using h2
theorem Qzn (a b c:Nat) (hlen:len≤1000) (B:List Qaa):∀(n i:Nat) (X Y A M:List Qaa),X.length<n→X.length=Y.length→A.length=a+i→A.length+X.length+M.length=b+i→i+X.length=c→A.length+X.length+M.length+Y.length+B.length=len →
  Qa4 N len a b c n i (A++X++M++Y++B)=some (A++Y++M++X++B):=by
 intro n
 induction n with
 |zero=>intro i X Y A M h;exact absurd h (Nat.not_lt_zero _)
 |succ n ih=>
  intro i X Y A M hn hxy ha hb hc hl
  rw[Qa4]
  cases X with
  |nil=>
   cases Y with
   |cons _ _=>simp at hxy
   |nil=>
    rw[show decide ((i:Int)<(c:Int))=false from decide_eq_false (by simp at hc;omega)]
    rfl
  |cons x X=>
   cases Y with
   |nil=>simp at hxy
   |cons y Y=>
    simp only[List.length_cons] at hn hxy hb hc hl
    have e1:w64 ((b:Int)+(i:Int))=((b+i:Nat):Int):=Qa5 (by omega) (by omega)
    have e2:w64 ((a:Int)+(i:Int))=((a+i:Nat):Int):=Qa5 (by omega) (by omega)
    have e3:w64 ((i:Int)+1)=((i+1:Nat):Int):=Qa5 (by omega) (by omega)
    have d1:decide (0≤((b+i:Nat):Int))=true:=decide_eq_true (by omega)
    have d2:decide (b+i<len)=true:=decide_eq_true (by omega)
    have d3:decide (0≤((a+i:Nat):Int))=true:=decide_eq_true (by omega)
    have d4:decide (a+i<len)=true:=decide_eq_true (by omega)
    have g1:(A++x::X++M++y::Y++B)[b+i]? = some y:=at_i (L:=A++x::X++M) (M:=Y++B) (by simp) (by simp;omega)
    have g2:(A++x::X++M++y::Y++B)[a+i]? = some x:=at_i (L:=A) (M:=X++M++y::Y++B) (by simp) ha
    have g3:(A++x::X++M++y::Y++B).set (a+i) y=A++y::X++M++y::Y++B:=by
     rw[←ha]
     simp[set0]
    have g4:(A++y::X++M++y::Y++B)[b+i]? = some y:=at_i (L:=A++y::X++M) (M:=Y++B) (by simp) (by simp;omega)
    have g5:(A++y::X++M++y::Y++B).set (b+i) x=(A++[y])++X++(M++[x])++Y++B:=by
     have hh:b+i=(A++y::X++M).length:=by simp;omega
     rw[hh]
     have:=set0 (A++y::X++M) y x (Y++B)
     simp only[List.append_assoc,List.cons_append,List.nil_append] at this ⊢
     exact this
    rw[show decide ((i:Int)<(c:Int))=true from decide_eq_true (by omega)]
    simp only[cond_true,e1,e2,e3,chk,d1,d2,d3,d4,Bool.and_self,Int.toNat_natCast,g1,g2,Option.bind_some,Qrh,g3,g4,g5]
    rw[ih (i+1) X Y (A++[y]) (M++[x]) (by omega) (by omega) (by simp;omega) (by simp;omega) (by omega) (by simp;omega)]
    simp
theorem Qwg (a b c:Nat) (hlen:len≤1000) (hN:len<N) (A X M Y B:List Qaa) (hxy:X.length=Y.length) (ha:A.length=a) (hb:a+X.length+M.length=b) (hc:X.length=c) (hl:A.length+X.length+M.length+Y.length+B.length=len) :
  Qbc N len a b c (A++X++M++Y++B)=some (A++Y++M++X++B):=
 Qzn a b c hlen B N 0 X Y A M (by omega) hxy (by omega) (by omega) (by omega) hl
theorem Qzs (m:Nat) (hlen:len≤1000) (hN:len<N):∀(n:Nat) (A X Y B:List Qaa),X.length+Y.length<n→0<X.length→0<Y.length→A.length+X.length=m→A.length+X.length+Y.length+B.length=len →
  Qa1 N len m (fun ⟨y2,y3⟩=>(Qbc N len (w64 ((m:Int)-y2)) m y2 y3).bind fun x6=>some x6) n (X.length:Int) (Y.length:Int) (A++X++Y++B)=some (A++Y++X++B):=by
 intro n
 induction n with
 |zero=>intro A X Y B h;exact absurd h (Nat.not_lt_zero _)
 |succ n ih=>
  intro A X Y B hn hx hy hm hl
  rw[Qa1]
  have e1:w64 ((m:Int)-(X.length:Int))=(A.length:Int):=by rw[Qa5 (by omega) (by omega)];omega
  by_cases he:X.length=Y.length
  ·rw[show((X.length:Int) != (Y.length:Int))=false from by simp[he]]
   simp only[cond_false,e1]
   have:=Qwg (N:=N) (len:=len) A.length m X.length hlen hN A X [] Y B he rfl (by simp;omega) rfl (by simp;omega)
   simp only[List.append_nil] at this
   rw[this]
   rfl
  ·rw[show((X.length:Int) != (Y.length:Int))=true from by simp;omega]
   simp only[cond_true]
   by_cases hgt:Y.length<X.length
   ·rw[show decide ((X.length:Int)>(Y.length:Int))=true from decide_eq_true (by omega),cond_true,e1]
    obtain⟨X1,X2,hX,hX1⟩:∃X1 X2,X=X1++X2∧X1.length=Y.length:=⟨X.take Y.length,X.drop Y.length,(List.take_append_drop ..).symm,by simp;omega⟩
    subst hX
    simp only[List.length_append] at hn hx hm hl hgt he e1 ⊢
    have:=Qwg (N:=N) (len:=len) A.length m Y.length hlen hN A X1 X2 Y B hX1 rfl (by omega) hX1 (by omega)
    rw[←List.append_assoc A X1 X2,this]
    simp only[Option.bind_some]
    have e2:w64 (((X1.length+X2.length:Nat):Int)-(Y.length:Int))=(X2.length:Int):=by rw[Qa5 (by omega) (by omega)];omega
    have ih':=ih (A++Y) X2 X1 B (by omega) (by omega) (by omega) (by simp;omega) (by simp;omega)
    rw[e2]
    rw[hX1] at ih'
    rw[ih']
    simp
   ·rw[show decide ((X.length:Int)>(Y.length:Int))=false from decide_eq_false (by omega),cond_false,e1]
    obtain⟨Y1,Y2,hY,hY2⟩:∃Y1 Y2,Y=Y1++Y2∧Y2.length=X.length:=⟨Y.take (Y.length-X.length),Y.drop (Y.length-X.length),(List.take_append_drop ..).symm,by simp;omega⟩
    subst hY
    simp only[List.length_append] at hn hy hl hgt he ⊢
    have e2:w64 (w64 ((m:Int)+((Y1.length+Y2.length:Nat):Int))-(X.length:Int))=((m+Y1.length:Nat):Int):=by
     rw[Qa5 (x:=(m:Int)+((Y1.length+Y2.length:Nat):Int)) (by omega) (by omega),Qa5 (by omega) (by omega)];omega
    have:=Qwg (N:=N) (len:=len) A.length (m+Y1.length) X.length hlen hN A X Y1 Y2 B hY2.symm rfl (by omega) rfl (by omega)
    rw[e2,←List.append_assoc (A++X) Y1 Y2,this]
    simp only[Option.bind_some]
    have e3:w64 (((Y1.length+Y2.length:Nat):Int)-(X.length:Int))=(Y1.length:Int):=by rw[Qa5 (by omega) (by omega)];omega
    have ih':=ih A Y2 Y1 (X++B) (by omega) (by omega) (by omega) (by omega) (by simp;omega)
    rw[e3]
    rw[hY2] at ih'
    rw[show A++Y2++Y1++X++B=A++Y2++Y1++(X++B) from by simp,ih']
    simp
theorem Q6h (a m b:Nat) (hlen:len≤1000) (hN:len<N) (A X Y B:List Qaa) (hx:0<X.length) (hy:0<Y.length) (ha:A.length=a) (hm:a+X.length=m) (hb:m+Y.length=b) (hl:b+B.length=len) :
  Qbl N len a m b (A++X++Y++B)=some (A++Y++X++B):=by
 unfold Qbl
 have e1:w64 ((m:Int)-(a:Int))=(X.length:Int):=by rw[Qa5 (by omega) (by omega)];omega
 have e2:w64 ((b:Int)-(m:Int))=(Y.length:Int):=by rw[Qa5 (by omega) (by omega)];omega
 simp only[Qb5,e1,e2]
 exact Qzs m hlen hN N A X Y B (by omega) hx hy (by omega) (by omega)
end
end
section
section
variable {N len : Nat}
def Anti (p:Nat→Bool) (lo hi:Nat):Prop:=∀i j,lo≤i→i<j→j<hi→p j=true→p i=true
theorem Qre {x y:Nat}(h:x<y):x≤(x+y)/2∧(x+y)/2<y:=by omega
theorem Q73 (a:Nat) (D:List Qaa) (p:Nat→Bool) (lo hi:Nat) (hp:Anti p lo hi) (hhi:hi≤len) (hlen:len≤1000) (hal:a<len) (hev:∀c,lo≤c→c<hi→∃u v,D[c]? = some u∧D[a]? = some v∧(-1000000≤u.Part.Gain∧u.Part.Gain≤1000000)∧(-1000000≤v.Part.Gain∧v.Part.Gain≤1000000)∧decide (keyP u<keyP v)=p c) :
    ∀(n x y:Nat),y-x<n→x≤y→lo≤x→y≤hi→(∀i,lo≤i→i<x→p i=true)→(∀i,y≤i→i<hi→p i=false) →
    ∃r,x≤r∧r≤y∧(∀i,lo≤i→i<r→p i=true)∧(∀i,r≤i→i<hi→p i=false)∧∀K:Int→Option (List Qaa),slices_symMergeCmpFunc_plant_pieceX_1_loop5 N len a D K n x y=K r:=by
  intro n
  induction n with
  |zero=>intro x y h;exact absurd h (Nat.not_lt_zero _)
  |succ n ih=>
    intro x y hn hxy h1 h2 h3 h4
    have ex:=fun K:Int→Option (List Qaa)=>slices_symMergeCmpFunc_plant_pieceX_1_loop5.eq_2 N len a D K x y n
    rcases Nat.eq_or_lt_of_le hxy with rfl |hlt
    · refine⟨x,Nat.le_refl _,Nat.le_refl _,h3,h4,fun K=>?_⟩
      rw[ex,show decide ((x:Int)<(x:Int))=false from decide_eq_false (by omega)]
      rfl
    · have hb:=Qre hlt
      obtain⟨u,v,g1,g2,g3,g4,g5⟩:=hev ((x+y)/2) (by omega) (by omega)
      have e1:w64 ((((x+y)/2:Nat):Int)+1)=(((x+y)/2+1:Nat):Int):=Qa5 (by omega) (by omega)
      have d1:decide (0≤(((x+y)/2:Nat):Int))=true:=decide_eq_true (by omega)
      have d2:decide ((x+y)/2<len)=true:=decide_eq_true (by omega)
      have d3:decide (0≤(a:Int))=true:=decide_eq_true (by omega)
      have d4:decide (a<len)=true:=decide_eq_true hal
      rw[show decide ((x:Int)<(y:Int))=true from decide_eq_true (by omega)] at ex
      simp only[cond_true,half x y (by omega),Option.bind_some,chk,Int.toNat_natCast,d1,d2,d3,d4,Bool.and_self,g1,g2,Qrh,Qs5 g3 g4,e1] at ex
      cases hpc:p ((x+y)/2) with
      |true=>
        rw[hpc] at g5
        rw[show decide (keyP u-keyP v<0)=true from decide_eq_true (by have:=of_decide_eq_true g5;omega)] at ex
        obtain⟨r,r1,r2,r3,r4,r5⟩:=ih ((x+y)/2+1) y (by omega) (by omega) (by omega) h2 (fun i i1 i2=>by
          rcases Nat.eq_or_lt_of_le (Nat.le_of_lt_succ i2) with rfl |hlt'
          · exact hpc
          · exact hp i _ i1 hlt' (by omega) hpc) h4
        exact⟨r,by omega,r2,r3,r4,fun K=>(ex K).trans (r5 K)⟩
      |false=>
        rw[hpc] at g5
        rw[show decide (keyP u-keyP v<0)=false from decide_eq_false (by have:=of_decide_eq_false g5;omega)] at ex
        obtain⟨r,r1,r2,r3,r4,r5⟩:=ih x ((x+y)/2) (by omega) (by omega) h1 (by omega) h3 (fun i i1 i2=>by
          rcases Nat.eq_or_lt_of_le i1 with rfl |hlt'
          · exact hpc
          · cases hpi:p i with
            |false=>rfl
            |true=>rw[hp _ i (by omega) hlt' i2 hpi] at hpc;cases hpc)
        exact⟨r,r1,by omega,r3,r4,fun K=>(ex K).trans (r5 K)⟩
theorem Q74 (m:Nat) (D:List Qaa) (p:Nat→Bool) (lo hi:Nat) (hp:Anti p lo hi) (hhi:hi≤len) (hlen:len≤1000) (hal:m<len) (hev:∀c,lo≤c→c<hi→∃u v,D[m]? = some u∧D[c]? = some v∧(-1000000≤u.Part.Gain∧u.Part.Gain≤1000000)∧(-1000000≤v.Part.Gain∧v.Part.Gain≤1000000)∧(!decide (keyP u<keyP v))=p c) :
    ∀(n x y:Nat),y-x<n→x≤y→lo≤x→y≤hi→(∀i,lo≤i→i<x→p i=true)→(∀i,y≤i→i<hi→p i=false) →
    ∃r,x≤r∧r≤y∧(∀i,lo≤i→i<r→p i=true)∧(∀i,r≤i→i<hi→p i=false)∧∀K:Int→Option (List Qaa),slices_symMergeCmpFunc_plant_pieceX_1_loop3 N len m D K n x y=K r:=by
  intro n
  induction n with
  |zero=>intro x y h;exact absurd h (Nat.not_lt_zero _)
  |succ n ih=>
    intro x y hn hxy h1 h2 h3 h4
    have ex:=fun K:Int→Option (List Qaa)=>slices_symMergeCmpFunc_plant_pieceX_1_loop3.eq_2 N len m D K x y n
    rcases Nat.eq_or_lt_of_le hxy with rfl |hlt
    · refine⟨x,Nat.le_refl _,Nat.le_refl _,h3,h4,fun K=>?_⟩
      rw[ex,show decide ((x:Int)<(x:Int))=false from decide_eq_false (by omega)]
      rfl
    · have hb:=Qre hlt
      obtain⟨u,v,g1,g2,g3,g4,g5⟩:=hev ((x+y)/2) (by omega) (by omega)
      have e1:w64 ((((x+y)/2:Nat):Int)+1)=(((x+y)/2+1:Nat):Int):=Qa5 (by omega) (by omega)
      have d1:decide (0≤(((x+y)/2:Nat):Int))=true:=decide_eq_true (by omega)
      have d2:decide ((x+y)/2<len)=true:=decide_eq_true (by omega)
      have d3:decide (0≤(m:Int))=true:=decide_eq_true (by omega)
      have d4:decide (m<len)=true:=decide_eq_true hal
      rw[show decide ((x:Int)<(y:Int))=true from decide_eq_true (by omega)] at ex
      simp only[cond_true,half x y (by omega),Option.bind_some,chk,Int.toNat_natCast,d1,d2,d3,d4,Bool.and_self,g1,g2,Qrh,Qs5 g3 g4,e1] at ex
      cases hpc:p ((x+y)/2) with
      |true=>
        rw[hpc,Bool.not_eq_true'] at g5
        rw[show decide (keyP u-keyP v<0)=false from decide_eq_false (by have:=of_decide_eq_false g5;omega)] at ex
        obtain⟨r,r1,r2,r3,r4,r5⟩:=ih ((x+y)/2+1) y (by omega) (by omega) (by omega) h2 (fun i i1 i2=>by
          rcases Nat.eq_or_lt_of_le (Nat.le_of_lt_succ i2) with rfl |hlt'
          · exact hpc
          · exact hp i _ i1 hlt' (by omega) hpc) h4
        exact⟨r,by omega,r2,r3,r4,fun K=>(ex K).trans (r5 K)⟩
      |false=>
        rw[hpc,Bool.not_eq_false'] at g5
        rw[show decide (keyP u-keyP v<0)=true from decide_eq_true (by have:=of_decide_eq_true g5;omega)] at ex
        obtain⟨r,r1,r2,r3,r4,r5⟩:=ih x ((x+y)/2) (by omega) (by omega) h1 (by omega) h3 (fun i i1 i2=>by
          rcases Nat.eq_or_lt_of_le i1 with rfl |hlt'
          · exact hpc
          · cases hpi:p i with
            |false=>rfl
            |true=>rw[hp _ i (by omega) hlt' i2 hpi] at hpc;cases hpc)
        exact⟨r,r1,by omega,r3,r4,fun K=>(ex K).trans (r5 K)⟩
theorem Q75 (q:Nat) (D:List Qaa) (p:Nat→Bool) (lo hi:Nat) (hp:Anti p lo hi) (hhi:hi≤len) (hlen:len≤1000) (hq:∀c,lo≤c→c<hi→c≤q∧q-c<len) (hev:∀c,lo≤c→c<hi→∃u v,D[q-c]? = some u∧D[c]? = some v∧(-1000000≤u.Part.Gain∧u.Part.Gain≤1000000)∧(-1000000≤v.Part.Gain∧v.Part.Gain≤1000000)∧(!decide (keyP u<keyP v))=p c) :
    ∀(n x y:Nat),y-x<n→x≤y→lo≤x→y≤hi→(∀i,lo≤i→i<x→p i=true)→(∀i,y≤i→i<hi→p i=false) →
    ∃r,x≤r∧r≤y∧(∀i,lo≤i→i<r→p i=true)∧(∀i,r≤i→i<hi→p i=false)∧∀K:Int→Option (List Qaa),slices_symMergeCmpFunc_plant_pieceX_1_loop1 N len D q K n x y=K r:=by
  intro n
  induction n with
  |zero=>intro x y h;exact absurd h (Nat.not_lt_zero _)
  |succ n ih=>
    intro x y hn hxy h1 h2 h3 h4
    have ex:=fun K:Int→Option (List Qaa)=>slices_symMergeCmpFunc_plant_pieceX_1_loop1.eq_2 N len D q K x y n
    rcases Nat.eq_or_lt_of_le hxy with rfl |hlt
    · refine⟨x,Nat.le_refl _,Nat.le_refl _,h3,h4,fun K=>?_⟩
      rw[ex,show decide ((x:Int)<(x:Int))=false from decide_eq_false (by omega)]
      rfl
    · have hb:=Qre hlt
      obtain⟨u,v,g1,g2,g3,g4,g5⟩:=hev ((x+y)/2) (by omega) (by omega)
      obtain⟨q1,q2⟩:=hq ((x+y)/2) (by omega) (by omega)
      have e1:w64 ((((x+y)/2:Nat):Int)+1)=(((x+y)/2+1:Nat):Int):=Qa5 (by omega) (by omega)
      have e2:w64 ((q:Int)-(((x+y)/2:Nat):Int))=((q-(x+y)/2:Nat):Int):=by rw[Qa5 (by omega) (by omega)];omega
      have d1:decide (0≤(((x+y)/2:Nat):Int))=true:=decide_eq_true (by omega)
      have d2:decide ((x+y)/2<len)=true:=decide_eq_true (by omega)
      have d3:decide (0≤((q-(x+y)/2:Nat):Int))=true:=decide_eq_true (by omega)
      have d4:decide (q-(x+y)/2<len)=true:=decide_eq_true q2
      rw[show decide ((x:Int)<(y:Int))=true from decide_eq_true (by omega)] at ex
      simp only[cond_true,half x y (by omega),Option.bind_some,e2,chk,Int.toNat_natCast,d1,d2,d3,d4,Bool.and_self,g1,g2,Qrh,Qs5 g3 g4,e1] at ex
      cases hpc:p ((x+y)/2) with
      |true=>
        rw[hpc,Bool.not_eq_true'] at g5
        rw[show decide (keyP u-keyP v<0)=false from decide_eq_false (by have:=of_decide_eq_false g5;omega)] at ex
        obtain⟨r,r1,r2,r3,r4,r5⟩:=ih ((x+y)/2+1) y (by omega) (by omega) (by omega) h2 (fun i i1 i2=>by
          rcases Nat.eq_or_lt_of_le (Nat.le_of_lt_succ i2) with rfl |hlt'
          · exact hpc
          · exact hp i _ i1 hlt' (by omega) hpc) h4
        exact⟨r,by omega,r2,r3,r4,fun K=>(ex K).trans (r5 K)⟩
      |false=>
        rw[hpc,Bool.not_eq_false'] at g5
        rw[show decide (keyP u-keyP v<0)=true from decide_eq_true (by have:=of_decide_eq_true g5;omega)] at ex
        obtain⟨r,r1,r2,r3,r4,r5⟩:=ih x ((x+y)/2) (by omega) (by omega) h1 (by omega) h3 (fun i i1 i2=>by
          rcases Nat.eq_or_lt_of_le i1 with rfl |hlt'
          · exact hpc
          · cases hpi:p i with
            |false=>rfl
            |true=>rw[hp _ i (by omega) hlt' i2 hpi] at hpc;cases hpc)
        exact⟨r,r1,by omega,r3,r4,fun K=>(ex K).trans (r5 K)⟩
theorem Q6n (hlen:len≤1000) (K:List Qaa→Option (List Qaa)) (x:Qaa) (i:Nat):∀(n:Nat) (A R B:List Qaa),R.length<n→A.length+R.length+1=i→A.length+1+R.length+B.length=len →
    Qa6 N len i K n (A.length:Int) (A++x::(R++B))=K (A++R++x::B):=by
  intro n
  induction n with
  |zero=>intro A R B h;exact absurd h (Nat.not_lt_zero _)
  |succ n ih=>
    intro A R B hn hi hl
    rw[Qa6]
    have e0:w64 ((i:Int)-1)=((i-1:Nat):Int):=by rw[Qa5 (by omega) (by omega)];omega
    rw[e0]
    cases R with
    |nil=>
      rw[show decide ((A.length:Int)<((i-1:Nat):Int))=false from decide_eq_false (by simp at hi;omega)]
      simp
    |cons y R=>
      simp only[List.length_cons] at hn hi hl
      have e1:w64 ((A.length:Int)+1)=((A.length+1:Nat):Int):=Qa5 (by omega) (by omega)
      have d1:decide (0≤((A.length+1:Nat):Int))=true:=decide_eq_true (by omega)
      have d2:decide (A.length+1<len)=true:=decide_eq_true (by omega)
      have d3:decide (0≤(A.length:Int))=true:=decide_eq_true (by omega)
      have d4:decide (A.length<len)=true:=decide_eq_true (by omega)
      rw[show decide ((A.length:Int)<((i-1:Nat):Int))=true from decide_eq_true (by omega)]
      simp only[cond_true,e1,chk,Int.toNat_natCast,d1,d2,d3,d4,Bool.and_self,List.cons_append,at0,at1,Option.bind_some,Qrh,set0,set1]
      have ih':=ih (A++[y]) R B (by omega) (by simp;omega) (by simp;omega)
      have e2:(((A++[y]).length:Nat):Int)=((A.length+1:Nat):Int):=by simp
      rw[e2] at ih'
      simpa using ih'
theorem Qz2 (hlen:len≤1000) (K:List Qaa→Option (List Qaa)) (x:Qaa) (i:Nat):∀(n:Nat) (A R B:List Qaa),R.length<n→A.length=i→A.length+1+R.length+B.length=len →
    Qa7 N len i K n ((A.length+R.length:Nat):Int) (A++R++x::B)=K (A++x::(R++B)):=by
  intro n
  induction n with
  |zero=>intro A R B h;exact absurd h (Nat.not_lt_zero _)
  |succ n ih=>
    intro A R B hn hi hl
    rw[Qa7]
    rcases List.eq_nil_or_concat R with rfl |⟨R',y,rfl⟩
    · rw[show decide (((A.length+[].length:Nat):Int)>(i:Int))=false from decide_eq_false (by simp;omega)]
      simp
    · rw[List.concat_eq_append] at *
      have hl':(R'++[y]).length=R'.length+1:=by simp
      rw[hl'] at hn hl
      have e0:((A.length+(R'++[y]).length:Nat):Int)=(((A++R').length+1:Nat):Int):=by simp;omega
      have hAP:(A++R').length=A.length+R'.length:=by simp
      have e1:w64 ((((A++R').length+1:Nat):Int)-1)=(((A++R').length:Nat):Int):=by
        rw[Qa5 (by omega) (by omega)];omega
      have eD:A++(R'++[y])++x::B=(A++R')++y::x::B:=by simp
      rw[e0,eD,show decide ((((A++R').length+1:Nat):Int)>(i:Int))=true from decide_eq_true (by omega),e1]
      have d1:decide (0≤(((A++R').length+1:Nat):Int))=true:=decide_eq_true (by omega)
      have d2:decide ((A++R').length+1<len)=true:=decide_eq_true (by omega)
      have d3:decide (0≤(((A++R').length:Nat):Int))=true:=decide_eq_true (by omega)
      have d4:decide ((A++R').length<len)=true:=decide_eq_true (by omega)
      simp only[cond_true,chk,Int.toNat_natCast,d1,d2,d3,d4,Bool.and_self,at0,at1,Option.bind_some,Qrh,set0,set1]
      have ih':=ih A R' (y::B) (by omega) hi (by simp;omega)
      rw[←hAP] at ih'
      simpa using ih'
theorem idx {D A S B:List Qaa}{a:Nat}(h:D=A++S++B) (ha:A.length=a) {c:Nat}(h1:a≤c) (h2:c<a+S.length):∃u,D[c]? = some u∧u∈S∧S[c-a]? = some u:=by
  have hlt:c-a<S.length:=by omega
  refine⟨S[c-a],?_,List.getElem_mem hlt,List.getElem?_eq_getElem hlt⟩
  subst h
  rw[List.append_assoc,List.getElem?_append_right (by omega),List.getElem?_append_left (by omega),ha,List.getElem?_eq_getElem hlt]
theorem Qle {S:List Qaa}(h:Srt S) {i j:Nat}{u v:Qaa}(hij:i≤j) (hi:S[i]? = some u) (hj:S[j]? = some v):keyP u≤keyP v:=by
  rcases Nat.eq_or_lt_of_le hij with rfl |hlt
  · rw[hi] at hj;cases hj;exact Int.le_refl _
  · obtain⟨hi1,hi2⟩:=List.getElem?_eq_some_iff.1 hi
    obtain⟨hj1,hj2⟩:=List.getElem?_eq_some_iff.1 hj
    have:=List.pairwise_iff_getElem.1 h i j hi1 hj1 hlt
    rw[hi2,hj2] at this
    exact this
theorem cut {α:Type}(S:List α) (k:Nat) (h:k≤S.length):∃S1 S2,S=S1++S2∧S1.length=k:=⟨S.take k,S.drop k,(List.take_append_drop ..).symm,by simp;omega⟩
theorem Qlh {S:List Qaa}{x:Qaa}(h:x∈S):∃i,i<S.length∧S[i]? = some x:=by
  obtain⟨i,hi⟩:=List.getElem?_of_mem h
  exact⟨i,(List.getElem?_eq_some_iff.1 hi).1,hi⟩
theorem Qgp {A B:List Qaa}(h:Srt (A++B)):Srt A:=(List.pairwise_append.1 h).1
theorem Qgo {A B:List Qaa}(h:Srt (A++B)):Srt B:=(List.pairwise_append.1 h).2.1
theorem Qkr {u v:Qaa}(h:(!decide (keyP u<keyP v))=true):keyP v≤keyP u:=by
  simp only[Bool.not_eq_true',decide_eq_false_iff_not] at h
  omega
theorem Qp2 {u v:Qaa}(h:(!decide (keyP u<keyP v))=false):keyP u<keyP v:=by
  simpa using h
theorem seek (hlen:len≤1000) (hN:len<N) {A L R B:List Qaa}{a m b:Nat}(ha:A.length=a) (hm:a+L.length=m) (hb:m+R.length=b) (hl:b+B.length=len) (hL:Srt L) (hR:Srt R) (sL:Qfw L) (sR:Qfw R) (hL0:0<L.length) (hR0:0<R.length) :
    ∃s,a≤s∧s≤m∧s≤(a+b)/2∧(a+b)/2+m≤b+s ∧
      (∀u v,a<s→s-1<m→(a+b)/2+m-s<b→L[s-1-a]? = some u→R[(a+b)/2-s]? = some v→keyP u≤keyP v) ∧
      (∀u v,s<m→s<(a+b)/2→L[s-a]? = some u→R[(a+b)/2-s-1]? = some v→keyP v<keyP u) ∧
      ∀K:Int→Option (List Qaa),(bif decide ((m:Int)>(((a+b)/2:Nat):Int)) then(some (w64 ((w64 ((((a+b)/2:Nat):Int)+(m:Int)))-(b:Int)))).bind (fun x50=>slices_symMergeCmpFunc_plant_pieceX_1_loop1 N len (A++L++R++B) (((a+b)/2+m-1:Nat):Int) K N x50 (((a+b)/2:Nat):Int))
        else slices_symMergeCmpFunc_plant_pieceX_1_loop1 N len (A++L++R++B) (((a+b)/2+m-1:Nat):Int) K N (a:Int) (m:Int))=K s:=by
  generalize hmid:(a+b)/2=mid
  have hD1:A++L++R++B=A++L++(R++B):=by simp
  have hD2:A++L++R++B=(A++L)++R++B:=rfl
  have hAL:(A++L).length=m:=by simp;omega
  have gL:=fun c (h1:a≤c) (h2:c<m)=>idx hD1 ha h1 (by omega:c<a+L.length)
  have gR:=fun c (h1:m≤c) (h2:c<b)=>idx hD2 hAL h1 (by omega:c<m+R.length)
  let p:Nat→Bool:=fun c=>match (A++L++R++B)[mid+m-1-c]?,(A++L++R++B)[c]? with |some u,some v=>!decide (keyP u<keyP v) |_,_=>false
  have hpe:∀c u v,(A++L++R++B)[mid+m-1-c]? = some u→(A++L++R++B)[c]? = some v→p c=!decide (keyP u<keyP v):=fun c u v h1 h2=>by
    show(match (A++L++R++B)[mid+m-1-c]?,(A++L++R++B)[c]? with |some u,some v=>!decide (keyP u<keyP v) |_,_=>false)=_
    rw[h1,h2]
  have main:∀s0 r0:Nat,a≤s0→s0≤r0→r0≤m→r0≤mid→(s0=a∨s0+b=mid+m)→(r0=m∨r0=mid)→mid+m≤b+s0 →
      ∃s,s0≤s∧s≤r0 ∧
      (∀u v,a<s→s-1<m→mid+m-s<b→L[s-1-a]? = some u→R[mid-s]? = some v→keyP u≤keyP v) ∧
      (∀u v,s<m→s<mid→L[s-a]? = some u→R[mid-s-1]? = some v→keyP v<keyP u) ∧
      ∀K:Int→Option (List Qaa),slices_symMergeCmpFunc_plant_pieceX_1_loop1 N len (A++L++R++B) ((mid+m-1:Nat):Int) K N (s0:Int) (r0:Int)=K s:=by
    intro s0 r0 h1 h2 h3 h4 h5 h6 h7
    have ev:∀c,s0≤c→c<r0→∃u v,(A++L++R++B)[mid+m-1-c]? = some u∧(A++L++R++B)[c]? = some v∧u∈R∧v∈L∧R[mid-1-c]? = some u∧L[c-a]? = some v:=fun c c1 c2=>by
      obtain⟨v,v1,v2,v3⟩:=gL c (by omega) (by omega)
      obtain⟨u,u1,u2,u3⟩:=gR (mid+m-1-c) (by omega) (by omega)
      rw[show mid+m-1-c-m=mid-1-c from by omega] at u3
      exact⟨u,v,u1,v1,u2,v2,u3,v3⟩
    have anti:Anti p s0 r0:=fun i j i1 i2 i3 hj=>by
      obtain⟨u,v,u1,v1,_,_,u3,v3⟩:=ev i i1 (by omega)
      obtain⟨u',v',u1',v1',_,_,u3',v3'⟩:=ev j (by omega) i3
      rw[hpe j u' v' u1' v1'] at hj
      rw[hpe i u v u1 v1]
      have e1:=Qkr hj
      have e2:=Qle hL (by omega:i-a≤j-a) v3 v3'
      have e3:=Qle hR (by omega:mid-1-j≤mid-1-i) u3' u3
      simp only[Bool.not_eq_true',decide_eq_false_iff_not]
      omega
    obtain⟨s,s1,s2,s3,s4,s5⟩:=Q75 (N:=N) (len:=len) (mid+m-1) (A++L++R++B) p s0 r0 anti (by omega) hlen (fun c c1 c2=>by omega) (fun c c1 c2=>by
      obtain⟨u,v,u1,v1,u2,v2,_,_⟩:=ev c c1 c2
      exact⟨u,v,u1,v1,sR u u2,sL v v2,(hpe c u v u1 v1).symm⟩) N s0 r0 (by omega) h2 (Nat.le_refl _) (Nat.le_refl _) (fun i i1 i2=>by omega) (fun i i1 i2=>by omega)
    refine⟨s,s1,s2,fun u v q1 q2 q3 hu hv=>?_,fun u v q1 q2 hu hv=>?_,s5⟩
    · rcases Nat.eq_or_lt_of_le s1 with e |hlt
      · omega
      · have hp:=s3 (s-1) (by omega) (by omega)
        obtain⟨u',v',u1,v1,_,_,u3,v3⟩:=ev (s-1) (by omega) (by omega)
        rw[hpe (s-1) u' v' u1 v1] at hp
        rw[show mid-1-(s-1)=mid-s from by omega,hv] at u3
        rw[hu] at v3
        cases u3
        cases v3
        exact Qkr hp
    · rcases Nat.eq_or_lt_of_le s2 with e |hlt
      · omega
      · have hp:=s4 s (Nat.le_refl _) hlt
        obtain⟨u',v',u1,v1,_,_,u3,v3⟩:=ev s (by omega) hlt
        rw[hpe s u' v' u1 v1] at hp
        rw[show mid-1-s=mid-s-1 from by omega,hv] at u3
        rw[hu] at v3
        cases u3
        cases v3
        exact Qp2 hp
  by_cases hc:m>mid
  · obtain⟨s,q1,q2,q3,q4,q5⟩:=main (mid+m-b) mid (by omega) (by omega) (by omega) (by omega) (Or.inr (by omega)) (Or.inr rfl) (by omega)
    refine⟨s,by omega,by omega,by omega,by omega,q3,q4,fun K=>?_⟩
    have e1:w64 ((w64 ((mid:Int)+(m:Int)))-(b:Int))=((mid+m-b:Nat):Int):=by
      rw[Qa5 (x:=(mid:Int)+(m:Int)) (by omega) (by omega),Qa5 (by omega) (by omega)];omega
    rw[show decide ((m:Int)>(mid:Int))=true from decide_eq_true (by omega),cond_true,Option.bind_some,e1]
    exact q5 K
  · obtain⟨s,q1,q2,q3,q4,q5⟩:=main a m (by omega) (by omega) (by omega) (by omega) (Or.inl rfl) (Or.inl rfl) (by omega)
    refine⟨s,by omega,by omega,by omega,by omega,q3,q4,fun K=>?_⟩
    rw[show decide ((m:Int)>(mid:Int))=false from decide_eq_false (by omega),cond_false]
    exact q5 K
theorem Q62 {S T:List Qaa}(hS:Srt S) (hT:Srt T) (h:∀u v,S[S.length-1]? = some u→T[0]? = some v→keyP u≤keyP v):∀x∈S,∀y∈T,keyP x≤keyP y:=by
  intro x hx y hy
  obtain⟨i,i1,i2⟩:=Qlh hx
  obtain⟨j,j1,j2⟩:=Qlh hy
  obtain⟨u,hu⟩:∃u,S[S.length-1]? = some u:=⟨_,List.getElem?_eq_getElem (by omega)⟩
  obtain⟨v,hv⟩:∃v,T[0]? = some v:=⟨_,List.getElem?_eq_getElem (by omega)⟩
  have:=h u v hu hv
  have:=Qle hS (by omega:i≤S.length-1) i2 hu
  have:=Qle hT (Nat.zero_le j) hv j2
  omega
theorem Q61 {S T:List Qaa}(hS:Srt S) (hT:Srt T) (h:∀u v,S[S.length-1]? = some u→T[0]? = some v→keyP u<keyP v):∀x∈S,∀y∈T,keyP x<keyP y:=by
  intro x hx y hy
  obtain⟨i,i1,i2⟩:=Qlh hx
  obtain⟨j,j1,j2⟩:=Qlh hy
  obtain⟨u,hu⟩:∃u,S[S.length-1]? = some u:=⟨_,List.getElem?_eq_getElem (by omega)⟩
  obtain⟨v,hv⟩:∃v,T[0]? = some v:=⟨_,List.getElem?_eq_getElem (by omega)⟩
  have:=h u v hu hv
  have:=Qle hS (by omega:i≤S.length-1) i2 hu
  have:=Qle hT (Nat.zero_le j) hv j2
  omega
end
theorem Q2f {len:Nat}(hlen:len≤1000):∀(n:Nat) (A L R B:List Qaa) (a m b:Nat),A.length=a→a+L.length=m→m+R.length=b→b+B.length=len→0<L.length→0<R.length→Srt L→Srt R→Qfw L→Qfw R→len+(L.length+R.length)<n →
    ∃Z,Stb (L++R) Z∧Qax n len a m b (A++L++R++B)=some (A++Z++B):=by
  intro n
  induction n with
  |zero=>intro A L R B a m b _ _ _ _ _ _ _ _ _ _ h;exact absurd h (Nat.not_lt_zero _)
  |succ N ih=>
    intro A L R B a m b ha hm hb hl hL0 hR0 hL hR sL sR hn
    have hN:len<N:=by omega
    rw[Qax]
    unfold Qbv
    have e1:w64 ((m:Int)-(a:Int))=(L.length:Int):=by rw[Qa5 (by omega) (by omega)];omega
    have e2:w64 ((b:Int)-(m:Int))=(R.length:Int):=by rw[Qa5 (by omega) (by omega)];omega
    have hD1:A++L++R++B=A++L++(R++B):=by simp
    have hD2:A++L++R++B=(A++L)++R++B:=rfl
    have hAL:(A++L).length=m:=by simp;omega
    have gL:=fun c (h1:a≤c) (h2:c<m)=>idx hD1 ha h1 (by omega:c<a+L.length)
    have gR:=fun c (h1:m≤c) (h2:c<b)=>idx hD2 hAL h1 (by omega:c<m+R.length)
    simp only[Qb5,e1,e2]
    by_cases hL1:L.length=1
    · rw[show((L.length:Int)==1)=true from by simp[hL1],cond_true]
      obtain⟨x,rfl⟩:=List.length_eq_one_iff.1 hL1
      have hx:(A++[x]++R++B)[a]? = some x:=at_i (L:=A) (M:=R++B) (by simp) ha
      have sx:=sL x (by simp)
      let p:Nat→Bool:=fun c=>match (A++[x]++R++B)[c]? with |some u=>decide (keyP u<keyP x) |none=>false
      have hpe:∀c u,(A++[x]++R++B)[c]? = some u→p c=decide (keyP u<keyP x):=fun c u h=>by
        show(match (A++[x]++R++B)[c]? with |some u=>decide (keyP u<keyP x) |none=>false)=_
        rw[h]
      have anti:Anti p m b:=fun i j i1 i2 i3 hj=>by
        obtain⟨u,u1,_,u3⟩:=gR i i1 (by omega)
        obtain⟨v,v1,_,v3⟩:=gR j (by omega) i3
        rw[hpe j v v1,decide_eq_true_eq] at hj
        rw[hpe i u u1,decide_eq_true_eq]
        have:=Qle hR (by omega:i-m≤j-m) u3 v3
        omega
      obtain⟨r,r1,r2,r3,r4,r5⟩:=Q73 (N:=N) (len:=len) a (A++[x]++R++B) p m b anti (by omega) hlen (by simp at hm;omega) (fun c c1 c2=>by
        obtain⟨u,u1,u2,_⟩:=gR c c1 c2
        exact⟨u,x,u1,hx,sR u u2,sx,(hpe c u u1).symm⟩) N m b (by omega) (by omega) (Nat.le_refl _) (Nat.le_refl _) (fun i i1 i2=>by omega) (fun i i1 i2=>by omega)
      obtain⟨R1,R2,hRR,hR1⟩:=cut R (r-m) (by omega)
      have c1:∀y∈R1,keyP y<keyP x:=fun y hy=>by
        obtain⟨i,i1,i2⟩:=Qlh hy
        obtain⟨u,u1,_,u3⟩:=gR (m+i) (by omega) (by omega)
        have:=r3 (m+i) (by omega) (by omega)
        rw[hpe _ u u1,decide_eq_true_eq] at this
        rw[hRR,show m+i-m=i from by omega,List.getElem?_append_left i1,i2] at u3
        cases u3
        exact this
      have c2:∀y∈R2,keyP x≤keyP y:=fun y hy=>by
        obtain⟨i,i1,i2⟩:=Qlh hy
        have hlR:R.length=R1.length+R2.length:=by rw[hRR];simp
        obtain⟨u,u1,_,u3⟩:=gR (r+i) (by omega) (by omega)
        have:=r4 (r+i) (by omega) (by omega)
        rw[hpe _ u u1,decide_eq_false_iff_not] at this
        rw[hRR,show r+i-m=R1.length+i from by omega,List.getElem?_append_right (by omega),Nat.add_sub_cancel_left,i2] at u3
        cases u3
        omega
      have hR':=hR
      rw[hRR] at hR'
      refine⟨R1++(x::R2),?_,?_⟩
      · have:=Qn7 (L1:=[]) (L2:=[x]) (R1:=R1) (R2:=R2) (Z1:=R1) (Z2:=x::R2) (List.pairwise_singleton ..) hR' (fun _ h=>by cases h) (fun y hy z hz=>by
          rw[List.mem_singleton] at hz
          subst hz
          exact c1 y hy) (Qgk (Qgp hR')) (Qgk (List.pairwise_cons.2 ⟨c2,Qgo hR'⟩))
        rw[hRR]
        simpa using this
      · rw[r5]
        have:=Q6n (N:=N) hlen (fun y95=>some y95) x r N A R1 (R2++B) (by omega) (by simp at hm;omega) (by rw[hRR] at hb;simp at hb hm ⊢;omega)
        rw[ha] at this
        rw[hRR]
        simp only[List.append_assoc,List.cons_append,List.nil_append] at this ⊢
        exact this
    · rw[show((L.length:Int)==1)=false from by simp;omega,cond_false]
      by_cases hR1:R.length=1
      · rw[show((R.length:Int)==1)=true from by simp[hR1],cond_true]
        obtain⟨y,rfl⟩:=List.length_eq_one_iff.1 hR1
        have hy:(A++L++[y]++B)[m]? = some y:=at_i (L:=A++L) (M:=B) (by simp) hAL
        have sy:=sR y (by simp)
        let p:Nat→Bool:=fun c=>match (A++L++[y]++B)[c]? with |some v=>!decide (keyP y<keyP v) |none=>false
        have hpe:∀c v,(A++L++[y]++B)[c]? = some v→p c=!decide (keyP y<keyP v):=fun c v h=>by
          show(match (A++L++[y]++B)[c]? with |some v=>!decide (keyP y<keyP v) |none=>false)=_
          rw[h]
        have anti:Anti p a m:=fun i j i1 i2 i3 hj=>by
          obtain⟨u,u1,_,u3⟩:=gL i i1 (by omega)
          obtain⟨v,v1,_,v3⟩:=gL j (by omega) i3
          rw[hpe j v v1] at hj
          rw[hpe i u u1]
          have h1:=Qkr hj
          have h2:=Qle hL (by omega:i-a≤j-a) u3 v3
          simp only[Bool.not_eq_true',decide_eq_false_iff_not]
          omega
        obtain⟨r,r1,r2,r3,r4,r5⟩:=Q74 (N:=N) (len:=len) m (A++L++[y]++B) p a m anti (by omega) hlen (by simp at hb;omega) (fun c c1 c2=>by
          obtain⟨v,v1,v2,_⟩:=gL c c1 c2
          exact⟨y,v,hy,v1,sy,sL v v2,(hpe c v v1).symm⟩) N a m (by omega) (by omega) (Nat.le_refl _) (Nat.le_refl _) (fun i i1 i2=>by omega) (fun i i1 i2=>by omega)
        obtain⟨L1,L2,hLL,hLl⟩:=cut L (r-a) (by omega)
        have hlL:L.length=L1.length+L2.length:=by rw[hLL];simp
        have c1:∀z∈L1,keyP z≤keyP y:=fun z hz=>by
          obtain⟨i,i1,i2⟩:=Qlh hz
          obtain⟨u,u1,_,u3⟩:=gL (a+i) (by omega) (by omega)
          have:=r3 (a+i) (by omega) (by omega)
          rw[hpe _ u u1] at this
          rw[hLL,show a+i-a=i from by omega,List.getElem?_append_left i1,i2] at u3
          cases u3
          exact Qkr this
        have c2:∀z∈L2,keyP y<keyP z:=fun z hz=>by
          obtain⟨i,i1,i2⟩:=Qlh hz
          obtain⟨u,u1,_,u3⟩:=gL (r+i) (by omega) (by omega)
          have:=r4 (r+i) (by omega) (by omega)
          rw[hpe _ u u1] at this
          rw[hLL,show r+i-a=L1.length+i from by omega,List.getElem?_append_right (by omega),Nat.add_sub_cancel_left,i2] at u3
          cases u3
          exact Qp2 this
        have hL':=hL
        rw[hLL] at hL'
        refine⟨(L1++[y])++L2,?_,?_⟩
        · have hs:Srt (L1++[y]):=List.pairwise_append.2 ⟨Qgp hL',List.pairwise_singleton ..,fun z hz w hw=>by
            rw[List.mem_singleton] at hw
            subst hw
            exact c1 z hz⟩
          have:=Qn7 (L1:=L1) (L2:=L2) (R1:=[y]) (R2:=[]) (Z1:=L1++[y]) (Z2:=L2) hL' (List.pairwise_singleton ..) (fun _ _ _ h=>by cases h) (fun z hz w hw=>by
            rw[List.mem_singleton] at hz
            subst hz
            exact c2 w hw) (Qgk hs) (by simpa using Qgk (Qgo hL'))
          rw[hLL]
          simpa using this
        · rw[r5]
          have:=Qz2 (N:=N) hlen (fun y55=>some y55) y r N (A++L1) L2 B (by omega) (by simp;omega) (by simp at hb ⊢;omega)
          have e3:(((A++L1).length+L2.length:Nat):Int)=(m:Int):=by simp;omega
          rw[e3] at this
          rw[hLL]
          simp only[List.append_assoc,List.cons_append,List.nil_append] at this ⊢
          exact this
      · rw[show((R.length:Int)==1)=false from by simp;omega,cond_false]
        obtain⟨s,s1,s2,s3,s4,s5,s6,s7⟩:=seek (N:=N) hlen hN ha hm hb hl hL hR sL sR hL0 hR0
        generalize hmid:(a+b)/2=mid at s3 s4 s5 s6 s7
        have e3:w64 ((IntKind.wrap .u64 (w64 ((a:Int)+(b:Int))))/2)=(mid:Int):=by rw[half a b (by omega),hmid]
        have e4:w64 ((w64 ((mid:Int)+(m:Int)))-1)=((mid+m-1:Nat):Int):=by
          rw[Qa5 (x:=(mid:Int)+(m:Int)) (by omega) (by omega),Qa5 (by omega) (by omega)];omega
        have e5:w64 ((w64 ((mid:Int)+(m:Int)))-(s:Int))=((mid+m-s:Nat):Int):=by
          rw[Qa5 (x:=(mid:Int)+(m:Int)) (by omega) (by omega),Qa5 (by omega) (by omega)];omega
        rw[e3]
        simp only[Option.bind_some,e4]
        have s7':=fun K=>s7 K
        simp only[Option.bind_some] at s7'
        rw[s7']
        simp only[e5]
        obtain⟨L1,L2,hLL,hL1'⟩:=cut L (s-a) (by omega)
        obtain⟨R1,R2,hRR,hR1'⟩:=cut R (mid-s) (by omega)
        have hlL:L.length=L1.length+L2.length:=by rw[hLL];simp
        have hlR:R.length=R1.length+R2.length:=by rw[hRR];simp
        have hL':=hL
        rw[hLL] at hL'
        have hR':=hR
        rw[hRR] at hR'
        have c1:∀x∈L1,∀y∈R2,keyP x≤keyP y:=fun x hx y hy=>Q62 (Qgp hL') (Qgo hR') (fun u v hu hv=>by
          have l1:0<L1.length:=List.length_pos_of_mem hx
          have l2:0<R2.length:=List.length_pos_of_mem hy
          refine s5 u v (by omega) (by omega) (by omega) ?_ ?_
          · rw[hLL,List.getElem?_append_left (by omega),show s-1-a=L1.length-1 from by omega];exact hu
          · rw[hRR,List.getElem?_append_right (by omega),show mid-s-R1.length=0 from by omega];exact hv) x hx y hy
        have c2:∀x∈R1,∀y∈L2,keyP x<keyP y:=fun x hx y hy=>Q61 (Qgp hR') (Qgo hL') (fun u v hu hv=>by
          have l1:0<R1.length:=List.length_pos_of_mem hx
          have l2:0<L2.length:=List.length_pos_of_mem hy
          refine s6 v u (by omega) (by omega) ?_ ?_
          · rw[hLL,List.getElem?_append_right (by omega),show s-a-L1.length=0 from by omega];exact hv
          · rw[hRR,List.getElem?_append_left (by omega),show mid-s-1=R1.length-1 from by omega];exact hu) x hx y hy
        have rot:∀K:List Qaa→Option (List Qaa),(bif decide ((s:Int)<(m:Int)) then bif decide ((m:Int)<((mid+m-s:Nat):Int)) then(Qbl N len s m ((mid+m-s:Nat):Int) (A++L++R++B)).bind fun x31=>K x31 else K (A++L++R++B) else K (A++L++R++B))=K (A++L1++R1++(L2++R2++B)):=by
          intro K
          have ed:A++L++R++B=(A++L1)++L2++R1++(R2++B):=by rw[hLL,hRR];simp
          by_cases q1:s<m
          · rw[show decide ((s:Int)<(m:Int))=true from decide_eq_true (by omega),cond_true]
            by_cases q2:m<mid+m-s
            · rw[show decide ((m:Int)<((mid+m-s:Nat):Int))=true from decide_eq_true (by omega),cond_true,ed,
                Q6h (N:=N) (len:=len) s m (mid+m-s) hlen hN (A++L1) L2 R1 (R2++B) (by omega) (by omega) (by simp;omega) (by omega) (by omega) (by simp;omega),Option.bind_some]
              simp
            · rw[show decide ((m:Int)<((mid+m-s:Nat):Int))=false from decide_eq_false (by omega),cond_false,ed]
              have:R1=[]:=List.eq_nil_of_length_eq_zero (by omega)
              rw[this]
              simp
          · rw[show decide ((s:Int)<(m:Int))=false from decide_eq_false (by omega),cond_false,ed]
            have:L2=[]:=List.eq_nil_of_length_eq_zero (by omega)
            rw[this]
            simp
        have sL1:Qfw L1:=fun z hz=>sL z (by rw[hLL];simp[hz])
        have sL2:Qfw L2:=fun z hz=>sL z (by rw[hLL];simp[hz])
        have sR1:Qfw R1:=fun z hz=>sR z (by rw[hRR];simp[hz])
        have sR2:Qfw R2:=fun z hz=>sR z (by rw[hRR];simp[hz])
        have one:∃Z1,Stb (L1++R1) Z1∧∀K:List Qaa→Option (List Qaa),(bif decide ((a:Int)<(s:Int)) then bif decide ((s:Int)<(mid:Int)) then(Qax N len a s mid (A++L1++R1++(L2++R2++B))).bind fun x27=>K x27 else K (A++L1++R1++(L2++R2++B)) else K (A++L1++R1++(L2++R2++B)))=K (A++Z1++(L2++R2++B)):=by
          by_cases q1:a<s
          · by_cases q2:s<mid
            · obtain⟨Z1,z1,z2⟩:=ih A L1 R1 (L2++R2++B) a s mid ha (by omega) (by omega) (by simp;omega) (by omega) (by omega) (Qgp hL') (Qgp hR') sL1 sR1 (by omega)
              refine⟨Z1,z1,fun K=>?_⟩
              rw[show decide ((a:Int)<(s:Int))=true from decide_eq_true (by omega),show decide ((s:Int)<(mid:Int))=true from decide_eq_true (by omega),z2]
              rfl
            · have:R1=[]:=List.eq_nil_of_length_eq_zero (by omega)
              refine⟨L1++R1,by rw[this,List.append_nil];exact Qgk (Qgp hL'),fun K=>?_⟩
              rw[show decide ((a:Int)<(s:Int))=true from decide_eq_true (by omega),show decide ((s:Int)<(mid:Int))=false from decide_eq_false (by omega)]
              simp
          · have:L1=[]:=List.eq_nil_of_length_eq_zero (by omega)
            refine⟨L1++R1,by rw[this,List.nil_append];exact Qgk (Qgp hR'),fun K=>?_⟩
            rw[show decide ((a:Int)<(s:Int))=false from decide_eq_false (by omega)]
            simp
        obtain⟨Z1,z1,k1⟩:=one
        have hz1:Z1.length=L1.length+R1.length:=by rw[Stb.len z1.eqf];simp
        have two:∃Z2,Stb (L2++R2) Z2∧(bif decide ((mid:Int)<((mid+m-s:Nat):Int)) then bif decide (((mid+m-s:Nat):Int)<(b:Int)) then(Qax N len mid ((mid+m-s:Nat):Int) b (A++Z1++(L2++R2++B))).bind fun x23=>some x23 else some (A++Z1++(L2++R2++B)) else some (A++Z1++(L2++R2++B)))=some (A++(Z1++Z2)++B):=by
          by_cases q1:mid<mid+m-s
          · by_cases q2:mid+m-s<b
            · obtain⟨Z2,z2,z3⟩:=ih (A++Z1) L2 R2 B mid (mid+m-s) b (by simp;omega) (by omega) (by omega) hl (by omega) (by omega) (Qgo hL') (Qgo hR') sL2 sR2 (by omega)
              refine⟨Z2,z2,?_⟩
              rw[show decide ((mid:Int)<((mid+m-s:Nat):Int))=true from decide_eq_true (by omega),show decide (((mid+m-s:Nat):Int)<(b:Int))=true from decide_eq_true (by omega)]
              rw[show A++Z1++(L2++R2++B)=(A++Z1)++L2++R2++B from by simp,z3]
              simp
            · have:R2=[]:=List.eq_nil_of_length_eq_zero (by omega)
              refine⟨L2++R2,by rw[this,List.append_nil];exact Qgk (Qgo hL'),?_⟩
              rw[show decide ((mid:Int)<((mid+m-s:Nat):Int))=true from decide_eq_true (by omega),show decide (((mid+m-s:Nat):Int)<(b:Int))=false from decide_eq_false (by omega)]
              simp
          · have:L2=[]:=List.eq_nil_of_length_eq_zero (by omega)
            refine⟨L2++R2,by rw[this,List.nil_append];exact Qgk (Qgo hR'),?_⟩
            rw[show decide ((mid:Int)<((mid+m-s:Nat):Int))=false from decide_eq_false (by omega)]
            simp
        obtain⟨Z2,z2,k2⟩:=two
        refine⟨Z1++Z2,?_,?_⟩
        · rw[hLL,hRR]
          exact Qn7 hL' hR' c1 c2 z1 z2
        · rw[rot,k1,k2]
inductive Bl (bs:Nat):List Qaa→Prop
  |short {l:List Qaa}:l.length≤bs→Srt l→Bl bs l
  |cons {l r:List Qaa}:l.length=bs→Srt l→Bl bs r→Bl bs (l++r)
theorem Bl.one {bs:Nat}{l:List Qaa}(h:Bl bs l) (hl:l.length≤bs):Srt l:=by
  cases h with
  |short _ hs=>exact hs
  |cons h1 h2 h3=>
    rename_i l r
    have:r=[]:=List.eq_nil_of_length_eq_zero (by simp at hl;omega)
    rw[this,List.append_nil]
    exact h2
section
variable {N len : Nat}
theorem Q1j (hlen:len≤1000) (hN:len<N) (K:Int×List Qaa→Option (List Qaa)) :
    ∀(n:Nat) (A S:List Qaa),S.length<n→A.length+S.length=len→Qfw S →
    ∃D T,S.length=D.length+T.length∧T.length<20∧Qfw T∧(∀k,flt k (D++T)=flt k S)∧(∀Z,T.length=Z.length→Srt Z→Bl 20 (D++Z)) ∧
      Qba N len len K n (A.length:Int) ((A.length+20:Nat):Int) (A++S)=K (((A++D).length:Nat),A++D++T):=by
  intro n
  induction n with
  |zero=>intro A S h;exact absurd h (Nat.not_lt_zero _)
  |succ n ih=>
    intro A S hn hl hS
    rw[Qba]
    by_cases hc:20≤S.length
    · rw[show decide (((A.length+20:Nat):Int)≤(len:Int))=true from decide_eq_true (by omega),cond_true]
      obtain⟨S1,S2,hSS,hS1⟩:=cut S 20 hc
      have hlS:S.length=S1.length+S2.length:=by rw[hSS];simp
      obtain⟨Z,z1,z2⟩:=Q2m (N:=N) (len:=len) A.length (A.length+20) A S1 S2 rfl hlen hN (fun z hz=>hS z (by rw[hSS];simp[hz])) (by omega) (by omega)
      have hZ:=Stb.len z1.eqf
      have e1:w64 (((A.length+20:Nat):Int)+20)=(((A++Z).length+20:Nat):Int):=by
        rw[Qa5 (by omega) (by omega)];simp;omega
      have e2:((A.length+20:Nat):Int)=(((A++Z).length:Nat):Int):=by simp;omega
      obtain⟨D,T,d1,d2,d3,d4,d5,d6⟩:=ih (A++Z) S2 (by omega) (by simp;omega) (fun z hz=>hS z (by rw[hSS];simp[hz]))
      refine⟨Z++D,T,by simp;omega,d2,d3,fun k=>?_,fun W hW sW=>?_,?_⟩
      · rw[List.append_assoc,Qfg,z1.eqf,d4,←Qfg,hSS]
      · rw[List.append_assoc]
        exact .cons (by omega) z1.srt (d5 W hW sW)
      · rw[hSS,←List.append_assoc A S1 S2,z2,Option.bind_some,e1,e2,d6]
        simp
    · rw[show decide (((A.length+20:Nat):Int)≤(len:Int))=false from decide_eq_false (by omega),cond_false]
      exact⟨[],S,by simp,by omega,hS,fun _=>rfl,fun Z hZ sZ=>.short (by simp;omega) sZ,by simp⟩
theorem Bl.two {bs:Nat}(h0:1≤bs) {S:List Qaa}(h:Bl bs S) (hl:bs<S.length):∃L R,S=L++R∧L.length=bs∧Srt L∧Bl bs R:=by
  cases h with
  |short h1 _=>omega
  |cons h1 h2 h3=>exact⟨_,_,rfl,h1,h2,h3⟩
theorem Bl.next {bs:Nat}(h0:1≤bs) {S:List Qaa}(h:Bl bs S) (hl:bs≤S.length):∃L R,S=L++R∧L.length=bs∧Srt L∧Bl bs R:=by
  rcases Nat.eq_or_lt_of_le hl with e |hlt
  · exact⟨S,[],by simp,e.symm,h.one (by omega),.short (Nat.zero_le _) Qq3⟩
  · exact h.two h0 hlt
theorem Qww (hlen:len≤1000) (hN:2*len<N) {bs:Nat}(h0:1≤bs) (hbs:bs≤1000) (K:List Qaa→Option (List Qaa)) :
    ∀(n:Nat) (A S:List Qaa),S.length<n→A.length+S.length=len→Qfw S→Bl bs S →
    ∃S',Bl (2*bs) S'∧(∀k,flt k S'=flt k S)∧Qbb N len len bs (fun ⟨y13,y14⟩=>
       bif (decide ((w64 (y13+(bs:Int)))<(len:Int))) then
        (Qax N len y13 (w64 (y13+(bs:Int))) len y14).bind fun x18=>K x18
       else K y14) n (A.length:Int) ((A.length+2*bs:Nat):Int) (A++S)=K (A++S'):=by
  intro n
  induction n with
  |zero=>intro A S h;exact absurd h (Nat.not_lt_zero _)
  |succ n ih=>
    intro A S hn hl hS hB
    rw[Qbb]
    have e0:w64 ((A.length:Int)+(bs:Int))=((A.length+bs:Nat):Int):=Qa5 (by omega) (by omega)
    have e9:w64 (2*(bs:Int))=((2*bs:Nat):Int):=by rw[Qa5 (by omega) (by omega)];omega
    by_cases hc:2*bs≤S.length
    · rw[show decide (((A.length+2*bs:Nat):Int)≤(len:Int))=true from decide_eq_true (by omega),cond_true,e0,e9]
      obtain⟨L,S1,hS1,l1,l2,l3⟩:=hB.next h0 (by omega)
      have q1:S.length=L.length+S1.length:=by rw[hS1];simp
      obtain⟨R,S2,hS2,r1,r2,r3⟩:=l3.next h0 (by omega)
      have q2:S1.length=R.length+S2.length:=by rw[hS2];simp
      have sS1:Qfw S1:=fun z hz=>hS z (by rw[hS1];simp[hz])
      obtain⟨Z,z1,z2⟩:=Q2f hlen N A L R S2 A.length (A.length+bs) (A.length+2*bs) rfl (by omega) (by omega) (by omega) (by omega) (by omega) l2 r2 (fun z hz=>hS z (by rw[hS1];simp[hz])) (fun z hz=>sS1 z (by rw[hS2];simp[hz])) (by omega)
      have hZ:=Stb.len z1.eqf
      simp only[List.length_append] at hZ
      have e1:w64 (((A.length+2*bs:Nat):Int)+((2*bs:Nat):Int))=(((A++Z).length+2*bs:Nat):Int):=by
        rw[Qa5 (by omega) (by omega)];simp;omega
      have e2:((A.length+2*bs:Nat):Int)=(((A++Z).length:Nat):Int):=by simp;omega
      obtain⟨S',s1,s2,s3⟩:=ih (A++Z) S2 (by omega) (by simp;omega) (fun z hz=>sS1 z (by rw[hS2];simp[hz])) r3
      refine⟨Z++S',.cons (by omega) z1.srt s1,fun k=>?_,?_⟩
      · rw[Qfg,z1.eqf,s2,←Qfg,hS1,hS2,List.append_assoc]
      · rw[hS1,hS2,show A++(L++(R++S2))=A++L++R++S2 from by simp,z2,Option.bind_some,e1,Option.bind_some,e2,s3]
        simp
    · rw[show decide (((A.length+2*bs:Nat):Int)≤(len:Int))=false from decide_eq_false (by omega),cond_false]
      simp only[e0]
      by_cases hc2:bs<S.length
      · rw[show decide (((A.length+bs:Nat):Int)<(len:Int))=true from decide_eq_true (by omega),cond_true]
        obtain⟨L,R,hS1,l1,l2,l3⟩:=hB.two h0 hc2
        have q1:S.length=L.length+R.length:=by rw[hS1];simp
        obtain⟨Z,z1,z2⟩:=Q2f hlen N A L R [] A.length (A.length+bs) len rfl (by omega) (by omega) (by simp) (by omega) (by omega) l2 (l3.one (by omega)) (fun z hz=>hS z (by rw[hS1];simp[hz])) (fun z hz=>hS z (by rw[hS1];simp[hz])) (by omega)
        have hZ:=Stb.len z1.eqf
        simp only[List.length_append] at hZ
        refine⟨Z,.short (by omega) z1.srt,fun k=>by rw[z1.eqf,hS1],?_⟩
        rw[hS1,show A++(L++R)=A++L++R++[] from by simp,z2,Option.bind_some,List.append_nil]
      · rw[show decide (((A.length+bs:Nat):Int)<(len:Int))=false from decide_eq_false (by omega),cond_false]
        exact⟨S,.short (by omega) (hB.one (by omega)),fun _=>rfl,rfl⟩
theorem Qxm (hlen:len≤1000) (hN:2*len<N):∀(n bs:Nat) (D:List Qaa),len-bs<n→1≤bs→bs≤1000→D.length=len→Qfw D→Bl bs D →
    ∃D',Srt D'∧(∀k,flt k D'=flt k D)∧Qam N len len n bs D=some D':=by
  intro n
  induction n with
  |zero=>intro bs D h;exact absurd h (Nat.not_lt_zero _)
  |succ n ih=>
    intro bs D hn h0 hbs hl hS hB
    rw[Qam]
    by_cases hc:bs<len
    · rw[show decide ((bs:Int)<(len:Int))=true from decide_eq_true (by omega),cond_true]
      have e1:w64 (2*(bs:Int))=((0+2*bs:Nat):Int):=by rw[Qa5 (by omega) (by omega)];omega
      have e2:w64 ((bs:Int)*2)=((2*bs:Nat):Int):=by rw[Qa5 (by omega) (by omega)];omega
      simp only[Qb5,e1,e2]
      obtain⟨S',s1,s2,s3⟩:=Qww (N:=N) hlen hN h0 hbs (fun x=>Qam N len len n ((2*bs:Nat):Int) x) N [] D (by omega) (by simpa using hl) hS hB
      simp only[List.length_nil,List.nil_append,show((0:Nat):Int)=0 from rfl] at s3
      have hS':=Stb.len s2
      by_cases hb2:2*bs≤1000
      · obtain⟨D',d1,d2,d3⟩:=ih (2*bs) S' (by omega) (by omega) hb2 (by omega) (Stb.small s2 hS) s1
        exact⟨D',d1,fun k=>(d2 k).trans (s2 k),s3.trans d3⟩
      · refine⟨S',s1.one (by omega),s2,s3.trans ?_⟩
        cases n with
        |zero=>omega
        |succ n=>
          rw[Qam,show decide (((2*bs:Nat):Int)<(len:Int))=false from decide_eq_false (by omega)]
          rfl
    · rw[show decide ((bs:Int)<(len:Int))=false from decide_eq_false (by omega),cond_false]
      exact⟨D,hB.one (by omega),fun _=>rfl,rfl⟩
end
theorem Q34 {N:Nat}{D:List Qaa}(hlen:D.length≤1000) (hN:2*D.length<N) (h20:1000<N) (hS:Qfw D):∃D',Stb D D'∧Qcf N D.length D=some D':=by
  unfold Qcf Qbk Qcj
  simp only[Qb5]
  obtain⟨A,T,d1,d2,d3,d4,d5,d6⟩:=Q1j (N:=N) (len:=D.length) hlen (by omega) (fun ⟨y2,y3⟩=>(Qa9 N D.length y2 D.length y3).bind fun x6=>Qam N D.length D.length N 20 x6) N [] D (by omega) (by simp) hS
  simp only[List.length_nil,List.nil_append,Nat.zero_add,show((0:Nat):Int)=0 from rfl,show((20:Nat):Int)=20 from rfl] at d6
  obtain⟨Z,z1,z2⟩:=Q2m (N:=N) (len:=D.length) A.length D.length A T [] rfl hlen (by omega) d3 (by omega) (by simp)
  rw[List.append_nil,List.append_nil] at z2
  have hZ:=Stb.len z1.eqf
  have hf:∀k,flt k (A++Z)=flt k D:=fun k=>by rw[Qfg,z1.eqf,←Qfg,d4]
  obtain⟨D',e1,e2,e3⟩:=Qxm (N:=N) (len:=D.length) hlen hN N 20 (A++Z) (by omega) (by omega) (by omega) (Stb.len hf) (Stb.small hf hS) (d5 Z hZ.symm z1.srt)
  refine⟨D',⟨e1,fun k=>(e2 k).trans (hf k)⟩,?_⟩
  rw[d6]
  simp only[z2,Option.bind_some]
  rw[show(20:Int)=((20:Nat):Int) from rfl,e3]
  rfl
end
section
def inl (us:List Qah) (p:Qaa):Nat:=((us.getD p.unit.toNat ⟨0,[]⟩).Inlet).toNat
def tk (us:List Qah) (r:Nat→Int) (p:Qaa):Int:=if minI r (inl us p)<p.Part.Width then minI r (inl us p) else p.Part.Width
def Qjo (r:Nat→Int) (c:Nat) (m:Int):Nat→Int:=fun k=>if k≤c then r k-m else r k
def gre (us:List Qah):List Qaa→(Nat→Int)→List (Qaa×Int)
 |[],_=>[]
 |p::l,r=>(p,tk us r p)::gre us l (Qjo r (inl us p) (tk us r p))
def greR (us:List Qah):List Qaa→(Nat→Int)→(Nat→Int)
 |[],r=>r
 |p::l,r=>greR us l (Qjo r (inl us p) (tk us r p))
def Qk8:List (Qaa×Int)→Nat→Int
 |[],_=>0
 |q::T,i=>(if q.1.unit.toNat=i then q.2 else 0)+Qk8 T i
def nxt:List (Qaa×Int)→Nat→Int
 |[],_=>-1
 |q::T,i=>if q.1.unit.toNat=i∧q.2<q.1.Part.Width then q.1.Part.Gain else nxt T i
def useT (us:List Qah):List (Qaa×Int)→Nat→Int
 |[],_=>0
 |q::T,k=>(if k≤inl us q.1 then q.2 else 0)+useT us T k
def Wide (l:List Qaa):Prop:=∀p∈l,1≤p.Part.Width
section
variable {us : List Qah}
theorem Qtu {r:Nat→Int}{p:Qaa}(hr:∀k,0≤r k) (hw:1≤p.Part.Width):0≤tk us r p∧tk us r p≤p.Part.Width∧∀k,k≤inl us p→tk us r p≤r k:=by
 obtain⟨j,_,j2⟩:=Qom r (inl us p)
 have h0:=hr j
 unfold tk
 refine⟨by split<;>omega,by split<;>omega,fun k hk=>?_⟩
 have:=Qw7 r (inl us p) k hk
 split<;>omega
theorem Qli {r:Nat→Int}{p:Qaa}(hr:∀k,0≤r k) (hw:1≤p.Part.Width):∀k,0≤Qjo r (inl us p) (tk us r p) k:=by
 intro k
 have h:=Qtu (us:=us) hr hw
 have:=hr k
 unfold Qjo
 split
 ·next hk=>have:=h.2.2 k hk;omega
 ·exact this
theorem Qxf {r:Nat→Int}{p:Qaa}(hr:∀k,0≤r k) (hw:1≤p.Part.Width):∀k,Qjo r (inl us p) (tk us r p) k≤r k:=by
 intro k
 have h:=Qtu (us:=us) hr hw
 unfold Qjo
 split<;>omega
theorem Qot:∀(l:List Qaa) (r:Nat→Int),Wide l→(∀k,0≤r k)→∀k,0≤greR us l r k∧greR us l r k≤r k
 |[],r,_,hr,k=>⟨hr k,Int.le_refl _⟩
 |p::l,r,hw,hr,k=>by
  have hp:=hw p (List.mem_cons_self ..)
  have ih:=Qot l _ (fun q hq=>hw q (List.mem_cons_of_mem _ hq)) (Qli (us:=us) hr hp) k
  have:=Qxf (us:=us) hr hp k
  exact⟨ih.1,Int.le_trans ih.2 this⟩
theorem Qkt:∀(l:List Qaa) (r:Nat→Int),Wide l→(∀k,0≤r k)→∀q∈gre us l r,q.1∈l∧0≤q.2∧q.2≤q.1.Part.Width
 |[],_,_,_,q,h=>by cases h
 |p::l,r,hw,hr,q,h=>by
  have hp:=hw p (List.mem_cons_self ..)
  rw[gre] at h
  rcases List.mem_cons.1 h with rfl |h
  ·have:=Qtu (us:=us) hr hp
   exact⟨List.mem_cons_self ..,this.1,this.2.1⟩
  ·have:=Qkt l _ (fun q hq=>hw q (List.mem_cons_of_mem _ hq)) (Qli (us:=us) hr hp) q h
   exact⟨List.mem_cons_of_mem _ this.1,this.2⟩
theorem Qos:∀(l:List Qaa) (r:Nat→Int) (k:Nat),greR us l r k=r k-useT us (gre us l r) k
 |[],r,k=>by simp[greR,gre,useT]
 |p::l,r,k=>by
  rw[greR,gre,useT,Qos l]
  dsimp only
  rw[show Qjo r (inl us p) (tk us r p) k=if k≤inl us p then r k-tk us r p else r k from rfl]
  split<;>omega
theorem Qoq:∀(l:List Qaa) (r:Nat→Int) (k:Nat),Wide l→(∀k,0≤r k)→r k=0→greR us l r k=0∧∀q∈gre us l r,k≤inl us q.1→q.2=0
 |[],r,k,_,_,h=>⟨h,fun q hq=>by cases hq⟩
 |p::l,r,k,hw,hr,h=>by
  have hp:=hw p (List.mem_cons_self ..)
  have hl:=Qli (us:=us) hr hp k
  have hl2:=Qxf (us:=us) hr hp k
  have ih:=Qoq l _ k (fun q hq=>hw q (List.mem_cons_of_mem _ hq)) (Qli (us:=us) hr hp) (by omega)
  refine⟨ih.1,fun q hq hk=>?_⟩
  rw[gre] at hq
  rcases List.mem_cons.1 hq with rfl |hq
  ·have:=Qtu (us:=us) hr hp
   have:=this.2.2 k hk
   dsimp only
   omega
  ·exact ih.2 q hq hk
theorem Qsi {r:Nat→Int}{p:Qaa}(hw:tk us r p<p.Part.Width):∃k,k≤inl us p∧Qjo r (inl us p) (tk us r p) k=0:=by
 obtain⟨j,j1,j2⟩:=Qom r (inl us p)
 refine⟨j,j1,?_⟩
 unfold Qjo
 rw[if_pos j1]
 unfold tk at hw ⊢
 split at hw
 ·next h=>rw[if_pos h];omega
 ·next h=>omega
theorem Qoj:∀{T:List (Qaa×Int)}{i:Nat},nxt T i=-1∨∃q∈T,q.1.unit.toNat=i∧nxt T i=q.1.Part.Gain
 |[],_=>Or.inl rfl
 |q::T,i=>by
  rw[nxt]
  split
  ·next h=>exact Or.inr ⟨q,List.mem_cons_self ..,h.1,rfl⟩
  ·rcases Qoj (T:=T) (i:=i) with h |⟨p,h1,h2⟩
   ·exact Or.inl h
   ·exact Or.inr ⟨p,List.mem_cons_of_mem _ h1,h2⟩
def inlN (us:List Qah) (i:Nat):Nat:=((us.getD i ⟨0,[]⟩).Inlet).toNat
theorem Qor:∀(l:List Qaa) (r:Nat→Int) (i:Nat),Wide l→Srt l→(∀k,0≤r k)→(∀p∈l,0≤p.Part.Gain)→0≤nxt (gre us l r) i →
  ∃z,z≤inlN us i∧greR us l r z=0∧∀q∈gre us l r,0<q.2→q.1.Part.Gain<nxt (gre us l r) i→inl us q.1<z
 |[],_,_,_,_,_,_,h=>by simp[gre,nxt] at h
 |p::l,r,i,hw,hs,hr,hg,h=>by
  have hp:=hw p (List.mem_cons_self ..)
  have hw':Wide l:=fun q hq=>hw q (List.mem_cons_of_mem _ hq)
  have hs':=List.pairwise_cons.1 hs
  have hnn:=Qli (us:=us) hr hp
  rw[gre,nxt] at h
  rw[gre,greR]
  by_cases hc:p.unit.toNat=i∧tk us r p<p.Part.Width
  ·obtain⟨z,z1,z2⟩:=Qsi hc.2
   have hz:=Qoq (us:=us) l _ z hw' hnn z2
   refine⟨z,?_,hz.1,fun q hq hq0 hqg=>?_⟩
   ·have e:inl us p=inlN us i:=by unfold inl inlN;rw[hc.1]
    omega
   ·rw[nxt,if_pos hc] at hqg
    rcases List.mem_cons.1 hq with rfl |hq
    ·exact absurd hqg (Int.lt_irrefl _)
    ·rcases Nat.lt_or_ge (inl us q.1) z with h' |h'
     ·exact h'
     ·have:=hz.2 q hq h'
      omega
  ·rw[if_neg hc] at h
   obtain⟨z,z1,z2,z3⟩:=Qor l _ i hw' hs'.2 hnn (fun q hq=>hg q (List.mem_cons_of_mem _ hq)) h
   refine⟨z,z1,z2,fun q hq hq0 hqg=>?_⟩
   rw[nxt,if_neg hc] at hqg
   rcases List.mem_cons.1 hq with rfl |hq
   ·exfalso
    rcases Qoj (T:=gre us l (Qjo r (inl us p) (tk us r p))) (i:=i) with e |⟨q',q1,q2,q3⟩
    ·omega
    ·have hm:=(Qkt (us:=us) l _ hw' hnn q' q1).1
     have:=hs'.1 q'.1 hm
     unfold keyP at this
     dsimp only at hqg
     omega
   ·exact z3 q hq hq0 hqg
theorem Qsn:∀(l:List Qaa) (r:Nat→Int),Wide l→Srt l→(∀k,0≤r k)→∀q∈gre us l r,q.2<q.1.Part.Width→q.1.Part.Gain≤nxt (gre us l r) q.1.unit.toNat
 |[],_,_,_,_,q,h,_=>by cases h
 |p::l,r,hw,hs,hr,q,hq,hlt=>by
  have hp:=hw p (List.mem_cons_self ..)
  have hw':Wide l:=fun q hq=>hw q (List.mem_cons_of_mem _ hq)
  have hs':=List.pairwise_cons.1 hs
  have hnn:=Qli (us:=us) hr hp
  rw[gre,nxt]
  dsimp only
  rw[gre] at hq
  rcases List.mem_cons.1 hq with rfl |hq
  ·rw[if_pos ⟨rfl,hlt⟩]
   exact Int.le_refl _
  ·by_cases hc:p.unit.toNat=q.1.unit.toNat∧tk us r p<p.Part.Width
   ·rw[if_pos hc]
    have:=hs'.1 q.1 (Qkt (us:=us) l _ hw' hnn q hq).1
    unfold keyP at this
    omega
   ·rw[if_neg hc]
    exact Qsn l _ hw' hs'.2 hnn q hq hlt
def Fill:List (Qa8×Int)→Prop
 |[]=>True
 |q::l=>(0≤q.2∧q.2≤q.1.Width∧(q.2<q.1.Width→∀x∈l,x.2=0))∧Fill l
def sumM:List (Qa8×Int)→Int
 |[]=>0
 |q::l=>q.2+sumM l
def sumG:List (Qa8×Int)→Int
 |[]=>0
 |q::l=>q.2*q.1.Gain+sumG l
theorem Qoi:∀(l:List Qa8),(∀q∈l,1≤q.Width)→powI l 0=0
 |[],_=>rfl
 |q::l,h=>by
  have h1:=h q (List.mem_cons_self ..)
  rw[powI,Int.min_eq_left (by omega),Int.zero_mul,Int.sub_self,Qoi l fun x hx=>h x (List.mem_cons_of_mem _ hx)]
  rfl
theorem Qr9:∀(l:List (Qa8×Int)),(∀x∈l,x.2=0)→sumM l=0∧sumG l=0
 |[],_=>⟨rfl,rfl⟩
 |q::l,h=>by
  have h1:=h q (List.mem_cons_self ..)
  have h2:=Qr9 l fun x hx=>h x (List.mem_cons_of_mem _ hx)
  rw[sumM,sumG,h1,h2.1,h2.2]
  simp
theorem Qwh:∀(l:List (Qa8×Int)),Fill l→0≤sumM l
 |[],_=>Int.le_refl _
 |q::l,h=>by
  have:=Qwh l h.2
  have:=h.1.1
  rw[sumM]
  omega
theorem Qst:∀(l:List (Qa8×Int)),Fill l→(∀q∈l,1≤q.1.Width)→powI (l.map (·.1)) (sumM l)=sumG l
 |[],_,_=>rfl
 |q::l,h,hw=>by
  have hw':=fun x hx=>hw x (List.mem_cons_of_mem _ hx)
  have hn:=Qwh l h.2
  rw[List.map_cons,powI,sumM,sumG]
  rcases Int.lt_or_le q.2 q.1.Width with hlt |hge
  ·have hz:=Qr9 l (h.1.2.2 hlt)
   rw[hz.1,hz.2,Int.add_zero,Int.min_eq_left (by omega),Int.sub_self,Qoi _ fun x hx=>by
    obtain⟨y,hy,rfl⟩:=List.mem_map.1 hx
    exact hw' y hy]
  ·have e:q.2=q.1.Width:=by have:=h.1.2.1;omega
   rw[e,Int.min_eq_right (by omega),show q.1.Width+sumM l-q.1.Width=sumM l from by omega,Qst l h.2 hw']
def recU (T:List (Qaa×Int)) (i:Nat):List (Qa8×Int):=(T.filter fun q=>decide (q.1.unit.toNat=i)).map fun q=>(q.1.Part,q.2)
theorem Qls:∀(T:List (Qaa×Int)) (i:Nat),sumM (recU T i)=Qk8 T i
 |[],_=>rfl
 |q::T,i=>by
  have ih:=Qls T i
  unfold recU at ih ⊢
  rw[List.filter_cons,Qk8]
  by_cases h:q.1.unit.toNat=i
  ·rw[if_pos (by simpa using h),List.map_cons,sumM,ih,if_pos h]
  ·rw[if_neg (by simpa using h),ih,if_neg h,Int.zero_add]
theorem Qso:∀(l:List Qaa) (r:Nat→Int) (i:Nat),Wide l→(∀k,0≤r k)→Fill (recU (gre us l r) i)
 |[],_,_,_,_=>trivial
 |p::l,r,i,hw,hr=>by
  have hp:=hw p (List.mem_cons_self ..)
  have hw':Wide l:=fun q hq=>hw q (List.mem_cons_of_mem _ hq)
  have hnn:=Qli (us:=us) hr hp
  have ih:=Qso l _ i hw' hnn
  have hb:=Qtu (us:=us) hr hp
  unfold recU at ih ⊢
  rw[gre,List.filter_cons]
  by_cases h:p.unit.toNat=i
  ·rw[if_pos (by simpa using h),List.map_cons]
   refine⟨⟨hb.1,hb.2.1,fun hlt x hx=>?_⟩,ih⟩
   obtain⟨z,z1,z2⟩:=Qsi hlt
   obtain⟨q,hq,rfl⟩:=List.mem_map.1 hx
   have hq':=List.mem_filter.1 hq
   have hi:q.1.unit.toNat=i:=by simpa using hq'.2
   exact(Qoq (us:=us) l _ z hw' hnn z2).2 q hq'.1 (by
    have:inl us q.1=inl us p:=by unfold inl;rw[hi,h]
    omega)
  ·rw[if_neg (by simpa using h)]
   exact ih
theorem Qxn:∀(l:List Qaa) (r:Nat→Int),(gre us l r).map (·.1)=l
 |[],_=>rfl
 |p::l,r=>by rw[gre,List.map_cons,Qxn l]
theorem Qzw (T:List (Qaa×Int)) (i:Nat):(recU T i).map (·.1)=((T.map (·.1)).filter fun p=>decide (p.unit.toNat=i)).map (·.Part):=by
 unfold recU
 rw[List.map_map,List.filter_map,List.map_map]
 rfl
theorem Qsb:∀{xs ys:List Qaa},Srt xs→Srt ys→(∀k,flt k xs=flt k ys)→xs=ys
 |[],ys,_,_,h=>by
  have:=Stb.len (xs:=ys) (ys:=[]) h
  exact(List.eq_nil_of_length_eq_zero this.symm).symm
 |x::xs,[],_,_,h=>by
  have:=Stb.len (xs:=[]) (ys:=x::xs) h
  simp at this
 |x::xs,y::ys,hx,hy,h=>by
  have hx':=List.pairwise_cons.1 hx
  have hy':=List.pairwise_cons.1 hy
  have hxm:x∈y::ys:=(Stb.mem h).1 (List.mem_cons_self ..)
  have hym:y∈x::xs:=(Stb.mem h).2 (List.mem_cons_self ..)
  have h1:keyP y≤keyP x:=by
   rcases List.mem_cons.1 hxm with e |e
   ·rw[e];exact Int.le_refl _
   ·exact hy'.1 x e
  have h2:keyP x≤keyP y:=by
   rcases List.mem_cons.1 hym with e |e
   ·rw[e];exact Int.le_refl _
   ·exact hx'.1 y e
  have hk:keyP x=keyP y:=by omega
  have hh:=h (keyP x)
  unfold flt at hh
  rw[List.filter_cons,List.filter_cons,if_pos (by simp),if_pos (by simp[hk])] at hh
  have e:=(List.cons.inj hh).1
  subst e
  refine congrArg (List.cons x) (Qsb hx'.2 hy'.2 fun k=>?_)
  have hh:=h k
  unfold flt at hh ⊢
  rw[List.filter_cons,List.filter_cons] at hh
  split at hh
  ·exact(List.cons.inj hh).2
  ·exact hh
theorem Qtx {xs:List Qaa}(h:Srt xs) (f:Qaa→Bool):Srt (xs.filter f):=List.Pairwise.filter _ h
theorem Qnm (k:Int) (f:Qaa→Bool) (xs:List Qaa):flt k (xs.filter f)=(flt k xs).filter f:=by
 unfold flt
 rw[List.filter_filter,List.filter_filter]
 congr 1
 funext a
 exact Bool.and_comm _ _
theorem Qrg {xs ys:List Qaa}(hy:Stb xs ys) (f:Qaa→Bool) (hx:Srt (xs.filter f)):ys.filter f=xs.filter f:=
 Qsb (Qtx hy.srt f) hx fun k=>by rw[Qnm,Qnm,hy.eqf]
end
def Qff:Nat→List Qah→List Qaa
 |_,[]=>[]
 |i,u::us=>u.Parts.map (fun q=>(⟨(i:Int),q⟩:Qaa))++Qff (i+1) us
theorem Qib:∀(us:List Qah) (i0:Nat),∀p∈Qff i0 us,∃i u,us[i]? = some u∧p.unit=((i0+i:Nat):Int)∧p.Part∈u.Parts
 |[],_,p,h=>by cases h
 |u::us,i0,p,h=>by
  rw[Qff] at h
  rcases List.mem_append.1 h with h |h
  ·obtain⟨q,hq,rfl⟩:=List.mem_map.1 h
   exact⟨0,u,rfl,rfl,hq⟩
  ·obtain⟨i,u',h1,h2,h3⟩:=Qib us (i0+1) p h
   exact⟨i+1,u',by simpa using h1,by rw[h2];omega,h3⟩
theorem Qkm:∀(us:List Qah) (i0 i:Nat) (u:Qah),us[i]? = some u→(Qff i0 us).filter (fun p=>decide (p.unit.toNat=i0+i))=u.Parts.map (fun q=>(⟨((i0+i:Nat):Int),q⟩:Qaa))
 |[],_,_,_,h=>by simp at h
 |v::us,i0,0,u,h=>by
  simp at h
  subst h
  rw[Qff,List.filter_append]
  have h1:(v.Parts.map fun q=>(⟨(i0:Int),q⟩:Qaa)).filter (fun p=>decide (p.unit.toNat=i0+0))=v.Parts.map fun q=>(⟨(i0:Int),q⟩:Qaa):=by
   rw[List.filter_eq_self]
   intro p hp
   obtain⟨q,_,rfl⟩:=List.mem_map.1 hp
   simp
  have h2:(Qff (i0+1) us).filter (fun p=>decide (p.unit.toNat=i0+0))=[]:=by
   rw[List.filter_eq_nil_iff]
   intro p hp
   obtain⟨j,_,_,h2,_⟩:=Qib us (i0+1) p hp
   rw[h2]
   simp
   omega
  rw[h1,h2,List.append_nil]
  rfl
 |v::us,i0,i+1,u,h=>by
  rw[Qff,List.filter_append]
  have h1:(v.Parts.map fun q=>(⟨(i0:Int),q⟩:Qaa)).filter (fun p=>decide (p.unit.toNat=i0+(i+1)))=[]:=by
   rw[List.filter_eq_nil_iff]
   intro p hp
   obtain⟨q,_,rfl⟩:=List.mem_map.1 hp
   simp
  have ih:=Qkm us (i0+1) i u (by simpa using h)
  rw[h1,List.nil_append,show i0+(i+1)=i0+1+i from by omega,ih]
theorem Qsv:∀(l:List Qa8) (last:Int) (i:Int),Qif last l=true→Srt (l.map fun q=>(⟨i,q⟩:Qaa))∧∀q∈l,q.Gain≤last
 |[],_,_,_=>⟨Qq3,fun _ h=>by cases h⟩
 |q::l,last,i,h=>by
  simp only[Qif,Bool.and_eq_true,Qc1] at h
  have ih:=Qsv l q.Gain i h.2
  refine⟨List.pairwise_cons.2 ⟨fun p hp=>?_,ih.1⟩,fun x hx=>?_⟩
  ·obtain⟨y,hy,rfl⟩:=List.mem_map.1 hp
   have:=ih.2 y hy
   unfold keyP
   dsimp only
   omega
  ·rcases List.mem_cons.1 hx with rfl |hx
   ·exact h.1.1.2
   ·have:=ih.2 x hx
    have:=h.1.1.2
    omega
end
section
def wF (f:Nat→Int):List Qah→Nat→Int
 |[],_=>0
 |u::us,i=>powI u.Parts (f i)+wF f us (i+1)
def uF (f:Nat→Int) (k:Nat):List Qah→Nat→Int
 |[],_=>0
 |u::us,i=>(if (k:Int)≤u.Inlet then f i else 0)+uF f k us (i+1)
theorem Q3s (f:Nat→Int):∀(us:List Qah) (i:Nat),Qgd us ((List.range' i us.length).map f)=wF f us i
 |[],_=>rfl
 |u::us,i=>by rw[List.length_cons,List.range'_succ,List.map_cons,Qgd,wF,Q3s f us]
theorem Q3v (f:Nat→Int) (k:Nat):∀(us:List Qah) (i:Nat),useI us ((List.range' i us.length).map f) k=uF f k us i
 |[],_=>rfl
 |u::us,i=>by rw[List.length_cons,List.range'_succ,List.map_cons,useI,uF,Q3v f k us]
theorem Q2e (f g:Nat→Int) (k:Nat):∀(us:List Qah) (i:Nat),uF (fun j=>f j+g j) k us i=uF f k us i+uF g k us i
 |[],_=>rfl
 |u::us,i=>by
  rw[uF,uF,uF,Q2e f g k us]
  split<;>omega
theorem Q2d (k:Nat) (j:Nat) (m:Int):∀(us:List Qah) (i:Nat),(j<i∨i+us.length≤j)→uF (fun l=>if j=l then m else 0) k us i=0
 |[],_,_=>rfl
 |u::us,i,h=>by
  rw[uF,Q2d k j m us (i+1) (by simp at h;omega),if_neg (show ¬j=i from by simp at h;omega)]
  split<;>rfl
theorem Q57 (k:Nat) (j:Nat) (m:Int):∀(us:List Qah) (i:Nat) (u:Qah),i≤j→us[j-i]? = some u→uF (fun l=>if j=l then m else 0) k us i=if (k:Int)≤u.Inlet then m else 0
 |[],_,_,_,h=>by simp at h
 |v::us,i,u,hi,h=>by
  rw[uF]
  rcases Nat.eq_or_lt_of_le hi with rfl |hlt
  ·rw[Nat.sub_self] at h
   simp at h
   subst h
   rw[Q2d k i m us (i+1) (Or.inl (Nat.lt_succ_self _)),if_pos rfl,Int.add_zero]
  ·rw[if_neg (show ¬j=i from by omega)]
   have h':us[j-(i+1)]? = some u:=by
    rw[show j-i=(j-(i+1))+1 from by omega] at h
    simpa using h
   rw[Q57 k j m us (i+1) u hlt h']
   split<;>simp
def InU (us:List Qah) (T:List (Qaa×Int)):Prop:=∀q∈T,∃u,us[q.1.unit.toNat]? = some u∧0≤u.Inlet
theorem Q3t (us:List Qah) (k:Nat):∀(T:List (Qaa×Int)),InU us T→uF (Qk8 T) k us 0=useT us T k
 |[],_=>by
  have:∀(us:List Qah) (i:Nat),uF (Qk8 []) k us i=0:=by
   intro us
   induction us with
   |nil=>intro i;rfl
   |cons u us ih=>intro i;rw[uF,ih];split<;>rfl
  exact this us 0
 |q::T,h=>by
  obtain⟨u,h1,h2⟩:=h q (List.mem_cons_self ..)
  have ih:=Q3t us k T fun x hx=>h x (List.mem_cons_of_mem _ hx)
  have e:Qk8 (q::T)=fun j=>(if q.1.unit.toNat=j then q.2 else 0)+Qk8 T j:=by funext j;rfl
  rw[e,Q2e,Q57 k q.1.unit.toNat q.2 us 0 u (Nat.zero_le _) (by simpa using h1),ih,useT]
  have hin:inl us q.1=u.Inlet.toNat:=by unfold inl;rw[List.getD_eq_getElem?_getD,h1];rfl
  rw[hin]
  by_cases hc:(k:Int)≤u.Inlet
  ·rw[if_pos hc,if_pos (by omega)]
  ·rw[if_neg hc,if_neg (by omega)]
def hS (F:Nat→Int) (p:List Int):Nat→Nat→Int
 |0,_=>0
 |n+1,k=>p.getD k 0*F k+hS F p n (k+1)
theorem Qoo (h p:List Int):∀(n k:Nat),Qsm h p n k=hS (fro h) p n k
 |0,_=>rfl
 |n+1,k=>by rw[Qsm,hS,Qoo h p n]
theorem Q2p (F G:Nat→Int) (p:List Int):∀(n k:Nat),hS (fun i=>F i+G i) p n k=hS F p n k+hS G p n k
 |0,_=>rfl
 |n+1,k=>by rw[hS,hS,hS,Q2p F G p n,Int.mul_add];omega
theorem Q2o {F G:Nat→Int}{p:List Int}:∀(n k:Nat),(∀i,k≤i→i<k+n→p.getD i 0*F i=p.getD i 0*G i)→hS F p n k=hS G p n k
 |0,_,_=>rfl
 |n+1,k,h=>by
  rw[hS,hS,h k (Nat.le_refl _) (by omega),Q2o n (k+1) fun i h1 h2=>h i (by omega) (by omega)]
theorem Q6p {F G:Nat→Int}{p:List Int}:∀(n k:Nat),(∀i,k≤i→i<k+n→p.getD i 0*F i≤p.getD i 0*G i)→hS F p n k≤hS G p n k
 |0,_,_=>Int.le_refl _
 |n+1,k,h=>by
  have h1:=h k (Nat.le_refl _) (by omega)
  have h2:=Q6p n (k+1) fun i h1 h2=>h i (by omega) (by omega)
  rw[hS,hS]
  omega
theorem Q2n (p:List Int) (m:Int) (c:Int):∀(n k:Nat),k+n=p.length→c<p.length→hS (fun i=>if (i:Int)≤c then m else 0) p n k=m*((p.drop k).take (c+1-k).toNat).sum
 |0,k,hk,hc=>by
  rw[show(c+1-(k:Int)).toNat=0 from by omega]
  simp[hS]
 |n+1,k,hk,hc=>by
  obtain⟨x,hx⟩:∃x,p[k]? = some x:=⟨_,List.getElem?_eq_getElem (by omega)⟩
  have hxd:p.getD k 0=x:=by rw[List.getD_eq_getElem?_getD,hx];rfl
  rw[hS,Q2n p m c n (k+1) (by omega) hc,hxd,Qg6 hx]
  by_cases h:(k:Int)≤c
  ·rw[if_pos h,show(c+1-(k:Int)).toNat=(c+1-((k+1:Nat):Int)).toNat+1 from by omega,List.take_succ_cons,List.sum_cons,Int.mul_add,Int.mul_comm x m]
  ·rw[if_neg h,show(c+1-(k:Int)).toNat=0 from by omega,show(c+1-((k+1:Nat):Int)).toNat=0 from by omega]
   simp
def dF (f:Nat→Int) (p:List Int):List Qah→Nat→Int
 |[],_=>0
 |u::us,i=>f i*cum p u.Inlet.toNat+dF f p us (i+1)
theorem Qxl (f:Nat→Int) (p:List Int):∀(us:List Qah) (i:Nat),(∀u∈us,0≤u.Inlet∧u.Inlet<p.length)→hS (fun k=>uF f k us i) p p.length 0=dF f p us i
 |[],_,_=>by
  have:∀n k,hS (fun _=>0) p n k=0:=by
   intro n
   induction n with
   |zero=>intro k;rfl
   |succ n ih=>intro k;rw[hS,ih];simp
  exact this _ _
 |u::us,i,h=>by
  have hu:=h u (List.mem_cons_self ..)
  have e:(fun k=>uF f k (u::us) i)=fun k:Nat=>(if (k:Int)≤u.Inlet then f i else 0)+uF f k us (i+1):=by funext k;rfl
  rw[e,Q2p,Qxl f p us (i+1) (fun x hx=>h x (List.mem_cons_of_mem _ hx)),Q2n p (f i) u.Inlet p.length 0 (by omega) hu.2,dF]
  unfold cum
  rw[List.drop_zero,show(u.Inlet+1-((0:Nat):Int)).toNat=u.Inlet.toNat+1 from by omega]
theorem Q2k {c:Int}(c0:0≤c):∀(l:List Qa8) (m:Int),0≤m→(∀q∈l,1≤q.Width∧0≤q.Gain)→powI l m≤Qkn c l+m*c
 |[],m,m0,_=>by
  have:=Int.mul_nonneg m0 c0
  simp only[powI,Qkn]
  omega
 |q::l,m,m0,h=>by
  have hq:=h q (List.mem_cons_self ..)
  have ih:=Q2k c0 l (m-min m q.Width) (by omega) fun x hx=>h x (List.mem_cons_of_mem _ hx)
  rw[powI,Qkn]
  generalize hx:min m q.Width=x at ih ⊢
  have x0:0≤x:=by omega
  have x1:x≤q.Width:=by omega
  have e:(m-x)*c=m*c-x*c:=Int.sub_mul ..
  have key:x*q.Gain≤q.Width*(if q.Gain-c>0 then q.Gain-c else 0)+x*c:=by
   split
   ·next hg=>
    have h1:x*(q.Gain-c)≤q.Width*(q.Gain-c):=Int.mul_le_mul_of_nonneg_right x1 (by omega)
    have h2:x*(q.Gain-c)=x*q.Gain-x*c:=Int.mul_sub ..
    omega
   ·next hg=>
    have h1:x*q.Gain≤x*c:=Int.mul_le_mul_of_nonneg_left (by omega) x0
    simp only[Int.mul_zero]
    omega
  omega
theorem Qm8 {p:List Int}(hc:∀k,0≤cum p k) (f:Nat→Int) (hf:∀i,0≤f i):∀(us:List Qah) (i:Nat),(∀u∈us,Qhi u=true)→wF f us i≤Qm9 p us+dF f p us i
 |[],_,_=>Int.le_refl _
 |u::us,i,hu=>by
  have h1:=Qm8 hc f hf us (i+1) fun x hx=>hu x (List.mem_cons_of_mem _ hx)
  have h2:=Q2k (hc u.Inlet.toNat) u.Parts (f i) (hf i) fun q hq=>by
   have:=Qoh (hu u (List.mem_cons_self ..)) q hq
   exact⟨this.1.1,this.2.1⟩
  rw[wF,Qm9,dF]
  omega
theorem Qz6 {α:Type}(l:List α) (d:α):l=(List.range' 0 l.length).map fun i=>l.getD i d:=by
 have:=Qq4 l d
 unfold rw' at this
 rw[←List.range_eq_range']
 exact this.symm
theorem Qwv {h p:List Int}(hp:Qlf h p=true) (i:Nat):0≤p.getD i 0:=by
 obtain⟨_,h2⟩:=Qpt hp
 rw[List.getD_eq_getElem?_getD]
 cases hi:p[i]? with
 |none=>simp
 |some x=>exact(h2 x (List.mem_of_getElem? hi)).1
theorem Ql4 {h p:List Int}{us:List Qah}{ms:List Int}(hk:ShOK h us) (hp:Qlf h p=true) (hs:Qij h us ms=true):Qgd us ms≤Qqg h us p:=by
 obtain⟨p1,p2⟩:=Qpt hp
 unfold Qij at hs
 simp only[Bool.and_eq_true,decide_eq_true_eq,List.all_eq_true,List.mem_range] at hs
 obtain⟨⟨s1,s2⟩,s3⟩:=hs
 have hm:=Qmr hk.ub s1 s2
 have e:=Qz6 ms 0
 rw[s1] at e
 have hf:∀i,0≤ms.getD i 0:=fun i=>by
  rw[List.getD_eq_getElem?_getD]
  cases hi:ms[i]? with
  |none=>simp
  |some x=>exact(hm x (List.mem_of_getElem? hi)).1
 have h6:=hk.h1
 have hc:=fun k=>(Q6t p2 (by omega) k).1
 have h1:=Qm8 hc (fun i=>ms.getD i 0) hf us 0 hk.ub
 have h2:=Qxl (fun i=>ms.getD i 0) p us 0 (fun u hu=>by have:=hk.inl u hu;omega)
 have h3:hS (fun k=>uF (fun i=>ms.getD i 0) k us 0) p p.length 0≤hS (fro h) p p.length 0:=Q6p _ _ fun i _ hi=>by
  have h4:=s3 i (by omega)
  have e':useI us ms i=uF (fun i=>ms.getD i 0) i us 0:=by
   have:=Q3v (fun i=>ms.getD i 0) i us 0
   rw[←this,←e]
  rw[e'] at h4
  exact Int.mul_le_mul_of_nonneg_left h4 (Qwv hp i)
 unfold Qqg
 rw[Qoo,←p1]
 have h5:Qgd us ms=wF (fun i=>ms.getD i 0) us 0:=by
  have:=Q3s (fun i=>ms.getD i 0) us 0
  rw[←this,←e]
 rw[h5]
 omega
theorem Qp8 {c:Int}:∀(l:List (Qa8×Int)),(∀q∈l,(c<q.1.Gain→q.2=q.1.Width)∧(0<q.2→c≤q.1.Gain)∧0≤q.2)→Qkn c (l.map (·.1))+sumM l*c=sumG l
 |[],_=>by simp[Qkn,sumM,sumG]
 |q::l,h=>by
  have ih:=Qp8 l fun x hx=>h x (List.mem_cons_of_mem _ hx)
  obtain⟨h1,h2,h3⟩:=h q (List.mem_cons_self ..)
  rw[List.map_cons,Qkn,sumM,sumG,Int.add_mul]
  have key:q.1.Width*(if q.1.Gain-c>0 then q.1.Gain-c else 0)+q.2*c=q.2*q.1.Gain:=by
   split
   ·next hg=>
    rw[h1 (by omega),Int.mul_sub]
    omega
   ·next hg=>
    rw[Int.mul_zero,Int.zero_add]
    rcases Int.lt_or_le 0 q.2 with h4 |h4
    ·rw[show c=q.1.Gain from by have:=h2 h4;omega]
    ·rw[show q.2=0 from by omega,Int.zero_mul,Int.zero_mul]
  omega
theorem Qsu:∀(l:List (Qa8×Int)),(∀q∈l,0≤q.2∧q.2≤q.1.Width)→0≤sumM l∧sumM l≤capI (l.map (·.1))
 |[],_=>⟨Int.le_refl _,Int.le_refl _⟩
 |q::l,h=>by
  have ih:=Qsu l fun x hx=>h x (List.mem_cons_of_mem _ hx)
  have:=h q (List.mem_cons_self ..)
  rw[List.map_cons,sumM,capI]
  omega
theorem Qog {T:List (Qaa×Int)}{i:Nat}{x:Qa8×Int}(h:x∈recU T i):∃q∈T,q.1.unit.toNat=i∧x=(q.1.Part,q.2):=by
 unfold recU at h
 obtain⟨q,hq,rfl⟩:=List.mem_map.1 h
 have:=List.mem_filter.1 hq
 exact⟨q,this.1,by simpa using this.2,rfl⟩
section
variable {h : List Int} {us : List Qah} {D : List Qaa}
structure DOK (h:List Int) (us:List Qah) (D:List Qaa):Prop where
 k:ShOK h us
 st:Stb (Qff 0 us) D
theorem DOK.mem (hd:DOK h us D) {p:Qaa}(hp:p∈D):∃(i:Nat) (u:Qah),us[i]? = some u∧p.unit=(i:Int)∧p.Part∈u.Parts:=by
 obtain⟨i,u,h1,h2,h3⟩:=Qib us 0 p ((Stb.mem hd.st.eqf).1 hp)
 exact⟨i,u,h1,by simpa using h2,h3⟩
theorem DOK.prt (hd:DOK h us D) {p:Qaa}(hp:p∈D):(1≤p.Part.Width∧p.Part.Width≤100000)∧0≤p.Part.Gain∧p.Part.Gain≤1000:=by
 obtain⟨i,u,h1,_,h3⟩:=hd.mem hp
 exact Qoh (hd.k.ub u (List.mem_of_getElem? h1)) p.Part h3
theorem DOK.wide (hd:DOK h us D):Wide D:=fun _ hp=>(hd.prt hp).1.1
theorem DOK.nn (hd:DOK h us D) (k:Nat):0≤fro h k:=(Qxs hd.k.h1 hd.k.hm k).1
theorem DOK.inU (hd:DOK h us D):InU us (gre us D (fro h)):=fun q hq=>by
 obtain⟨i,u,h1,h2,_⟩:=hd.mem (Qkt D (fro h) hd.wide hd.nn q hq).1
 exact⟨u,by rw[h2];simpa using h1,(hd.k.inl u (List.mem_of_getElem? h1)).1⟩
theorem DOK.parts (hd:DOK h us D) {i:Nat}{u:Qah}(hu:us[i]? = some u):(recU (gre us D (fro h)) i).map (·.1)=u.Parts:=by
 rw[Qzw,Qxn]
 have e:=Qkm us 0 i u hu
 rw[Nat.zero_add] at e
 have hs:=Qsv u.Parts 1000 ((i:Nat):Int) (Qel (hd.k.ub u (List.mem_of_getElem? hu))).2.2
 rw[Qrg hd.st _ (by rw[e];exact hs.1),e,List.map_map]
 exact(List.map_congr_left (fun _ _=>rfl)).trans (List.map_id _)
def Qj1 (h:List Int) (us:List Qah) (D:List Qaa):Nat→Int:=Qk8 (gre us D (fro h))
theorem DOK.pow (hd:DOK h us D) {i:Nat}{u:Qah}(hu:us[i]? = some u):powI u.Parts (Qj1 h us D i)=sumG (recU (gre us D (fro h)) i):=by
 have h1:=Qst (recU (gre us D (fro h)) i) (Qso D (fro h) i hd.wide hd.nn) (fun x hx=>by
  obtain⟨q,hq,_,rfl⟩:=Qog hx
  exact(hd.prt (Qkt D (fro h) hd.wide hd.nn q hq).1).1.1)
 rw[hd.parts hu,Qls] at h1
 exact h1
theorem DOK.cap (hd:DOK h us D) {i:Nat}{u:Qah}(hu:us[i]? = some u):0≤Qj1 h us D i∧Qj1 h us D i≤capI u.Parts:=by
 have h1:=Qsu (recU (gre us D (fro h)) i) (fun x hx=>by
  obtain⟨q,hq,_,rfl⟩:=Qog hx
  exact(Qkt D (fro h) hd.wide hd.nn q hq).2)
 rw[hd.parts hu,Qls] at h1
 exact h1
def Qgy (h:List Int) (us:List Qah) (D:List Qaa):List Int:=rw' us.length (Qj1 h us D)
theorem Qp0:Qgy h us D=(List.range' 0 us.length).map (Qj1 h us D):=by unfold Qgy rw';rw[List.range_eq_range']
theorem Qs6 (f:Nat→Int):∀(us:List Qah) (i:Nat),(∀j u,us[j]? = some u→0≤f (i+j)∧f (i+j)≤capI u.Parts)→Qkw us ((List.range' i us.length).map f)=true
 |[],_,_=>rfl
 |u::us,i,h=>by
  rw[List.length_cons,List.range'_succ,List.map_cons,Qkw,Qs6 f us (i+1) (fun j v hv=>by
   have:=h (j+1) v (by simpa using hv)
   rwa [show i+(j+1)=i+1+j from by omega] at this),Bool.and_true]
  exact Qc1.2 (h 0 u rfl)
theorem DOK.share (hd:DOK h us D):Qij h us (Qgy h us D)=true:=by
 unfold Qij
 rw[Qp0,Qs6 (Qj1 h us D) us 0 (fun j u hu=>by rw[Nat.zero_add];exact hd.cap hu)]
 simp only[List.length_map,List.length_range',decide_true,Bool.true_and,List.all_eq_true,decide_eq_true_eq]
 intro k _
 rw[Q3v]
 unfold Qj1
 rw[Q3t us k _ hd.inU]
 have h1:=Qos (us:=us) D (fro h) k
 have h2:=(Qot (us:=us) D (fro h) hd.wide hd.nn k).1
 omega
theorem DOK.dual (hd:DOK h us D) (cost:Nat→Int) (k0:Nat→Nat) (p:List Int) (hpl:p.length=h.length)
  (hk0:∀i u,us[i]? = some u→0<nxt (gre us D (fro h)) i→k0 i≤u.Inlet.toNat∧greR us D (fro h) (k0 i)≤0∧∀k,k0 i<k→k≤u.Inlet.toNat→0<greR us D (fro h) k)
  (c1:∀i u,us[i]? = some u→0<nxt (gre us D (fro h)) i→∀k,k0 i≤k→k<h.length→nxt (gre us D (fro h)) i≤cost k)
  (c2:∀k,k<h.length→cost k=0∨∃i u,us[i]? = some u∧0<nxt (gre us D (fro h)) i∧k0 i≤k∧cost k=nxt (gre us D (fro h)) i)
  (hp:∀k,k<h.length→p.getD k 0=cost k-(if k=0 then 0 else cost (k-1))) :
  Qlf h p=true∧Qqg h us p=Qgd us (Qgy h us D):=by
 have h6:=hd.k.h1
 have hnx:∀i,nxt (gre us D (fro h)) i≤1000:=fun i=>by
  rcases Qoj (T:=gre us D (fro h)) (i:=i) with e |⟨q,q1,_,q3⟩
  ·omega
  ·have:=(hd.prt (Qkt D (fro h) hd.wide hd.nn q q1).1).2.2
   omega
 have cnn:∀k,k<h.length→0≤cost k∧cost k≤1000:=fun k hk=>by
  rcases c2 k hk with e |⟨i,u,_,i2,_,i4⟩
  ·omega
  ·have:=hnx i
   omega
 have cmono:∀k,k+1<h.length→cost k≤cost (k+1):=fun k hk=>by
  rcases c2 k (by omega) with e |⟨i,u,i1,i2,i3,i4⟩
  ·have:=cnn (k+1) hk
   omega
  ·have:=c1 i u i1 i2 (k+1) (by omega) hk
   omega
 have hcum:∀k,k<h.length→cum p k=cost k:=by
  intro k
  induction k with
  |zero=>
   intro hk
   obtain⟨x,hx⟩:∃x,p[0]? = some x:=⟨_,List.getElem?_eq_getElem (by omega)⟩
   have:=hp 0 hk
   rw[List.getD_eq_getElem?_getD,hx,if_pos rfl] at this
   rw[Q1g hx]
   simpa using this
  |succ k ih=>
   intro hk
   obtain⟨x,hx⟩:∃x,p[k+1]? = some x:=⟨_,List.getElem?_eq_getElem (by omega)⟩
   have:=hp (k+1) hk
   rw[List.getD_eq_getElem?_getD,hx,if_neg (by omega),Nat.add_sub_cancel] at this
   rw[Q1h hx,ih (by omega)]
   simp only[Option.getD_some] at this
   omega
 have pnn:∀k,k<h.length→0≤p.getD k 0∧p.getD k 0≤1000:=fun k hk=>by
  have h1:=hp k hk
  have h2:=cnn k hk
  cases k with
  |zero=>rw[if_pos rfl] at h1;omega
  |succ k=>
   rw[if_neg (by omega),Nat.add_sub_cancel] at h1
   have:=cmono k hk
   have:=cnn k (by omega)
   omega
 have hpr:Qlf h p=true:=by
  unfold Qlf
  rw[Bool.and_eq_true,decide_eq_true_eq,List.all_eq_true]
  refine⟨hpl,fun x hx=>?_⟩
  obtain⟨k,hk⟩:=List.getElem?_of_mem hx
  have hlt:=(List.getElem?_eq_some_iff.1 hk).1
  have:=pnn k (by omega)
  rw[List.getD_eq_getElem?_getD,hk] at this
  exact Qc1.2 this
 refine⟨hpr,?_⟩
 have zero:∀k,k<h.length→0<p.getD k 0→greR us D (fro h) k=0:=fun k hk hpos=>by
  have h1:=hp k hk
  have hrn:=(Qot (us:=us) D (fro h) hd.wide hd.nn k).1
  rcases c2 k hk with e |⟨i,u,i1,i2,i3,i4⟩
  ·exfalso
   cases k with
   |zero=>rw[if_pos rfl] at h1;omega
   |succ k=>
    rw[if_neg (by omega),Nat.add_sub_cancel] at h1
    have:=cnn k (by omega)
    omega
  ·rcases Nat.eq_or_lt_of_le i3 with e |hlt
   ·have:=(hk0 i u i1 i2).2.1
    rw[e] at this
    omega
   ·exfalso
    cases k with
    |zero=>omega
    |succ k=>
     rw[if_neg (by omega),Nat.add_sub_cancel] at h1
     have:=c1 i u i1 i2 k (by omega) (by omega)
     omega
 have e1:hS (fro h) p p.length 0=hS (fun k=>uF (Qj1 h us D) k us 0) p p.length 0:=Q2o _ _ fun k _ hk=>by
  unfold Qj1
  rw[Q3t us k _ hd.inU]
  have h1:=Qos (us:=us) D (fro h) k
  rcases Int.lt_or_le 0 (p.getD k 0) with hpos |hle
  ·have:=zero k (by omega) hpos
   rw[show useT us (gre us D (fro h)) k=fro h k from by omega]
  ·have:=pnn k (by omega)
   rw[show p.getD k 0=0 from by omega,Int.zero_mul,Int.zero_mul]
 have e2:=Qxl (Qj1 h us D) p us 0 (fun u hu=>by have:=hd.k.inl u hu;omega)
 unfold Qqg
 rw[Qoo,←hpl,e1,e2,Qp0,Q3s]
 have unit:∀i u,us[i]? = some u→Qkn (cum p u.Inlet.toNat) u.Parts+Qj1 h us D i*cum p u.Inlet.toNat=powI u.Parts (Qj1 h us D i):=fun i u hu=>by
  have hin:=hd.k.inl u (List.mem_of_getElem? hu)
  have hil:u.Inlet.toNat<h.length:=by omega
  rw[hd.pow hu]
  have h1:=Qp8 (c:=cum p u.Inlet.toNat) (recU (gre us D (fro h)) i) (fun x hx=>by
   obtain⟨q,hq,hqu,rfl⟩:=Qog hx
   have hb:=Qkt D (fro h) hd.wide hd.nn q hq
   have hprt:=hd.prt hb.1
   have hiq:inl us q.1=u.Inlet.toNat:=by unfold inl;rw[hqu,List.getD_eq_getElem?_getD,hu];rfl
   rw[hcum _ hil]
   dsimp only
   refine⟨fun hg=>?_,fun hm=>?_,hb.2.1⟩
   ·rcases Int.lt_or_le q.2 q.1.Part.Width with hlt |hge
    ·exfalso
     have h2:=Qsn (us:=us) D (fro h) hd.wide hd.st.srt hd.nn q hq hlt
     rw[hqu] at h2
     have h3:=cnn _ hil
     have:=c1 i u hu (by omega) u.Inlet.toNat (hk0 i u hu (by omega)).1 hil
     omega
    ·have:=hb.2.2
     omega
   ·rcases Int.lt_or_le q.1.Part.Gain (cost u.Inlet.toNat) with hlt |hge
    ·exfalso
     rcases c2 _ hil with e |⟨j,v,j1,j2,j3,j4⟩
     ·omega
     ·obtain⟨z,z1,z2,z3⟩:=Qor (us:=us) D (fro h) j hd.wide hd.st.srt hd.nn (fun x hx=>(hd.prt hx).2.1) (by omega)
      have h4:=z3 q hq hm (by omega)
      rw[hiq] at h4
      have h5:=hk0 j v j1 j2
      have e:inlN us j=v.Inlet.toNat:=by unfold inlN;rw[List.getD_eq_getElem?_getD,j1];rfl
      have:=h5.2.2 z (by omega) (by omega)
      omega
    ·exact hge)
  rw[hd.parts hu,Qls] at h1
  exact h1
 have fin:∀(vs:List Qah) (i:Nat),(∀j u,vs[j]? = some u→us[i+j]? = some u)→dF (Qj1 h us D) p vs i+Qm9 p vs=wF (Qj1 h us D) vs i:=by
  intro vs
  induction vs with
  |nil=>intro i _;rfl
  |cons u vs ih=>
   intro i hv
   have h1:=unit i u (by have:=hv 0 u rfl;simpa using this)
   have h2:=ih (i+1) (fun j w hw=>by
    have:=hv (j+1) w (by simpa using hw)
    rwa [show i+(j+1)=i+1+j from by omega] at this)
   rw[dF,Qm9,wF]
   omega
 exact fin us 0 (fun j u hu=>by rw[Nat.zero_add];exact hu)
end
end
section
section
variable {N : Nat} {h : List Int} {us : List Qah}
theorem Qzy (u:Qah) (i:Nat) (nx:List Int) (K:List Int×List Qaa→Option (List Int×List Int×List Int)) (hl:u.Parts.length≤8):∀(n j:Nat) (acc:List Qaa),u.Parts.length-j<n→j≤u.Parts.length→acc.length≤1000 →
  Qbq N i K u n j nx acc=K (nx,acc++(u.Parts.drop j).map fun q=>(⟨(i:Int),q⟩:Qaa)):=by
 intro n
 induction n with
 |zero=>intro j _ h;exact absurd h (Nat.not_lt_zero _)
 |succ n ih=>
  intro j acc hn hj ha
  rw[Qbq]
  rcases Nat.eq_or_lt_of_le hj with e |hlt
  ·rw[show decide ((j:Int)<(u.Parts.length:Int))=false from decide_eq_false (by omega),cond_false,List.drop_of_length_le (by omega),List.map_nil,List.append_nil]
  ·obtain⟨q,hq⟩:∃q,u.Parts[j]? = some q:=⟨_,List.getElem?_eq_getElem hlt⟩
   have e1:w64 ((j:Int)+1)=((j+1:Nat):Int):=Qa5 (by omega) (by omega)
   have d1:decide ((acc.length+[(⟨(i:Int),q⟩:Qaa)].length)*24≤140737488355328)=true:=decide_eq_true (by simp;omega)
   rw[show decide ((j:Int)<(u.Parts.length:Int))=true from decide_eq_true (by omega)]
   simp only[cond_true,Qcv hq,Option.bind_some,chk,d1,e1]
   by_cases ha':acc.length+1≤1000
   ·rw[ih (j+1) _ (by omega) hlt (by simp;omega),Qg6 hq,List.map_cons]
    simp
   ·-- the list is long: one more element may not fit the bound,but then there is room still
    have:∀(m:Nat) (b:List Qaa) (k:Nat),u.Parts.length-k<m→k≤u.Parts.length→b.length+(u.Parts.length-k)≤2000 →
      Qbq N i K u m k nx b=K (nx,b++(u.Parts.drop k).map fun q=>(⟨(i:Int),q⟩:Qaa)):=by
     intro m
     induction m with
     |zero=>intro b k h;exact absurd h (Nat.not_lt_zero _)
     |succ m ihm=>
      intro b k hm hk hb
      rw[Qbq]
      rcases Nat.eq_or_lt_of_le hk with e |hlt'
      ·rw[show decide ((k:Int)<(u.Parts.length:Int))=false from decide_eq_false (by omega),cond_false,List.drop_of_length_le (by omega),List.map_nil,List.append_nil]
      ·obtain⟨q',hq'⟩:∃q,u.Parts[k]? = some q:=⟨_,List.getElem?_eq_getElem hlt'⟩
       have e2:w64 ((k:Int)+1)=((k+1:Nat):Int):=Qa5 (by omega) (by omega)
       have d2:decide ((b.length+[(⟨(i:Int),q'⟩:Qaa)].length)*24≤140737488355328)=true:=decide_eq_true (by simp;omega)
       rw[show decide ((k:Int)<(u.Parts.length:Int))=true from decide_eq_true (by omega)]
       simp only[cond_true,Qcv hq',Option.bind_some,chk,d2,e2]
       rw[ihm _ (k+1) (by omega) hlt' (by simp;omega),Qg6 hq',List.map_cons]
       simp
    rw[this n _ (j+1) (by omega) hlt (by simp;omega),Qg6 hq,List.map_cons]
    simp
theorem Qnf:∀(us:List Qah) (i:Nat),(∀u∈us,u.Parts.length≤8)→(Qff i us).length≤8*us.length
 |[],_,_=>Nat.le_refl _
 |u::us,i,h=>by
  have h1:=Qnf us (i+1) fun x hx=>h x (List.mem_cons_of_mem _ hx)
  have h2:=h u (List.mem_cons_self ..)
  simp only[Qff,List.length_append,List.length_map,List.length_cons]
  omega
theorem Qzz (hul:us.length≤10) (hu:∀u∈us,u.Parts.length≤8) (hN:100≤N) (K:List Int×List Qaa→Option (List Int×List Int×List Int)):∀(n i:Nat) (acc:List Qaa),us.length-i<n→i≤us.length→acc.length≤8*i →
  Qb3 N ⟨h,us⟩ K n i (List.replicate i (-1)) acc=K (List.replicate us.length (-1),acc++Qff i (us.drop i)):=by
 intro n
 induction n with
 |zero=>intro i _ h;exact absurd h (Nat.not_lt_zero _)
 |succ n ih=>
  intro i acc hn hi ha
  rw[Qb3]
  rcases Nat.eq_or_lt_of_le hi with e |hlt
  ·rw[show decide ((i:Int)<(us.length:Int))=false from decide_eq_false (by omega),cond_false,List.drop_of_length_le (by omega),Qff,List.append_nil,e]
  ·obtain⟨u,hu'⟩:∃u,us[i]? = some u:=⟨_,List.getElem?_eq_getElem hlt⟩
   have hub:=hu u (List.mem_of_getElem? hu')
   have e1:w64 ((i:Int)+1)=((i+1:Nat):Int):=Qa5 (by omega) (by omega)
   have d1:decide (((List.replicate i (-1:Int)).length+[(-1:Int)].length)*8≤140737488355328)=true:=decide_eq_true (by simp;omega)
   have er:List.replicate i (-1:Int)++[-1]=List.replicate (i+1) (-1):=by rw[List.replicate_succ']
   simp only[Qb5]
   rw[show decide ((i:Int)<(us.length:Int))=true from decide_eq_true (by omega)]
   simp only[cond_true,Qcv hu',Option.bind_some,chk,d1,er]
   have:=Qzy (N:=N) u i (List.replicate (i+1) (-1)) (fun x=>Qb3 N ⟨h,us⟩ K n (w64 ((i:Int)+1)) x.1 x.2) hub N 0 acc (by omega) (by omega) (by omega)
   rw[show((0:Nat):Int)=0 from rfl,List.drop_zero] at this
   refine Eq.trans this ?_
   rw[e1,ih (i+1) _ (by omega) hlt (by simp;omega),Qg6 hu',Qff,List.append_assoc]
theorem Qz5 (u:Qah) (m:Int) (c L:Nat) (hc:c<L) (hL:L≤6) (hui:u.Inlet=(c:Int)) (K:List Int→Option (List Int×List Int×List Int)) (m0:0≤m) (m1:m≤100000):∀(n k:Nat) (f:Nat→Int),c+1-k<n→k≤c+1→(∀i,k≤i→0≤f i∧f i≤6000000) →
  Qce N u m K ((c+1:Nat):Int) n k (rw' L f)=K (rw' L (fun i=>if k≤i∧i≤c then f i-m else f i)):=by
 intro n
 induction n with
 |zero=>intro k f h;exact absurd h (Nat.not_lt_zero _)
 |succ n ih=>
  intro k f hn hk hf
  rw[Qce]
  rcases Nat.eq_or_lt_of_le hk with e |hlt
  ·rw[show decide ((k:Int)<((c+1:Nat):Int))=false from decide_eq_false (by omega),cond_false]
   congr 1
   exact Qjp fun i hi=>by rw[if_neg (by omega)]
  ·have e1:w64 ((k:Int)+1)=((k+1:Nat):Int):=Qa5 (by omega) (by omega)
   have hfk:=hf k (Nat.le_refl _)
   have e2:w64 (f k-m)=f k-m:=Qa5 (by omega) (by omega)
   have e3:(w64 (u.Inlet+1)).toNat-(0:Int).toNat=c+1:=by rw[hui,Qa5 (by omega) (by omega)];simp
   have d1:decide (0≤(k:Int))=true:=decide_eq_true (by omega)
   have d2:decide (k<c+1)=true:=decide_eq_true (by omega)
   rw[show decide ((k:Int)<((c+1:Nat):Int))=true from decide_eq_true (by omega),e3]
   simp only[cond_true,chk,Int.toNat_natCast,d1,d2,Bool.and_self,Qhd f (by omega:k<L),Option.bind_some,e1,e2,Qsc]
   rw[ih (k+1) _ (by omega) hlt (fun i hi=>by
    unfold updN
    rw[if_neg (by omega)]
    exact hf i (by omega))]
   congr 1
   refine Qjp fun i hi=>?_
   unfold updN
   by_cases he:i=k
   ·subst he
    rw[if_neg (by omega),if_pos rfl,if_pos ⟨Nat.le_refl _,by omega⟩]
   ·rw[if_neg he]
    by_cases h2:k+1≤i∧i≤c
    ·rw[if_pos h2,if_pos (by omega)]
    ·rw[if_neg h2,if_neg (by omega)]
theorem Qyd (hk:ShOK h us) (hN:300≤N) (Ln:List Qaa) (nl:List Int) (hnl:nl.length=us.length) (D:List Qaa) (hLn:Ln.length=D.length) (hDl:D.length≤100) (hD:∀p∈D,(∃(i:Nat) (u:Qah),us[i]? = some u∧p.unit=(i:Int))∧(1≤p.Part.Width∧p.Part.Width≤100000)∧0≤p.Part.Gain)
  (K:List Int×List Int×List Int→Option (List Int×List Int×List Int)):∀(n j:Nat) (f r nx:Nat→Int),D.length-j<n→j≤D.length→(∀i,0≤f i∧f i≤100000*(j:Int))→(∀k,0≤r k∧r k≤6000000) →
  Qbd N ⟨h,us⟩ nl Ln K D n j (rw' us.length f) (rw' h.length r) (rw' us.length nx) =
   K (rw' us.length (fun i=>f i+Qk8 (gre us (D.drop j) r) i),rw' h.length (greR us (D.drop j) r),rw' us.length (fun i=>if nx i<0 then(if nxt (gre us (D.drop j) r) i<0 then nx i else nxt (gre us (D.drop j) r) i) else nx i)):=by
 have hh:=hk.h1
 have h0:=hk.h0
 have hul:=hk.u1
 intro n
 induction n with
 |zero=>intro j f r nx h;exact absurd h (Nat.not_lt_zero _)
 |succ n ih=>
  intro j f r nx hn hj hf hr
  rw[Qbd]
  rcases Nat.eq_or_lt_of_le hj with e |hlt
  ·rw[show decide ((j:Int)<((Ln.length:Nat):Int))=false from decide_eq_false (by omega),cond_false,List.drop_of_length_le (by omega)]
   simp only[gre,greR,Qk8,nxt,Int.add_zero]
   have e3:(fun i=>if nx i<0 then(if (-1:Int)<0 then nx i else -1) else nx i)=nx:=by funext i;split<;>simp
   rw[e3]
  ·obtain⟨p,hp⟩:∃p,D[j]? = some p:=⟨_,List.getElem?_eq_getElem hlt⟩
   obtain⟨⟨i,u,hu,hpu⟩,hpw,hpg⟩:=hD p (List.mem_of_getElem? hp)
   have hui:=hk.inl u (List.mem_of_getElem? hu)
   have hil:i<us.length:=(List.getElem?_eq_some_iff.1 hu).1
   obtain⟨c,hc⟩:∃c:Nat,u.Inlet=(c:Int):=⟨u.Inlet.toNat,by omega⟩
   have hcl:c<h.length:=by omega
   have hin:inl us p=c:=by unfold inl;rw[hpu,Int.toNat_natCast,List.getD_eq_getElem?_getD,hu];simp[hc]
   have hb:=Qtu (us:=us) (r:=r) (p:=p) (fun k=>(hr k).1) hpw.1
   have e1:w64 ((j:Int)+1)=((j+1:Nat):Int):=Qa5 (by omega) (by omega)
   have e2:w64 (u.Inlet+1)=((c+1:Nat):Int):=by rw[hc,Qa5 (by omega) (by omega)];omega
   have d1:decide (0≤(j:Int))=true:=decide_eq_true (by omega)
   have d2:decide (j<Ln.length)=true:=decide_eq_true (by omega)
   have d3:(decide ((0:Int)≤0)&&decide (0≤((c+1:Nat):Int))&&decide (((c+1:Nat):Int)≤((h.length:Nat):Int)))=true:=by
    rw[decide_eq_true (show 0≤((c+1:Nat):Int) from by omega),decide_eq_true (show((c+1:Nat):Int)≤((h.length:Nat):Int) from by omega)]
    rfl
   have d4:decide ((0:Int)<((h.length:Nat):Int))=true:=decide_eq_true (by omega)
   have e3:c+1-(0:Int).toNat=c+1:=rfl
   have d5:decide (0≤p.unit)=true:=decide_eq_true (by omega)
   have d6:decide (i<us.length)=true:=decide_eq_true hil
   have d7:decide (i<nl.length)=true:=decide_eq_true (by omega)
   have hgu:getI us p.unit=some u:=by rw[hpu];exact Qcv hu
   have e4:p.unit.toNat=i:=by omega
   have hmin:=Q4i (N:=N) (c:=c+1) (L:=h.length) r (by omega) (by omega) hh hN
   rw[Nat.add_sub_cancel] at hmin
   have htk:(if minI r c<p.Part.Width then minI r c else p.Part.Width)=tk us r p:=by unfold tk;rw[hin]
   have e5:w64 (f i+tk us r p)=f i+tk us r p:=by have:=hf i;exact Qa5 (by omega) (by omega)
   simp only[Qb5]
   rw[show decide ((j:Int)<((Ln.length:Nat):Int))=true from decide_eq_true (by omega)]
   simp only[cond_true,chk,Int.toNat_natCast,d1,d2,Bool.and_self,hp,Option.bind_some,hgu,e2,d3,d4,e3,hmin,htk,d5,e4,d6,Qhd f hil,e5,Qsc,d7,Qhd nx hil,e1]
   have hlow:=Qz5 (N:=N) u (tk us r p) c h.length hcl hh hc (fun y51=>bif (decide (tk us r p<p.Part.Width)) then
     bif (decide (nx i<0)) then Qbd N ⟨h,us⟩ nl Ln K D n ((j+1:Nat):Int) (rw' us.length (updN f i (f i+tk us r p))) y51 (rw' us.length (updN nx i p.Part.Gain))
     else Qbd N ⟨h,us⟩ nl Ln K D n ((j+1:Nat):Int) (rw' us.length (updN f i (f i+tk us r p))) y51 (rw' us.length nx)
    else Qbd N ⟨h,us⟩ nl Ln K D n ((j+1:Nat):Int) (rw' us.length (updN f i (f i+tk us r p))) y51 (rw' us.length nx)) hb.1 (by omega) N 0 r (by omega) (Nat.zero_le _) (fun k _=>hr k)
   rw[show((0:Nat):Int)=0 from rfl] at hlow
   refine Eq.trans hlow ?_
   have elow:(fun k=>if 0≤k∧k≤c then r k-tk us r p else r k)=Qjo r (inl us p) (tk us r p):=by
    funext k
    unfold Qjo
    rw[hin]
    by_cases hkc:k≤c
    ·rw[if_pos ⟨Nat.zero_le _,hkc⟩,if_pos hkc]
    ·rw[if_neg (fun x=>hkc x.2),if_neg hkc]
   rw[elow]
   have hf':∀l,0≤updN f i (f i+tk us r p) l∧updN f i (f i+tk us r p) l≤100000*((j+1:Nat):Int):=fun l=>by
    unfold updN
    have h1:=hf l
    have h2:=hf i
    split<;>omega
   have hr':∀k,0≤Qjo r (inl us p) (tk us r p) k∧Qjo r (inl us p) (tk us r p) k≤6000000:=fun k=>by
    have h1:=Qli (us:=us) (r:=r) (p:=p) (fun k=>(hr k).1) hpw.1 k
    have h2:=Qxf (us:=us) (r:=r) (p:=p) (fun k=>(hr k).1) hpw.1 k
    have:=hr k
    omega
   have hdrop:=Qg6 hp
   have em:(fun l=>updN f i (f i+tk us r p) l+Qk8 (gre us (D.drop (j+1)) (Qjo r (inl us p) (tk us r p))) l)=fun l=>f l+Qk8 (gre us (D.drop j) r) l:=by
    funext l
    rw[hdrop,gre,Qk8]
    dsimp only
    rw[e4]
    unfold updN
    by_cases hl:l=i
    ·subst hl;rw[if_pos rfl,if_pos rfl];omega
    ·rw[if_neg hl,if_neg (fun x=>hl x.symm)];omega
   have er:greR us (D.drop (j+1)) (Qjo r (inl us p) (tk us r p))=greR us (D.drop j) r:=by rw[hdrop];rfl
   by_cases hw:tk us r p<p.Part.Width
   ·rw[show decide (tk us r p<p.Part.Width)=true from decide_eq_true hw,cond_true]
    by_cases hx:nx i<0
    ·rw[show decide (nx i<0)=true from decide_eq_true hx,cond_true,ih (j+1) _ _ _ (by omega) hlt hf' hr',em,er]
     congr 3
     refine Qjp fun l _=>?_
     rw[hdrop,gre,nxt]
     dsimp only
     rw[e4]
     unfold updN
     by_cases hl:l=i
     ·subst hl
      have hg0:¬p.Part.Gain<0:=by omega
      simp[hx,hw,hg0]
     ·rw[if_neg hl,if_neg (fun x:i=l∧_=>hl x.1.symm)]
    ·rw[show decide (nx i<0)=false from decide_eq_false hx,cond_false,ih (j+1) _ _ _ (by omega) hlt hf' hr',em,er]
     congr 3
     refine Qjp fun l _=>?_
     rw[hdrop,gre,nxt]
     dsimp only
     rw[e4]
     by_cases hl:l=i
     ·subst hl
      rw[if_neg hx,if_neg hx]
     ·rw[if_neg (fun x:i=l∧_=>hl x.1.symm)]
   ·rw[show decide (tk us r p<p.Part.Width)=false from decide_eq_false hw,cond_false,ih (j+1) _ _ _ (by omega) hlt hf' hr',em,er]
    congr 3
    refine Qjp fun l _=>?_
    rw[hdrop,gre,nxt]
    dsimp only
    rw[if_neg (fun x:_∧tk us r p<p.Part.Width=>hw x.2)]
theorem Qya {β:Type}(c n:Nat) (hn:n≤1000) (hc:c≤100) (k:Option β):chk (decide (0≤(n:Int))&&decide ((c:Int)*(n:Int)≤281474976710656)&&decide ((n:Int)≤9223372036854775807)) k=k:=by
 have h1:(c:Int)*(n:Int)≤281474976710656:=by
  have:c*n≤100*1000:=Nat.mul_le_mul hc hn
  have e:((c*n:Nat):Int)=(c:Int)*(n:Int):=by simp
  omega
 rw[chk,decide_eq_true (show 0≤(n:Int) from by omega),decide_eq_true h1,decide_eq_true (show(n:Int)≤9223372036854775807 from by omega)]
 rfl
theorem Q40 (hk:ShOK h us) (hN:2000≤N):∃D,DOK h us D∧Qeq N ⟨h,us⟩=some (Qgy h us D,rw' h.length (greR us D (fro h)),rw' us.length (fun i=>if nxt (gre us D (fro h)) i<0 then -1 else nxt (gre us D (fro h)) i)):=by
 have hh:=hk.h1
 have h0:=hk.h0
 have hul:=hk.u1
 have hu0:=hk.u0
 have hpl:∀u∈us,u.Parts.length≤8:=fun u hu=>by have:=(Qel (hk.ub u hu)).2.1.2;omega
 have hlen:=Qnf us 0 hpl
 have hsm:Qfw (Qff 0 us):=fun p hp=>by
  obtain⟨i,u,h1,_,h3⟩:=Qib us 0 p hp
  have:=Qoh (hk.ub u (List.mem_of_getElem? h1)) p.Part h3
  omega
 obtain⟨D,d1,d2⟩:=Q34 (N:=N) (D:=Qff 0 us) (by omega) (by omega) (by omega) hsm
 have hd:DOK h us D:=⟨hk,d1⟩
 have hDl:=Stb.len d1.eqf
 refine⟨D,hd,?_⟩
 have hne:(Qff 0 us).isEmpty=false:=by
  cases hus:us with
  |nil=>rw[hus] at hu0;simp at hu0
  |cons u l=>
   have:=(Qel (hk.ub u (by rw[hus];simp))).2.1.1
   rw[List.isEmpty_eq_false_iff]
   intro e
   have e2:=congrArg List.length e
   simp[Qff] at e2
   rw[e2.1] at this
   simp at this
 have hne2:(List.replicate us.length (-1:Int)).isEmpty=false:=by
  rw[List.isEmpty_eq_false_iff]
  intro e
  have:=congrArg List.length e
  simp at this
  rw[this] at hu0
  simp at hu0
 unfold Qeq
 have hc:=Qya (β:=List Int×List Int×List Int) 8 us.length (by omega) (by omega)
 rw[show((8:Nat):Int)=8 from rfl] at hc
 rw[hc,Q39 hk.h0 hk.h1 hk.hm (by omega)]
 simp only[Qb5,Option.bind_some]
 have a1:=Qzz (N:=N) (h:=h) (us:=us) hul hpl (by omega) (fun x=>chk (!x.1.isEmpty) (chk (!x.2.isEmpty) ((Qcf N x.2.length x.2).bind fun x23=>Qbd N ⟨h,us⟩ x.1 x.2 (fun y=>chk (decide ((us.length:Int).toNat≤y.1.length)) (chk (decide (h.length≤y.2.1.length)) (chk (decide (x.1.length≤y.2.2.length)) (some (y.1.take ((us.length:Int).toNat),y.2.1.take h.length,y.2.2.take x.1.length))))) x23 N 0 (List.replicate (us.length:Int).toNat 0) (rw' h.length (fro h)) x.1))) N 0 [] (by omega) (Nat.zero_le _) (Nat.zero_le _)
 rw[show((0:Nat):Int)=0 from rfl,List.drop_zero,List.nil_append,List.replicate_zero] at a1
 refine Eq.trans a1 ?_
 have hne3:(rw' us.length (fun _=>(-1:Int))).isEmpty=false:=by rw[←Qwo];exact hne2
 simp only[chk,hne,hne3,Bool.not_false,cond_true,d2,Option.bind_some,Int.toNat_natCast,Qwo]
 have a2:=Qyd (N:=N) (h:=h) (us:=us) hk (by omega) (Qff 0 us) (rw' us.length (fun _=>-1)) (Qik _ _) D hDl.symm (by omega) (fun p hp=>by
  obtain⟨i,u,h1,h2,_⟩:=hd.mem hp
  have:=hd.prt hp
  exact⟨⟨i,u,h1,h2⟩,this.1,this.2.1⟩) (fun y=>bif (decide (us.length≤y.1.length)) then(bif (decide (h.length≤y.2.1.length)) then(bif (decide ((rw' us.length (fun _=>(-1:Int))).length≤y.2.2.length)) then(some (y.1.take us.length,y.2.1.take h.length,y.2.2.take (rw' us.length (fun _=>(-1:Int))).length)) else none) else none) else none) N 0 (fun _=>0) (fro h) (fun _=>-1) (by omega) (Nat.zero_le _) (fun i=>by simp) (fun k=>Qxs hh hk.hm k)
 rw[show((0:Nat):Int)=0 from rfl,List.drop_zero] at a2
 refine Eq.trans a2 ?_
 simp only[Qik,Nat.le_refl,decide_true,cond_true]
 rw[List.take_of_length_le (by rw[Qik];exact Nat.le_refl _),List.take_of_length_le (by rw[Qik];exact Nat.le_refl _),List.take_of_length_le (by rw[Qik];exact Nat.le_refl _)]
 congr 2
 ·unfold Qgy Qj1
  exact Qjp fun i _=>Int.zero_add _
def kz (r:Nat→Int):Nat→Nat
 |0=>0
 |c+1=>if r (c+1)>0 then kz r c else c+1
theorem Q4j (r:Nat→Int):∀(c:Nat),(∃z,z≤c∧r z≤0)→kz r c≤c∧r (kz r c)≤0∧∀k,kz r c<k→k≤c→0<r k
 |0,⟨z,h1,h2⟩=>by
  rw[show z=0 from by omega] at h2
  exact⟨Nat.le_refl _,h2,fun k a b=>by rw[kz] at a;omega⟩
 |c+1,⟨z,h1,h2⟩=>by
  rw[kz]
  split
  ·next hp=>
   have hz:z≤c:=by
    rcases Nat.eq_or_lt_of_le h1 with rfl |hlt
    ·omega
    ·omega
   obtain⟨k1,k2,k3⟩:=Q4j r c ⟨z,hz,h2⟩
   refine⟨by omega,k2,fun k a b=>?_⟩
   rcases Nat.eq_or_lt_of_le b with rfl |hlt
   ·exact hp
   ·exact k3 k a (by omega)
  ·next hp=>exact⟨Nat.le_refl _,by omega,fun k a b=>by omega⟩
theorem Q4k (x5:List Int×List Int×List Int) (L:Nat) (r:Nat→Int) (hL:L≤6) (hx:x5.2.1=rw' L r) (K:Int→Option (List Int×Int×List Int×Int)):∀(n c:Nat),c<n→c<L→(∃z,z≤c∧r z≤0)→Qdm N x5 K n c=K (kz r c):=by
 intro n
 induction n with
 |zero=>intro c h;exact absurd h (Nat.not_lt_zero _)
 |succ n ih=>
  intro c hn hc hz
  rw[Qdm,hx,Qcv (Qhd r hc),Option.bind_some]
  cases c with
  |zero=>
   obtain⟨z,z1,z2⟩:=hz
   rw[show z=0 from by omega] at z2
   rw[show decide (r 0>0)=false from decide_eq_false (by omega)]
   rfl
  |succ c=>
   rw[kz]
   by_cases hp:r (c+1)>0
   ·rw[show decide (r (c+1)>0)=true from decide_eq_true hp,cond_true,if_pos hp,show w64 (((c+1:Nat):Int)-1)=(c:Int) from by rw[Qa5 (by omega) (by omega)];omega]
    obtain⟨z,z1,z2⟩:=hz
    refine ih c (by omega) (by omega) ⟨z,?_,z2⟩
    rcases Nat.eq_or_lt_of_le z1 with rfl |hlt
    ·omega
    ·omega
   ·rw[show decide (r (c+1)>0)=false from decide_eq_false hp,cond_false,if_neg hp]
theorem Qz4 (x:Int) (hh:h.length≤6) (K:List Int→Option (List Int×Int×List Int×Int)):∀(n k:Nat) (f:Nat→Int),h.length-k<n→k≤h.length →
  Qdn N h K x n k (rw' h.length f)=K (rw' h.length (fun i=>if k≤i then(if x>f i then x else f i) else f i)):=by
 intro n
 induction n with
 |zero=>intro k f h;exact absurd h (Nat.not_lt_zero _)
 |succ n ih=>
  intro k f hn hk
  rw[Qdn]
  have e0:(((h.length:Int).toNat:Nat):Int)=(h.length:Int):=by simp
  rw[e0]
  rcases Nat.eq_or_lt_of_le hk with e |hlt
  ·rw[show decide ((k:Int)<(h.length:Int))=false from decide_eq_false (by omega),cond_false]
   congr 1
   exact Qjp fun i hi=>by rw[if_neg (by omega)]
  ·have e1:w64 ((k:Int)+1)=((k+1:Nat):Int):=Qa5 (by omega) (by omega)
   have d1:decide (0≤(k:Int))=true:=decide_eq_true (by omega)
   have d2:decide (k<h.length)=true:=decide_eq_true (by omega)
   rw[show decide ((k:Int)<(h.length:Int))=true from decide_eq_true (by omega)]
   simp only[cond_true,chk,Int.toNat_natCast,d1,d2,Bool.and_self,Qhd f hlt,Option.bind_some,e1,Qsc]
   rw[ih (k+1) _ (by omega) hlt]
   congr 1
   refine Qjp fun i hi=>?_
   unfold updN
   by_cases he:i=k
   ·subst he
    rw[if_neg (show ¬i+1≤i from by omega),if_pos rfl,if_pos (Nat.le_refl _)]
   ·rw[if_neg he]
    by_cases h2:k+1≤i
    ·rw[if_pos h2,if_pos (show k≤i from by omega)]
    ·rw[if_neg h2,if_neg (show ¬k≤i from by omega)]
def Qlq (nx:Nat→Int) (r:Nat→Int):List Qah→Nat→(Nat→Int)→(Nat→Int)
 |[],_,c=>c
 |u::us,i,c=>Qlq nx r us (i+1) (if nx i≤0 then c else fun k=>if kz r u.Inlet.toNat≤k then(if nx i>c k then nx i else c k) else c k)
theorem Qs2 (nx r:Nat→Int):∀(us:List Qah) (i:Nat) (c:Nat→Int) (k:Nat),c k≤Qlq nx r us i c k ∧
  (∀j u,us[j]? = some u→0<nx (i+j)→kz r u.Inlet.toNat≤k→nx (i+j)≤Qlq nx r us i c k) ∧
  (Qlq nx r us i c k=c k∨∃j u,us[j]? = some u∧0<nx (i+j)∧kz r u.Inlet.toNat≤k∧Qlq nx r us i c k=nx (i+j))
 |[],i,c,k=>⟨Int.le_refl _,fun j u h=>by simp at h,Or.inl rfl⟩
 |u::us,i,c,k=>by
  obtain⟨a1,a2,a3⟩:=Qs2 nx r us (i+1) (if nx i≤0 then c else fun k=>if kz r u.Inlet.toNat≤k then(if nx i>c k then nx i else c k) else c k) k
  rw[Qlq]
  generalize hc':(if nx i≤0 then c else fun k=>if kz r u.Inlet.toNat≤k then(if nx i>c k then nx i else c k) else c k)=c' at a1 a2 a3 ⊢
  have b1:c k≤c' k∧(0<nx i→kz r u.Inlet.toNat≤k→nx i≤c' k)∧(c' k=c k∨(0<nx i∧kz r u.Inlet.toNat≤k∧c' k=nx i)):=by
   rw[←hc']
   by_cases h1:nx i≤0
   ·rw[if_pos h1];exact⟨Int.le_refl _,fun h=>by omega,Or.inl rfl⟩
   ·rw[if_neg h1]
    by_cases h2:kz r u.Inlet.toNat≤k
    ·rw[if_pos h2]
     by_cases h3:nx i>c k
     ·rw[if_pos h3];exact⟨by omega,fun _ _=>Int.le_refl _,Or.inr ⟨by omega,h2,rfl⟩⟩
     ·rw[if_neg h3];exact⟨Int.le_refl _,fun _ _=>by omega,Or.inl rfl⟩
    ·rw[if_neg h2];exact⟨Int.le_refl _,fun _ h=>absurd h h2,Or.inl rfl⟩
  refine⟨by omega,fun j v hv hj hk=>?_,?_⟩
  ·cases j with
   |zero=>
    simp at hv
    subst hv
    rw[Nat.add_zero] at hj ⊢
    have:=b1.2.1 hj hk
    omega
   |succ j=>
    rw[show i+(j+1)=i+1+j from by omega] at hj ⊢
    exact a2 j v (by simpa using hv) hj hk
  ·rcases a3 with e |⟨j,v,j1,j2,j3,j4⟩
   ·rcases b1.2.2 with e2 |⟨e2,e3,e4⟩
    ·exact Or.inl (e.trans e2)
    ·exact Or.inr ⟨0,u,rfl,by rw[Nat.add_zero];exact e2,e3,e.trans e4⟩
   ·exact Or.inr ⟨j+1,v,by simpa using j1,by rw[show i+(j+1)=i+1+j from by omega];exact j2,j3,by rw[show i+(j+1)=i+1+j from by omega];exact j4⟩
theorem Qx5 (hk:ShOK h us) (hN:300≤N) (x5:List Int×List Int×List Int) (r nx:Nat→Int) (hx1:x5.2.1=rw' h.length r) (hx2:x5.2.2=rw' us.length nx) (hz:∀i u,us[i]? = some u→0<nx i→∃z,z≤u.Inlet.toNat∧r z≤0)
  (K:List Int→Option (List Int×Int×List Int×Int)):∀(n i:Nat) (c:Nat→Int),us.length-i<n→i≤us.length →
  Qdo N h us x5 K n i (rw' h.length c)=K (rw' h.length (Qlq nx r (us.drop i) i c)):=by
 have hh:=hk.h1
 have hul:=hk.u1
 intro n
 induction n with
 |zero=>intro i c h;exact absurd h (Nat.not_lt_zero _)
 |succ n ih=>
  intro i c hn hi
  rw[Qdo]
  rcases Nat.eq_or_lt_of_le hi with e |hlt
  ·rw[show decide ((i:Int)<(us.length:Int))=false from decide_eq_false (by omega),cond_false,List.drop_of_length_le (by omega),Qlq]
  ·obtain⟨u,hu⟩:∃u,us[i]? = some u:=⟨_,List.getElem?_eq_getElem hlt⟩
   have hui:=hk.inl u (List.mem_of_getElem? hu)
   have e1:w64 ((i:Int)+1)=((i+1:Nat):Int):=Qa5 (by omega) (by omega)
   simp only[Qb5]
   rw[show decide ((i:Int)<(us.length:Int))=true from decide_eq_true (by omega),hx2,Qcv (Qhd nx hlt)]
   simp only[cond_true,Qcv hu,Option.bind_some,e1]
   rw[Qg6 hu,Qlq]
   by_cases hx:nx i≤0
   ·rw[show decide (nx i≤0)=true from decide_eq_true hx,cond_true,ih (i+1) c (by omega) hlt,if_pos hx]
   ·rw[show decide (nx i≤0)=false from decide_eq_false hx,cond_false,if_neg hx]
    obtain⟨cc,hcc⟩:∃cc:Nat,u.Inlet=(cc:Int):=⟨u.Inlet.toNat,by omega⟩
    have hz':=hz i u hu (by omega)
    rw[hcc,Int.toNat_natCast] at hz'
    rw[hcc,Q4k (N:=N) x5 h.length r hh hx1 _ N cc (by omega) (by omega) hz',Qz4 (N:=N) (h:=h) (nx i) hh _ N (kz r cc) c (by omega) (by have:=(Q4j r cc hz').1;omega),ih (i+1) _ (by omega) hlt,Int.toNat_natCast]
theorem Qt1 (hh:h.length≤6) (c:Nat→Int) (hc:∀k,k<h.length→0≤c k∧c k≤1000) (K:List Int→Option (List Int×Int×List Int×Int)):∀(n k:Nat) (acc:List Int),h.length-k<n→k≤h.length→acc.length=k →
  Qc7 N h (rw' h.length c) K n acc (if k=0 then 0 else c (k-1)) k=K (acc++(List.range' k (h.length-k)).map fun i=>c i-(if i=0 then 0 else c (i-1))):=by
 intro n
 induction n with
 |zero=>intro k acc h;exact absurd h (Nat.not_lt_zero _)
 |succ n ih=>
  intro k acc hn hk ha
  rw[Qc7]
  have e0:(((h.length:Int).toNat:Nat):Int)=(h.length:Int):=by simp
  rw[e0]
  rcases Nat.eq_or_lt_of_le hk with e |hlt
  ·rw[show decide ((k:Int)<(h.length:Int))=false from decide_eq_false (by omega),cond_false,e,Nat.sub_self]
   simp
  ·have e1:w64 ((k:Int)+1)=((k+1:Nat):Int):=Qa5 (by omega) (by omega)
   have d1:decide (0≤(k:Int))=true:=decide_eq_true (by omega)
   have d2:decide (k<h.length)=true:=decide_eq_true (by omega)
   have hck:=hc k hlt
   have hb:0≤(if k=0 then 0 else c (k-1))∧(if k=0 then 0 else c (k-1))≤1000:=by
    split
    ·omega
    ·exact hc (k-1) (by omega)
   have e2:w64 (c k-(if k=0 then 0 else c (k-1)))=c k-(if k=0 then 0 else c (k-1)):=Qa5 (by omega) (by omega)
   have d3:decide ((acc.length+[c k-(if k=0 then 0 else c (k-1))].length)*8≤140737488355328)=true:=decide_eq_true (by simp;omega)
   have hs:h.length-k=(h.length-(k+1))+1:=by omega
   rw[show decide ((k:Int)<(h.length:Int))=true from decide_eq_true (by omega)]
   simp only[cond_true,chk,Int.toNat_natCast,d1,d2,Bool.and_self,Qhd c hlt,Option.bind_some,e1,e2,d3]
   have:=ih (k+1) (acc++[c k-(if k=0 then 0 else c (k-1))]) (by omega) hlt (by simp;omega)
   rw[if_neg (show ¬k+1=0 from by omega),Nat.add_sub_cancel] at this
   rw[this,hs,List.range'_succ,List.map_cons]
   simp
theorem Qn9 (hv:Qgx h us=true) (hN:2000≤N):∃D p,DOK h us D∧Qfn N h us=some (Qgy h us D,Qgd us (Qgy h us D),p,0)∧Qlf h p=true∧Qqg h us p=Qgd us (Qgy h us D):=by
 have hk:=shOK hv
 have hh:=hk.h1
 have h0:=hk.h0
 have hul:=hk.u1
 obtain⟨D,hd,hb⟩:=Q40 (N:=N) hk hN
 have hrn:=Qot (us:=us) D (fro h) hd.wide hd.nn
 have hnx:∀i,nxt (gre us D (fro h)) i≤1000:=fun i=>by
  rcases Qoj (T:=gre us D (fro h)) (i:=i) with e |⟨q,q1,_,q3⟩
  ·omega
  ·have:=(hd.prt (Qkt D (fro h) hd.wide hd.nn q q1).1).2.2
   omega
 let nx:Nat→Int:=fun i=>if nxt (gre us D (fro h)) i<0 then -1 else nxt (gre us D (fro h)) i
 have nxe:∀i,0<nx i→nx i=nxt (gre us D (fro h)) i:=fun i hi=>by
  show(if _ then _ else _)=_
  have hi':0<(if nxt (gre us D (fro h)) i<0 then -1 else nxt (gre us D (fro h)) i):=hi
  split at hi'
  ·omega
  ·next hc=>rw[if_neg hc]
 have nxp:∀i,0<nxt (gre us D (fro h)) i→nx i=nxt (gre us D (fro h)) i:=fun i hi=>by
  show(if _ then _ else _)=_
  rw[if_neg (by omega)]
 have hz:∀i u,us[i]? = some u→0<nx i→∃z,z≤u.Inlet.toNat∧greR us D (fro h) z≤0:=fun i u hu hi=>by
  have he:=nxe i hi
  obtain⟨z,z1,z2,_⟩:=Qor (us:=us) D (fro h) i hd.wide hd.st.srt hd.nn (fun x hx=>(hd.prt hx).2.1) (by omega)
  have e:inlN us i=u.Inlet.toNat:=by unfold inlN;rw[List.getD_eq_getElem?_getD,hu];rfl
  exact⟨z,by omega,by omega⟩
 let cost:Nat→Int:=Qlq nx (greR us D (fro h)) us 0 (fun _=>0)
 have cok:=Qs2 nx (greR us D (fro h)) us 0 (fun _=>0)
 have cbd:∀k,k<h.length→0≤cost k∧cost k≤1000:=fun k _=>by
  obtain⟨a1,_,a3⟩:=cok k
  refine⟨a1,?_⟩
  rcases a3 with e |⟨j,u,_,j2,_,j4⟩
  ·show Qlq _ _ _ _ _ _≤_
   rw[e]
   omega
  ·show Qlq _ _ _ _ _ _≤_
   rw[j4,nxe _ j2]
   exact hnx _
 have hprice:=Qt1 (N:=N) (h:=h) hh cost cbd
 let p:List Int:=(List.range' 0 (h.length-0)).map fun i=>cost i-(if i=0 then 0 else cost (i-1))
 have hpl:p.length=h.length:=by show(List.map _ _).length=_;simp
 have hpg:∀k,k<h.length→p.getD k 0=cost k-(if k=0 then 0 else cost (k-1)):=fun k hk'=>by
  show(List.map _ _).getD k 0=_
  rw[List.getD_eq_getElem?_getD,List.getElem?_map,List.getElem?_range' (by omega)]
  simp
 have hdual:=hd.dual cost (fun i=>kz (greR us D (fro h)) ((us.getD i ⟨0,[]⟩).Inlet.toNat)) p hpl (fun i u hu hi=>by
   rw[List.getD_eq_getElem?_getD,hu]
   exact Q4j _ _ (hz i u hu (by rw[nxp i hi];exact hi)))
  (fun i u hu hi k hk1 hk2=>by
   rw[List.getD_eq_getElem?_getD,hu] at hk1
   have:=(cok k).2.1 i u hu (by rw[Nat.zero_add,nxp i hi];exact hi) hk1
   rw[Nat.zero_add,nxp i hi] at this
   exact this)
  (fun k hk1=>by
   rcases(cok k).2.2 with e |⟨j,u,j1,j2,j3,j4⟩
   ·exact Or.inl e
   ·rw[Nat.zero_add] at j2 j4
    have he:=nxe j j2
    refine Or.inr ⟨j,u,j1,by omega,?_,j4.trans he⟩
    rw[List.getD_eq_getElem?_getD,j1]
    exact j3) hpg
 have hmb:∀m∈Qgy h us D,0≤m∧m≤9223372036854775807:=fun m hm=>by
  have hs:=hd.share
  unfold Qij at hs
  simp only[Bool.and_eq_true,decide_eq_true_eq] at hs
  have:=Qmr hk.ub hs.1.1 hs.1.2 m hm
  omega
 refine⟨D,p,hd,?_,hdual.1,hdual.2⟩
 unfold Qfn
 rw[Qwm (by omega),Option.bind_some,hv,Bool.not_true,cond_false,hb,Option.bind_some]
 have hc:=Qya (β:=List Int×Int×List Int×Int) 8 h.length (by omega) (by omega)
 rw[show((8:Nat):Int)=8 from rfl] at hc
 rw[hc]
 simp only[Qb5,Int.toNat_natCast,Qwo]
 have a1:=Qx5 (N:=N) (h:=h) (us:=us) hk (by omega) (Qgy h us D,rw' h.length (greR us D (fro h)),rw' us.length nx) (greR us D (fro h)) nx rfl rfl hz
  (fun y7=>Qc7 N h y7 (fun y9=>(Qdk N (⟨h,us⟩:Qc2) (Qgy h us D)).bind fun x12=>some (Qgy h us D,x12,y9,0)) N ([]) 0 0) N 0 (fun _=>0) (by omega) (Nat.zero_le _)
 rw[show((0:Nat):Int)=0 from rfl,List.drop_zero] at a1
 refine Eq.trans a1 ?_
 have a2:=hprice (fun y9=>(Qdk N (⟨h,us⟩:Qc2) (Qgy h us D)).bind fun x12=>some (Qgy h us D,x12,y9,0)) N 0 [] (by omega) (Nat.zero_le _) rfl
 rw[if_pos rfl,show((0:Nat):Int)=0 from rfl,List.nil_append] at a2
 refine Eq.trans a2 ?_
 rw[Qzd (by omega) hul (show(Qgy h us D).length=us.length from Qik _ _) hk.ub hmb]
 rfl
end
end
section
theorem Qqz (N:Nat) (t:List Qah) (K:List Qah→Option (List Qah)) (hN:200≤N) (hl:t.length≤1000) (hr:∀u∈t,u.Parts.length≤100):∀(n i:Nat) (acc:List Qah),(t.drop i).length<n→acc.length=i →
  Qdp N t K n acc i=K (acc++t.drop i):=by
 intro n
 induction n with
 |zero=>intro i _ h;exact absurd h (Nat.not_lt_zero _)
 |succ n ih=>
  intro i acc h hacc
  rw[Qdp]
  cases hd:t.drop i with
  |nil=>
   have:=Qd4 hd
   simp[show ¬((i:Int)<t.length) from by omega]
  |cons b l=>
   obtain⟨hg,hd',hlt⟩:=Qdg hd
   have e1:w64 ((i:Int)+1)=((i+1:Nat):Int):=Qa5 (by omega) (by omega)
   have e2:=Qs3 (N:=N) (hr b (List.mem_of_getElem? hg)) hN
   simp only[show decide ((i:Int)<t.length)=true from by simpa using hlt,cond_true,Qcv hg,Option.bind_some,e1,e2]
   rw[ih (i+1) (acc++[b]) (by rw[hd'];rw[hd] at h;simp at h;omega) (by simp[hacc]),hd']
   simp only[chk,show decide ((acc.length+[b].length)*32≤140737488355328)=true from by simp;omega,cond_true,List.append_assoc,List.cons_append,List.nil_append]
theorem Qwa {N:Nat}{t:List Qah}(hl:t.length≤100) (hr:∀u∈t,u.Parts.length≤100) (hN:300≤N):Qgu N t=some t:=by
 unfold Qgu
 simp only[Qb5]
 have:=Qqz N t (fun y1=>some y1) (by omega) (by omega) hr N 0 [] (by simp;omega) rfl
 simpa using this
end
section
def Qc0 (N p0:Nat) (p1:List Qah) (k3:(List Qah)→Option (List Qah)):Nat→(List Qah)→Int→Option (List Qah)
  |0,_,_=>none
  |n8+1,y4,y5=>
    bif (decide (y5<((p0:Nat):Int))) then
     chk (decide (0≤y5)&&decide (y5.toNat<p0))<|
     (p1[y5.toNat]?).bind fun x11=>
     (Qgg N x11).bind fun x14=>
     chk (decide ((y4.length+([x14]).length)*32≤140737488355328))<|
     Qc0 N p0 p1 k3 n8 (y4++([x14])) (w64 (y5+1))
    else
     k3 (y4)
def Qfc (N p0:Nat) (p1:List Qah):Option (List Qah):=
  Qb5 (fun y2=>
    some y2) fun k3:(List Qah)→Option (List Qah)=>
  Qc0 N p0 p1 k3 N ([]) 0
abbrev Qlm (p1:List Qah):Slot:=.own 2 (p1.map Qaj)
def Q49 (x11:Qah):AV:=.agg [(I x11.Inlet),(.dat 2 (x11.Parts.map Qbe))]
def Q1v (x14:Qah):AV:=.agg [(I x14.Inlet),(.dat 2 (x14.Parts.map Qbe))]
theorem Qhz (N p0:Nat) (p1 r:List Qah) (h:Qfc N p0 p1=some r):Spec prog 35 [(.own 0 2 (0) p0)] [(Qlm p1)] (.dat 2 (r.map Qaj)) [(Qlm p1)]:=by
  refine sF func35 1 fun _ _ _ hq hd0=>?_
  unfold Qfc at h
  refine wxz<|wxz ?_
  obtain⟨k3,hk_k3,h⟩:=jko h
  refine wjn (τ:=(List Qah)) (fun t=>k3 t=some r) (fun y2=>⟨mk 20 [(3,(.acc 1 173 2 (y2.map Qaj)))],[(Qlm p1),.tok]⟩) (fun y2 h=>?_) ?_
  ·subst hk_k3
   refine wxz<|wmr (mto (n:=20) (l':=[(2,(.dat 2 (y2.map Qaj)))]) (own':=[(Qlm p1)]) [(2,(.acc 1 173 2 (y2.map Qaj)))] [0] [(Qlm p1)] hq (pc (.dat _ _ _ _ (Qdw Qai _)) pn) (qc (spr Qai) qn))<|Qae ?_
   obtain rfl:=osi h
   exact⟨_,Mor.rfl,fio [(.dat 2 (y2.map Qaj))] ⟨rot,tv⟩⟩
  ·skip
   refine wxz<|Qag ?_
   refine wmr (Mor.trans (Qml 1 173 2 3 (by kernel_rfl) (by kernel_rfl)) (mto (n:=20) (l':=[(0,(.own 0 2 (0) p0)),(3,(.acc 1 173 2 ((([]):List Qah).map Qaj))),(4,I 0)]) (own':=[(Qlm p1),.tok]) [(0,(.own 0 2 (0) p0)),(3,(.acc 1 173 2 (([]:List Qah).map Qaj))),(4,I 0)] [0,1] [(Qlm p1),.tok] hq (pc (.rn (Qal rfl)) (pc (.rn (Qe1 rfl (Qdw Qai _))) (pw pn))) (qc (spr Qai) (qc .tok qn)))) ?_
   refine Qb8 (τ:=(List Qah)×Int) (fun n t=>Qc0 N p0 p1 k3 n t.1 t.2=some r) (fun ⟨y4,y5⟩=>⟨mk 20 [(0,(.own 0 2 (0) p0)),(3,(.acc 1 173 2 (y4.map Qaj))),(4,I y5)],[(Qlm p1),.tok]⟩) (fun t h=>by rw[Qc0] at h;cases h) (fun n8 ih t h=>?_) N ([],0) h
   obtain⟨y4,y5⟩:=t
   rw[Qc0] at h
   skip
   refine wsq<|wx tbk [(2,rp [(.tmp 6,(.own 0 2 (0) p0))] (I (((p0:Nat):Int))))] ⟨aln rfl underlying89 rfl,tv⟩ ?_
   refine bfe h (fun hc9 h=>?_) fun hc9 h=>?_
   ·refine wft hc9<|Qan<|thn<|wsq<|Qag ?_
    obtain⟨hi10,h⟩:=cko h
    obtain⟨hi10a,hi10b⟩:=Qcb hi10
    obtain⟨x11,hg12,h⟩:=bno h
    obtain⟨x14,hf13,h⟩:=bno h
    obtain⟨ha15,h⟩:=cko h
    refine wx1 tbk [(3,rb [(.tmp 12,(.own 0 2 (0) p0)),(.tmp 13,I y5)] [(0,(Qlm p1))] (.ref 0 2 y5.toNat 0)),(4,rb [(.tmp 14,(.ref 0 2 y5.toNat 0))] [(0,(Qlm p1))] (Q49 x11)),(5,rp _ _),(6,rp [(.tmp 16,(Q1v x14))] (.dat 2 (([x14]:List Qah).map Qaj))),(7,⟨[(.tmp 11,(.acc 1 173 2 (y4.map Qaj))),(.tmp 17,(.dat 2 (([x14]:List Qah).map Qaj)))],[(1,.tok),(2,.unused)],(.acc 2 173 2 ((y4++([x14]):List Qah).map Qaj)),[(1,.dead),(2,.tok)],false⟩)] ⟨aio rfl underlying89 ti92 (odt hi10a) (odt hi10b) (Nat.zero_add _),ald rfl ti92 (by decide) (mgt Qaj hg12) (nle rfl) rfl,apw Qxx (Qjq N x11 _ hf13),Qd0 (vs:=[(Q1v x14)]) rfl underlying107 Qn6 Qwb rfl (by decide) rfl (by decide) (by rfl) (by rfl) (by rfl) rfl,Qfv rfl underlying107 Q6e (Base.acc _ _) rfl rfl (by rfl) (Qj5 Qaj ha15) (Qj4 Qaj ha15 (by decide)) (Qj3 Qaj) rfl rfl,tv⟩<|bln<|thn<|wxz1<|thn ?_
    exact arm (mto (n:=20) [(0,(.own 0 2 (0) p0)),(3,(.acc 2 173 2 ((y4++([x14]):List Qah).map Qaj))),(4,(I (w64 (y5+1))))] [0,2] [(Qlm p1),.tok] hq (pc (.rn (Qal rfl)) (pc (.rn (Qe1 rfl (Qdw Qai _))) (pw pn))) (qc (spr Qai) (qc .tok qn))) (ih (y4++([x14]),w64 (y5+1)) h)
   ·exact wfn hc9<|Qbi<|Qaw<|Qaw<|Qbh rfl<|thn<|⟨(y4),h,(mto (n:=20) [(3,(.acc 1 173 2 (y4.map Qaj)))] [0,1] [(Qlm p1),.tok] hq (pc (.rn (Qe1 rfl (Qdw Qai _))) pn) (qc (spr Qai) (qc .tok qn)))⟩
def Qcz (N:Nat) (x8:((List Int)×Bool)) (x14:((List Int)×Bool)) (k25:(List Qah)→Option Bool):Nat→Int→(List Qah)→Option Bool
  |0,_,_=>none
  |n55+1,y51,y52=>
    bif (decide (y51<(x8.1.length:Int))) then
     (getI x14.1 (w64 (y51+1))).bind fun x57=>
     (getI x8.1 y51).bind fun x61=>
     bif (x57 != x61) then
      some false
     else
      Qcz N x8 x14 k25 n55 (w64 (y51+1)) y52
    else
     k25 (y52)
def Qcy (N:Nat) (p3:List Qah) (k23:(List Qah)→Option Bool):Nat→Int→(List Qah)→Option Bool
  |0,_,_=>none
  |n70+1,y66,y67=>
    bif (decide (y66<((p3.length:Nat):Int))) then
     chk (!y67.isEmpty)<|
     chk (decide (0≤y66)&&decide (y66.toNat<p3.length))<|
     (y67[y66.toNat]?).bind fun x74=>
     chk (decide (0≤y66)&&decide (y66.toNat<p3.length))<|
     (y67[y66.toNat]?).bind fun x77=>
     Qcy N p3 k23 n70 (w64 (y66+1)) (y67.set y66.toNat (⟨w64 (x74.Inlet+1),x77.Parts⟩:Qah))
    else
     k23 (y67)
def Qgj (N:Nat) (p0:List GRow) (p1:List Int) (p2:Qap) (p3:List Qah) (p4:Qah):Option Bool:=
  Qb5 (fun _=>
    (Qf3 N p0).bind fun x3=>
    chk (decide (0≤0)&&decide (0≤w64 ((p1.length:Int)-1))&&decide (w64 ((p1.length:Int)-1)≤(p1.length:Int)))<|
    (Qgb N p2).bind fun x6=>
    (Qg8 N x3 ((p1).take ((w64 ((p1.length:Int)-1)).toNat-0)) x6).bind fun x8=>
    (Qf3 N p0).bind fun x10=>
    (Qgb N p2).bind fun x12=>
    (Qg8 N x10 p1 x12).bind fun x14=>
    Qb5 (fun _=>
      (Qe2 N x8.1 p3).bind fun x17=>
      bif (!x17) then
       (Qek 2000 ).bind fun x20=>
       some x20
      else
       chk (decide ((0+p3.length)*32≤140737488355328))<|
       Qb5 (fun y22=>
         Qb5 (fun y24=>
           (Qgu N p3).bind fun x27=>
           (Qfn N x8.1 x27).bind fun x29=>
           chk (decide ((0+x14.1.length)*8≤140737488355328))<|
           chk (!y24.isEmpty)<|
           (Qfc N p3.length y24).bind fun x33=>
           (Qfn N x14.1 x33).bind fun x35=>
           chk (decide ((0+x14.1.length)*8≤140737488355328))<|
           chk (decide (p3.length=y24.length))<|
           chk (decide ((y24.length+([(⟨0,p4.Parts⟩:Qah)]).length)*32≤140737488355328))<|
           chk (!(y24++([(⟨0,p4.Parts⟩:Qah)])).isEmpty)<|
           (Qfc N ((y24++([(⟨0,p4.Parts⟩:Qah)])).length) (y24++([(⟨0,p4.Parts⟩:Qah)]))).bind fun x41=>
           (Qfn N x14.1 x41).bind fun x43=>
           bif (x29.2.2.2==0) then
            bif (x35.2.2.2==0) then
             bif (x43.2.2.2==0) then
              bif (x29.2.1==x35.2.1) then
               bif (decide (x43.2.1≥x35.2.1)) then
                (Qek 2000 ).bind fun x50=>
                some x50
               else
                some false
              else
               some false
             else
              some false
            else
             some false
           else
            some false) fun k25:(List Qah)→Option Bool=>
         Qcz N x8 x14 k25 N 0 y22) fun k23:(List Qah)→Option Bool=>
       Qcy N p3 k23 N 0 p3) fun k15:Unit→Option Bool=>
    bif (!x8.2) then
     some false
    else
     bif (!x14.2) then
      some false
     else
      k15 ()) fun k1:Unit→Option Bool=>
  (Qgs N p0).bind fun x82=>
  bif (!x82) then
   (Qek 2000 ).bind fun x85=>
   some x85
  else
   (Qf9 N (p0.length:Int) p1).bind fun x87=>
   bif (!x87) then
    (Qek 2000 ).bind fun x90=>
    some x90
   else
    bif (decide ((p1.length:Int)<2)) then
     (Qek 2000 ).bind fun x93=>
     some x93
    else
     bif (decide ((p1.length:Int)>6)) then
      (Qek 2000 ).bind fun x96=>
      some x96
     else
      (Qeo N p2).bind fun x98=>
      bif (!x98) then
       (Qek 2000 ).bind fun x101=>
       some x101
      else
       bif (decide ((p3.length:Int)>9)) then
        (Qek 2000 ).bind fun x104=>
        some x104
       else
        (Qf2 N p4).bind fun x106=>
        bif (!x106) then
         (Qek 2000 ).bind fun x109=>
         some x109
        else
         k1 ()
def Qim (p3:List Qah):AV:=.dat 2 (p3.map Qaj)
def Q5a (p2:Qap):Slot:=.own 4 [[(I p2.Mass),(I p2.Heat),(I p2.Silica),(I p2.Gas)]]
def Qyq (p4:Qah):AV:=.dat 2 (p4.Parts.map Qbe)
def Qjl (p4:Qah):Slot:=.own 2 [[(I p4.Inlet),(Qyq p4)]]
def Q63 (p1:List Int):AV:=.dat 1 (((p1).take ((w64 ((p1.length:Int)-1)).toNat-0):List Int).map Qab)
def Q64 (p2:Qap):AV:=.agg [(I p2.Mass),(I p2.Heat),(I p2.Silica),(I p2.Gas)]
def Qj7 (x8:((List Int)×Bool)):AV:=.dat 1 (x8.1.map Qab)
def Qgf (x14:((List Int)×Bool)):AV:=.dat 1 (x14.1.map Qab)
def Qr1 (x33:List Qah):AV:=.dat 2 (x33.map Qaj)
def Qu5 (p4:Qah):AV:=.dat 2 (([(⟨0,p4.Parts⟩:Qah)]:List Qah).map Qaj)
def Qr0 (x41:List Qah):AV:=.dat 2 (x41.map Qaj)
def Qu4 (x29:((List Int)×Int×(List Int)×Int)):List (Nat×Rec):=[(2,rp [((.tmp 167),(B ((x29.2.2.2==0))))] (B true))]
def Qu3 x29 (x35:((List Int)×Int×(List Int)×Int)):=hcat (Qu4 x29) [(6,rp [((.tmp 171),(B ((x35.2.2.2==0))))] (B true))]
def Qrz x29 x35 (x43:((List Int)×Int×(List Int)×Int)):=hcat (Qu3 x29 x35) [(10,rp [((.tmp 175),(B ((x43.2.2.2==0))))] (B true))]
def Qlc (y67:List Qah):Slot:=.gro 2 (y67.map Qaj)
def Qm7 (y67:List Qah):Slot:=.own 2 (y67.map Qaj)
def Qu2 (p0:List GRow) (x82:Bool):List (Nat×Rec):=[(1,rp [fu 25,((.tmp 31),(.dat 5 (p0.map Qat)))] (B x82))]
def Qu1 p0 x82 (p1:List Int) (x87:Bool):=hcat (Qu2 p0 x82) [(3,rp [((.tmp 33),(B ((!x82))))] (B false)),(5,rp [((.tmp 34),(B false)),((.tmp 35),(.dat 5 (p0.map Qat)))] (I ((p0.length:Int)))),(7,rp [((.tmp 34),(B false)),fu 26,((.tmp 36),(I ((p0.length:Int)))),((.tmp 37),(.dat 1 (p1.map Qab)))] (B x87))]
def Qu0 p0 x82 p1 x87:=hcat (Qu1 p0 x82 p1 x87) [(10,rp [((.tmp 40),(B ((!x87))))] (B false)),(12,rp [((.tmp 41),(B false)),((.tmp 42),(.dat 1 (p1.map Qab)))] (I ((p1.length:Int))))]
def Quz p0 x82 p1 x87:=hcat (Qu0 p0 x82 p1 x87) [(15,rp [((.tmp 45),(B ((decide ((p1.length:Int)<2)))))] (B false)),(17,rp [((.tmp 46),(B false)),((.tmp 47),(.dat 1 (p1.map Qab)))] (I ((p1.length:Int))))]
def Quy p0 x82 p1 x87 (p2:Qap) (x98:Bool):=hcat (Quz p0 x82 p1 x87) [(20,rp [((.tmp 50),(B ((decide ((p1.length:Int)>6)))))] (B false)),(22,rp [((.tmp 51),(B false)),fu 27,((.tmp 52),(Q64 p2))] (B x98))]
def Qux p0 x82 p1 x87 p2 x98 (p3:List Qah):=hcat (Quy p0 x82 p1 x87 p2 x98) [(25,rp [((.tmp 55),(B ((!x98))))] (B false)),(27,rp [((.tmp 56),(B false)),((.tmp 57),(Qim p3))] (I ((p3.length:Int))))]
theorem Qk6 (N:Nat) (p0:List GRow) (p1:List Int) (p2:Qap) (p3:List Qah) (p4:Qah) (r:Bool) (h:Qgj N p0 p1 p2 p3 p4=some r):Spec prog 6 [(.dat 5 (p0.map Qat)),(.dat 1 (p1.map Qab)),(.agg (Qet p2)),(.dat 2 (p3.map Qaj)),(.agg (Qaj p4))] [] (B r) []:=by
  refine sA func6 0 fun _ _ _ hq hd0=>?_
  unfold Qgj at h
  refine wxz ?_
  obtain⟨k1,hk_k1,h⟩:=jko h
  refine wjn (τ:=Unit) (fun t=>k1 t=some r) (fun _=>⟨mk 189 [(0,(.dat 5 (p0.map Qat))),(1,(.dat 1 (p1.map Qab))),(3,(Qim p3)),(7,.ref 0 4 0 0),(9,.ref 1 2 0 0)],[(Q5a p2),(Qjl p4)]⟩) (fun t h=>?_) ?_
  ·subst hk_k1
   refine wx tbk [(1,rp _ _)] ⟨alq 1 Qab p1 underlying22,tv⟩ ?_
   obtain⟨x3,hf2,h⟩:=bno h
   obtain⟨hs4,h⟩:=cko h
   obtain⟨x6,hf5,h⟩:=bno h
   obtain⟨x8,hf7,h⟩:=bno h
   refine wxd tbk [(1,rp _ _),(5,rp [(.tmp 72,(.dat 1 (p1.map Qab))),(.tmp 74,(I (w64 ((p1.length:Int)-1))))] (Q63 p1)),(7,rp _ _),(8,rp _ _)] ⟨apw Qx0 (Qja N p0 _ hf2),Qje (k:=.i64) (k':=.i64) (lo:=none) (hi:=some (.tmp 74)) (l:=0) (hh:=w64 ((p1.length:Int)-1)) rfl underlying22 ti3 rfl (fun _=>rfl) (fun e=>nomatch e) (Quv hs4) (Quu hs4) (Q48 Qab hs4) (Q7v Qab),apw Qxz (Qil N p2 _ hf5),apw Qx1 (Qkh N x3 ((p1).take ((w64 ((p1.length:Int)-1)).toNat-0)) x6 _ hf7),tv⟩ ?_
   obtain⟨x10,hf9,h⟩:=bno h
   obtain⟨x12,hf11,h⟩:=bno h
   obtain⟨x14,hf13,h⟩:=bno h
   refine wxd tbk [(1,rp _ _),(4,rp _ _),(5,rp _ _)] ⟨apw Qx0 (Qja N p0 _ hf9),apw Qxz (Qil N p2 _ hf11),apw Qx1 (Qkh N x10 p1 x12 _ hf13),tv⟩ ?_
   obtain⟨k15,hk_k15,h⟩:=jko h
   refine wjn (τ:=Unit) (fun t=>k15 t=some r) (fun _=>⟨mk 189 [(3,(Qim p3)),(9,.ref 0 2 0 0),(12,(Qj7 x8)),(14,(Qgf x14))],[(Qjl p4)]⟩) (fun t h=>?_) ?_
   ·subst hk_k15
    refine wsq ?_
    obtain⟨x17,hf16,h⟩:=bno h
    refine wx tbk [(2,rp _ _)] ⟨apw Q4u (Qjn N x8.1 p3 _ hf16),tv⟩ ?_
    refine bfe h (fun hc18 h=>?_) fun hc18 h=>?_
    ·refine wft hc18 ?_
     obtain⟨x20,hf19,h⟩:=bno h
     exact wx tbk [(0,rp _ _)] ⟨apw Qig (Qea 2000  _ hf19),tv⟩<|Qae<|Qak<|frb h
    ·refine wfn hc18<|Qan<|thn ?_
     obtain⟨ha21,h⟩:=cko h
     refine wx tbk [(1,⟨[((.const (.slice none 0 0)),nilS),(.tmp 101,(Qim p3))],[(1,.unused),(2,.unused)],(.gro 2 92 2 p3.length),[(1,.dead),(2,(.gro 2 (p3.map Qaj)))],false⟩)] ⟨Quq (c:=Qaj) (b:=p3) rfl underlying89 te92 rfl (Qkp Qaj Qwy _) ha21 (by decide) rfl,tv⟩ ?_
     obtain⟨k23,hk_k23,h⟩:=jko h
     refine wjn (τ:=(List Qah)) (fun t=>k23 t=some r) (fun y22=>⟨mk 189 [(3,(Qim p3)),(9,.ref 0 2 0 0),(12,(Qj7 x8)),(14,(Qgf x14)),(16,(.gro 1 92 2 p3.length))],[(Qjl p4),(.gro 2 (y22.map Qaj))]⟩) (fun y22 h=>?_) ?_
     ·subst hk_k23
      obtain⟨k25,hk_k25,h⟩:=jko h
      refine wjn (τ:=(List Qah)) (fun t=>k25 t=some r) (fun y24=>⟨mk 189 [(3,(Qim p3)),(9,.ref 0 2 0 0),(12,(Qj7 x8)),(14,(Qgf x14)),(16,(.gro 1 92 2 p3.length))],[(Qjl p4),(.gro 2 (y24.map Qaj))]⟩) (fun y24 h=>?_) ?_
      ·subst hk_k25
       refine wxz ?_
       obtain⟨x27,hf26,h⟩:=bno h
       obtain⟨x29,hf28,h⟩:=bno h
       refine wx tbk [(2,rp _ _),(3,rp _ _)] ⟨apw Qri (Qmm N p3 _ hf26),apw Qrj (Qhe N x8.1 x27 _ hf28),tv⟩ ?_
       obtain⟨ha30,h⟩:=cko h
       obtain⟨hz31,h⟩:=cko h
       obtain⟨x33,hf32,h⟩:=bno h
       obtain⟨x35,hf34,h⟩:=bno h
       refine wx tbk [(1,⟨[((.const (.slice none 0 0)),nilS),(.tmp 144,(Qgf x14))],[(2,.unused)],(.acc 2 3 1 (x14.1.map Qab)),[(2,.tok)],false⟩),(3,⟨[fu 35,(.tmp 146,(.gro 1 92 2 p3.length))],[(1,(.gro 2 (y24.map Qaj)))],(Qr1 x33),[(1,(.gro 2 (y24.map Qaj)))],false⟩),(4,rp [fu 34,(.tmp 145,(.acc 2 3 1 (x14.1.map Qab))),(.tmp 147,(Qr1 x33))] (.tup [(.dat 1 (x35.1.map Qab)),I x35.2.1,(.dat 1 (x35.2.2.1.map Qab)),I x35.2.2.2]))] ⟨Qfv rfl underlying22 te3 (Base.nil) rfl rfl (Qkp Qab Qmj _) (Ql0 Qab ha30) (Qlz Qab ha30 (by decide)) (Qpa Qab) rfl rfl,Qe7 (bl':=[(1,(.own 2 (y24.map Qaj)))]) ⟨rfl,SLess.gro (Qdc hz31),tv⟩ (Qj2 SLess.ungro (awk (rd':=[fu 35,(.tmp 146,(.own 1 2 (0) p3.length))]) ⟨rfl,lrf,rfl,Less.gro,tv⟩ (acq [(.own 1 2 (0) p3.length)] [(.own 2 (y24.map Qaj))] [(.own 2 (y24.map Qaj))] (Qr1 x33) [1] Qri (Qhz N p3.length y24 _ hf32) (Qco (rnc (Qfs rfl) rn0)) (slc (Qcu Qai) Qas) (slc (Qcu Qai) Qas) (pld Qai)))),awk (rd':=(.func 34,(.fn (.func 34) [] []))::[(.tmp 145,(Qgf x14)),(.tmp 147,(Qr1 x33))]) ⟨rfl,lrf,rfl,Less.acc,rfl,lrf,tv⟩ (apv Qrj (Qhe N x14.1 x33 _ hf34) (nlc (nld Qad _) (nlc (nld Qai _) nl0)) (NLt.tup _ (nlc (nld Qad _) (nlc nll (nlc (nld Qad _) (nlc nll nl0)))))),tv⟩ ?_
       obtain⟨ha36,h⟩:=cko h
       obtain⟨hz37,h⟩:=cko h
       obtain⟨ha38,h⟩:=cko h
       obtain⟨hz39,h⟩:=cko h
       obtain⟨x41,hf40,h⟩:=bno h
       obtain⟨x43,hf42,h⟩:=bno h
       refine wxd tbk [(1,⟨[((.const (.slice none 0 0)),nilS),(.tmp 154,(Qgf x14))],[(3,.unused)],(.acc 3 3 1 (x14.1.map Qab)),[(3,.tok)],false⟩),(4,rp [(.tmp 157,(.agg [I 0,(Qyq p4)]))] (Qu5 p4)),(5,⟨[(.tmp 156,(.gro 1 92 2 p3.length)),(.tmp 158,(Qu5 p4))],[(1,(.gro 2 (y24.map Qaj))),(4,.unused)],(.gro 4 92 2 ((y24++([(⟨0,p4.Parts⟩:Qah)])).length)),[(1,.dead),(4,(.gro 2 ((y24++([(⟨0,p4.Parts⟩:Qah)]):List Qah).map Qaj)))],false⟩),(6,⟨[fu 35,(.tmp 159,(.gro 4 92 2 ((y24++([(⟨0,p4.Parts⟩:Qah)])).length)))],[(4,(.gro 2 ((y24++([(⟨0,p4.Parts⟩:Qah)]):List Qah).map Qaj)))],(Qr0 x41),[(4,(.gro 2 (((y24++([(⟨0,p4.Parts⟩:Qah)])):List Qah).map Qaj)))],false⟩),(7,rp [fu 34,(.tmp 155,(.acc 3 3 1 (x14.1.map Qab))),(.tmp 160,(Qr0 x41))] (.tup [(.dat 1 (x43.1.map Qab)),I x43.2.1,(.dat 1 (x43.2.2.1.map Qab)),I x43.2.2.2]))] ?_ ?_
       ·exact⟨Qfv rfl underlying22 te3 (Base.nil) rfl rfl (Qkp Qab Qmj _) (Ql0 Qab ha36) (Qlz Qab ha36 (by decide)) (Qpa Qab) rfl rfl,Qd0 (vs:=[(.agg [I 0,(Qyq p4)])]) rfl underlying89 ti92 tz92 rfl (by decide) rfl (by decide) (by rfl) (by rfl) (by rfl) rfl,awk (rd':=[(.tmp 156,(.gro 1 92 2 y24.length)),(.tmp 158,(Qu5 p4))]) ⟨rfl,Less.grolen (of_decide_eq_true hz37),rfl,lrf,tv⟩ (Qii (c:=Qaj) (a:=y24) (b:=[(⟨0,p4.Parts⟩:Qah)]) rfl underlying89 te92 rfl (Qdc rfl) (by rfl) ha38 (by decide)),Qe7 (bl':=[(4,(.own 2 ((y24++([(⟨0,p4.Parts⟩:Qah)]):List Qah).map Qaj)))]) ⟨rfl,SLess.gro (Qdc hz39),tv⟩ (Qj2 SLess.ungro (awk (rd':=[fu 35,(.tmp 159,(.own 4 2 (0) ((y24++([(⟨0,p4.Parts⟩:Qah)])).length)))]) ⟨rfl,lrf,rfl,Less.gro,tv⟩ (acq [(.own 4 2 (0) (((y24++([(⟨0,p4.Parts⟩:Qah)])).length)))] [(.own 2 ((y24++([(⟨0,p4.Parts⟩:Qah)]):List Qah).map Qaj))] [(.own 2 (((y24++([(⟨0,p4.Parts⟩:Qah)])):List Qah).map Qaj))] (Qr0 x41) [4] Qri (Qhz N ((y24++([(⟨0,p4.Parts⟩:Qah)])).length) (y24++([(⟨0,p4.Parts⟩:Qah)])) _ hf40) (Qco (rnc (Qfs rfl) rn0)) (slc (Qcu Qai) Qas) (slc (Qcu Qai) Qas) (pld Qai)))),awk (rd':=(.func 34,(.fn (.func 34) [] []))::[(.tmp 155,(Qgf x14)),(.tmp 160,(Qr0 x41))]) ⟨rfl,lrf,rfl,Less.acc,rfl,lrf,tv⟩ (apv Qrj (Qhe N x14.1 x41 _ hf42) (nlc (nld Qad _) (nlc (nld Qai _) nl0)) (NLt.tup _ (nlc (nld Qad _) (nlc nll (nlc (nld Qad _) (nlc nll nl0)))))),tv⟩
       refine bfe h (fun hb44 h=>?_) fun hb44 h=>?_
       ·refine hpre (A:=(Qu4 x29)) ⟨asb hb44 (amv rfl),tv⟩ fun q1_=>?_
        refine bfe h (fun hb45 h=>?_) fun hb45 h=>?_
        ·refine hpre (A:=(Qu3 x29 x35)) (hap q1_ ⟨asb hb45 (amv rfl),tv⟩) fun q2_=>?_
         refine bfe h (fun hb46 h=>?_) fun hb46 h=>?_
         ·refine hpre (A:=(Qrz x29 x35 x43)) (hap q2_ ⟨asb hb46 (amv rfl),tv⟩) fun q3_=>?_
          refine bfe h (fun hb47 h=>?_) fun hb47 h=>?_
          ·refine bfe h (fun hb48 h=>?_) fun hb48 h=>?_
           ·obtain⟨x50,hf49,h⟩:=bno h
            exact wx tbk (hcat (Qrz x29 x35 x43) [(15,rp [(.tmp 180,(B ((x29.2.1==x35.2.1))))] (B true)),(20,rp [(.tmp 185,(B ((decide (x43.2.1≥x35.2.1)))))] (B true)),(21,rp [(.tmp 186,B true),fu 29] (B x50))]) (hap q3_ ⟨asb hb47 (amv rfl),asb hb48 (amv rfl),ag_ (apv Qig (Qea 2000  _ hf49) nl0 nll),tv⟩)<|Qae<|frb h
           ·exact wx tbk (hcat (Qrz x29 x35 x43) [(15,rp [(.tmp 180,(B ((x29.2.1==x35.2.1))))] (B true)),(20,rp [(.tmp 185,(B ((decide (x43.2.1≥x35.2.1)))))] (B false))]) (hap q3_ ⟨asb hb47 (amv rfl),asb hb48 (amv rfl),tv⟩)<|Qae<|frb h
          ·exact wx tbk (hcat (Qrz x29 x35 x43) [(15,rp [(.tmp 180,(B ((x29.2.1==x35.2.1))))] (B false))]) (hap q3_ ⟨asb hb47 (amv rfl),tv⟩)<|Qae<|frb h
         ·exact wx tbk (hcat (Qu3 x29 x35) [(10,rp [(.tmp 175,(B ((x43.2.2.2==0))))] (B false))]) (hap q2_ ⟨asb hb46 (amv rfl),tv⟩)<|Qae<|frb h
        ·exact wx tbk (hcat (Qu4 x29) [(6,rp [(.tmp 171,(B ((x35.2.2.2==0))))] (B false))]) (hap q1_ ⟨asb hb45 (amv rfl),tv⟩)<|Qae<|frb h
       ·exact wx tbk [(2,rp [(.tmp 167,(B ((x29.2.2.2==0))))] (B false))] ⟨asb hb44 (amv rfl),tv⟩<|Qae<|frb h
      ·skip
       refine wxz<|Qag ?_
       refine wmr (mto (n:=189) (l':=[(3,(Qim p3)),(9,.ref 0 2 0 0),(12,(Qj7 x8)),(14,(Qgf x14)),(16,(.gro 1 92 2 p3.length)),(18,I 0)]) (own':=[(Qjl p4),(.gro 2 (y22.map Qaj))]) [(3,(Qim p3)),(9,.ref 0 2 0 0),(12,(Qj7 x8)),(14,(Qgf x14)),(16,(.gro 1 92 2 p3.length)),(18,I 0)] [0,1] [(Qjl p4),(.gro 2 (y22.map Qaj))] hq (pc (rnd Qai) (prr (pc (rnd Qad) (pc (rnd Qad) (pc (.rn (Qfe rfl)) (pw pn)))))) (qb (lc rwl (lc (rnd Qbo) ln)) (qc (Qej Qai) qn))) ?_
       refine Qb8 (τ:=Int×(List Qah)) (fun n t=>Qcz N x8 x14 k25 n t.1 t.2=some r) (fun ⟨y51,y52⟩=>⟨mk 189 [(3,(Qim p3)),(9,.ref 0 2 0 0),(12,(Qj7 x8)),(14,(Qgf x14)),(16,(.gro 1 92 2 p3.length)),(18,I y51)],[(Qjl p4),(.gro 2 (y52.map Qaj))]⟩) (fun t h=>by rw[Qcz] at h;cases h) (fun n55 ih t h=>?_) N (0,y22) h
       obtain⟨y51,y52⟩:=t
       rw[Qcz] at h
       skip
       refine wsq<|wx tbk [(2,rp _ _)] ⟨alq 1 Qab x8.1 underlying22,tv⟩ ?_
       refine bfe h (fun hc56 h=>?_) fun hc56 h=>?_
       ·refine wft hc56<|Qan<|thn<|wsq<|Qag ?_
        obtain⟨x57,hg58,h⟩:=bno h
        obtain⟨hi59,hj60⟩:=gsm hg58
        obtain⟨x61,hg62,h⟩:=bno h
        obtain⟨hi63,hj64⟩:=gsm hg62
        refine wxd tbk [(3,rp _ _),(7,rp _ _)] ⟨aiq underlying22 ti3 Qab hi59 hj60,aiq underlying22 ti3 Qab hi63 hj64,tv⟩ ?_
        refine bfe h (fun hc65 h=>?_) fun hc65 h=>?_
        ·exact wft hc65<|wxz<|Qae<|Qa3<|Qak<|Qak<|Qa3<|Qak<|frb h
        ·exact wfn hc65<|Qan<|bln<|thn<|wxz1<|thn<|arm (mto (n:=189) [(3,(Qim p3)),(9,.ref 0 2 0 0),(12,(Qj7 x8)),(14,(Qgf x14)),(16,(.gro 1 92 2 p3.length)),(18,(I (w64 (y51+1))))] [0,1] [(Qjl p4),(.gro 2 (y52.map Qaj))] hq (pc (rnd Qai) (prr (pc (rnd Qad) (pc (rnd Qad) (pc (.rn (Qfe rfl)) (pw pn)))))) (qb (lc rwl (lc (rnd Qbo) ln)) (qc (Qej Qai) qn))) (ih (w64 (y51+1),y52) h)
       ·exact wfn hc56<|Qbi<|Qaw<|Qaw<|Qbh rfl<|thn<|⟨(y52),h,(mto (n:=189) [(3,(Qim p3)),(9,.ref 0 2 0 0),(12,(Qj7 x8)),(14,(Qgf x14)),(16,(.gro 1 92 2 p3.length))] [0,1] [(Qjl p4),(.gro 2 (y52.map Qaj))] hq (pc (rnd Qai) (prr (pc (rnd Qad) (pc (rnd Qad) (pc (.rn (Qfe rfl)) pn))))) (qb (lc rwl (lc (rnd Qbo) ln)) (qc (Qej Qai) qn)))⟩
     ·skip
      refine wxz<|Qag ?_
      refine wmr (mto (n:=189) (l':=[(3,(Qim p3)),(9,.ref 0 2 0 0),(12,(Qj7 x8)),(14,(Qgf x14)),(16,(.gro 1 92 2 p3.length)),(17,I 0)]) (own':=[(Qjl p4),(.gro 2 (p3.map Qaj))]) [(3,(Qim p3)),(9,.ref 0 2 0 0),(12,(Qj7 x8)),(14,(Qgf x14)),(16,(.gro 2 92 2 p3.length)),(17,I 0)] [0,2] [(Qjl p4),(.gro 2 (p3.map Qaj))] hq (pc (rnd Qai) (prr (pc (rnd Qad) (pc (rnd Qad) (pc (.rn (Qfe rfl)) (pw pn)))))) (qb (lc rwl (lc (rnd Qbo) ln)) (qc (Qej Qai) qn))) ?_
      refine Qb8 (τ:=Int×(List Qah)) (fun n t=>Qcy N p3 k23 n t.1 t.2=some r) (fun ⟨y66,y67⟩=>⟨mk 189 [(3,(Qim p3)),(9,.ref 0 2 0 0),(12,(Qj7 x8)),(14,(Qgf x14)),(16,(.gro 1 92 2 p3.length)),(17,I y66)],[(Qjl p4),(Qlc y67)]⟩) (fun t h=>by rw[Qcy] at h;cases h) (fun n70 ih t h=>?_) N (0,p3) h
      obtain⟨y66,y67⟩:=t
      rw[Qcy] at h
      skip
      refine wsq<|wx tbk [(2,rp [(.tmp 104,(.gro 1 92 2 p3.length))] (I (((p3.length:Nat):Int))))] ⟨aln rfl underlying89 rfl,tv⟩ ?_
      refine bfe h (fun hc71 h=>?_) fun hc71 h=>?_
      ·refine wft hc71<|Qan<|thn<|wsq<|Qag ?_
       obtain⟨hz72,h⟩:=cko h
       obtain⟨hi73,h⟩:=cko h
       obtain⟨hi73a,hi73b⟩:=Qcb hi73
       obtain⟨x74,hg75,h⟩:=bno h
       obtain⟨hi76,h⟩:=cko h
       obtain⟨hi76a,hi76b⟩:=Qcb hi76
       obtain⟨x77,hg78,h⟩:=bno h
       refine wx1 tbk [(2,rb [(.tmp 109,(.gro 1 92 2 p3.length)),(.tmp 110,I y66)] [(1,(Qlc y67))] (.ref 1 2 y66.toNat 0)),(3,rb [(.tmp 111,(.ref 1 2 y66.toNat 0))] [(1,(Qlc y67))] (.ref 1 2 y66.toNat 0)),(4,rb [(.tmp 112,(.ref 1 2 y66.toNat 0))] [(1,(Qlc y67))] (I x74.Inlet)),(6,rb [(.tmp 109,(.gro 1 92 2 p3.length)),(.tmp 110,I y66)] [(1,(Qlc y67))] (.ref 1 2 y66.toNat 0)),(7,rb [(.tmp 115,(.ref 1 2 y66.toNat 0))] [(1,(Qlc y67))] (.ref 1 2 y66.toNat 0)),(8,⟨[(.tmp 116,(.ref 1 2 y66.toNat 0)),(.tmp 114,(I (w64 (x74.Inlet+1))))],[(1,(Qlc y67))],.any,[(1,(.gro 2 ((y67.set y66.toNat (⟨w64 (x74.Inlet+1),x77.Parts⟩:Qah):List Qah).map Qaj)))],false⟩)] ⟨Qe7 (bl':=[(1,(Qm7 y67))]) ⟨rfl,SLess.gro (Qdc hz72),tv⟩ (awk (rd':=[(.tmp 109,(.own 1 2 (0) p3.length)),(.tmp 110,I y66)]) ⟨rfl,Less.gro,rfl,lrf,tv⟩ (aio rfl underlying89 ti92 (odt hi73a) (odt hi73b) (Nat.zero_add _))),Qe7 (bl':=[(1,(Qm7 y67))]) ⟨rfl,SLess.gro (Qdc hz72),tv⟩ (afa rfl underlying92 rfl rfl ti3 (by decide) rfl),Qe7 (bl':=[(1,(Qm7 y67))]) ⟨rfl,SLess.gro (Qdc hz72),tv⟩ (ald rfl ti3 (by decide) (mgt Qaj hg75) (nle rfl) rfl),Qe7 (bl':=[(1,(Qm7 y67))]) ⟨rfl,SLess.gro (Qdc hz72),tv⟩ (awk (rd':=[(.tmp 109,(.own 1 2 (0) p3.length)),(.tmp 110,I y66)]) ⟨rfl,Less.gro,rfl,lrf,tv⟩ (aio rfl underlying89 ti92 (odt hi76a) (odt hi76b) (Nat.zero_add _))),Qe7 (bl':=[(1,(Qm7 y67))]) ⟨rfl,SLess.gro (Qdc hz72),tv⟩ (afa rfl underlying92 rfl rfl ti3 (by decide) rfl),Qe7 (bl':=[(1,(Qm7 y67))]) ⟨rfl,SLess.gro (Qdc hz72),tv⟩ (Qj2 SLess.ungro (ast rfl ti3 (by rfl) (mgt Qaj hg78) (nle rfl) (Qf8 Qaj rfl))),tv⟩<|bln<|thn<|wxz1<|thn ?_
       exact arm (mto (n:=189) [(3,(Qim p3)),(9,.ref 0 2 0 0),(12,(Qj7 x8)),(14,(Qgf x14)),(16,(.gro 1 92 2 p3.length)),(17,(I (w64 (y66+1))))] [0,1] [(Qjl p4),(.gro 2 ((y67.set y66.toNat (⟨w64 (x74.Inlet+1),x77.Parts⟩:Qah):List Qah).map Qaj))] hq (pc (rnd Qai) (prr (pc (rnd Qad) (pc (rnd Qad) (pc (.rn (Qfe rfl)) (pw pn)))))) (qb (lc rwl (lc (rnd Qbo) ln)) (qc (Qej Qai) qn))) (ih (w64 (y66+1),y67.set y66.toNat (⟨w64 (x74.Inlet+1),x77.Parts⟩:Qah)) h)
      ·exact wfn hc71<|Qbi<|Qaw<|Qaw<|Qbh rfl<|thn<|⟨(y67),h,(mto (n:=189) [(3,(Qim p3)),(9,.ref 0 2 0 0),(12,(Qj7 x8)),(14,(Qgf x14)),(16,(.gro 1 92 2 p3.length))] [0,1] [(Qjl p4),(Qlc y67)] hq (pc (rnd Qai) (prr (pc (rnd Qad) (pc (rnd Qad) (pc (.rn (Qfe rfl)) pn))))) (qb (lc rwl (lc (rnd Qbo) ln)) (qc (Qej Qai) qn)))⟩
   ·skip
    refine bfe h (fun hb79 h=>?_) fun hb79 h=>?_
    ·exact wx tbk [(2,rp [(.tmp 91,(B ((!x8.2))))] (B true))] ⟨asb hb79 (amv rfl),tv⟩<|wtr<|wxz<|Qae<|Qak<|frb h
    ·refine wx tbk [(2,rp [(.tmp 91,(B ((!x8.2))))] (B false))] ⟨asb hb79 (amv rfl),tv⟩ ?_
     refine bfe h (fun hc80 h=>?_) fun hc80 h=>?_
     ·exact wft hc80<|wxz<|Qae<|Qak<|frb h
     ·exact wfn hc80<|Qan<|thn<|⟨(),h,(mto (n:=189) [(3,(Qim p3)),(9,.ref 1 2 0 0),(12,(Qj7 x8)),(14,(Qgf x14))] [1] [(Qjl p4)] hq (pc (rnd Qai) (prr (pc (rnd Qad) (pc (rnd Qad) pn)))) (qb (lc rwl (lc (rnd Qbo) ln)) qn))⟩
  ·skip
   obtain⟨x82,hf81,h⟩:=bno h
   refine hpre (A:=(Qu2 p0 x82)) ⟨apv Q4x (Qme N p0 _ hf81) (nlc (nld Qbn _) nl0) nll,tv⟩ fun q4_=>?_
   refine bfe h (fun hb83 h=>?_) fun hb83 h=>?_
   ·refine wx tbk (hcat (Qu2 p0 x82) [(3,rp [(.tmp 33,(B ((!x82))))] (B true))]) (hap q4_ ⟨asb hb83 (amv rfl),tv⟩)<|wtr ?_
    obtain⟨x85,hf84,h⟩:=bno h
    exact wx tbk [(0,rp _ _)] ⟨apw Qig (Qea 2000  _ hf84),tv⟩<|Qae<|Qak<|frb h
   ·obtain⟨x87,hf86,h⟩:=bno h
    refine hpre (A:=(Qu1 p0 x82 p1 x87)) (hap q4_ ⟨asb hb83 (amv rfl),ag_ (alq 5 Qat p0 underlying86),ag_ (apv Q4w (Qlp N (p0.length:Int) p1 _ hf86) (nlc nll (nlc (nld Qad _) nl0)) nll),tv⟩) fun q5_=>?_
    refine bfe h (fun hb88 h=>?_) fun hb88 h=>?_
    ·refine wx tbk (hcat (Qu1 p0 x82 p1 x87) [(10,rp [(.tmp 40,(B ((!x87))))] (B true))]) (hap q5_ ⟨asb hb88 (amv rfl),tv⟩)<|wtr ?_
     obtain⟨x90,hf89,h⟩:=bno h
     exact wx tbk [(0,rp _ _)] ⟨apw Qig (Qea 2000  _ hf89),tv⟩<|Qae<|Qak<|frb h
    ·refine hpre (A:=(Qu0 p0 x82 p1 x87)) (hap q5_ ⟨asb hb88 (amv rfl),ag_ (alq 1 Qab p1 underlying22),tv⟩) fun q6_=>?_
     refine bfe h (fun hb91 h=>?_) fun hb91 h=>?_
     ·refine wx tbk (hcat (Qu0 p0 x82 p1 x87) [(15,rp [(.tmp 45,(B ((decide ((p1.length:Int)<2)))))] (B true))]) (hap q6_ ⟨asb hb91 (amv rfl),tv⟩)<|wtr ?_
      obtain⟨x93,hf92,h⟩:=bno h
      exact wx tbk [(0,rp _ _)] ⟨apw Qig (Qea 2000  _ hf92),tv⟩<|Qae<|Qak<|frb h
     ·refine hpre (A:=(Quz p0 x82 p1 x87)) (hap q6_ ⟨asb hb91 (amv rfl),ag_ (alq 1 Qab p1 underlying22),tv⟩) fun q7_=>?_
      refine bfe h (fun hb94 h=>?_) fun hb94 h=>?_
      ·refine wx tbk (hcat (Quz p0 x82 p1 x87) [(20,rp [(.tmp 50,(B ((decide ((p1.length:Int)>6)))))] (B true))]) (hap q7_ ⟨asb hb94 (amv rfl),tv⟩)<|wtr ?_
       obtain⟨x96,hf95,h⟩:=bno h
       exact wx tbk [(0,rp _ _)] ⟨apw Qig (Qea 2000  _ hf95),tv⟩<|Qae<|Qak<|frb h
      ·obtain⟨x98,hf97,h⟩:=bno h
       refine hpre (A:=(Quy p0 x82 p1 x87 p2 x98)) (hap q7_ ⟨asb hb94 (amv rfl),ag_ (apv Q4v (Qi3 N p2 _ hf97) (nlc (NLt.agg _ (nlcc (nlcc nl0))) nl0) nll),tv⟩) fun q8_=>?_
       refine bfe h (fun hb99 h=>?_) fun hb99 h=>?_
       ·refine wx tbk (hcat (Quy p0 x82 p1 x87 p2 x98) [(25,rp [(.tmp 55,(B ((!x98))))] (B true))]) (hap q8_ ⟨asb hb99 (amv rfl),tv⟩)<|wtr ?_
        obtain⟨x101,hf100,h⟩:=bno h
        exact wx tbk [(0,rp _ _)] ⟨apw Qig (Qea 2000  _ hf100),tv⟩<|Qae<|Qak<|frb h
       ·refine hpre (A:=(Qux p0 x82 p1 x87 p2 x98 p3)) (hap q8_ ⟨asb hb99 (amv rfl),ag_ (alq 2 Qaj p3 underlying89),tv⟩) fun q9_=>?_
        refine bfe h (fun hb102 h=>?_) fun hb102 h=>?_
        ·refine wx tbk (hcat (Qux p0 x82 p1 x87 p2 x98 p3) [(30,rp [(.tmp 60,(B ((decide ((p3.length:Int)>9)))))] (B true))]) (hap q9_ ⟨asb hb102 (amv rfl),tv⟩)<|wtr ?_
         obtain⟨x104,hf103,h⟩:=bno h
         exact wx tbk [(0,rp _ _)] ⟨apw Qig (Qea 2000  _ hf103),tv⟩<|Qae<|Qak<|frb h
        ·obtain⟨x106,hf105,h⟩:=bno h
         refine wx tbk (hcat (Qux p0 x82 p1 x87 p2 x98 p3) [(30,rp [(.tmp 60,(B ((decide ((p3.length:Int)>9)))))] (B false)),(32,rp [(.tmp 61,B false),fu 28,(.tmp 62,(.agg [I p4.Inlet,(Qyq p4)]))] (B x106))]) (hap q9_ ⟨asb hb102 (amv rfl),ag_ (apv Qx2 (Qi2 N p4 _ hf105) (nlc (NLt.agg _ (nlc nll (nlc (nld Qbo _) nl0))) nl0) nll),tv⟩) ?_
         refine bfe h (fun hc107 h=>?_) fun hc107 h=>?_
         ·refine wft hc107 ?_
          obtain⟨x109,hf108,h⟩:=bno h
          exact wx tbk [(0,rp _ _)] ⟨apw Qig (Qea 2000  _ hf108),tv⟩<|Qae<|Qak<|frb h
         ·exact wfn hc107<|Qan<|thn<|⟨(),h,(mto (n:=189) [(0,(.dat 5 (p0.map Qat))),(1,(.dat 1 (p1.map Qab))),(3,(Qim p3)),(7,.ref 0 4 0 0),(9,.ref 1 2 0 0)] [0,1] [(Q5a p2),(Qjl p4)] hq (pc (rnd Qbn) (pc (rnd Qad) (pc (rnd Qai) (prr (prr pn))))) (qb (lcc (lcc ln)) (qb (lc rwl (lc (rnd Qbo) ln)) qn)))⟩
end
section
theorem Qg2:Qek 2000=some true:=by decide +kernel
def Qjr (l:List Qbm):List Int:=l.reverse.map fun p=>p.Steam.Mass
theorem Qna {t:List GRow}(ht:tabB t=true):∀(l:List Int) (s:Qap),StrV s→(∀x∈l,btw x 0 ((t.length:Int)-1)=true)→∀p∈Qf0 t s l,0≤p.Steam.Mass∧p.Steam.Mass≤1000000
 |[],_,_,_,p,hp=>by cases hp
 |x::l,s,hs,hx,p,hp=>by
  obtain⟨_,hr⟩:=Q2h ht (hx x List.mem_cons_self)
  have hk:=Qss hr hs
  rcases List.mem_cons.1 hp with rfl |hp
  ·exact⟨hk.st.m0,hk.st.m1⟩
  ·exact Qna ht l _ hk.wa (fun y hy=>hx y (List.mem_cons_of_mem _ hy)) p hp
theorem Qpj (t:List GRow):∀(l:List Int) (x:Int) (s:Qap),∃p,Qf0 t s (l++[x])=Qf0 t s l++[p]
 |[],_,_=>⟨_,rfl⟩
 |y::l,x,s=>by
  obtain⟨p,e⟩:=Qpj t l x (flG ((getI t y).getD ⟨0,0,0,0,0⟩) s).Water
  exact⟨p,by rw[List.cons_append,Qf0,e,Qf0,List.cons_append]⟩
theorem Qx4:∀(l:List Int) (x:Int),decB (l++[x])=true→decB l=true
 |[],_,_=>rfl
 |[_],_,_=>rfl
 |a::b::l,x,h=>by
  have h':(decide (b<a)&&decB (b::(l++[x])))=true:=h
  rw[Bool.and_eq_true] at h'
  show(decide (b<a)&&decB (b::l))=true
  rw[h'.1,Bool.true_and]
  exact Qx4 (b::l) x h'.2
theorem Qrd (N:Nat) (L:List Qbm) (e:Int) (k:List Int→Option (List Int×Bool)) (hL:L.length≤20):∀(m n:Nat) (acc:List Int),m<n→m≤L.length→acc.length+m≤20 →
  Qdr N (L,e) k n acc ((m:Int)-1)=k (acc++Qjr (L.take m)):=by
 intro m
 induction m with
 |zero=>
  intro n acc h _ _
  obtain⟨n,rfl⟩:∃q,n=q+1:=⟨n-1,by omega⟩
  rw[Qdr,decide_eq_false (show ¬(((0:Nat):Int)-1≥0) by omega),cond_false]
  simp[Qjr]
 |succ m ih=>
  intro n acc h hm ha
  obtain⟨n,rfl⟩:∃q,n=q+1:=⟨n-1,by omega⟩
  have hx:L[m]? = some (L[m]'(by omega)):=List.getElem?_eq_getElem _
  generalize L[m]'(by omega)=p at hx
  rw[Qdr,show((m+1:Nat):Int)-1=(m:Int) by omega,decide_eq_true (show(m:Int)≥0 by omega),cond_true]
  dsimp only
  rw[Qcv hx,Option.bind_some]
  unfold chk
  rw[show decide ((acc.length+[p.Steam.Mass].length)*8≤140737488355328)=true from by simp;omega,cond_true,Qa5 (by omega) (by omega),ih n _ (by omega) (by omega) (by simp;omega)]
  unfold Qjr
  rw[List.take_add_one,hx]
  simp
theorem Qp5 {N:Nat}(hN:1001≤N) {t:List GRow}(ht:tabB t=true) {l:List Int}(hl:levB t.length l=true) {s:Qap}(hs:strB s=true):Qg8 N t l s=some (Qjr (Qf0 t s l),true):=by
 obtain⟨⟨h1,h20⟩,_,_⟩:=Qsk hl
 have h3:t.length≤20:=by
  have:=ht
  unfold tabB at this
  simp only[Bool.and_eq_true] at this
  have:=Qc1.1 this.1.1
  omega
 have hlen:=Qjh t l s
 unfold Qg8 chk
 rw[show decide ((0+l.length)*8≤140737488355328)=true from by simp;omega,cond_true,Qzj hN (by omega) (by omega),Option.bind_some]
 unfold Qwe
 rw[ht,hl,hs]
 simp only[Bool.not_true,cond_false]
 unfold Qb5
 dsimp only
 rw[show((0:Int) != 0)=false from rfl,cond_false,show(((Qf0 t s l).length:Int) != (l.length:Int))=false from by rw[hlen];simp,cond_false,Option.bind_some,Qa5 (by omega) (by omega),Qrd N (Qf0 t s l) 0 _ (by omega) (Qf0 t s l).length N [] (by omega) (Nat.le_refl _) (by simp;omega),List.take_length,List.nil_append]
def incU (u:Qah):Qah:=⟨u.Inlet+1,u.Parts⟩
theorem Qz8 (N:Nat) {us:List Qah}(hl:us.length≤100) (hi:∀u∈us,0≤u.Inlet∧u.Inlet≤5) (k:List Qah→Option Bool):∀(n i:Nat),us.length-i<n→i≤us.length →
  Qcy N us k n i ((us.take i).map incU++us.drop i)=k (us.map incU):=by
 intro n
 induction n with
 |zero=>intro i h;omega
 |succ n ih=>
  intro i h hi2
  rw[Qcy]
  rcases Nat.lt_or_ge i us.length with hlt |hge
  ·have hx:us[i]? = some (us[i]'hlt):=List.getElem?_eq_getElem _
   have hd:us.drop i=us[i]'hlt::us.drop (i+1):=List.drop_eq_getElem_cons hlt
   generalize us[i]'hlt=u at hx hd
   have hu:=hi u (List.mem_of_getElem? hx)
   have hlen:((us.take i).map incU).length=i:=by simp;omega
   have hy:((us.take i).map incU++us.drop i)[i]? = some u:=by rw[List.getElem?_append_right (by omega),hlen,Nat.sub_self,hd];rfl
   have hs:((us.take i).map incU++us.drop i).set i ⟨u.Inlet+1,u.Parts⟩=(us.take (i+1)).map incU++us.drop (i+1):=by
    rw[List.set_append_right _ _ (by omega),hlen,Nat.sub_self,hd,List.set_cons_zero,List.take_add_one,hx]
    simp[incU]
   unfold chk
   rw[decide_eq_true (show(i:Int)<((us.length:Nat):Int) by omega),cond_true]
   rw[show(!((us.take i).map incU++us.drop i).isEmpty)=true from by rw[hd];simp,cond_true,show(decide ((0:Int)≤(i:Int))&&decide ((i:Int).toNat<us.length))=true from by simp;omega,cond_true,Int.toNat_natCast,hy,Option.bind_some,cond_true,Option.bind_some,Qa5 (by omega) (by omega),Qa5 (x:=u.Inlet+1) (by omega) (by omega),hs]
   exact ih (i+1) (by omega) hlt
  ·rw[decide_eq_false (show ¬((i:Int)<((us.length:Nat):Int)) by omega),cond_false,List.drop_eq_nil_of_le hge,List.take_of_length_le hge,List.append_nil]
theorem Qqy (N:Nat) (t:List Qah) (K:List Qah→Option (List Qah)) (hN:200≤N) (hl:t.length≤1000) (hr:∀u∈t,u.Parts.length≤100):∀(n i:Nat) (acc:List Qah),(t.drop i).length<n→acc.length=i →
  Qc0 N t.length t K n acc i=K (acc++t.drop i):=by
 intro n
 induction n with
 |zero=>intro i _ h;exact absurd h (Nat.not_lt_zero _)
 |succ n ih=>
  intro i acc h hacc
  rw[Qc0]
  cases hd:t.drop i with
  |nil=>
   have:=Qd4 hd
   rw[decide_eq_false (show ¬((i:Int)<((t.length:Nat):Int)) by omega),cond_false,List.append_nil]
  |cons b l=>
   obtain⟨hg,hd',hlt⟩:=Qdg hd
   have e1:w64 ((i:Int)+1)=((i+1:Nat):Int):=Qa5 (by omega) (by omega)
   have e2:=Qs3 (N:=N) (hr b (List.mem_of_getElem? hg)) hN
   unfold chk
   rw[decide_eq_true (show(i:Int)<((t.length:Nat):Int) by omega),cond_true,show(decide ((0:Int)≤(i:Int))&&decide ((i:Int).toNat<t.length))=true from by simp;omega,cond_true,Int.toNat_natCast,hg,Option.bind_some,e2,Option.bind_some,show decide ((acc.length+[b].length)*32≤140737488355328)=true from by simp;omega,cond_true,e1]
   rw[ih (i+1) (acc++[b]) (by rw[hd'];rw[hd] at h;simp at h;omega) (by simp[hacc]),hd',List.append_assoc,List.cons_append,List.nil_append]
theorem Qpi {N:Nat}{t:List Qah}(hl:t.length≤100) (hr:∀u∈t,u.Parts.length≤100) (hN:300≤N):Qfc N t.length t=some t:=by
 unfold Qfc Qb5
 have:=Qqy N t (fun y1=>some y1) (by omega) (by omega) hr N 0 [] (by simp;omega) rfl
 simpa using this
theorem Qn3:∀(us:List Qah) (ms:List Int),Qgd (us.map incU) ms=Qgd us ms
 |[],_=>rfl
 |_::_,[]=>rfl
 |u::us,m::ms=>by
  show powI u.Parts m+Qgd (us.map incU) ms=powI u.Parts m+Qgd us ms
  rw[Qn3 us ms]
theorem Qs7:∀(us:List Qah) (ms:List Int),Qkw (us.map incU) ms=Qkw us ms
 |[],_=>rfl
 |_::_,[]=>rfl
 |u::us,m::ms=>by
  show(btw m 0 (capI u.Parts)&&Qkw (us.map incU) ms)=(btw m 0 (capI u.Parts)&&Qkw us ms)
  rw[Qs7 us ms]
theorem Qqx (k:Nat):∀(us:List Qah) (ms:List Int),useI (us.map incU) ms (k+1)=useI us ms k
 |[],_=>rfl
 |_::_,[]=>rfl
 |u::us,m::ms=>by
  show(if ((k+1:Nat):Int)≤u.Inlet+1 then m else 0)+useI (us.map incU) ms (k+1)=(if (k:Int)≤u.Inlet then m else 0)+useI us ms k
  rw[Qqx k us ms]
  by_cases h:(k:Int)≤u.Inlet
  ·rw[if_pos h,if_pos (by omega)]
  ·rw[if_neg h,if_neg (by omega)]
theorem Qr8:∀(us:List Qah) (ms:List Int),(∀u∈us,0≤u.Inlet)→useI (us.map incU) ms 0=useI us ms 0
 |[],_,_=>rfl
 |_::_,[],_=>rfl
 |u::us,m::ms,h=>by
  have hu:=h u List.mem_cons_self
  show(if ((0:Nat):Int)≤u.Inlet+1 then m else 0)+useI (us.map incU) ms 0=(if ((0:Nat):Int)≤u.Inlet then m else 0)+useI us ms 0
  rw[Qr8 us ms fun x hx=>h x (List.mem_cons_of_mem _ hx),if_pos (by omega),if_pos (by omega)]
theorem Qpm {h:List Int}{us:List Qah}{ms:List Int}{m:Int}(hm:0≤m) (hk:ShOK h us):Qij (m::h) (us.map incU) ms=Qij h us ms:=by
 have h0:=hk.h0
 have hi:∀u∈us,0≤u.Inlet:=fun u hu=>(hk.inl u hu).1
 have f1:∀k,fro (m::h) (k+1)=fro h k:=fun k=>rfl
 have f0:fro (m::h) 0=m+fro h 0:=by unfold fro;simp
 unfold Qij
 rw[List.length_map,Qs7]
 congr 1
 rw[Bool.eq_iff_iff,List.all_eq_true,List.all_eq_true]
 constructor
 ·intro a k hk'
  have:=a (k+1) (List.mem_range.2 (by rw[List.length_cons];have:=List.mem_range.1 hk';omega))
  rwa [Qqx,f1] at this
 ·intro a k hk'
  have hk2:=List.mem_range.1 hk'
  rw[List.length_cons] at hk2
  cases k with
  |zero=>
   have:=of_decide_eq_true (a 0 (List.mem_range.2 (by omega)))
   rw[Qr8 us ms hi,f0]
   exact decide_eq_true (by omega)
  |succ k=>
   rw[Qqx,f1]
   exact a k (List.mem_range.2 (by omega))
theorem Qr7 {v:Qah}(hv:powI v.Parts 0=0):∀(us:List Qah) (ms:List Int),ms.length=us.length→Qgd (us++[v]) (ms++[0])=Qgd us ms
 |[],[],_=>by show powI v.Parts 0+0=0;rw[hv];rfl
 |u::us,m::ms,h=>by
  show powI u.Parts m+Qgd (us++[v]) (ms++[0])=powI u.Parts m+Qgd us ms
  rw[Qr7 hv us ms (by simpa using h)]
theorem Qs8 {v:Qah}(hv:0≤capI v.Parts):∀(us:List Qah) (ms:List Int),ms.length=us.length→Qkw (us++[v]) (ms++[0])=Qkw us ms
 |[],[],_=>by
  show(btw 0 0 (capI v.Parts)&&true)=true
  rw[Qc1.2 ⟨Int.le_refl _,hv⟩];rfl
 |u::us,m::ms,h=>by
  show(btw m 0 (capI u.Parts)&&Qkw (us++[v]) (ms++[0]))=(btw m 0 (capI u.Parts)&&Qkw us ms)
  rw[Qs8 hv us ms (by simpa using h)]
theorem Qv9 (v:Qah) (k:Nat):∀(us:List Qah) (ms:List Int),ms.length=us.length→useI (us++[v]) (ms++[0]) k=useI us ms k
 |[],[],_=>by
  show(if (k:Int)≤v.Inlet then(0:Int) else 0)+0=0
  split<;>rfl
 |u::us,m::ms,h=>by
  show(if (k:Int)≤u.Inlet then m else 0)+useI (us++[v]) (ms++[0]) k=(if (k:Int)≤u.Inlet then m else 0)+useI us ms k
  rw[Qv9 v k us ms (by simpa using h)]
theorem Qwn {h:List Int}{us:List Qah}{ms:List Int}{v:Qah}(hv:Qhi v=true) (hs:Qij h us ms=true):Qij h (us++[v]) (ms++[0])=true:=by
 unfold Qij at hs ⊢
 simp only[Bool.and_eq_true,decide_eq_true_eq] at hs
 obtain⟨⟨h1,h2⟩,h3⟩:=hs
 rw[List.length_append,List.length_append,List.length_singleton,List.length_singleton,decide_eq_true (by omega),Qs8 (Qrm v.Parts 1000 (Qel hv).2.2).1 us ms h1,h2,Bool.true_and,Bool.true_and]
 rw[List.all_eq_true] at h3 ⊢
 intro k hk
 rw[Qv9 v k us ms h1]
 exact h3 k hk
theorem Qx8 (N:Nat) (H:List Int) (m:Int) (b c:Bool) (U:List Qah) (hH:H.length≤20) (k:List Qah→Option Bool):∀(n i:Nat),H.length-i<n→i≤H.length →
  Qcz N (H,b) (m::H,c) k n i U=k U:=by
 intro n
 induction n with
 |zero=>intro i h;omega
 |succ n ih=>
  intro i h hi
  rw[Qcz]
  dsimp only
  rcases Nat.lt_or_ge i H.length with hlt |hge
  ·have hx:H[i]? = some (H[i]'hlt):=List.getElem?_eq_getElem _
   generalize H[i]'hlt=x at hx
   have e1:w64 ((i:Int)+1)=((i+1:Nat):Int):=Qa5 (by omega) (by omega)
   rw[decide_eq_true (show(i:Int)<(H.length:Int) by omega),cond_true,e1,Qcv (i:=i+1) (l:=m::H) (x:=x) (by simpa using hx),Option.bind_some,Qcv hx,Option.bind_some,bne_self_eq_false,cond_false]
   exact ih (i+1) (by omega) hlt
  ·rw[decide_eq_false (show ¬((i:Int)<(H.length:Int)) by omega),cond_false]
theorem Qpv:∀(us:List Qah),∀u∈us,u.Parts.length≤(us.map fun u=>u.Parts.length).sum
 |[],u,h=>by cases h
 |x::us,u,h=>by
  rw[List.map_cons,List.sum_cons]
  rcases List.mem_cons.1 h with rfl |h
  ·omega
  ·have:=Qpv us u h;omega
theorem Quc (t:List GRow) (lv:List Int) (s:Qap) (us:List Qah) (v:Qah) (gt:Qsp t) (gl:Qxp lv) (_:Qnl s) (gu:Qp6 us) (gv:Qou v) :
  Qgj (t.length+lv.length+(us.map fun u=>u.Parts.length).sum+v.Parts.length+2000) t lv s us v=some true:=by
 obtain⟨N,hN⟩:∃N,N=t.length+lv.length+(us.map fun u=>u.Parts.length).sum+v.Parts.length+2000:=⟨_,rfl⟩
 rw[←hN]
 have gt1:=gt.1
 have gl1:=gl.1
 have gv1:=gv.2.1
 rw[Qpz] at gt1 gl1 gv1
 unfold Qgj
 unfold Qb5
 dsimp only
 rw[Qzt (by omega) (by omega),Option.bind_some]
 cases ht:tabB t with
 |false=>rw[show(!false)=true from rfl,cond_true,Qg2,Option.bind_some]
 |true=>
 have h20:2≤t.length∧t.length≤20:=by
  have:=ht
  unfold tabB at this
  simp only[Bool.and_eq_true] at this
  have:=Qc1.1 this.1.1
  omega
 rw[show(!true)=false from rfl,cond_false,Qxg gl1 (Qa5 (by omega) (by omega)) (by omega),Option.bind_some]
 cases hl:levB (t.length:Int) lv with
 |false=>rw[show(!false)=true from rfl,cond_true,Qg2,Option.bind_some]
 |true=>
 rw[show(!true)=false from rfl,cond_false]
 by_cases h2:(lv.length:Int)<2
 ·rw[decide_eq_true h2,cond_true,Qg2,Option.bind_some]
 rw[decide_eq_false h2,cond_false]
 by_cases h6:(lv.length:Int)>6
 ·rw[decide_eq_true h6,cond_true,Qg2,Option.bind_some]
 rw[decide_eq_false h6,cond_false,Qm5,Option.bind_some]
 cases hs:strB s with
 |false=>rw[show(!false)=true from rfl,cond_true,Qg2,Option.bind_some]
 |true=>
 rw[show(!true)=false from rfl,cond_false]
 by_cases h9:(us.length:Int)>9
 ·rw[decide_eq_true h9,cond_true,Qg2,Option.bind_some]
 rw[decide_eq_false h9,cond_false,Qnd (by omega) (by omega),Option.bind_some]
 cases hv:Qhi v with
 |false=>rw[show(!false)=true from rfl,cond_true,Qg2,Option.bind_some]
 |true=>
 rw[show(!true)=false from rfl,cond_false]
 have hsv:=Qsa.1 hs
 obtain⟨⟨hl1,hl20⟩,hla,hld⟩:=Qsk hl
 have hL:(w64 ((lv.length:Int)-1)).toNat-0=lv.length-1:=by rw[Qa5 (by omega) (by omega)];omega
 rw[Qzm (by omega) (by omega),Option.bind_some]
 unfold chk
 rw[show(decide (0≤0)&&decide (0≤w64 ((lv.length:Int)-1))&&decide (w64 ((lv.length:Int)-1)≤(lv.length:Int)))=true from by rw[Qa5 (by omega) (by omega)];simp;omega,cond_true,Qwi,Option.bind_some,hL,←List.dropLast_eq_take]
 have hne:lv≠[]:=by intro h;rw[h] at hl1;simp at hl1
 obtain⟨q,x,hq⟩:∃q x,lv=q++[x]:=⟨lv.dropLast,lv.getLast hne,(List.dropLast_concat_getLast hne).symm⟩
 subst hq
 rw[List.length_append,List.length_singleton] at hl1 hl20 h2 h6
 have hq1:levB (t.length:Int) q=true:=by
  unfold levB
  rw[Qc1.2 ⟨by omega,by omega⟩,List.all_eq_true.2 fun y hy=>hla y (List.mem_append_left _ hy),Qx4 q x hld]
  rfl
 obtain⟨p,hp⟩:=Qpj t q x s
 rw[List.dropLast_concat,Qp5 (by omega) ht hq1 hs,Option.bind_some,Option.bind_some,Option.bind_some,Qp5 (by omega) ht hl hs,Option.bind_some,hp]
 have hm:=Qna ht (q++[x]) s hsv hla p (by rw[hp];simp)
 have hlen:(Qjr (Qf0 t s q)).length=q.length:=by unfold Qjr;rw[List.length_map,List.length_reverse,Qjh]
 rw[show Qjr (Qf0 t s q++[p])=p.Steam.Mass::Qjr (Qf0 t s q) from by simp[Qjr]]
 generalize Qjr (Qf0 t s q)=H at hlen
 generalize p.Steam.Mass=m at hm
 dsimp only
 rw[show(!true)=false from rfl,cond_false,cond_false,Qwr (by omega) (by omega) (fun u hu=>by
  have h1:=Qpv us u hu
  have h2:=(gu.2.1 u hu).2.1
  rw[Qpz] at h2
  omega) (by omega),Option.bind_some]
 cases hH:Qgx H us with
 |false=>rw[show(!false)=true from rfl,cond_true,Qg2,Option.bind_some]
 |true=>
 have hk:=shOK hH
 have hu8:∀u∈us,u.Parts.length≤100:=fun u hu=>by have:=(Qel (hk.ub u hu)).2.1;omega
 rw[show(!true)=false from rfl,cond_false,show decide ((0+us.length)*32≤140737488355328)=true from by simp;omega,cond_true]
 have hlp:=fun k=>Qz8 N (us:=us) (by omega) (fun u hu=>(Qel (hk.ub u hu)).1) k N 0 (by omega) (by omega)
 rw[List.take_zero,List.drop_zero,List.map_nil,List.nil_append,show((0:Nat):Int)=0 from rfl] at hlp
 have hcp:=fun k=>Qx8 N H m true true (us.map incU) (by omega) k N 0 (by omega) (by omega)
 rw[show((0:Nat):Int)=0 from rfl] at hcp
 rw[hlp,hcp,Qwa (by omega) hu8 (by omega),Option.bind_some]
 have hH2:Qgx (m::H) (us.map incU)=true:=by
  unfold Qgx
  have h0:=hk.h0
  have hu0:=hk.u0
  have hu1:=hk.u1
  rw[List.length_cons,List.length_map,Qc1.2 ⟨by omega,by omega⟩,Qc1.2 ⟨by omega,by omega⟩,List.all_cons,show H.all Qm6=true from List.all_eq_true.2 fun y hy=>Qc1.2 (hk.hm y hy),show Qm6 m=true from Qc1.2 hm,List.all_map]
  simp only[Bool.true_and,Bool.and_true]
  rw[List.all_eq_true]
  intro u hu
  obtain⟨a,b,c⟩:=Qel (hk.ub u hu)
  have hi:=hk.inl u hu
  show(Qhi (incU u)&&decide (u.Inlet+1<((H.length+1:Nat):Int)))=true
  rw[decide_eq_true (by omega),Bool.and_true]
  unfold Qhi incU
  dsimp only
  rw[Qc1.2 ⟨by omega,by omega⟩,Qc1.2 ⟨by omega,by omega⟩,c]
  rfl
 have hk2:=shOK hH2
 have hv0:Qhi ⟨0,v.Parts⟩=true:=by
  obtain⟨_,b,c⟩:=Qel hv
  unfold Qhi
  dsimp only
  rw[Qc1.2 ⟨by omega,by omega⟩,Qc1.2 ⟨by omega,by omega⟩,c]
  rfl
 have hH3:Qgx (m::H) (us.map incU++[⟨0,v.Parts⟩])=true:=by
  unfold Qgx at hH2 ⊢
  simp only[Bool.and_eq_true] at hH2 ⊢
  obtain⟨⟨⟨a,b⟩,c⟩,d⟩:=hH2
  refine⟨⟨⟨a,b⟩,Qc1.2 ?_⟩,?_⟩
  ·rw[List.length_append,List.length_map,List.length_singleton];omega
  ·rw[List.all_append,d,List.all_cons,List.all_nil]
   unfold Qix
   rw[hv0,decide_eq_true (by rw[List.length_cons];dsimp only;omega)]
   rfl
 have hk3:=shOK hH3
 obtain⟨D1,p1,d1,s1,q1,b1⟩:=Qn9 (N:=N) hH (by omega)
 obtain⟨D2,p2,d2,s2,q2,b2⟩:=Qn9 (N:=N) hH2 (by omega)
 obtain⟨D3,p3,d3,s3,q3,b3⟩:=Qn9 (N:=N) hH3 (by omega)
 have m1:=d1.share
 have m2:=d2.share
 have w12:Qgd us (Qgy H us D1)≤Qgd (us.map incU) (Qgy (m::H) (us.map incU) D2):=by
  rw[←b2,←Qn3 us]
  exact Ql4 hk2 q2 (by rw[Qpm hm.1 hk];exact m1)
 have w21:Qgd (us.map incU) (Qgy (m::H) (us.map incU) D2)≤Qgd us (Qgy H us D1):=by
  rw[←b1,Qn3 us]
  exact Ql4 hk q1 (by rw[←Qpm hm.1 hk];exact m2)
 have hml:(Qgy (m::H) (us.map incU) D2).length=(us.map incU).length:=by
  have:=m2
  unfold Qij at this
  simp only[Bool.and_eq_true,decide_eq_true_eq] at this
  exact this.1.1
 have w23:Qgd (us.map incU) (Qgy (m::H) (us.map incU) D2)≤Qgd (us.map incU++[⟨0,v.Parts⟩]) (Qgy (m::H) (us.map incU++[⟨0,v.Parts⟩]) D3):=by
  rw[←b3,←Qr7 (v:=⟨0,v.Parts⟩) (Qoi v.Parts fun q hq=>(Qoh hv q hq).1.1) _ _ hml]
  exact Ql4 hk3 q3 (Qwn hv0 m2)
 have hU:∀u∈us.map incU,u.Parts.length≤100:=fun u hu=>by
  obtain⟨z,hz,rfl⟩:=List.mem_map.1 hu
  exact hu8 z hz
 have hv8:=(Qel hv).2.1
 have eU:=Qpi (N:=N) (t:=us.map incU) (by rw[List.length_map];omega) hU (by omega)
 have eV:=Qpi (N:=N) (t:=us.map incU++[⟨0,v.Parts⟩]) (by rw[List.length_append,List.length_map,List.length_singleton];omega) (fun u hu=>by
  rcases List.mem_append.1 hu with hu |hu
  ·exact hU u hu
  ·rw[List.mem_singleton.1 hu];dsimp only;omega) (by omega)
 rw[List.length_map] at eU
 have hne1:(!(us.map incU).isEmpty)=true:=by
  cases hz:us with
  |nil=>have:=hk.u0;rw[hz] at this;simp at this
  |cons a b=>rfl
 rw[s1,Option.bind_some,show decide ((0+(m::H).length)*8≤140737488355328)=true from by simp;omega,cond_true,hne1,cond_true,eU,Option.bind_some,s2,Option.bind_some,cond_true,decide_eq_true (show us.length=(us.map incU).length from(List.length_map _).symm),cond_true,
  show decide (((us.map incU).length+([(⟨0,v.Parts⟩:Qah)]).length)*32≤140737488355328)=true from by simp;omega,cond_true,show(!(us.map incU++[(⟨0,v.Parts⟩:Qah)]).isEmpty)=true from by simp,cond_true,eV,Option.bind_some,s3,Option.bind_some]
 dsimp only
 rw[show((0:Int)==0)=true from rfl,cond_true,cond_true,cond_true,show(Qgd us (Qgy H us D1)==Qgd (us.map incU) (Qgy (m::H) (us.map incU) D2))=true from beq_iff_eq.2 (Int.le_antisymm w12 w21),cond_true,decide_eq_true w23,cond_true,Qg2,Option.bind_some]
end
end Go.Proofs.Ytflmombnmnblnaa
