/-
  The texts X8, X9, X10, X11, X12, PB6, PV6, PN6, POpn of the proof, one behind the other. No conditions.
-/
import Derived.Test.YtcoojdacfknboafGreatG4
namespace Go.Proofs.YtcoojdacfknboafGreat
open _root_.Go.Proofs.Tryz
open Go.RowKit
set_option maxRecDepth 100000
set_option maxHeartbeats 4000000
set_option synthInstance.maxSize 4000
set_option synthInstance.maxHeartbeats 400000
set_option linter.defProp false
set_option linter.unusedVariables false
set_option linter.unusedSimpArgs false
section
def Qg1 (_N:Nat) (p0:Int):Option Int:=some p0
def Qmp (N:Nat) (p0 r:Int) (h:Qg1 N p0=some r):Spec prog 46 [I p0] [] (I r) []:=by
 refine sA func46 0 fun _ _ _ hq hd0=>?_
 unfold Qg1 at h
 refine wxz<|wxz<|Qad ?_
 obtain rfl:=osi h
 exact fend ⟨[I p0],⟨rot,tv⟩,rfl⟩ nll
def Qdr (N:Nat) (p0:List Int) (k1:Unit->Option Bool):Nat->Int->Option Bool
 |0,_=>none
 |n4+1,y2=>bif decide (y2<(p0.length:Int)) then bif decide (y2>0) then (getI p0 (w64 (y2-1))).bind fun x7=>(Qg1 N x7).bind fun x12=>(getI p0 y2).bind fun x13=>(Qg1 N x13).bind fun x18=>bif decide (x12>=x18) then some false else Qdr N p0 k1 n4 (w64 (y2+1)) else Qdr N p0 k1 n4 (w64 (y2+1)) else k1 ()
def Qh2 (N:Nat) (p0:List Int):Option Bool:=Qb0 (fun _=>some true) fun k1:Unit->Option Bool=>Qdr N p0 k1 N 0
def Qqz (N:Nat) (p0:List Int) (r:Bool) (h:Qh2 N p0=some r):Spec prog 45 [.dat 1 (p0.map Qab),.fn (.func 46) [] []] [] (B r) []:=by
 refine sA func45 0 fun _ _ _ hq hd0=>?_
 unfold Qh2 at h
 refine wxz<|wjq h (fun _=>⟨mk 30 [],[]⟩) (fun t h=>?_) fun k1 h=>?_
 ·exact wxz<|Qad<|frb h
 refine wx tbk [(1,rp _ _)] ⟨alq 1 Qab p0 Xag,tv⟩<|Qaf ?_
 refine wmr (mto (n:=30) (l':=[(0,.dat 1 (p0.map Qab)),(1,.fn (.func 46) [] []),(7,I (p0.length:Int)),(8,I 0)]) (own':=[]) [(0,.dat 1 (p0.map Qab)),(1,.fn (.func 46) [] []),(7,I (p0.length:Int)),(8,I 0)] [] [] hq (pqi (pqi (pw (pw pn)))) qn) ?_
 refine Qbf (τ:=Int) (fun n t=>Qdr N p0 k1 n t=some r) (fun y2=>⟨mk 30 [(0,.dat 1 (p0.map Qab)),(1,.fn (.func 46) [] []),(7,I (p0.length:Int)),(8,I y2)],[]⟩) (fun t h=>by rw[Qdr] at h;cases h) (fun n4 ih y2 h=>?_) N (0) h
 rw[Qdr] at h
 refine wxz<|wsq<|bfq h (fun c5 h=>?_) fun c5 h=>?_
 ·refine Qah<|thn<|wsq<|Qaf<|wxz ?_
  refine bfe h (fun hb6 h=>?_) fun hb6 h=>?_
  ·refine bgq h fun x7 i9 j10 h=>bnq h fun x12 f11 h=>bgq h fun x13 i15 j16 h=>bnq h fun x18 f17 h=>wxd tbk [(2,rp [(.tmp 12,B (decide (y2>0)))] (B true)),(7,rp [(.tmp 13,B true),(.tmp 15,.dat 1 (p0.map Qab)),(.tmp 17,I (w64 (y2-1)))] (.dptr (Qab x7) 0)),(9,rp [(.tmp 13,B true),(.tmp 14,.fn (.func 46) [] []),(.tmp 19,I x7)] (I x12)),(13,rp [(.tmp 13,B true),(.tmp 22,.dat 1 (p0.map Qab)),(.tmp 23,I y2)] (.dptr (Qab x13) 0)),(15,rp [(.tmp 13,B true),(.tmp 21,.fn (.func 46) [] []),(.tmp 25,I x13)] (I x18))] ⟨asb hb6 (amv rfl),ag_ (aiq Xag ti3 Qab i9 j10),ag_ (apv Zi0 (Qmp N x7 _ f11) (nlc nll nl0) nll),ag_ (aiq Xag ti3 Qab i15 j16),ag_ (apv Zi0 (Qmp N x13 _ f17) (nlc nll nl0) nll),tv⟩<|bfq h (fun c19 h=>?_) fun c19 h=>?_
   ·exact wxz<|Qad<|Qal<|Qac<|Qac<|Qal<|Qac<|frb h
   exact Qah<|bln<|thn<|wxz1<|thn<|arm (mto (n:=30) [(0,.dat 1 (p0.map Qab)),(1,.fn (.func 46) [] []),(7,I (p0.length:Int)),(8,I (w64 (y2+1)))] [] [] hq (pqi (pqi (pw (pw pn)))) qn) (ih (w64 (y2+1)) h)
  exact wxd tbk [(2,rp [(.tmp 12,B (decide (y2>0)))] (B false))] ⟨asb hb6 (amv rfl),tv⟩<|wfa<|Qah<|bln<|thn<|wxz1<|thn<|arm (mto (n:=30) [(0,.dat 1 (p0.map Qab)),(1,.fn (.func 46) [] []),(7,I (p0.length:Int)),(8,I (w64 (y2+1)))] [] [] hq (pqi (pqi (pw (pw pn)))) qn) (ih (w64 (y2+1)) h)
 exact Qax<|Qan<|Qan<|Qaw rfl<|thn<|⟨(),h,mto (n:=30) [] [] [] hq pn qn⟩
def Qge (_N:Nat) (p0:Qay):Option Int:=some p0.Price
def Ql1 (N:Nat) (p0:Qay) (r:Int) (h:Qge N p0=some r):Spec prog 67 [.agg (Qbm p0)] [] (I r) []:=by
 refine sA func67 0 fun _ _ _ hq hd0=>?_
 unfold Qge at h
 refine wxz<|wxz<|Qad ?_
 obtain rfl:=osi h
 exact fend ⟨[I p0.Price],⟨rot,tv⟩,rfl⟩ nll
def Qcc (N:Nat) (p0:List Qay) (k1:Unit->Option Bool):Nat->Int->Option Bool
 |0,_=>none
 |n4+1,y2=>bif decide (y2<(p0.length:Int)) then bif decide (y2>0) then (getI p0 (w64 (y2-1))).bind fun x7=>(Qge N x7).bind fun x12=>(getI p0 y2).bind fun x13=>(Qge N x13).bind fun x18=>bif decide (x12>=x18) then some false else Qcc N p0 k1 n4 (w64 (y2+1)) else Qcc N p0 k1 n4 (w64 (y2+1)) else k1 ()
def Qfb (N:Nat) (p0:List Qay):Option Bool:=Qb0 (fun _=>some true) fun k1:Unit->Option Bool=>Qcc N p0 k1 N 0
abbrev Qv8 (p0:List Qay):AV:=.dat 2 (p0.map Qbm)
def Qms (N:Nat) (p0:List Qay) (r:Bool) (h:Qfb N p0=some r):Spec prog 66 [Qv8 p0,.fn (.func 67) [] []] [] (B r) []:=by
 refine sA func66 0 fun _ _ _ hq hd0=>?_
 unfold Qfb at h
 refine wxz<|wjq h (fun _=>⟨mk 30 [],[]⟩) (fun t h=>?_) fun k1 h=>?_
 ·exact wxz<|Qad<|frb h
 refine wx tbk [(1,rp _ _)] ⟨alq 2 Qbm p0 Xbv,tv⟩<|Qaf ?_
 refine wmr (mto (n:=30) (l':=[(0,Qv8 p0),(1,.fn (.func 67) [] []),(7,I (p0.length:Int)),(8,I 0)]) (own':=[]) [(0,Qv8 p0),(1,.fn (.func 67) [] []),(7,I (p0.length:Int)),(8,I 0)] [] [] hq (pqi (pqi (pw (pw pn)))) qn) ?_
 refine Qbf (τ:=Int) (fun n t=>Qcc N p0 k1 n t=some r) (fun y2=>⟨mk 30 [(0,Qv8 p0),(1,.fn (.func 67) [] []),(7,I (p0.length:Int)),(8,I y2)],[]⟩) (fun t h=>by rw[Qcc] at h;cases h) (fun n4 ih y2 h=>?_) N (0) h
 rw[Qcc] at h
 refine wxz<|wsq<|bfq h (fun c5 h=>?_) fun c5 h=>?_
 ·refine Qah<|thn<|wsq<|Qaf<|wxz ?_
  refine bfe h (fun hb6 h=>?_) fun hb6 h=>?_
  ·refine bgq h fun x7 i9 j10 h=>bnq h fun x12 f11 h=>bgq h fun x13 i15 j16 h=>bnq h fun x18 f17 h=>wxd tbk [(2,rp [(.tmp 12,B (decide (y2>0)))] (B true)),(7,rp [(.tmp 13,B true),(.tmp 15,Qv8 p0),(.tmp 17,I (w64 (y2-1)))] (.dptr (Qbm x7) 0)),(9,rp [(.tmp 13,B true),(.tmp 14,.fn (.func 67) [] []),(.tmp 19,.agg [I x7.Amount,I x7.Price])] (I x12)),(13,rp [(.tmp 13,B true),(.tmp 22,Qv8 p0),(.tmp 23,I y2)] (.dptr (Qbm x13) 0)),(15,rp [(.tmp 13,B true),(.tmp 21,.fn (.func 67) [] []),(.tmp 25,.agg [I x13.Amount,I x13.Price])] (I x18))] ⟨asb hb6 (amv rfl),ag_ (aiq Xbv Qx4 Qbm i9 j10),ag_ (apv Ziw (Ql1 N x7 _ f11) (nlc (NLt.agg _ (nlcc nl0)) nl0) nll),ag_ (aiq Xbv Qx4 Qbm i15 j16),ag_ (apv Ziw (Ql1 N x13 _ f17) (nlc (NLt.agg _ (nlcc nl0)) nl0) nll),tv⟩<|bfq h (fun c19 h=>?_) fun c19 h=>?_
   ·exact wxz<|Qad<|Qal<|Qac<|Qac<|Qal<|Qac<|frb h
   exact Qah<|bln<|thn<|wxz1<|thn<|arm (mto (n:=30) [(0,Qv8 p0),(1,.fn (.func 67) [] []),(7,I (p0.length:Int)),(8,I (w64 (y2+1)))] [] [] hq (pqi (pqi (pw (pw pn)))) qn) (ih (w64 (y2+1)) h)
  exact wxd tbk [(2,rp [(.tmp 12,B (decide (y2>0)))] (B false))] ⟨asb hb6 (amv rfl),tv⟩<|wfa<|Qah<|bln<|thn<|wxz1<|thn<|arm (mto (n:=30) [(0,Qv8 p0),(1,.fn (.func 67) [] []),(7,I (p0.length:Int)),(8,I (w64 (y2+1)))] [] [] hq (pqi (pqi (pw (pw pn)))) qn) (ih (w64 (y2+1)) h)
 exact Qax<|Qan<|Qan<|Qaw rfl<|thn<|⟨(),h,mto (n:=30) [] [] [] hq pn qn⟩
def Qhl (N:Nat) (p0:Qay):Option Bool:=(Qel N p0.Amount 1 1000000).bind fun x2=>bif !x2 then some true else (Qel N p0.Price 0 1000).bind fun x5=>some !x5
def Zgb (p0:Qay) (x2:Bool):List (Nat×Rec):=[(2,rp [fu 27,(.tmp 4,I p0.Amount),ci 1,ci 1000000] (B x2))]
def Qqm (N:Nat) (p0:Qay) (r:Bool) (h:Qhl N p0=some r):Spec prog 69 [.agg (Qbm p0)] [] (B r) []:=by
 refine sA func69 0 fun _ _ _ hq hd0=>?_
 unfold Qhl at h
 refine wxz<|bnq h fun x2 f1 h=>hpre (A:=(Zgb p0 x2)) ⟨apv Qoy (Qes N p0.Amount 1 1000000 _ f1) (nlcc (nlc nll nl0)) nll,tv⟩ fun q1_=>?_
 refine bfe h (fun hb3 h=>?_) fun hb3 h=>?_
 ·exact wx tbk (hcat (Zgb p0 x2) [(4,rp [(.tmp 6,B !x2)] (B true))]) (hap q1_ ⟨asb hb3 (amv rfl),tv⟩)<|Qad<|frb h
 refine bnq h fun x5 f4 h=>?_
 refine wx tbk (hcat (Zgb p0 x2) [(4,rp [(.tmp 6,B !x2)] (B false)),(7,rp [(.tmp 7,B false),fu 27,(.tmp 9,I p0.Price),ci 0,ci 1000] (B x5))]) (hap q1_ ⟨asb hb3 (amv rfl),ag_ (apv Qoy (Qes N p0.Price 0 1000 _ f4) (nlcc (nlc nll nl0)) nll),tv⟩)<|Qad ?_
 obtain rfl:=osi h
 exact fend ⟨[B !x5],⟨rot,tv⟩,rfl⟩ nll
def Qa4 (N:Nat) (p0:List Qay) (k1:Unit->Option Int):Nat->Int->Option Int
 |0,_=>none
 |n4+1,y2=>bif decide (y2<(p0.length:Int)) then (getI p0 y2).bind fun x6=>(Qhl N x6).bind fun x11=>bif x11 then some y2 else Qa4 N p0 k1 n4 (w64 (y2+1)) else k1 ()
def Qdo (N:Nat) (p0:List Qay):Option Int:=Qb0 (fun _=>some (-1)) fun k1:Unit->Option Int=>Qa4 N p0 k1 N 0
abbrev Q4h (p0:List Qay):AV:=.dat 2 (p0.map Qbm)
def Qi3 (N:Nat) (p0:List Qay) (r:Int) (h:Qdo N p0=some r):Spec prog 88 [Q4h p0,.fn (.func 69) [] []] [] (I r) []:=by
 refine sA func88 0 fun _ _ _ hq hd0=>?_
 unfold Qdo at h
 refine wxz<|wjq h (fun _=>⟨mk 19 [],[]⟩) (fun t h=>?_) fun k1 h=>?_
 ·refine wxz<|Qad ?_
  obtain rfl:=osi h
  exact fend ⟨[I (-1)],⟨rot,tv⟩,rfl⟩ nll
 refine wx tbk [(1,rp _ _)] ⟨alq 2 Qbm p0 Xbv,tv⟩<|Qaf ?_
 refine wmr (mto (n:=19) (l':=[(0,Q4h p0),(1,.fn (.func 69) [] []),(7,I (p0.length:Int)),(8,I 0)]) (own':=[]) [(0,Q4h p0),(1,.fn (.func 69) [] []),(7,I (p0.length:Int)),(8,I 0)] [] [] hq (pqi (pqi (pw (pw pn)))) qn) ?_
 refine Qbf (τ:=Int) (fun n t=>Qa4 N p0 k1 n t=some r) (fun y2=>⟨mk 19 [(0,Q4h p0),(1,.fn (.func 69) [] []),(7,I (p0.length:Int)),(8,I y2)],[]⟩) (fun t h=>by rw[Qa4] at h;cases h) (fun n4 ih y2 h=>?_) N (0) h
 rw[Qa4] at h
 refine wxz<|wsq<|bfq h (fun c5 h=>?_) fun c5 h=>?_
 ·refine Qah<|thn<|wsq<|Qaf<|wxz ?_
  refine bgq h fun x6 i8 j9 h=>bnq h fun x11 f10 h=>wx tbk [(3,rp _ _),(5,rp _ _)] ⟨aiq Xbv Qx4 Qbm i8 j9,apw Zsv (Qqm N x6 _ f10),tv⟩<|bfq h (fun c12 h=>?_) fun c12 h=>?_
  ·refine wxz<|Qad<|Qal<|Qac<|Qac<|Qal<|Qac ?_
   obtain rfl:=osi h
   exact fend ⟨[I y2],⟨rot,tv⟩,rfl⟩ nll
  exact Qah<|bln<|thn<|wxz1<|thn<|arm (mto (n:=19) [(0,Q4h p0),(1,.fn (.func 69) [] []),(7,I (p0.length:Int)),(8,I (w64 (y2+1)))] [] [] hq (pqi (pqi (pw (pw pn)))) qn) (ih (w64 (y2+1)) h)
 exact Qax<|Qan<|Qan<|Qaw rfl<|thn<|⟨(),h,mto (n:=19) [] [] [] hq pn qn⟩
def Qcm (N:Nat) (p0:List Qay):Option Bool:=(Qdo N p0).bind fun x2=>some (decide (x2>=0))
def Qik (N:Nat) (p0:List Qay) (r:Bool) (h:Qcm N p0=some r):Spec prog 68 [.dat 2 (p0.map Qbm),.fn (.func 69) [] []] [] (B r) []:=by
 refine sA func68 0 fun _ _ _ hq hd0=>?_
 unfold Qcm at h
 refine wxz<|bnq h fun x2 f1 h=>?_
 refine wx tbk [(2,rp _ _)] ⟨acq [.dat 2 (p0.map Qbm),.fn (.func 69) [] []] [] [] (I x2) [] Zsi (Qi3 N p0 _ f1) pli Qai Qai pli,tv⟩<|Qad ?_
 obtain rfl:=osi h
 exact fend ⟨[B (decide (x2>=0))],⟨rot,tv⟩,rfl⟩ nll
def Qiq (N:Nat) (p0:Qb3):Option Bool:=(Qel N (p0.Stairs.length:Int) 1 6).bind fun x2=>bif x2 then (Qfb N p0.Stairs).bind fun x5=>bif x5 then (Qcm N p0.Stairs).bind fun x8=>some !x8 else some false else some false
abbrev Q4i (p0:Qb3):AV:=.dat 2 (p0.Stairs.map Qbm)
def Zgd (p0:Qb3) (x2:Bool):List (Nat×Rec):=[(2,rp [(.tmp 4,Q4i p0)] (I (p0.Stairs.length:Int))),(3,rp [fu 27,(.tmp 5,I (p0.Stairs.length:Int)),ci 1,ci 6] (B x2))]
def Zgc p0 x2 (x5:Bool):=hcat (Zgd p0 x2) [(4,rp [(.tmp 6,B x2)] (B true)),(7,rp [(.tmp 7,B true),fu 66,(.tmp 9,Q4i p0),fu 67] (B x5))]
def Qre (N:Nat) (p0:Qb3) (r:Bool) (h:Qiq N p0=some r):Spec prog 48 [.agg (Qbg p0)] [] (B r) []:=by
 refine sA func48 0 fun _ _ _ hq hd0=>?_
 unfold Qiq at h
 refine wxz<|bnq h fun x2 f1 h=>hpre (A:=(Zgd p0 x2)) ⟨alq 2 Qbm p0.Stairs Xbv,apv Qoy (Qes N (p0.Stairs.length:Int) 1 6 _ f1) (nlcc (nlc nll nl0)) nll,tv⟩ fun q1_=>?_
 refine bfe h (fun hb3 h=>?_) fun hb3 h=>?_
 ·refine bnq h fun x5 f4 h=>hpre (A:=(Zgc p0 x2 x5)) (hap q1_ ⟨asb hb3 (amv rfl),ag_ (acq [Q4i p0,.fn (.func 67) [] []] [] [] (B x5) [] Zsx (Qms N p0.Stairs _ f4) pli Qai Qai pli),tv⟩) fun q2_=>?_
  refine bfe h (fun hb6 h=>?_) fun hb6 h=>?_
  ·refine bnq h fun x8 f7 h=>?_
   refine wx tbk (hcat (Zgc p0 x2 x5) [(9,rp [(.tmp 11,B x5)] (B true)),(12,rp [(.tmp 12,B true),fu 68,(.tmp 14,Q4i p0),fu 69] (B x8))]) (hap q2_ ⟨asb hb6 (amv rfl),ag_ (acq [Q4i p0,.fn (.func 69) [] []] [] [] (B x8) [] Zsw (Qik N p0.Stairs _ f7) pli Qai Qai pli),tv⟩)<|Qad ?_
   obtain rfl:=osi h
   exact fend ⟨[B !x8],⟨rot,tv⟩,rfl⟩ nll
  exact wx tbk (hcat (Zgc p0 x2 x5) [(9,rp [(.tmp 11,B x5)] (B false))]) (hap q2_ ⟨asb hb6 (amv rfl),tv⟩)<|Qad<|frb h
 exact wx tbk (hcat (Zgd p0 x2) [(4,rp [(.tmp 6,B x2)] (B false))]) (hap q1_ ⟨asb hb3 (amv rfl),tv⟩)<|Qad<|frb h
def Qd8 (N:Nat) (p0:Qav) (p1:Qbj) (y5:(Nat->Bool)) (k7:Unit->Option Int):Nat->Int->Option Int
 |0,_=>none
 |n10+1,y8=>bif decide (y8<(p1.Feeds.length:Int)) then (getI p1.Feeds y8).bind fun x12=>(Qez N p0 x12).bind fun x17=>bif !x17 then some 1 else chk (decide (0<=x12)&&decide (x12.toNat<12))<|bif y5 x12.toNat then some 1 else Qd8 N p0 p1 y5 k7 n10 (w64 (y8+1)) else k7 ()
def Qev (N:Nat) (p0:Qav) (p1:Qbj) (k6:(Nat->Bool)->Option Int):Nat->Int->(Nat->Bool)->Option Int
 |0,_,_=>none
 |n25+1,y21,y22=>bif decide (y21<(p1.Inlets.length:Int)) then (getI p1.Inlets y21).bind fun x27=>(Qez N p0 x27.Site).bind fun x32=>bif !x32 then some 1 else chk (decide (0<=x27.Site)&&decide (x27.Site.toNat<12))<|bif y22 x27.Site.toNat then some 1 else (Qiq N x27).bind fun x37=>bif !x37 then some 1 else chk (decide (0<=x27.Site)&&decide (x27.Site.toNat<12))<|Qev N p0 p1 k6 n25 (w64 (y21+1)) (setF y22 x27.Site.toNat true) else k6 y22
def Qeh (N:Nat) (p0:Qav) (p1:Qbj):Option Int:=(Qhs N p0).bind fun x2=>bif (x2 != 0) then some x2 else Qb0 (fun _=>Qb0 (fun y5=>Qb0 (fun _=>some 0) fun k7:Unit->Option Int=>Qd8 N p0 p1 y5 k7 N 0) fun k6:(Nat->Bool)->Option Int=>Qev N p0 p1 k6 N 0 (fun _=>false)) fun k4:Unit->Option Int=>(Qel N (p1.Inlets.length:Int) 1 10).bind fun x41=>bif !x41 then some 1 else (Qel N (p1.Feeds.length:Int) 1 10).bind fun x44=>bif !x44 then some 1 else (Qel N p1.Factor 1000 100000).bind fun x47=>bif !x47 then some 1 else (Qel N p1.Horizon 0 100000000).bind fun x50=>bif !x50 then some 1 else (Qh2 N p1.Feeds).bind fun x53=>bif !x53 then some 1 else k4 ()
abbrev Zpe (p0:Qav):AV:=.agg [I p0.Sites,.dat 4 (p0.Tests.map Qbu)]
abbrev Qq8 (p0:Qav):Slot:=.own 2 [[I p0.Sites,.dat 4 (p0.Tests.map Qbu)]]
abbrev Q0m (p1:Qbj):AV:=.dat 2 (p1.Inlets.map Qbg)
abbrev Qwa (p1:Qbj):AV:=.dat 1 (p1.Feeds.map Qab)
abbrev Qv9 (p1:Qbj):Slot:=.own 4 [[Q0m p1,Qwa p1,I p1.Factor,I p1.Horizon]]
def Q7q (p0:Qav) (x12:Int) (x17:Bool):List (Nat×Rec):=[(2,rp [fu 47,(.tmp 80,Zpe p0),(.tmp 81,I x12)] (B x17))]
abbrev Zpd:Slot:=.own 12 [arrF 12 (fun _=>false)]
def Q7p (p0:Qav) (x27:Qb3) (x32:Bool):List (Nat×Rec):=[(3,rp [fu 47,(.tmp 53,Zpe p0),(.tmp 55,I x27.Site)] (B x32))]
def Q7o p0 x27 x32 (y22:(Nat->Bool)):=hcat (Q7p p0 x27 x32) [(5,rp [(.tmp 57,B !x32)] (B false)),(8,rb [(.tmp 58,B false),(.tmp 6,.ref 2 12 (0) 0),(.tmp 60,I x27.Site)] [(2,.own 12 [arrF 12 y22])] (.ref 2 12 (0) (0+x27.Site.toNat*1))),(9,rb [(.tmp 58,B false),(.tmp 61,.ref 2 12 (0) (0+x27.Site.toNat*1))] [(2,.own 12 [arrF 12 y22])] (B (y22 x27.Site.toNat)))]
def Q7n (p1:Qbj) (x41:Bool):List (Nat×Rec):=[(2,rp [(.tmp 17,Q0m p1)] (I (p1.Inlets.length:Int))),(3,rp [fu 27,(.tmp 18,I (p1.Inlets.length:Int)),ci 1,ci 10] (B x41))]
def Q7m p1 x41 (x44:Bool):=hcat (Q7n p1 x41) [(5,rp [(.tmp 20,B !x41)] (B false)),(8,rp [(.tmp 21,B false),(.tmp 23,Qwa p1)] (I (p1.Feeds.length:Int))),(9,rp [(.tmp 21,B false),fu 27,(.tmp 24,I (p1.Feeds.length:Int)),ci 1,ci 10] (B x44))]
def Q7l p1 x41 x44 (x47:Bool):=hcat (Q7m p1 x41 x44) [(12,rp [(.tmp 27,B !x44)] (B false)),(15,rp [(.tmp 28,B false),fu 27,(.tmp 30,I p1.Factor),ci 1000,ci 100000] (B x47))]
def Q7k p1 x41 x44 x47 (x50:Bool):=hcat (Q7l p1 x41 x44 x47) [(18,rp [(.tmp 33,B !x47)] (B false)),(21,rp [(.tmp 34,B false),fu 27,(.tmp 36,I p1.Horizon),ci 0,ci 100000000] (B x50))]
def Qje (N:Nat) (p0:Qav) (p1:Qbj) (r:Int) (h:Qeh N p0 p1=some r):Spec prog 26 [.agg (Qis p0),.agg (Qla p1)] [] (I r) []:=by
 refine sA func26 0 fun _ _ _ hq hd0=>?_
 unfold Qeh at h
 refine wxz<|wsq<|bnq h fun x2 f1 h=>wx tbk [(1,rp _ _)] ⟨apw Zi1 (Qnx N p0 _ f1),tv⟩<|wxz<|bfq h (fun c3 h=>?_) fun c3 h=>?_
 ·refine wxz<|Qad<|Qac ?_
  obtain rfl:=osi h
  exact fend ⟨[I x2],⟨rot,tv⟩,rfl⟩ nll
 refine Qah<|thn ?_
 refine wjq h (fun _=>⟨mk 90 [(2,.ref 0 2 0 0),(3,.ref 1 4 0 0)],[Qq8 p0,Qv9 p1]⟩) (fun t h=>?_) fun k4 h=>?_
 ·refine wxz<|wjq h (fun y5=>⟨mk 90 [(2,.ref 0 2 0 0),(3,.ref 1 4 0 0),(6,.ref 2 12 0 0)],[Qq8 p0,Qv9 p1,.own 12 [arrF 12 y5]]⟩) (fun y5 h=>?_) fun k6 h=>?_
  ·refine wjq h (fun _=>⟨mk 90 [],[]⟩) (fun t h=>?_) fun k7 h=>?_
   ·refine wxz<|Qad ?_
    obtain rfl:=osi h
    exact fend ⟨[I 0],⟨rot,tv⟩,rfl⟩ nll
   refine wx tbk [(2,rp _ _)] ⟨alq 1 Qab p1.Feeds Xag,tv⟩<|Qaf ?_
   refine wmr (mto (n:=90) (l':=[(2,.ref 0 2 0 0),(6,.ref 1 12 0 0),(74,Qwa p1),(75,I (p1.Feeds.length:Int)),(76,I 0)]) (own':=[Qq8 p0,.own 12 [arrF 12 y5]]) [(2,.ref 0 2 0 0),(6,.ref 2 12 0 0),(74,Qwa p1),(75,I (p1.Feeds.length:Int)),(76,I 0)] [0,2] [Qq8 p0,.own 12 [arrF 12 y5]] hq (prr (prr (pqi (pw (pw pn))))) (qbi (qb (Qbh fun _=>rwl) qn))) ?_
   refine Qbf (τ:=Int) (fun n t=>Qd8 N p0 p1 y5 k7 n t=some r) (fun y8=>⟨mk 90 [(2,.ref 0 2 0 0),(6,.ref 1 12 0 0),(74,Qwa p1),(75,I (p1.Feeds.length:Int)),(76,I y8)],[Qq8 p0,.own 12 [arrF 12 y5]]⟩) (fun t h=>by rw[Qd8] at h;cases h) (fun n10 ih y8 h=>?_) N (0) h
   rw[Qd8] at h
   refine wxz<|wsq<|bfq h (fun c11 h=>?_) fun c11 h=>?_
   ·refine Qah<|thn<|wsq<|Qaf ?_
    refine bgq h fun x12 i14 j15 h=>wx tbk [(0,rp _ _)] ⟨aiq Xag ti3 Qab i14 j15,tv⟩<|bnq h fun x17 f16 h=>hpre (A:=(Q7q p0 x12 x17)) ⟨apv Qvt (Qgd N p0 x12 _ f16) (nlc (NLt.agg _ (nlc nll (nlc (nld Qbz _) nl0))) (nlc nll nl0)) nll,tv⟩ fun q1_=>?_
    refine bfe h (fun hb18 h=>?_) fun hb18 h=>?_
    ·refine wx tbk (hcat (Q7q p0 x12 x17) [(4,rp [(.tmp 83,B !x17)] (B true))]) (hap q1_ ⟨asb hb18 (amv rfl),tv⟩)<|wtr<|wxz<|Qad<|Qal<|Qac<|Qac<|Qal<|Qac ?_
     obtain rfl:=osi h
     exact fend ⟨[I 1],⟨rot,tv⟩,rfl⟩ nll
    refine ckq h fun i19 h=>?_
    obtain⟨hi19a,hi19b⟩:=Qb6 i19
    refine wx tbk (hcat (Q7q p0 x12 x17) [(4,rp [(.tmp 83,B !x17)] (B false)),(6,rb [(.tmp 84,B false),(.tmp 6,.ref 1 12 0 0),(.tmp 85,I x12)] [(1,.own 12 [arrF 12 y5])] (.ref 1 12 0 (0+x12.toNat*1))),(7,rb [(.tmp 84,B false),(.tmp 86,.ref 1 12 0 (0+x12.toNat*1))] [(1,.own 12 [arrF 12 y5])] (B (y5 x12.toNat)))]) (hap q1_ ⟨asb hb18 (amv rfl),ag_ (Qex rfl Xf4 ti4 (odt hi19a) (odt hi19b) rfl),ag_ (ald rfl ti4 (by decide) rfl (Zif (n:=12) (odt hi19b) (nle rfl)) (Zia (pre:=[]) (post:=[]) (n:=12) (f:=y5) (by kernel_rfl) rfl (odt hi19b))),tv⟩)<|bfq h (fun c20 h=>?_) fun c20 h=>?_
    ·refine wxz<|Qad<|Qal<|Qac<|Qac<|Qal<|Qac ?_
     obtain rfl:=osi h
     exact fend ⟨[I 1],⟨rot,tv⟩,rfl⟩ nll
    exact Qah<|bln<|thn<|wxz1<|thn<|arm (mto (n:=90) [(2,.ref 0 2 0 0),(6,.ref 1 12 0 0),(74,Qwa p1),(75,I (p1.Feeds.length:Int)),(76,I (w64 (y8+1)))] [0,1] [Qq8 p0,.own 12 [arrF 12 y5]] hq (prr (prr (pqi (pw (pw pn))))) (qbi (qb (Qbh fun _=>rwl) qn))) (ih (w64 (y8+1)) h)
   exact Qax<|Qan<|Qan<|Qaw rfl<|thn<|⟨(),h,mto (n:=90) [] [] [] hq pn qn⟩
  refine wx tbk [(2,rp _ _)] ⟨alq 2 Qbg p1.Inlets Xbr,tv⟩<|Qaf ?_
  refine wmr (mto (n:=90) (l':=[(2,.ref 0 2 0 0),(3,.ref 1 4 0 0),(6,.ref 2 12 0 0),(47,Q0m p1),(48,I (p1.Inlets.length:Int)),(49,I 0)]) (own':=[Qq8 p0,Qv9 p1,Zpd]) [(2,.ref 0 2 0 0),(3,.ref 1 4 0 0),(6,.ref 2 12 0 0),(47,Q0m p1),(48,I (p1.Inlets.length:Int)),(49,I 0)] [0,1,2] [Qq8 p0,Qv9 p1,Zpd] hq (prr (prr (prr (pqi (pw (pw pn)))))) (qbi (qbi (qb (Qbh fun _=>rwl) qn)))) ?_
  refine Qbf (τ:=Int×(Nat->Bool)) (fun n t=>Qev N p0 p1 k6 n t.1 t.2=some r) (fun ⟨y21,y22⟩=>⟨mk 90 [(2,.ref 0 2 0 0),(3,.ref 1 4 0 0),(6,.ref 2 12 0 0),(47,Q0m p1),(48,I (p1.Inlets.length:Int)),(49,I y21)],[Qq8 p0,Qv9 p1,.own 12 [arrF 12 y22]]⟩) (fun t h=>by rw[Qev] at h;cases h) (fun n25 ih t h=>?_) N (0,fun _=>false) h
  obtain⟨y21,y22⟩:=t
  rw[Qev] at h
  refine wxz<|wsq<|bfq h (fun c26 h=>?_) fun c26 h=>?_
  ·refine Qah<|thn<|wsq<|Qaf ?_
   refine bgq h fun x27 i29 j30 h=>wx tbk [(0,rp _ _)] ⟨aiq Xbr Q4s Qbg i29 j30,tv⟩<|wsq<|bnq h fun x32 f31 h=>hpre (A:=(Q7p p0 x27 x32)) ⟨apv Qvt (Qgd N p0 x27.Site _ f31) (nlc (NLt.agg _ (nlc nll (nlc (nld Qbz _) nl0))) (nlc nll nl0)) nll,tv⟩ fun q2_=>?_
   refine bfe h (fun hb33 h=>?_) fun hb33 h=>?_
   ·refine wx tbk (hcat (Q7p p0 x27 x32) [(5,rp [(.tmp 57,B !x32)] (B true))]) (hap q2_ ⟨asb hb33 (amv rfl),tv⟩)<|wtr<|wxz<|Qad<|Qac<|Qal<|Qac<|Qac<|Qal<|Qac ?_
    obtain rfl:=osi h
    exact fend ⟨[I 1],⟨rot,tv⟩,rfl⟩ nll
   refine ckq h fun i34 h=>?_
   obtain⟨hi34a,hi34b⟩:=Qb6 i34
   refine hpre (A:=(Q7o p0 x27 x32 y22)) (hap q2_ ⟨asb hb33 (amv rfl),ag_ (Qex rfl Xf4 ti4 (odt hi34a) (odt hi34b) rfl),ag_ (ald rfl ti4 (by decide) rfl (Zif (n:=12) (odt hi34b) (nle rfl)) (Zia (pre:=[]) (post:=[]) (n:=12) (f:=y22) (by kernel_rfl) rfl (odt hi34b))),tv⟩) fun q3_=>?_
   refine bfe h (fun hb35 h=>?_) fun hb35 h=>?_
   ·refine wx tbk (hcat (Q7o p0 x27 x32 y22) [(11,rp [(.tmp 63,B (y22 x27.Site.toNat))] (B true))]) (hap q3_ ⟨asb hb35 (amv rfl),tv⟩)<|wtr<|wxz<|Qad<|Qac<|Qal<|Qac<|Qac<|Qal<|Qac ?_
    obtain rfl:=osi h
    exact fend ⟨[I 1],⟨rot,tv⟩,rfl⟩ nll
   refine bnq h fun x37 f36 h=>wx tbk (hcat (Q7o p0 x27 x32 y22) [(11,rp [(.tmp 63,B (y22 x27.Site.toNat))] (B false)),(13,rp [(.tmp 64,B false),fu 48,(.tmp 65,.agg [I x27.Site,.dat 2 (x27.Stairs.map Qbm)])] (B x37))]) (hap q3_ ⟨asb hb35 (amv rfl),ag_ (apv Zta (Qre N x27 _ f36) (nlc (NLt.agg _ (nlc nll (nlc (nld Qlk _) nl0))) nl0) nll),tv⟩)<|bfq h (fun c38 h=>?_) fun c38 h=>?_
   ·refine wxz<|Qad<|Qac<|Qal<|Qac<|Qac<|Qal<|Qac ?_
    obtain rfl:=osi h
    exact fend ⟨[I 1],⟨rot,tv⟩,rfl⟩ nll
   refine Qah<|thn ?_
   refine ckq h fun i39 h=>?_
   obtain⟨hi39a,hi39b⟩:=Qb6 i39
   exact wx1 tbk [(2,rb [(.tmp 6,.ref 2 12 0 0),(.tmp 70,I x27.Site)] [(2,.own 12 [arrF 12 y22])] (.ref 2 12 0 (0+x27.Site.toNat*1))),(3,⟨[(.tmp 71,.ref 2 12 0 (0+x27.Site.toNat*1)),cb true],[(2,.own 12 [arrF 12 y22])],.any,[(2,.own 12 [arrF 12 (setF y22 x27.Site.toNat true)])],false⟩)] ⟨Qex rfl Xf4 ti4 (odt hi39a) (odt hi39b) rfl,ast rfl ti4 (by rfl) rfl (Zif (n:=12) (odt hi39b) (nle rfl)) (Zpn (pre:=[]) (post:=[]) (n:=12) (f:=y22) (x:=true) (by kernel_rfl) rfl (by kernel_rfl) (odt hi39b)),tv⟩<|bln<|thn<|wxz1<|thn<|arm (mto (n:=90) [(2,.ref 0 2 0 0),(3,.ref 1 4 0 0),(6,.ref 2 12 0 0),(47,Q0m p1),(48,I (p1.Inlets.length:Int)),(49,I (w64 (y21+1)))] [0,1,2] [Qq8 p0,Qv9 p1,.own 12 [arrF 12 (setF y22 x27.Site.toNat true)]] hq (prr (prr (prr (pqi (pw (pw pn)))))) (qbi (qbi (qb (Qbh fun _=>rwl) qn)))) (ih (w64 (y21+1),setF y22 x27.Site.toNat true) h)
  exact Qax<|Qan<|Qan<|Qaw rfl<|thn<|⟨y22,h,mto (n:=90) [(2,.ref 0 2 0 0),(3,.ref 1 4 0 0),(6,.ref 2 12 0 0)] [0,1,2] [Qq8 p0,Qv9 p1,.own 12 [arrF 12 y22]] hq (prr (prr (prr pn))) (qbi (qbi (qb (Qbh fun _=>rwl) qn)))⟩
 refine bnq h fun x41 f40 h=>hpre (A:=(Q7n p1 x41)) ⟨alq 2 Qbg p1.Inlets Xbr,apv Qoy (Qes N (p1.Inlets.length:Int) 1 10 _ f40) (nlcc (nlc nll nl0)) nll,tv⟩ fun q4_=>?_
 refine bfe h (fun hb42 h=>?_) fun hb42 h=>?_
 ·refine wx tbk (hcat (Q7n p1 x41) [(5,rp [(.tmp 20,B !x41)] (B true))]) (hap q4_ ⟨asb hb42 (amv rfl),tv⟩)<|wtr<|wxz<|Qad<|Qac ?_
  obtain rfl:=osi h
  exact fend ⟨[I 1],⟨rot,tv⟩,rfl⟩ nll
 refine bnq h fun x44 f43 h=>hpre (A:=(Q7m p1 x41 x44)) (hap q4_ ⟨asb hb42 (amv rfl),ag_ (alq 1 Qab p1.Feeds Xag),ag_ (apv Qoy (Qes N (p1.Feeds.length:Int) 1 10 _ f43) (nlcc (nlc nll nl0)) nll),tv⟩) fun q5_=>?_
 refine bfe h (fun hb45 h=>?_) fun hb45 h=>?_
 ·refine wx tbk (hcat (Q7m p1 x41 x44) [(12,rp [(.tmp 27,B !x44)] (B true))]) (hap q5_ ⟨asb hb45 (amv rfl),tv⟩)<|wtr<|wxz<|Qad<|Qac ?_
  obtain rfl:=osi h
  exact fend ⟨[I 1],⟨rot,tv⟩,rfl⟩ nll
 refine bnq h fun x47 f46 h=>hpre (A:=(Q7l p1 x41 x44 x47)) (hap q5_ ⟨asb hb45 (amv rfl),ag_ (apv Qoy (Qes N p1.Factor 1000 100000 _ f46) (nlcc (nlc nll nl0)) nll),tv⟩) fun q6_=>?_
 refine bfe h (fun hb48 h=>?_) fun hb48 h=>?_
 ·refine wx tbk (hcat (Q7l p1 x41 x44 x47) [(18,rp [(.tmp 33,B !x47)] (B true))]) (hap q6_ ⟨asb hb48 (amv rfl),tv⟩)<|wtr<|wxz<|Qad<|Qac ?_
  obtain rfl:=osi h
  exact fend ⟨[I 1],⟨rot,tv⟩,rfl⟩ nll
 refine bnq h fun x50 f49 h=>hpre (A:=(Q7k p1 x41 x44 x47 x50)) (hap q6_ ⟨asb hb48 (amv rfl),ag_ (apv Qoy (Qes N p1.Horizon 0 100000000 _ f49) (nlcc (nlc nll nl0)) nll),tv⟩) fun q7_=>?_
 refine bfe h (fun hb51 h=>?_) fun hb51 h=>?_
 ·refine wx tbk (hcat (Q7k p1 x41 x44 x47 x50) [(24,rp [(.tmp 39,B !x50)] (B true))]) (hap q7_ ⟨asb hb51 (amv rfl),tv⟩)<|wtr<|wxz<|Qad<|Qac ?_
  obtain rfl:=osi h
  exact fend ⟨[I 1],⟨rot,tv⟩,rfl⟩ nll
 refine bnq h fun x53 f52 h=>wx tbk (hcat (Q7k p1 x41 x44 x47 x50) [(24,rp [(.tmp 39,B !x50)] (B false)),(27,rp [(.tmp 40,B false),fu 45,(.tmp 42,Qwa p1),fu 46] (B x53))]) (hap q7_ ⟨asb hb51 (amv rfl),ag_ (acq [Qwa p1,.fn (.func 46) [] []] [] [] (B x53) [] Ztb (Qqz N p1.Feeds _ f52) pli Qai Qai pli),tv⟩)<|bfq h (fun c54 h=>?_) fun c54 h=>?_
 ·refine wxz<|Qad<|Qac ?_
  obtain rfl:=osi h
  exact fend ⟨[I 1],⟨rot,tv⟩,rfl⟩ nll
 exact Qah<|thn<|⟨(),h,mto (n:=90) [(2,.ref 0 2 0 0),(3,.ref 1 4 0 0)] [0,1] [Qq8 p0,Qv9 p1] hq (prr (prr pn)) (qbi (qbi qn))⟩
def Qem (N:Nat) (p0:Qb3) (k2:Int->Option Int):Nat->Int->Int->Option Int
 |0,_,_=>none
 |n7+1,y3,y4=>bif decide (y4<(p0.Stairs.length:Int)) then (getI p0.Stairs y4).bind fun x9=>Qem N p0 k2 n7 (w64 (y3+x9.Amount)) (w64 (y4+1)) else k2 y3
def Qip (N:Nat) (p0:Qb3):Option Int:=Qb0 (fun y1=>some y1) fun k2:Int->Option Int=>Qem N p0 k2 N 0 0
abbrev Zar (p0:Qb3):AV:=.dat 2 (p0.Stairs.map Qbm)
def Qrd (N:Nat) (p0:Qb3) (r:Int) (h:Qip N p0=some r):Spec prog 56 [.agg (Qbg p0)] [] (I r) []:=by
 refine sA func56 0 fun _ _ _ hq hd0=>?_
 unfold Qip at h
 refine wxz<|wjq h (fun y1=>⟨mk 18 [(2,I y1)],[]⟩) (fun y1 h=>?_) fun k2 h=>?_
 ·refine wxz<|Qad ?_
  obtain rfl:=osi h
  exact fend ⟨[I y1],⟨rot,tv⟩,rfl⟩ nll
 refine wx tbk [(2,rp _ _)] ⟨alq 2 Qbm p0.Stairs Xbv,tv⟩<|Qaf ?_
 refine wmr (mto (n:=18) (l':=[(2,I 0),(6,Zar p0),(7,I (p0.Stairs.length:Int)),(8,I 0)]) (own':=[]) [(2,I 0),(6,Zar p0),(7,I (p0.Stairs.length:Int)),(8,I 0)] [] [] hq (pw (pqi (pw (pw pn)))) qn) ?_
 refine Qbf (τ:=Int×Int) (fun n t=>Qem N p0 k2 n t.1 t.2=some r) (fun ⟨y3,y4⟩=>⟨mk 18 [(2,I y3),(6,Zar p0),(7,I (p0.Stairs.length:Int)),(8,I y4)],[]⟩) (fun t h=>by rw[Qem] at h;cases h) (fun n7 ih t h=>?_) N (0,0) h
 obtain⟨y3,y4⟩:=t
 rw[Qem] at h
 refine wxz<|wsq<|bfq h (fun c8 h=>?_) fun c8 h=>?_
 ·refine Qah<|thn<|wsq<|Qaf ?_
  exact bgq h fun x9 i11 j12 h=>wx tbk [(0,rp _ _)] ⟨aiq Xbv Qx4 Qbm i11 j12,tv⟩<|wxz1<|bln<|thn<|wxz1<|thn<|arm (mto (n:=18) [(2,I (w64 (y3+x9.Amount))),(6,Zar p0),(7,I (p0.Stairs.length:Int)),(8,I (w64 (y4+1)))] [] [] hq (pw (pqi (pw (pw pn)))) qn) (ih (w64 (y3+x9.Amount),w64 (y4+1)) h)
 exact Qax<|Qan<|Qan<|Qaw rfl<|thn<|⟨y3,h,mto (n:=18) [(2,I y3)] [] [] hq (pw pn) qn⟩
def Qc5 (N:Nat) (p0:Qbj) (k1:Unit->Option Bool) (p1:List Int):Nat->Int->Option Bool
 |0,_=>none
 |n4+1,y2=>bif decide (y2<(p1.length:Int)) then (getI p1 y2).bind fun x6=>bif decide (y2>=(p0.Inlets.length:Int)) then some false else (getI p0.Inlets y2).bind fun x11=>(Qip N x11).bind fun x16=>(Qel N x6 0 x16).bind fun x18=>bif !x18 then some false else Qc5 N p0 k1 p1 n4 (w64 (y2+1)) else k1 ()
def Qd9 (N:Nat) (p0:Qbj) (p1:List Int):Option Bool:=Qb0 (fun _=>some ((p1.length:Int)==(p0.Inlets.length:Int))) fun k1:Unit->Option Bool=>Qc5 N p0 k1 p1 N 0
abbrev Zpc (p0:Qbj):AV:=.dat 2 (p0.Inlets.map Qbg)
abbrev Q0l (p0:Qbj):Slot:=.own 4 [[Zpc p0,.dat 1 (p0.Feeds.map Qab),I p0.Factor,I p0.Horizon]]
def Qmq (N:Nat) (p0:Qbj) (p1:List Int) (r:Bool) (h:Qd9 N p0 p1=some r):Spec prog 33 [.agg (Qla p0),.dat 1 (p1.map Qab)] [] (B r) []:=by
 refine sA func33 0 fun _ _ _ hq hd0=>?_
 unfold Qd9 at h
 refine wxz<|wjq h (fun _=>⟨mk 37 [(1,.dat 1 (p1.map Qab)),(2,.ref 0 4 0 0)],[Q0l p0]⟩) (fun t h=>?_) fun k1 h=>?_
 ·refine wx tbk [(1,rp _ _),(4,rp _ _)] ⟨alq 1 Qab p1 Xag,alq 2 Qbg p0.Inlets Xbr,tv⟩<|Qad ?_
  obtain rfl:=osi h
  exact fend ⟨[B ((p1.length:Int)==(p0.Inlets.length:Int))],⟨rot,tv⟩,rfl⟩ nll
 refine wx tbk [(1,rp _ _)] ⟨alq 1 Qab p1 Xag,tv⟩<|Qaf ?_
 refine wmr (mto (n:=37) (l':=[(1,.dat 1 (p1.map Qab)),(2,.ref 0 4 0 0),(7,.dat 1 (p1.map Qab)),(8,I (p1.length:Int)),(9,I 0)]) (own':=[Q0l p0]) [(1,.dat 1 (p1.map Qab)),(2,.ref 0 4 0 0),(7,.dat 1 (p1.map Qab)),(8,I (p1.length:Int)),(9,I 0)] [0] [Q0l p0] hq (pqi (prr (pqi (pw (pw pn))))) (qbi qn)) ?_
 refine Qbf (τ:=Int) (fun n t=>Qc5 N p0 k1 p1 n t=some r) (fun y2=>⟨mk 37 [(1,.dat 1 (p1.map Qab)),(2,.ref 0 4 0 0),(7,.dat 1 (p1.map Qab)),(8,I (p1.length:Int)),(9,I y2)],[Q0l p0]⟩) (fun t h=>by rw[Qc5] at h;cases h) (fun n4 ih y2 h=>?_) N (0) h
 rw[Qc5] at h
 refine wxz<|wsq<|bfq h (fun c5 h=>?_) fun c5 h=>?_
 ·refine Qah<|thn<|wsq<|Qaf ?_
  refine bgq h fun x6 i8 j9 h=>wx tbk [(1,rp _ _)] ⟨aiq Xag ti3 Qab i8 j9,tv⟩<|bfe h (fun hb10 h=>?_) fun hb10 h=>?_
  ·exact wx tbk [(3,rp _ _),(5,rp [(.tmp 18,B (decide (y2>=(p0.Inlets.length:Int))))] (B true))] ⟨alq 2 Qbg p0.Inlets Xbr,asb hb10 (amv rfl),tv⟩<|wtr<|wxz<|Qad<|Qal<|Qac<|Qac<|Qal<|Qac<|frb h
  refine bgq h fun x11 i13 j14 h=>bnq h fun x16 f15 h=>bnq h fun x18 f17 h=>wx tbk [(3,rp _ _),(5,rp [(.tmp 18,B (decide (y2>=(p0.Inlets.length:Int))))] (B false)),(10,rp [(.tmp 19,B false),(.tmp 22,Zpc p0),(.tmp 23,I y2)] (.dptr (Qbg x11) 0)),(12,rp [(.tmp 19,B false),fu 56,(.tmp 25,.agg [I x11.Site,.dat 2 (x11.Stairs.map Qbm)])] (I x16)),(13,rp [(.tmp 19,B false),fu 27,(.tmp 20,I x6),ci 0,(.tmp 26,I x16)] (B x18))] ⟨alq 2 Qbg p0.Inlets Xbr,asb hb10 (amv rfl),ag_ (aiq Xbr Q4s Qbg i13 j14),ag_ (apv Zs5 (Qrd N x11 _ f15) (nlc (NLt.agg _ (nlc nll (nlc (nld Qlk _) nl0))) nl0) nll),ag_ (apv Qoy (Qes N x6 0 x16 _ f17) (nlcc (nlc nll nl0)) nll),tv⟩<|bfq h (fun c19 h=>?_) fun c19 h=>?_
  ·exact wxz<|Qad<|Qal<|Qac<|Qac<|Qal<|Qac<|frb h
  exact Qah<|bln<|thn<|wxz1<|thn<|arm (mto (n:=37) [(1,.dat 1 (p1.map Qab)),(2,.ref 0 4 0 0),(7,.dat 1 (p1.map Qab)),(8,I (p1.length:Int)),(9,I (w64 (y2+1)))] [0] [Q0l p0] hq (pqi (prr (pqi (pw (pw pn))))) (qbi qn)) (ih (w64 (y2+1)) h)
 exact Qax<|Qan<|Qan<|Qaw rfl<|thn<|⟨(),h,mto (n:=37) [(1,.dat 1 (p1.map Qab)),(2,.ref 0 4 0 0)] [0] [Q0l p0] hq (pqi (prr pn)) (qbi qn)⟩
def Qet (N:Nat) (p0:Qb3) (k2:Int->Option Int):Nat->Int->Int->Int->Option Int
 |0,_,_,_=>none
 |n9+1,y3,y4,y5=>bif decide (y5<(p0.Stairs.length:Int)) then (getI p0.Stairs y5).bind fun x11=>(some (w64 ((if x11.Amount<y3 then x11.Amount else y3)*x11.Price))).bind fun x15=>(some (w64 (y3-(if x11.Amount<y3 then x11.Amount else y3)))).bind fun x17=>Qet N p0 k2 n9 x17 (w64 (y4+x15)) (w64 (y5+1)) else k2 y4
def Qjd (N:Nat) (p0:Qb3) (p1:Int):Option Int:=Qb0 (fun y1=>some y1) fun k2:Int->Option Int=>Qet N p0 k2 N p1 0 0
abbrev Zaq (p0:Qb3):AV:=.dat 2 (p0.Stairs.map Qbm)
def Qry (N:Nat) (p0:Qb3) (p1 r:Int) (h:Qjd N p0 p1=some r):Spec prog 34 [.agg (Qbg p0),I p1] [] (I r) []:=by
 refine sA func34 0 fun _ _ _ hq hd0=>?_
 unfold Qjd at h
 refine wxz<|wjq h (fun y1=>⟨mk 31 [(4,I y1)],[]⟩) (fun y1 h=>?_) fun k2 h=>?_
 ·refine wxz<|Qad ?_
  obtain rfl:=osi h
  exact fend ⟨[I y1],⟨rot,tv⟩,rfl⟩ nll
 refine wx tbk [(2,rp _ _)] ⟨alq 2 Qbm p0.Stairs Xbv,tv⟩<|Qaf ?_
 refine wmr (mto (n:=31) (l':=[(1,I p1),(4,I 0),(8,Zaq p0),(9,I (p0.Stairs.length:Int)),(10,I 0)]) (own':=[]) [(1,I p1),(4,I 0),(8,Zaq p0),(9,I (p0.Stairs.length:Int)),(10,I 0)] [] [] hq (pw (pw (pqi (pw (pw pn))))) qn) ?_
 refine Qbf (τ:=Int×Int×Int) (fun n t=>Qet N p0 k2 n t.1 t.2.1 t.2.2=some r) (fun ⟨y3,y4,y5⟩=>⟨mk 31 [(1,I y3),(4,I y4),(8,Zaq p0),(9,I (p0.Stairs.length:Int)),(10,I y5)],[]⟩) (fun t h=>by rw[Qet] at h;cases h) (fun n9 ih t h=>?_) N (p1,0,0) h
 obtain⟨y3,y4,y5⟩:=t
 rw[Qet] at h
 refine wxz<|wsq<|bfq h (fun c10 h=>?_) fun c10 h=>?_
 ·refine Qah<|thn<|wsq<|Qaf ?_
  exact bgq h fun x11 i13 j14 h=>wx tbk [(0,rp _ _)] ⟨aiq Xbv Qx4 Qbm i13 j14,tv⟩<|bnq h fun x15 hl16 h=>wx tbk [(4,rp [(.tmp 15,I y3),(.tmp 17,I x11.Amount)] (I (if x11.Amount<y3 then x11.Amount else y3))),(7,rp [(.tmp 18,I (if x11.Amount<y3 then x11.Amount else y3)),(.tmp 20,I x11.Price)] (I x15))] ⟨Qo3 rfl,Qhz hl16 (abn rfl rfl),tv⟩<|bnq h fun x17 hl18 h=>wx1 tbk [(4,rp [(.tmp 24,I y3),(.tmp 26,I x11.Amount)] (I (if x11.Amount<y3 then x11.Amount else y3))),(6,rp [(.tmp 28,I (w64 (y3-(if x11.Amount<y3 then x11.Amount else y3))))] (I x17))] ⟨Qo3 rfl,Qhz hl18 (aas rfl),tv⟩<|bln<|thn<|wxz1<|thn<|arm (mto (n:=31) [(1,I x17),(4,I (w64 (y4+x15))),(8,Zaq p0),(9,I (p0.Stairs.length:Int)),(10,I (w64 (y5+1)))] [] [] hq (pw (pw (pqi (pw (pw pn))))) qn) (ih (x17,w64 (y4+x15),w64 (y5+1)) h)
 exact Qax<|Qan<|Qan<|Qaw rfl<|thn<|⟨y4,h,mto (n:=31) [(4,I y4)] [] [] hq (pw pn) qn⟩
def Qgz (N:Nat) (p1:Qbj) (p2:List Int) (k8:Int->Option (Int×Int)):Nat->Int->Int->Option (Int×Int)
 |0,_,_=>none
 |n13+1,y9,y10=>bif decide (y10<(p1.Inlets.length:Int)) then (getI p1.Inlets y10).bind fun x15=>(getI p2 y10).bind fun x19=>(Qjd N x15 x19).bind fun x24=>Qgz N p1 p2 k8 n13 (w64 (y9+x24)) (w64 (y10+1)) else k8 y9
def Qjy (N:Nat) (p0:Qav) (p1:Qbj) (p2:List Int):Option (Int×Int):=(Qeh N p0 p1).bind fun x2=>bif (x2 != 0) then some (0,x2) else (Qd9 N p1 p2).bind fun x5=>bif !x5 then some (0,1) else Qb0 (fun y7=>some (y7,0)) fun k8:Int->Option (Int×Int)=>Qgz N p1 p2 k8 N 0 0
abbrev Zas (p1:Qbj):AV:=.dat 2 (p1.Inlets.map Qbg)
def Qrz (N:Nat) (p0:Qav) (p1:Qbj) (p2:List Int) (r:(Int×Int)) (h:Qjy N p0 p1 p2=some r):Spec prog 14 [.agg (Qis p0),.agg (Qla p1),.dat 1 (p2.map Qab)] [] (.tup [I r.1,I r.2]) []:=by
 refine sA func14 0 fun _ _ _ hq hd0=>?_
 unfold Qjy at h
 refine wxz<|wsq<|bnq h fun x2 f1 h=>wx tbk [(2,rp _ _)] ⟨apw Q3g (Qje N p0 p1 _ f1),tv⟩<|wxz<|bfq h (fun c3 h=>?_) fun c3 h=>?_
 ·refine wxz<|Qad<|Qac ?_
  obtain rfl:=osi h
  exact fie [I 0,I x2] ⟨rot,rot,tv⟩
 refine Qah<|thn<|wsq ?_
 refine bnq h fun x5 f4 h=>wx tbk [(2,rp _ _)] ⟨apw Zi9 (Qmq N p1 p2 _ f4),tv⟩<|bfq h (fun c6 h=>?_) fun c6 h=>?_
 ·refine wxz<|Qad<|Qac ?_
  obtain rfl:=osi h
  exact fie [I 0,I 1] ⟨rot,rot,tv⟩
 refine Qah<|thn<|wxz ?_
 refine wjq h (fun y7=>⟨mk 40 [(9,I y7)],[]⟩) (fun y7 h=>?_) fun k8 h=>?_
 ·refine wxz<|Qad ?_
  obtain rfl:=osi h
  exact fie [I y7,I 0] ⟨rot,rot,tv⟩
 refine wx tbk [(2,rp _ _)] ⟨alq 2 Qbg p1.Inlets Xbr,tv⟩<|Qaf ?_
 refine wmr (mto (n:=40) (l':=[(2,.dat 1 (p2.map Qab)),(9,I 0),(23,Zas p1),(24,I (p1.Inlets.length:Int)),(25,I 0)]) (own':=[]) [(2,.dat 1 (p2.map Qab)),(9,I 0),(23,Zas p1),(24,I (p1.Inlets.length:Int)),(25,I 0)] [] [] hq (pqi (pw (pqi (pw (pw pn))))) qn) ?_
 refine Qbf (τ:=Int×Int) (fun n t=>Qgz N p1 p2 k8 n t.1 t.2=some r) (fun ⟨y9,y10⟩=>⟨mk 40 [(2,.dat 1 (p2.map Qab)),(9,I y9),(23,Zas p1),(24,I (p1.Inlets.length:Int)),(25,I y10)],[]⟩) (fun t h=>by rw[Qgz] at h;cases h) (fun n13 ih t h=>?_) N (0,0) h
 obtain⟨y9,y10⟩:=t
 rw[Qgz] at h
 refine wxz<|wsq<|bfq h (fun c14 h=>?_) fun c14 h=>?_
 ·refine Qah<|thn<|wsq<|Qaf ?_
  exact bgq h fun x15 i17 j18 h=>wx tbk [(1,rp _ _)] ⟨aiq Xbr Q4s Qbg i17 j18,tv⟩<|bgq h fun x19 i21 j22 h=>bnq h fun x24 f23 h=>wy1 tbk [(4,rp _ _),(6,rp _ _)] ⟨aiq Xag ti3 Qab i21 j22,apw Zte (Qry N x15 x19 _ f23),tv⟩<|bln<|thn<|wxz1<|thn<|arm (mto (n:=40) [(2,.dat 1 (p2.map Qab)),(9,I (w64 (y9+x24))),(23,Zas p1),(24,I (p1.Inlets.length:Int)),(25,I (w64 (y10+1)))] [] [] hq (pqi (pw (pqi (pw (pw pn))))) qn) (ih (w64 (y9+x24),w64 (y10+1)) h)
 exact Qax<|Qan<|Qan<|Qaw rfl<|thn<|⟨y9,h,mto (n:=40) [(9,I y9)] [] [] hq (pw pn) qn⟩
end
section
def Qh3 (N:Nat) (p0:Int) (p1:List Qc8) (p2 p3:(Nat->Int)) (p4 p5 p6:Int):Option Int:=(Qgc N p0 p1 p2 p3 p4 p5).bind fun x2=>(some (w64 ((w64 (x2.1*p6)).tdiv 1000))).bind fun x3=>some x3
def Qq0 (N:Nat) (p0:Int) (p1:List Qc8) (p2 p3:(Nat->Int)) (p4 p5:Int) (p6 r:Int) (h:Qh3 N p0 p1 p2 p3 p4 p5 p6=some r):Spec prog 53 [.dptr (I p0::.dat 4 (p1.map Qbu)::(arrF 144 p2++arrF 144 p3)) 0,I p4,I p5,I p6] [] (I r) []:=by
 refine sA func53 0 fun _ _ _ hq hd0=>?_
 unfold Qh3 at h
 refine wxz<|bnq h fun x2 f1 h=>wx tbk [(3,rp [fu 37,(.tmp 12,.dptr (I p0::.dat 4 (p1.map Qbu)::(arrF 144 p2++arrF 144 p3)) 0),(.tmp 13,I p4),(.tmp 14,I p5)] (.tup [I x2.1,I x2.2]))] ?_ ?_
 ·exact⟨acq [.dptr (I p0::.dat 4 (p1.map Qbu)::(arrF 144 p2++arrF 144 p3)) 0,I p4,I p5] [] [] (.tup [I x2.1,I x2.2]) [] Zi6 (Qlz N p0 p1 p2 p3 p4 p5 _ f1) pli Qai Qai pli,tv⟩
 refine bnq h fun x3 hl4 h=>?_
 refine wx tbk [(3,rp [(.tmp 20,I (w64 (x2.1*p6))),ci 1000] (I (w64 ((w64 (x2.1*p6)).tdiv 1000)))),(4,rp [(.tmp 21,I (w64 ((w64 (x2.1*p6)).tdiv 1000)))] (I x3))] ⟨Qr3 rfl (by decide),Qhz hl4 (aas rfl),tv⟩<|Qad ?_
 obtain rfl:=osi h
 exact fend ⟨[I x3],⟨rot,tv⟩,rfl⟩ nll
def Qhr (N:Nat) (p0 p1:Int) (p2:List Qc8) (p3 p4:(Nat->Int)) (p5:Int) (_p6:List Qay) (_p7:List Qb3) (_p8:List Int) (p9 p10:Int):Option Bool:=(Qh3 N p1 p2 p3 p4 p5 p0 p9).bind fun x3=>some (decide (x3<p10))
abbrev Zak (p1:Int) (p2:List Qc8) (p3 p4:(Nat->Int)):Slot:=.own 1 [[.dptr (I p1::.dat 4 (p2.map Qbu)::(arrF 144 p3++arrF 144 p4)) 0]]
abbrev Zaj (p7:List Qb3) (p8:List Int) (p9 p10:Int):Slot:=.own 4 [[.dat 2 (p7.map Qbg),.dat 1 (p8.map Qab),I p9,I p10]]
def Qov (N:Nat) (p0 p1:Int) (p2:List Qc8) (p3 p4:(Nat->Int)) (p5:Int) (p6:List Qay) (p7:List Qb3) (p8:List Int) (p9 p10:Int) (r:Bool) (h:Qhr N p0 p1 p2 p3 p4 p5 p6 p7 p8 p9 p10=some r):Spec prog 52 [I p0,.ref 0 1 (0) 0,.ref 1 2 (0) 0,.ref 2 4 (0) 0] [Zak p1 p2 p3 p4,.own 2 [[I p5,.dat 2 (p6.map Qbm)]],Zaj p7 p8 p9 p10] (B r) [Zak p1 p2 p3 p4,.own 2 [[I p5,.dat 2 (p6.map Qbm)]],Zaj p7 p8 p9 p10]:=by
 refine sF func52 3 fun _ _ _ hq hd0=>?_
 unfold Qhr at h
 refine wxz<|bnq h fun x3 f2 h=>wxd tbk [(6,rp [fu 53,(.tmp 6,.dptr (I p1::.dat 4 (p2.map Qbu)::(arrF 144 p3++arrF 144 p4)) 0),(.tmp 8,I p5),(.tmp 9,I p0),(.tmp 11,I p9)] (I x3))] ?_ ?_
 ·exact⟨acq [.dptr (I p1::.dat 4 (p2.map Qbu)::(arrF 144 p3++arrF 144 p4)) 0,I p5,I p0,I p9] [] [] (I x3) [] Zs6 (Qq0 N p1 p2 p3 p4 p5 p0 p9 _ f2) pli Qai Qai pli,tv⟩
 refine wmr (mto (n:=16) (l':=[(5,B (decide (x3<p10)))]) (own':=[Zak p1 p2 p3 p4,.own 2 [[I p5,.dat 2 (p6.map Qbm)]],Zaj p7 p8 p9 p10]) [(5,B (decide (x3<p10)))] [0,1,2] [Zak p1 p2 p3 p4,.own 2 [[I p5,.dat 2 (p6.map Qbm)]],Zaj p7 p8 p9 p10] hq (pw pn) (qbi (qbi (qbi qn))))<|Qad ?_
 obtain rfl:=osi h
 exact⟨_,Mor.rfl,fio [B (decide (x3<p10))] ⟨rot,tv⟩⟩
def Qcj (N:Nat) (p0:List Int) (p1:Int) (k2:Unit->Option Int) (p2:List Qc8) (p3 p4:(Nat->Int)) (p5:Int) (p6:List Qay) (p7:List Qb3) (p8:List Int) (p9 p10:Int):Nat->Int->Option Int
 |0,_=>none
 |n5+1,y3=>bif decide (y3<(p0.length:Int)) then (getI p0 y3).bind fun x7=>(Qhr N x7 p1 p2 p3 p4 p5 p6 p7 p8 p9 p10).bind fun x12=>bif x12 then some y3 else Qcj N p0 p1 k2 p2 p3 p4 p5 p6 p7 p8 p9 p10 n5 (w64 (y3+1)) else k2 ()
def Qgn (N:Nat) (p0:List Int) (p1:Int) (p2:List Qc8) (p3 p4:(Nat->Int)) (p5:Int) (p6:List Qay) (p7:List Qb3) (p8:List Int) (p9 p10:Int):Option Int:=Qb0 (fun _=>some (-1)) fun k2:Unit->Option Int=>Qcj N p0 p1 k2 p2 p3 p4 p5 p6 p7 p8 p9 p10 N 0
abbrev Q4g:AV:=.fn (.func 52) [] [.ref 0 1 (0) 0,.ref 1 2 (0) 0,.ref 2 4 (0) 0]
abbrev Qpj (p1:Int) (p2:List Qc8) (p3 p4:(Nat->Int)):Slot:=.own 1 [[.dptr (I p1::.dat 4 (p2.map Qbu)::(arrF 144 p3++arrF 144 p4)) 0]]
abbrev Qpi (p5:Int) (p6:List Qay):Slot:=.own 2 [[I p5,.dat 2 (p6.map Qbm)]]
abbrev Qph (p7:List Qb3) (p8:List Int) (p9 p10:Int):Slot:=.own 4 [[.dat 2 (p7.map Qbg),.dat 1 (p8.map Qab),I p9,I p10]]
def Qnm (N:Nat) (p0:List Int) (p1:Int) (p2:List Qc8) (p3 p4:(Nat->Int)) (p5:Int) (p6:List Qay) (p7:List Qb3) (p8:List Int) (p9 p10 r:Int) (h:Qgn N p0 p1 p2 p3 p4 p5 p6 p7 p8 p9 p10=some r):Spec prog 72 [.dat 1 (p0.map Qab),Q4g] [Qpj p1 p2 p3 p4,Qpi p5 p6,Qph p7 p8 p9 p10] (I r) [Qpj p1 p2 p3 p4,Qpi p5 p6,Qph p7 p8 p9 p10]:=by
 refine sF Xft 3 fun _ _ _ hq hd0=>?_
 unfold Qgn at h
 refine wxz<|wjq h (fun _=>⟨mk 19 [],[Qpj p1 p2 p3 p4,Qpi p5 p6,Qph p7 p8 p9 p10]⟩) (fun t h=>?_) fun k2 h=>?_
 ·refine wxz<|wmr (mto (n:=19) (l':=[(4,I (-1))]) (own':=[Qpj p1 p2 p3 p4,Qpi p5 p6,Qph p7 p8 p9 p10]) [(4,I (-1))] [0,1,2] [Qpj p1 p2 p3 p4,Qpi p5 p6,Qph p7 p8 p9 p10] hq (pw pn) (qbi (qbi (qbi qn))))<|Qad ?_
  obtain rfl:=osi h
  exact⟨_,Mor.rfl,fio [I (-1)] ⟨rot,tv⟩⟩
 refine wx tbk [(1,rp _ _)] ⟨alq 1 Qab p0 Xag,tv⟩<|Qaf ?_
 refine wmr (mto (n:=19) (l':=[(0,.dat 1 (p0.map Qab)),(1,Q4g),(7,I (p0.length:Int)),(8,I 0)]) (own':=[Qpj p1 p2 p3 p4,Qpi p5 p6,Qph p7 p8 p9 p10]) [(0,.dat 1 (p0.map Qab)),(1,Q4g),(7,I (p0.length:Int)),(8,I 0)] [0,1,2] [Qpj p1 p2 p3 p4,Qpi p5 p6,Qph p7 p8 p9 p10] hq (pqi (pc (.rn (Qby rn0 (rnc (rqr rfl) (rnc (rqr rfl) (rnc (rqr rfl) rn0))))) (pw (pw pn)))) (qbi (qbi (qbi qn)))) ?_
 refine Qbf (τ:=Int) (fun n t=>Qcj N p0 p1 k2 p2 p3 p4 p5 p6 p7 p8 p9 p10 n t=some r) (fun y3=>⟨mk 19 [(0,.dat 1 (p0.map Qab)),(1,Q4g),(7,I (p0.length:Int)),(8,I y3)],[Qpj p1 p2 p3 p4,Qpi p5 p6,Qph p7 p8 p9 p10]⟩) (fun t h=>by rw[Qcj] at h;cases h) (fun n5 ih y3 h=>?_) N (0) h
 rw[Qcj] at h
 refine wxz<|wsq<|bfq h (fun c6 h=>?_) fun c6 h=>?_
 ·refine Qah<|thn<|wsq<|Qaf<|wxz ?_
  refine bgq h fun x7 i9 j10 h=>bnq h fun x12 f11 h=>wx tbk [(3,rp _ _),(5,⟨_,_,_,_,false⟩)] ⟨aiq Xag ti3 Qab i9 j10,Qd5 (first:=[]) (cap:=[.ref 0 1 0 0,.ref 1 2 0 0,.ref 2 4 0 0]) (vs:=[I x7]) (σr:=[Qpj p1 p2 p3 p4,Qpi p5 p6,Qph p7 p8 p9 p10]) (σr':=[Qpj p1 p2 p3 p4,Qpi p5 p6,Qph p7 p8 p9 p10]) (res':=(B x12)) [0,1,2] rfl Zs7 (Qov N x7 p1 p2 p3 p4 p5 p6 p7 p8 p9 p10 _ f11) rfl (Qct (rnc pli (rnc (Qa2 rfl) (rnc (Qa2 rfl) (rnc (Qa2 rfl) rn0))))) (sbi (sbi (sbi Qai))) (sbi (sbi (sbi Qai))) pli rfl rfl rfl,tv⟩<|bfq h (fun c13 h=>?_) fun c13 h=>?_
  ·refine wxz ?_
   refine wmr (mto (n:=19) (l':=[(4,I y3)]) (own':=[Qpj p1 p2 p3 p4,Qpi p5 p6,Qph p7 p8 p9 p10]) [(4,I y3)] [0,1,2] [Qpj p1 p2 p3 p4,Qpi p5 p6,Qph p7 p8 p9 p10] hq (pw pn) (qbi (qbi (qbi qn))))<|Qad<|Qal<|Qac<|Qac<|Qal<|Qac ?_
   obtain rfl:=osi h
   exact⟨_,Mor.rfl,fio [I y3] ⟨rot,tv⟩⟩
  exact Qah<|bln<|thn<|wxz1<|thn<|arm (mto (n:=19) [(0,.dat 1 (p0.map Qab)),(1,Q4g),(7,I (p0.length:Int)),(8,I (w64 (y3+1)))] [0,1,2] [Qpj p1 p2 p3 p4,Qpi p5 p6,Qph p7 p8 p9 p10] hq (pqi (pc (.rn (Qby rn0 (rnc (rqr rfl) (rnc (rqr rfl) (rnc (rqr rfl) rn0))))) (pw (pw pn)))) (qbi (qbi (qbi qn)))) (ih (w64 (y3+1)) h)
 exact Qax<|Qan<|Qan<|Qaw rfl<|thn<|⟨(),h,mto (n:=19) [] [0,1,2] [Qpj p1 p2 p3 p4,Qpi p5 p6,Qph p7 p8 p9 p10] hq pn (qbi (qbi (qbi qn)))⟩
def Qfx (N:Nat) (p0:List Int) (p1:Int) (p2:List Qc8) (p3 p4:(Nat->Int)) (p5:Int) (p6:List Qay) (p7:List Qb3) (p8:List Int) (p9 p10:Int):Option Bool:=(Qgn N p0 p1 p2 p3 p4 p5 p6 p7 p8 p9 p10).bind fun x3=>some (decide (x3>=0))
abbrev Zo7:AV:=.fn (.func 52) [] [.ref 0 1 (0) 0,.ref 1 2 (0) 0,.ref 2 4 (0) 0]
abbrev Q0j (p1:Int) (p2:List Qc8) (p3 p4:(Nat->Int)):Slot:=.own 1 [[.dptr (I p1::.dat 4 (p2.map Qbu)::(arrF 144 p3++arrF 144 p4)) 0]]
abbrev Q0i (p5:Int) (p6:List Qay):Slot:=.own 2 [[I p5,.dat 2 (p6.map Qbm)]]
abbrev Q0h (p7:List Qb3) (p8:List Int) (p9 p10:Int):Slot:=.own 4 [[.dat 2 (p7.map Qbg),.dat 1 (p8.map Qab),I p9,I p10]]
def Ql7 (N:Nat) (p0:List Int) (p1:Int) (p2:List Qc8) (p3 p4:(Nat->Int)) (p5:Int) (p6:List Qay) (p7:List Qb3) (p8:List Int) (p9 p10:Int) (r:Bool) (h:Qfx N p0 p1 p2 p3 p4 p5 p6 p7 p8 p9 p10=some r):Spec prog 51 [.dat 1 (p0.map Qab),Zo7] [Q0j p1 p2 p3 p4,Q0i p5 p6,Q0h p7 p8 p9 p10] (B r) [Q0j p1 p2 p3 p4,Q0i p5 p6,Q0h p7 p8 p9 p10]:=by
 refine sF Xfu 3 fun _ _ _ hq hd0=>?_
 unfold Qfx at h
 refine wxz<|bnq h fun x3 f2 h=>wx tbk [(2,⟨_,_,_,_,false⟩)] ⟨acq [.dat 1 (p0.map Qab),Zo7] [Q0j p1 p2 p3 p4,Q0i p5 p6,Q0h p7 p8 p9 p10] [Q0j p1 p2 p3 p4,Q0i p5 p6,Q0h p7 p8 p9 p10] (I x3) [0,1,2] Qvr (Qnm N p0 p1 p2 p3 p4 p5 p6 p7 p8 p9 p10 _ f2) (Qct (rnc (pld Qar) (rnc (Qby rn0 (rnc (Qa2 rfl) (rnc (Qa2 rfl) (rnc (Qa2 rfl) rn0)))) rn0))) (sbi (sbi (sbi Qai))) (sbi (sbi (sbi Qai))) pli,tv⟩ ?_
 refine wmr (mto (n:=9) (l':=[(4,B (decide (x3>=0)))]) (own':=[Q0j p1 p2 p3 p4,Q0i p5 p6,Q0h p7 p8 p9 p10]) [(4,B (decide (x3>=0)))] [0,1,2] [Q0j p1 p2 p3 p4,Q0i p5 p6,Q0h p7 p8 p9 p10] hq (pw pn) (qbi (qbi (qbi qn))))<|Qad ?_
 obtain rfl:=osi h
 exact⟨_,Mor.rfl,fio [B (decide (x3>=0))] ⟨rot,tv⟩⟩
def Qbk (N:Nat) (p0:Int) (p1:List Qc8) (p2 p3:(Nat->Int)) (p4:Qbj) (p5:Qb3):Option Bool:=(Qfx N p4.Feeds p0 p1 p2 p3 p5.Site p5.Stairs p4.Inlets p4.Feeds p4.Factor p4.Horizon).bind fun x2=>some x2
abbrev Zf9 (p4:Qbj):AV:=.dat 1 (p4.Feeds.map Qab)
abbrev Zo8:AV:=.fn (.func 52) [] [.ref 0 1 (0) 0,.ref 2 2 (0) 0,.ref 1 4 (0) 0]
abbrev Zpb (p0:Int) (p1:List Qc8) (p2 p3:(Nat->Int)):Slot:=.own 1 [[.dptr (I p0::.dat 4 (p1.map Qbu)::(arrF 144 p2++arrF 144 p3)) 0]]
abbrev Zo9 (p5:Qb3):Slot:=.own 2 [[I p5.Site,.dat 2 (p5.Stairs.map Qbm)]]
abbrev Zpa (p4:Qbj):Slot:=.own 4 [[.dat 2 (p4.Inlets.map Qbg),Zf9 p4,I p4.Factor,I p4.Horizon]]
def Qjh (N:Nat) (p0:Int) (p1:List Qc8) (p2 p3:(Nat->Int)) (p4:Qbj) (p5:Qb3) (r:Bool) (h:Qbk N p0 p1 p2 p3 p4 p5=some r):Spec prog 29 [.dptr (I p0::.dat 4 (p1.map Qbu)::(arrF 144 p2++arrF 144 p3)) 0,.agg [.dat 2 (p4.Inlets.map Qbg),Zf9 p4,I p4.Factor,I p4.Horizon],.agg [I p5.Site,.dat 2 (p5.Stairs.map Qbm)]] [] (B r) []:=by
 refine sA func29 0 fun _ _ _ hq hd0=>?_
 unfold Qbk at h
 refine wxz<|bnq h fun x2 f1 h=>?_
 refine wx tbk [(2,rp [(.tmp 3,.ref 0 1 0 0),(.tmp 5,.ref 2 2 0 0),(.tmp 4,.ref 1 4 0 0)] Zo8),(3,⟨_,_,_,_,false⟩)] ⟨Qfp (fs:=[]) (cs:=[.ref 0 1 0 0,.ref 2 2 0 0,.ref 1 4 0 0]) rfl rfl rfl rfl,acq [Zf9 p4,Zo8] [Zpb p0 p1 p2 p3,Zo9 p5,Zpa p4] [Zpb p0 p1 p2 p3,Zo9 p5,Zpa p4] (B x2) [0,2,1] Qvs (Ql7 N p4.Feeds p0 p1 p2 p3 p5.Site p5.Stairs p4.Inlets p4.Feeds p4.Factor p4.Horizon _ f1) (Qct (rnc (pld Qar) (rnc (Qby rn0 (rnc (Qa2 rfl) (rnc (Qa2 rfl) (rnc (Qa2 rfl) rn0)))) rn0))) (sbi (sbi (sbi Qai))) (sbi (sbi (sbi Qai))) pli,tv⟩<|Qad ?_
 exact frb h
def Qb1 (N:Nat) (p0 p1:Int):Nat->Int->Option Unit
 |0,_=>none
 |n3+1,y1=>bif decide (y1<p1) then Qb0 (fun _=>Qb1 N p0 p1 n3 (w64 (y1+1))) fun k5:Unit->Option Unit=>bif decide (y1>p0) then none else k5 () else some ()
def Qce (N:Nat) (p0 p1:Int):Option Unit:=Qb1 N p0 p1 N (w64 (p0+1))
abbrev Qxw:AV:=.dat 3 (([]:List Qae).map Qak)
abbrev Qxx:AV:=.fn (.func 55) [] [.ref 0 1 (0) 0]
abbrev Qsr:Slot:=.own 1 [[.fn (.func 32) [] []]]
def Qf3 (N:Nat) (p0 p1:Int) (r:Unit) (h:Qce N p0 p1=some r):Spec prog 89 [Qxw,I p0,I p1,Qxx] [Qsr] (.tup []) [Qsr]:=by
 refine sF func89 1 fun _ _ _ hq hd0=>?_
 unfold Qce at h
 refine wxz<|Qaf ?_
 refine wmr (mto (n:=53) (l':=[(0,Qxw),(1,I p0),(2,I p1),(3,Qxx),(8,I (w64 (p0+1)))]) (own':=[Qsr]) [(0,Qxw),(1,I p0),(2,I p1),(3,Qxx),(8,I (w64 (p0+1)))] [0] [Qsr] hq (pqi (pw (pw (pc (.rn (Qby rn0 (rnc (rqr rfl) rn0))) (pw pn))))) (qbi qn)) ?_
 refine Qbf (τ:=Int) (fun n t=>Qb1 N p0 p1 n t=some r) (fun y1=>⟨mk 53 [(0,Qxw),(1,I p0),(2,I p1),(3,Qxx),(8,I y1)],[Qsr]⟩) (fun t h=>by rw[Qb1] at h;cases h) (fun n3 ih y1 h=>?_) N (w64 (p0+1)) h
 rw[Qb1] at h
 refine wsq<|wxz<|bfq h (fun c4 h=>?_) fun c4 h=>?_
 ·refine Qah<|thn ?_
  refine wjq h (fun _=>⟨mk 53 [(0,Qxw),(1,I p0),(2,I p1),(3,Qxx),(8,I y1)],[Qsr]⟩) (fun t h=>?_) fun k5 h=>?_
  ·exact wxz1<|thn<|arm (mto (n:=53) [(0,Qxw),(1,I p0),(2,I p1),(3,Qxx),(8,I (w64 (y1+1)))] [0] [Qsr] hq (pqi (pw (pw (pc (.rn (Qby rn0 (rnc (rqr rfl) rn0))) (pw pn))))) (qbi qn)) (ih (w64 (y1+1)) h)
  refine Qaf<|wxz<|Qaf<|Q3u 17<|Qzy<|wsq ?_
  refine bfe h (fun hb6 h=>?_) fun hb6 h=>?_
  ·cases h
  exact wxd tbk [(3,rp [(.tmp 20,B (decide (y1>p0)))] (B false))] ⟨asb hb6 (amv rfl),tv⟩<|wfa<|Qax<|Qan<|Qan<|Qaw rfl<|bln<|thn<|⟨(),h,mto (n:=53) [(0,Qxw),(1,I p0),(2,I p1),(3,Qxx),(8,I y1)] [0] [Qsr] hq (pqi (pw (pw (pc (.rn (Qby rn0 (rnc (rqr rfl) rn0))) (pw pn))))) (qbi qn)⟩
 refine Qax<|Qan<|Qan<|Qaw rfl ?_
 obtain rfl:=osi h
 exact⟨_,mto (n:=53) (l':=[]) (own':=[Qsr]) [] [0] [Qsr] hq pn (qbi qn),fio [] tv⟩
def Qd2 (N:Nat) (p0:Int) (k7:Unit->Option Unit):Nat->Option Unit
 |0=>none
 |n8+1=>bif decide (40<=p0) then none else k7 ()
def Qc0 (N:Nat) (p0:Int):Nat->Option Unit
 |0=>none
 |n5+1=>bif decide (20<p0) then Qb0 (fun _=>none) fun k7:Unit->Option Unit=>Qd2 N p0 k7 N else some ()
def Qci (N:Nat) (p0:Int) (k2:Int->Option Unit):Nat->Int->Int->Option Unit
 |0,_,_=>none
 |n14+1,y10,y11=>bif decide (y11<=p0) then (Qce N y10 y11).bind fun _=>Qci N p0 k2 n14 y11 (w64 (y11+20)) else k2 y10
def Qdz (N:Nat) (p0:Int):Option Unit:=Qb0 (fun y1=>(Qce N y1 p0).bind fun _=>Qc0 N p0 N) fun k2:Int->Option Unit=>Qci N p0 k2 N 0 20
abbrev Qne:AV:=.dat 3 (([]:List Qae).map Qak)
abbrev Qnd:AV:=.fn (.func 55) [] [.ref 0 1 (0) 0]
abbrev Qld:Slot:=.own 1 [[.fn (.func 32) [] []]]
def Qku (N:Nat) (p0:Int) (r:Unit) (h:Qdz N p0=some r):Spec prog 73 [Qne,I p0,Qnd] [Qld] (.tup []) [Qld]:=by
 refine sF func73 1 fun _ _ _ hq hd0=>?_
 unfold Qdz at h
 refine wxz<|wxz<|wjq h (fun y1=>⟨mk 63 [(0,Qne),(1,I p0),(2,Qnd),(6,I 20),(7,I y1)],[Qld]⟩) (fun y1 h=>?_) fun k2 h=>?_
 ·refine bnq h fun x4 f3 h=>?_
  refine wx tbk [(4,⟨_,_,_,_,false⟩)] ⟨acq [Qne,I y1,I p0,Qnd] [Qld] [Qld] (.tup []) [0] Q3e (Qf3 N y1 p0 _ f3) (Qct (rnc (pld Qap) (rncc (rnc (Qby rn0 (rnc (Qa2 rfl) rn0)) rn0)))) (sfn Qai) (sfn Qai) pli,tv⟩<|Qaf ?_
  refine wmr (mto (n:=63) (l':=[(0,Qne),(1,I p0),(2,Qnd),(6,I 20)]) (own':=[Qld]) [(0,Qne),(1,I p0),(2,Qnd),(6,I 20)] [0] [Qld] hq (pqi (pw (pc (.rn (Qby rn0 (rnc (rqr rfl) rn0))) (pw pn)))) (qbi qn)) ?_
  refine Qbf (τ:=Unit) (fun n t=>Qc0 N p0 n=some r) (fun _=>⟨mk 63 [(0,Qne),(1,I p0),(2,Qnd),(6,I 20)],[Qld]⟩) (fun t h=>by rw[Qc0] at h;cases h) (fun n5 ih t h=>?_) N () h
  rw[Qc0] at h
  refine wsq<|wxz<|bfq h (fun c6 h=>?_) fun c6 h=>?_
  ·refine Qah<|thn<|Qaf<|wxz ?_
   refine wjq h (fun _=>⟨mk 63 [(0,Qne),(1,I p0),(2,Qnd),(6,I 20),(7,I 0)],[Qld]⟩) (fun t h=>?_) fun k7 h=>?_
   ·refine wsq<|wxz<|wxz<|wft c6 ?_
    cases h
   refine Qaf<|wmr (mto (n:=63) (l':=[(0,Qne),(1,I p0),(2,Qnd),(6,I 20),(7,I 0),(8,I 40)]) (own':=[Qld]) [(0,Qne),(1,I p0),(2,Qnd),(6,I 20),(7,I 0),(8,I 40)] [0] [Qld] hq (pqi (pw (pc (.rn (Qby rn0 (rnc (rqr rfl) rn0))) (pw (pw (pw pn)))))) (qbi qn)) ?_
   refine Qbf (τ:=Unit) (fun n t=>Qd2 N p0 k7 n=some r) (fun _=>⟨mk 63 [(0,Qne),(1,I p0),(2,Qnd),(6,I 20),(7,I 0),(8,I 40)],[Qld]⟩) (fun t h=>by rw[Qd2] at h;cases h) (fun n8 ih t h=>?_) N () h
   rw[Qd2] at h
   refine wsq<|wxz<|bfq h (fun c9 h=>?_) fun c9 h=>?_
   ·refine Qah<|thn<|Qaf ?_
    cases h
   exact Qax<|Qan<|Qan<|Qaw rfl<|thn<|⟨(),h,mto (n:=63) [(0,Qne),(1,I p0),(2,Qnd),(6,I 20),(7,I 0)] [0] [Qld] hq (pqi (pw (pc (.rn (Qby rn0 (rnc (rqr rfl) rn0))) (pw (pw pn))))) (qbi qn)⟩
  refine Qax<|Qan<|Qan<|Qaw rfl ?_
  obtain rfl:=osi h
  exact⟨_,mto (n:=63) (l':=[]) (own':=[Qld]) [] [0] [Qld] hq pn (qbi qn),fio [] tv⟩
 refine Qaf<|wmr (mto (n:=63) (l':=[(0,Qne),(1,I p0),(2,Qnd),(6,I 20),(7,I 0),(8,I 20)]) (own':=[Qld]) [(0,Qne),(1,I p0),(2,Qnd),(6,I 20),(7,I 0),(8,I 20)] [0] [Qld] hq (pqi (pw (pc (.rn (Qby rn0 (rnc (rqr rfl) rn0))) (pw (pw (pw pn)))))) (qbi qn)) ?_
 refine Qbf (τ:=Int×Int) (fun n t=>Qci N p0 k2 n t.1 t.2=some r) (fun ⟨y10,y11⟩=>⟨mk 63 [(0,Qne),(1,I p0),(2,Qnd),(6,I 20),(7,I y10),(8,I y11)],[Qld]⟩) (fun t h=>by rw[Qci] at h;cases h) (fun n14 ih t h=>?_) N (0,20) h
 obtain⟨y10,y11⟩:=t
 rw[Qci] at h
 refine wsq<|wxz<|bfq h (fun c15 h=>?_) fun c15 h=>?_
 ·refine Qah<|thn<|Qaf ?_
  exact bnq h fun x17 f16 h=>wx tbk [(4,⟨_,_,_,_,false⟩)] ⟨acq [Qne,I y10,I y11,Qnd] [Qld] [Qld] (.tup []) [0] Q3e (Qf3 N y10 y11 _ f16) (Qct (rnc (pld Qap) (rncc (rnc (Qby rn0 (rnc (Qa2 rfl) rn0)) rn0)))) (sfn Qai) (sfn Qai) pli,tv⟩<|wxz<|wxz1<|bln<|thn<|arm (mto (n:=63) [(0,Qne),(1,I p0),(2,Qnd),(6,I 20),(7,I y11),(8,I (w64 (y11+20)))] [0] [Qld] hq (pqi (pw (pc (.rn (Qby rn0 (rnc (rqr rfl) rn0))) (pw (pw (pw pn)))))) (qbi qn)) (ih (y11,w64 (y11+20)) h)
 exact Qax<|Qan<|Qan<|Qaw rfl<|thn<|⟨y10,h,mto (n:=63) [(0,Qne),(1,I p0),(2,Qnd),(6,I 20),(7,I y10)] [0] [Qld] hq (pqi (pw (pc (.rn (Qby rn0 (rnc (rqr rfl) rn0))) (pw (pw pn))))) (qbi qn)⟩
def Qcz (N:Nat):Option Unit:=(Qdz N 0).bind fun _=>some ()
abbrev Zf7:AV:=.dat 3 (([]:List Qae).map Qak)
abbrev Zo4:AV:=.fn (.func 55) [] [.ref 0 1 (0) 0]
abbrev Q0g:Slot:=.own 1 [[.fn (.func 32) [] []]]
def Qh6 (N:Nat) (r:Unit) (h:Qcz N=some r):Spec prog 54 [Zf7,Zo4] [Q0g] (.tup []) [Q0g]:=by
 refine sF func54 1 fun _ _ _ hq hd0=>?_
 unfold Qcz at h
 refine bnq h fun x2 f1 h=>wx1 tbk [(2,rp [(.tmp 5,Zf7)] (I 0)),(4,⟨_,_,_,_,false⟩)] ⟨aln rfl Xa0 rfl,acq [Zf7,I 0,Zo4] [Q0g] [Q0g] (.tup []) [0] Ziv (Qku N 0 _ f1) (Qct (rnc (pld Qap) (rnc pli (rnc (Qby rn0 (rnc (Qa2 rfl) rn0)) rn0)))) (sfn Qai) (sfn Qai) pli,tv⟩ ?_
 obtain rfl:=osi h
 exact⟨_,mto (n:=9) (l':=[]) (own':=[Q0g]) [] [0] [Q0g] hq pn (qbi qn),fio [] tv⟩
def Qed (N:Nat):Option (List Qae):=(Qcz N).bind fun _=>some ([])
abbrev Zf8:AV:=.dat 3 (([]:List Qae).map Qak)
abbrev Zo5:AV:=.fn (.func 55) [] [.ref 0 1 (0) 0]
abbrev Zo6:Slot:=.own 1 [[.fn (.func 32) [] []]]
def Qmu (N:Nat) (r:List Qae) (h:Qed N=some r):Spec prog 31 [Zf8,.fn (.func 32) [] []] [] (.dat 3 (r.map Qak)) []:=by
 refine sA func31 0 fun _ _ _ hq hd0=>?_
 unfold Qed at h
 refine wxz<|bnq h fun x2 f1 h=>?_
 refine wx tbk [(1,rp [(.tmp 3,.ref 0 1 0 0)] Zo5),(2,⟨_,_,_,_,false⟩)] ⟨Qfp (fs:=[]) (cs:=[.ref 0 1 0 0]) rfl rfl rfl rfl,acq [Zf8,Zo5] [Zo6] [Zo6] (.tup []) [0] Ziz (Qh6 N _ f1) (Qct (rnc (pld Qap) (rnc (Qby rn0 (rnc (Qa2 rfl) rn0)) rn0))) (sfn Qai) (sfn Qai) pli,tv⟩<|wxz<|Qad ?_
 obtain rfl:=osi h
 exact fie [Zf8] ⟨rot,tv⟩
def Qie (_N:Nat) (p0:Qae) (p1:Int) (p2:Nat) (p3:Int) (p4:List Int):Option (Int×Int×(List Int)):=(some (if p0.Stair.Amount<p1 then p0.Stair.Amount else p1)).bind fun x4=>bif decide (x4>0) then chk (decide (0<=p0.inlet)&&decide (p0.inlet.toNat<p2))<|(p4[p0.inlet.toNat]?).bind fun x8=>chk (decide (0<=p0.inlet)&&decide (p0.inlet.toNat<p2))<|(p4[p0.inlet.toNat]?).bind fun _=>some (w64 (p1-x4),p0.Stair.Price,p4.set p0.inlet.toNat (w64 (x8+x4))) else some (p1,p3,p4)
abbrev Q0f (p2:Nat):Slot:=.own 1 [[.own 3 1 (0) p2]]
def Qob (N:Nat) (p0:Qae) (p1:Int) (p2:Nat) (p3:Int) (p4:List Int) (r:(Int×Int×(List Int))) (h:Qie N p0 p1 p2 p3 p4=some r):Spec prog 30 [.agg [I p0.Stair.Amount,I p0.Stair.Price,I p0.inlet],.ref 0 1 (0) 0,.ref 1 1 (0) 0,.ref 2 1 (0) 0] [.own 1 [[I p1]],Q0f p2,.own 1 [[I p3]],.own 1 (p4.map Qab)] (.tup []) [.own 1 [[I r.1]],Q0f p2,.own 1 [[I r.2.1]],.own 1 (r.2.2.map Qab)]:=by
 refine sF func30 4 fun _ _ _ hq hd0=>?_
 unfold Qie at h
 refine wxz<|bnq h fun x4 hl5 h=>wx tbk [(4,rp [(.tmp 6,I p1),(.tmp 9,I p0.Stair.Amount)] (I (if p0.Stair.Amount<p1 then p0.Stair.Amount else p1))),(5,rp [(.tmp 10,I (if p0.Stair.Amount<p1 then p0.Stair.Amount else p1))] (I x4))] ⟨Qo3 rfl,Qhz hl5 (aas rfl),tv⟩<|wxz<|bfq h (fun c6 h=>?_) fun c6 h=>?_
 ·refine ckq h fun i7 h=>?_
  obtain⟨hi7a,hi7b⟩:=Qb6 i7
  refine bnq h fun x8 g9 h=>ckq h fun i10 h=>?_
  obtain⟨hi10a,hi10b⟩:=Qb6 i10
  refine bnq h fun x11 g12 h=>wx tbk [(3,rb [(.tmp 13,.own 3 1 (0) p2),(.tmp 15,I p0.inlet)] [(3,.own 1 (p4.map Qab))] (.ref 3 1 p0.inlet.toNat 0)),(4,rb [(.tmp 16,.ref 3 1 p0.inlet.toNat 0)] [(3,.own 1 (p4.map Qab))] (I x8)),(7,rb [(.tmp 13,.own 3 1 (0) p2),(.tmp 15,I p0.inlet)] [(3,.own 1 (p4.map Qab))] (.ref 3 1 p0.inlet.toNat 0)),(8,⟨[(.tmp 20,.ref 3 1 p0.inlet.toNat 0),(.tmp 19,I (w64 (x8+x4)))],[(3,.own 1 (p4.map Qab))],.any,[(3,.own 1 ((p4.set p0.inlet.toNat (w64 (x8+x4)):List Int).map Qab))],false⟩)] ⟨aio rfl Xag ti3 (odt hi7a) (odt hi7b) (Xar _),ald rfl ti3 (by decide) (mgt Qab g9) (nle rfl) rfl,aio rfl Xag ti3 (odt hi10a) (odt hi10b) (Xar _),ast rfl ti3 (by rfl) (mgt Qab g12) (nle rfl) (Qhv Qab rfl),tv⟩<|wxz<|wxz1 ?_
  obtain rfl:=osi h
  exact⟨_,mto (n:=27) (l':=[]) (own':=[.own 1 [[I (w64 (p1-x4))]],Q0f p2,.own 1 [[I p0.Stair.Price]],.own 1 ((p4.set p0.inlet.toNat (w64 (x8+x4)):List Int).map Qab)]) [] [0,1,2,3] [.own 1 [[I (w64 (p1-x4))]],Q0f p2,.own 1 [[I p0.Stair.Price]],.own 1 ((p4.set p0.inlet.toNat (w64 (x8+x4)):List Int).map Qab)] hq pn (qbi (qb (lc (.rn (Qas rfl)) ln) (qbi (qc (spr Qar) qn)))),fio [] tv⟩
 refine Qah ?_
 obtain rfl:=osi h
 exact⟨_,mto (n:=27) (l':=[]) (own':=[.own 1 [[I p1]],Q0f p2,.own 1 [[I p3]],.own 1 (p4.map Qab)]) [] [0,1,2,3] [.own 1 [[I p1]],Q0f p2,.own 1 [[I p3]],.own 1 (p4.map Qab)] hq pn (qbi (qb (lc (.rn (Qas rfl)) ln) (qbi (qc (spr Qar) qn)))),fio [] tv⟩
def Qk5 (_N:Nat) (p0:Qae):Option Int:=some p0.Stair.Price
def Qps (N:Nat) (p0:Qae) (r:Int) (h:Qk5 N p0=some r):Spec prog 32 [.agg (Qak p0)] [] (I r) []:=by
 refine sA func32 0 fun _ _ _ hq hd0=>?_
 unfold Qk5 at h
 refine wxz<|wxz<|Qad ?_
 obtain rfl:=osi h
 exact fend ⟨[I p0.Stair.Price],⟨rot,tv⟩,rfl⟩ nll
def Qcu (N:Nat) (p0 p1:Qae):Option Int:=(Qk5 N (⟨(⟨p0.Stair.Amount,p0.Stair.Price⟩:Qay),p0.inlet⟩:Qae)).bind fun x3=>(Qk5 N (⟨(⟨p1.Stair.Amount,p1.Stair.Price⟩:Qay),p1.inlet⟩:Qae)).bind fun x5=>some (w64 (x3-x5))
abbrev Zvg (p0:Qae):AV:=.agg [I p0.Stair.Amount,I p0.Stair.Price,I p0.inlet]
abbrev Zvf (p1:Qae):AV:=.agg [I p1.Stair.Amount,I p1.Stair.Price,I p1.inlet]
abbrev Zag:Slot:=.own 1 [[.fn (.func 32) [] []]]
def Qfc (N:Nat) (p0 p1:Qae) (r:Int) (h:Qcu N p0 p1=some r):Spec prog 55 [Zvg p0,Zvf p1,.ref 0 1 (0) 0] [Zag] (I r) [Zag]:=by
 refine sF func55 1 fun _ _ _ hq hd0=>?_
 unfold Qcu at h
 refine wxz<|bnq h fun x3 f2 h=>bnq h fun x5 f4 h=>wxd tbk [(2,rp _ _),(5,rp _ _)] ⟨apw Zja (Qps N (⟨(⟨p0.Stair.Amount,p0.Stair.Price⟩:Qay),p0.inlet⟩:Qae) _ f2),apw Zja (Qps N (⟨(⟨p1.Stair.Amount,p1.Stair.Price⟩:Qay),p1.inlet⟩:Qae) _ f4),tv⟩ ?_
 refine wmr (mto (n:=13) (l':=[(5,I (w64 (x3-x5)))]) (own':=[Zag]) [(5,I (w64 (x3-x5)))] [0] [Zag] hq (pw pn) (qbi qn))<|Qad ?_
 obtain rfl:=osi h
 exact⟨_,Mor.rfl,fio [I (w64 (x3-x5))] ⟨rot,tv⟩⟩
def Qbe (N p0:Nat) (p1:Int) (k9:(List Qae)->Option (List Qae)):Nat->Int->(List Qae)->Option (List Qae)
 |0,_,_=>none
 |n14+1,y10,y11=>Qb0 (fun _=>chk (decide (0<=w64 (y10-1))&&decide ((w64 (y10-1)).toNat<p0))<|(y11[(w64 (y10-1)).toNat]?).bind fun x17=>chk (decide (0<=y10)&&decide (y10.toNat<p0))<|(y11[y10.toNat]?).bind fun x20=>chk (decide (0<=y10)&&decide (y10.toNat<p0))<|(y11[y10.toNat]?).bind fun _=>chk (decide (0<=w64 (y10-1))&&decide ((w64 (y10-1)).toNat<p0))<|((y11.set y10.toNat (⟨(⟨x17.Stair.Amount,x17.Stair.Price⟩:Qay),x17.inlet⟩:Qae))[(w64 (y10-1)).toNat]?).bind fun _=>Qbe N p0 p1 k9 n14 (w64 (y10-1)) ((y11.set y10.toNat (⟨(⟨x17.Stair.Amount,x17.Stair.Price⟩:Qay),x17.inlet⟩:Qae)).set ((w64 (y10-1)).toNat) (⟨(⟨x20.Stair.Amount,x20.Stair.Price⟩:Qay),x20.inlet⟩:Qae))) fun k15:Unit->Option (List Qae)=>bif decide (y10>p1) then chk (decide (0<=y10)&&decide (y10.toNat<p0))<|(y11[y10.toNat]?).bind fun x30=>chk (decide (0<=w64 (y10-1))&&decide ((w64 (y10-1)).toNat<p0))<|(y11[(w64 (y10-1)).toNat]?).bind fun x33=>(Qcu N (⟨(⟨x30.Stair.Amount,x30.Stair.Price⟩:Qay),x30.inlet⟩:Qae) (⟨(⟨x33.Stair.Amount,x33.Stair.Price⟩:Qay),x33.inlet⟩:Qae)).bind fun x36=>bif decide (x36<0) then k15 () else k9 y11 else k9 y11
def Qa0 (N p0:Nat) (p1 p2:Int):Nat->Int->(List Qae)->Option (List Qae)
 |0,_,_=>none
 |n6+1,y2,y3=>bif decide (y2<p2) then Qb0 (fun y8=>Qa0 N p0 p1 p2 n6 (w64 (y2+1)) y8) fun k9:(List Qae)->Option (List Qae)=>Qbe N p0 p1 k9 N y2 y3 else some y3
def Qb2 (N p0:Nat) (p1 p2:Int) (p3:List Qae):Option (List Qae):=Qa0 N p0 p1 p2 N (w64 (p1+1)) p3
abbrev Qok:AV:=.fn (.func 55) [] [.ref 1 1 (0) 0]
abbrev Qlh:Slot:=.own 1 [[.fn (.func 32) [] []]]
abbrev Qxu (y3:List Qae):Slot:=.own 3 (y3.map Qak)
abbrev Qjz (y11:List Qae):Slot:=.own 3 (y11.map Qak)
abbrev Zo0 (x17:Qae):AV:=.agg [I x17.Stair.Amount,I x17.Stair.Price,I x17.inlet]
abbrev Zf6 (x20:Qae):AV:=.agg [I x20.Stair.Amount,I x20.Stair.Price,I x20.inlet]
abbrev Q17 (y11:List Qae) (y10:Int) (x17:Qae):Slot:=.own 3 ((y11.set y10.toNat (⟨(⟨x17.Stair.Amount,x17.Stair.Price⟩:Qay),x17.inlet⟩:Qae):List Qae).map Qak)
abbrev Zai (y11:List Qae) (y10:Int) (x17 x20:Qae):Slot:=.own 3 (((y11.set y10.toNat (⟨(⟨x17.Stair.Amount,x17.Stair.Price⟩:Qay),x17.inlet⟩:Qae)).set ((w64 (y10-1)).toNat) (⟨(⟨x20.Stair.Amount,x20.Stair.Price⟩:Qay),x20.inlet⟩:Qae):List Qae).map Qak)
abbrev Zf5 (x30:Qae):AV:=.agg [I x30.Stair.Amount,I x30.Stair.Price,I x30.inlet]
abbrev Zah (x33:Qae):AV:=.agg [I x33.Stair.Amount,I x33.Stair.Price,I x33.inlet]
def Qf2 (N p0:Nat) (p1 p2:Int) (p3 r:List Qae) (h:Qb2 N p0 p1 p2 p3=some r):Spec prog 89 [.own 0 3 (0) p0,I p1,I p2,Qok] [.own 3 (p3.map Qak),Qlh] (.tup []) [.own 3 (r.map Qak),Qlh]:=by
 refine sF func89 2 fun _ _ _ hq hd0=>?_
 unfold Qb2 at h
 refine wxz<|Qaf ?_
 refine wmr (mto (n:=53) (l':=[(0,.own 0 3 (0) p0),(1,I p1),(2,I p2),(3,Qok),(8,I (w64 (p1+1)))]) (own':=[.own 3 (p3.map Qak),Qlh]) [(0,.own 0 3 (0) p0),(1,I p1),(2,I p2),(3,Qok),(8,I (w64 (p1+1)))] [0,1] [.own 3 (p3.map Qak),Qlh] hq (pc (.rn (Qas rfl)) (pw (pw (pc (.rn (Qby rn0 (rnc (rqr rfl) rn0))) (pw pn))))) (qc (spr Qap) (qbi qn))) ?_
 refine Qbf (τ:=Int×(List Qae)) (fun n t=>Qa0 N p0 p1 p2 n t.1 t.2=some r) (fun ⟨y2,y3⟩=>⟨mk 53 [(0,.own 0 3 (0) p0),(1,I p1),(2,I p2),(3,Qok),(8,I y2)],[Qxu y3,Qlh]⟩) (fun t h=>by rw[Qa0] at h;cases h) (fun n6 ih t h=>?_) N (w64 (p1+1),p3) h
 obtain⟨y2,y3⟩:=t
 rw[Qa0] at h
 refine wsq<|wxz<|bfq h (fun c7 h=>?_) fun c7 h=>?_
 ·refine Qah<|thn ?_
  refine wjq h (fun y8=>⟨mk 53 [(0,.own 0 3 (0) p0),(1,I p1),(2,I p2),(3,Qok),(8,I y2)],[.own 3 (y8.map Qak),Qlh]⟩) (fun y8 h=>?_) fun k9 h=>?_
  ·exact wxz1<|thn<|arm (mto (n:=53) [(0,.own 0 3 (0) p0),(1,I p1),(2,I p2),(3,Qok),(8,I (w64 (y2+1)))] [0,1] [.own 3 (y8.map Qak),Qlh] hq (pc (.rn (Qas rfl)) (pw (pw (pc (.rn (Qby rn0 (rnc (rqr rfl) rn0))) (pw pn))))) (qc (spr Qap) (qbi qn))) (ih (w64 (y2+1),y8) h)
  refine Qaf<|wxz<|Qaf ?_
  refine wmr (mto (n:=53) (l':=[(0,.own 0 3 (0) p0),(1,I p1),(2,I p2),(3,Qok),(8,I y2),(9,I y2)]) (own':=[Qxu y3,Qlh]) [(0,.own 0 3 (0) p0),(1,I p1),(2,I p2),(3,Qok),(8,I y2),(9,I y2)] [0,1] [Qxu y3,Qlh] hq (pc (.rn (Qas rfl)) (pw (pw (pc (.rn (Qby rn0 (rnc (rqr rfl) rn0))) (pw (pw pn)))))) (qc (spr Qap) (qbi qn))) ?_
  refine Qbf (τ:=Int×(List Qae)) (fun n t=>Qbe N p0 p1 k9 n t.1 t.2=some r) (fun ⟨y10,y11⟩=>⟨mk 53 [(0,.own 0 3 (0) p0),(1,I p1),(2,I p2),(3,Qok),(8,I y2),(9,I y10)],[Qjz y11,Qlh]⟩) (fun t h=>by rw[Qbe] at h;cases h) (fun n14 ih t h=>?_) N (y2,y3) h
  obtain⟨y10,y11⟩:=t
  rw[Qbe] at h
  refine wjq h (fun _=>⟨mk 53 [(0,.own 0 3 (0) p0),(1,I p1),(2,I p2),(3,Qok),(8,I y2),(9,I y10)],[Qjz y11,Qlh]⟩) (fun t h=>?_) fun k15 h=>?_
  ·refine wsq<|Qaf ?_
   refine ckq h fun i16 h=>?_
   obtain⟨hi16a,hi16b⟩:=Qb6 i16
   refine bnq h fun x17 g18 h=>ckq h fun i19 h=>?_
   obtain⟨hi19a,hi19b⟩:=Qb6 i19
   refine bnq h fun x20 g21 h=>ckq h fun i22 h=>?_
   obtain⟨hi22a,hi22b⟩:=Qb6 i22
   refine bnq h fun x23 g24 h=>ckq h fun i25 h=>?_
   obtain⟨hi25a,hi25b⟩:=Qb6 i25
   exact bnq h fun x26 g27 h=>wy1 tbk [(8,rb [(.tmp 42,.own 0 3 (0) p0),(.tmp 44,I (w64 (y10-1)))] [(0,Qjz y11)] (.ref 0 3 ((w64 (y10-1)).toNat) 0)),(9,rb [(.tmp 45,.ref 0 3 ((w64 (y10-1)).toNat) 0)] [(0,Qjz y11)] (Zo0 x17)),(12,rb [(.tmp 47,.own 0 3 (0) p0),(.tmp 48,I y10)] [(0,Qjz y11)] (.ref 0 3 y10.toNat 0)),(13,rb [(.tmp 49,.ref 0 3 y10.toNat 0)] [(0,Qjz y11)] (Zf6 x20)),(14,rb [(.tmp 37,.own 0 3 (0) p0),(.tmp 38,I y10)] [(0,Qjz y11)] (.ref 0 3 y10.toNat 0)),(15,⟨[(.tmp 51,.ref 0 3 y10.toNat 0),(.tmp 46,Zo0 x17)],[(0,Qjz y11)],.any,[(0,Q17 y11 y10 x17)],false⟩),(16,rb [(.tmp 39,.own 0 3 (0) p0),(.tmp 41,I (w64 (y10-1)))] [(0,Q17 y11 y10 x17)] (.ref 0 3 ((w64 (y10-1)).toNat) 0)),(17,⟨[(.tmp 52,.ref 0 3 ((w64 (y10-1)).toNat) 0),(.tmp 50,Zf6 x20)],[(0,Q17 y11 y10 x17)],.any,[(0,Zai y11 y10 x17 x20)],false⟩)] ⟨aio rfl Xa0 Qhf (odt hi16a) (odt hi16b) (Xar _),ald rfl Qhf (by decide) (mgt Qak g18) (nle rfl) rfl,aio rfl Xa0 Qhf (odt hi19a) (odt hi19b) (Xar _),ald rfl Qhf (by decide) (mgt Qak g21) (nle rfl) rfl,aio rfl Xa0 Qhf (odt hi22a) (odt hi22b) (Xar _),ast rfl Qhf (by rfl) (mgt Qak g24) (nle rfl) (Qhv Qak rfl),aio rfl Xa0 Qhf (odt hi25a) (odt hi25b) (Xar _),ast rfl Qhf (by rfl) (mgt Qak g27) (nle rfl) (Qhv Qak rfl),tv⟩<|bln<|thn<|wxz1<|thn<|arm (mto (n:=53) [(0,.own 0 3 (0) p0),(1,I p1),(2,I p2),(3,Qok),(8,I y2),(9,I (w64 (y10-1)))] [0,1] [Zai y11 y10 x17 x20,Qlh] hq (pc (.rn (Qas rfl)) (pw (pw (pc (.rn (Qby rn0 (rnc (rqr rfl) rn0))) (pw (pw pn)))))) (qc (spr Qap) (qbi qn))) (ih (w64 (y10-1),(y11.set y10.toNat (⟨(⟨x17.Stair.Amount,x17.Stair.Price⟩:Qay),x17.inlet⟩:Qae)).set ((w64 (y10-1)).toNat) (⟨(⟨x20.Stair.Amount,x20.Stair.Price⟩:Qay),x20.inlet⟩:Qae)) h)
  refine bfe h (fun hb28 h=>?_) fun hb28 h=>?_
  ·refine ckq h fun i29 h=>?_
   obtain⟨hi29a,hi29b⟩:=Qb6 i29
   refine bnq h fun x30 g31 h=>ckq h fun i32 h=>?_
   obtain⟨hi32a,hi32b⟩:=Qb6 i32
   refine bnq h fun x33 g34 h=>bnq h fun x36 f35 h=>wxd tbk [(3,rp [(.tmp 20,B (decide (y10>p1)))] (B true)),(7,rb [(.tmp 21,B true),(.tmp 23,.own 0 3 (0) p0),(.tmp 24,I y10)] [(0,Qjz y11)] (.ref 0 3 y10.toNat 0)),(8,rb [(.tmp 21,B true),(.tmp 25,.ref 0 3 y10.toNat 0)] [(0,Qjz y11)] (Zf5 x30)),(12,rb [(.tmp 21,B true),(.tmp 27,.own 0 3 (0) p0),(.tmp 29,I (w64 (y10-1)))] [(0,Qjz y11)] (.ref 0 3 ((w64 (y10-1)).toNat) 0)),(13,rb [(.tmp 21,B true),(.tmp 30,.ref 0 3 ((w64 (y10-1)).toNat) 0)] [(0,Qjz y11)] (Zah x33)),(14,⟨[(.tmp 21,B true),(.tmp 22,Qok),(.tmp 26,Zf5 x30),(.tmp 31,Zah x33)],[(1,Qlh)],I x36,[(1,Qlh)],false⟩)] ⟨asb hb28 (amv rfl),ag_ (aio rfl Xa0 Qhf (odt hi29a) (odt hi29b) (Xar _)),ag_ (ald rfl Qhf (by decide) (mgt Qak g31) (nle rfl) rfl),ag_ (aio rfl Xa0 Qhf (odt hi32a) (odt hi32b) (Xar _)),ag_ (ald rfl Qhf (by decide) (mgt Qak g34) (nle rfl) rfl),ag_ (Qd5 (first:=[]) (cap:=[.ref 1 1 0 0]) (vs:=[.agg [I ((⟨(⟨x30.Stair.Amount,x30.Stair.Price⟩:Qay),x30.inlet⟩:Qae).Stair.Amount),I ((⟨(⟨x30.Stair.Amount,x30.Stair.Price⟩:Qay),x30.inlet⟩:Qae).Stair.Price),I ((⟨(⟨x30.Stair.Amount,x30.Stair.Price⟩:Qay),x30.inlet⟩:Qae).inlet)],.agg [I ((⟨(⟨x33.Stair.Amount,x33.Stair.Price⟩:Qay),x33.inlet⟩:Qae).Stair.Amount),I ((⟨(⟨x33.Stair.Amount,x33.Stair.Price⟩:Qay),x33.inlet⟩:Qae).Stair.Price),I ((⟨(⟨x33.Stair.Amount,x33.Stair.Price⟩:Qay),x33.inlet⟩:Qae).inlet)]]) (σr:=[Qlh]) (σr':=[Qlh]) (res':=(I x36)) [1] rfl Q3f (Qfc N (⟨(⟨x30.Stair.Amount,x30.Stair.Price⟩:Qay),x30.inlet⟩:Qae) (⟨(⟨x33.Stair.Amount,x33.Stair.Price⟩:Qay),x33.inlet⟩:Qae) _ f35) rfl (Qct (rnc pli (rnc pli (rnc (Qa2 rfl) rn0)))) (sfn Qai) (sfn Qai) pli rfl rfl rfl),tv⟩<|bfq h (fun c37 h=>?_) fun c37 h=>?_
   ·exact Qah<|thn<|⟨(),h,mto (n:=53) [(0,.own 0 3 (0) p0),(1,I p1),(2,I p2),(3,Qok),(8,I y2),(9,I y10)] [0,1] [Qjz y11,Qlh] hq (pc (.rn (Qas rfl)) (pw (pw (pc (.rn (Qby rn0 (rnc (rqr rfl) rn0))) (pw (pw pn)))))) (qc (spr Qap) (qbi qn))⟩
   exact Qax<|Qan<|Qan<|Qaw rfl<|bln<|thn<|⟨y11,h,mto (n:=53) [(0,.own 0 3 (0) p0),(1,I p1),(2,I p2),(3,Qok),(8,I y2)] [0,1] [Qjz y11,Qlh] hq (pc (.rn (Qas rfl)) (pw (pw (pc (.rn (Qby rn0 (rnc (rqr rfl) rn0))) (pw pn))))) (qc (spr Qap) (qbi qn))⟩
  exact wxd tbk [(3,rp [(.tmp 20,B (decide (y10>p1)))] (B false))] ⟨asb hb28 (amv rfl),tv⟩<|wfa<|Qax<|Qan<|Qan<|Qaw rfl<|bln<|thn<|⟨y11,h,mto (n:=53) [(0,.own 0 3 (0) p0),(1,I p1),(2,I p2),(3,Qok),(8,I y2)] [0,1] [Qjz y11,Qlh] hq (pc (.rn (Qas rfl)) (pw (pw (pc (.rn (Qby rn0 (rnc (rqr rfl) rn0))) (pw pn))))) (qc (spr Qap) (qbi qn))⟩
 refine Qax<|Qan<|Qan<|Qaw rfl ?_
 obtain rfl:=osi h
 exact⟨_,mto (n:=53) (l':=[]) (own':=[Qxu y3,Qlh]) [] [0,1] [Qxu y3,Qlh] hq pn (qc (spr Qap) (qbi qn)),fio [] tv⟩
def Qbq (N p0:Nat) (p1 p2 p3:Int):Nat->Int->(List Qae)->Option (List Qae)
 |0,_,_=>none
 |n6+1,y2,y3=>bif decide (y2<p3) then chk (decide (0<=w64 (p2+y2))&&decide ((w64 (p2+y2)).toNat<p0))<|(y3[(w64 (p2+y2)).toNat]?).bind fun x9=>chk (decide (0<=w64 (p1+y2))&&decide ((w64 (p1+y2)).toNat<p0))<|(y3[(w64 (p1+y2)).toNat]?).bind fun x12=>chk (decide (0<=w64 (p1+y2))&&decide ((w64 (p1+y2)).toNat<p0))<|(y3[(w64 (p1+y2)).toNat]?).bind fun _=>chk (decide (0<=w64 (p2+y2))&&decide ((w64 (p2+y2)).toNat<p0))<|((y3.set ((w64 (p1+y2)).toNat) (⟨(⟨x9.Stair.Amount,x9.Stair.Price⟩:Qay),x9.inlet⟩:Qae))[(w64 (p2+y2)).toNat]?).bind fun _=>Qbq N p0 p1 p2 p3 n6 (w64 (y2+1)) ((y3.set ((w64 (p1+y2)).toNat) (⟨(⟨x9.Stair.Amount,x9.Stair.Price⟩:Qay),x9.inlet⟩:Qae)).set ((w64 (p2+y2)).toNat) (⟨(⟨x12.Stair.Amount,x12.Stair.Price⟩:Qay),x12.inlet⟩:Qae)) else some y3
def Qcb (N p0:Nat) (p1 p2 p3:Int) (p4:List Qae):Option (List Qae):=Qbq N p0 p1 p2 p3 N 0 p4
abbrev Qrj:Slot:=.own 1 [[.fn (.func 32) [] []]]
abbrev Qqq (y3:List Qae):Slot:=.own 3 (y3.map Qak)
abbrev Zf2 (x9:Qae):AV:=.agg [I x9.Stair.Amount,I x9.Stair.Price,I x9.inlet]
abbrev Zf1 (x12:Qae):AV:=.agg [I x12.Stair.Amount,I x12.Stair.Price,I x12.inlet]
abbrev Q7j (y3:List Qae) (p1 y2:Int) (x9:Qae):Slot:=.own 3 ((y3.set ((w64 (p1+y2)).toNat) (⟨(⟨x9.Stair.Amount,x9.Stair.Price⟩:Qay),x9.inlet⟩:Qae):List Qae).map Qak)
abbrev Zf0 (y3:List Qae) (p1 y2:Int) (x9:Qae) (p2:Int) (x12:Qae):Slot:=.own 3 (((y3.set ((w64 (p1+y2)).toNat) (⟨(⟨x9.Stair.Amount,x9.Stair.Price⟩:Qay),x9.inlet⟩:Qae)).set ((w64 (p2+y2)).toNat) (⟨(⟨x12.Stair.Amount,x12.Stair.Price⟩:Qay),x12.inlet⟩:Qae):List Qae).map Qak)
def Qfa (N p0:Nat) (p1 p2 p3:Int) (p4 r:List Qae) (h:Qcb N p0 p1 p2 p3 p4=some r):Spec prog 115 [.own 0 3 (0) p0,I p1,I p2,I p3,.fn (.func 55) [] [.ref 1 1 (0) 0]] [.own 3 (p4.map Qak),Qrj] (.tup []) [.own 3 (r.map Qak),Qrj]:=by
 refine sF func115 2 fun _ _ _ hq hd0=>?_
 unfold Qcb at h
 refine wxz<|Qaf ?_
 refine wmr (mto (n:=38) (l':=[(0,.own 0 3 (0) p0),(1,I p1),(2,I p2),(3,I p3),(10,I 0)]) (own':=[.own 3 (p4.map Qak),Qrj]) [(0,.own 0 3 (0) p0),(1,I p1),(2,I p2),(3,I p3),(10,I 0)] [0,1] [.own 3 (p4.map Qak),Qrj] hq (pc (.rn (Qas rfl)) (pw (pw (pw (pw pn))))) (qc (spr Qap) (qbi qn))) ?_
 refine Qbf (τ:=Int×(List Qae)) (fun n t=>Qbq N p0 p1 p2 p3 n t.1 t.2=some r) (fun ⟨y2,y3⟩=>⟨mk 38 [(0,.own 0 3 (0) p0),(1,I p1),(2,I p2),(3,I p3),(10,I y2)],[Qqq y3,Qrj]⟩) (fun t h=>by rw[Qbq] at h;cases h) (fun n6 ih t h=>?_) N (0,p4) h
 obtain⟨y2,y3⟩:=t
 rw[Qbq] at h
 refine wsq<|wxz<|bfq h (fun c7 h=>?_) fun c7 h=>?_
 ·refine Qah<|thn<|wsq<|Qaf ?_
  refine ckq h fun i8 h=>?_
  obtain⟨hi8a,hi8b⟩:=Qb6 i8
  refine bnq h fun x9 g10 h=>ckq h fun i11 h=>?_
  obtain⟨hi11a,hi11b⟩:=Qb6 i11
  refine bnq h fun x12 g13 h=>ckq h fun i14 h=>?_
  obtain⟨hi14a,hi14b⟩:=Qb6 i14
  refine bnq h fun x15 g16 h=>ckq h fun i17 h=>?_
  obtain⟨hi17a,hi17b⟩:=Qb6 i17
  exact bnq h fun x18 g19 h=>wy1 tbk [(12,rb [(.tmp 24,.own 0 3 (0) p0),(.tmp 27,I (w64 (p2+y2)))] [(0,Qqq y3)] (.ref 0 3 ((w64 (p2+y2)).toNat) 0)),(13,rb [(.tmp 28,.ref 0 3 ((w64 (p2+y2)).toNat) 0)] [(0,Qqq y3)] (Zf2 x9)),(18,rb [(.tmp 30,.own 0 3 (0) p0),(.tmp 33,I (w64 (p1+y2)))] [(0,Qqq y3)] (.ref 0 3 ((w64 (p1+y2)).toNat) 0)),(19,rb [(.tmp 34,.ref 0 3 ((w64 (p1+y2)).toNat) 0)] [(0,Qqq y3)] (Zf1 x12)),(20,rb [(.tmp 16,.own 0 3 (0) p0),(.tmp 19,I (w64 (p1+y2)))] [(0,Qqq y3)] (.ref 0 3 ((w64 (p1+y2)).toNat) 0)),(21,⟨[(.tmp 36,.ref 0 3 ((w64 (p1+y2)).toNat) 0),(.tmp 29,Zf2 x9)],[(0,Qqq y3)],.any,[(0,Q7j y3 p1 y2 x9)],false⟩),(22,rb [(.tmp 20,.own 0 3 (0) p0),(.tmp 23,I (w64 (p2+y2)))] [(0,Q7j y3 p1 y2 x9)] (.ref 0 3 ((w64 (p2+y2)).toNat) 0)),(23,⟨[(.tmp 37,.ref 0 3 ((w64 (p2+y2)).toNat) 0),(.tmp 35,Zf1 x12)],[(0,Q7j y3 p1 y2 x9)],.any,[(0,Zf0 y3 p1 y2 x9 p2 x12)],false⟩)] ⟨aio rfl Xa0 Qhf (odt hi8a) (odt hi8b) (Xar _),ald rfl Qhf (by decide) (mgt Qak g10) (nle rfl) rfl,aio rfl Xa0 Qhf (odt hi11a) (odt hi11b) (Xar _),ald rfl Qhf (by decide) (mgt Qak g13) (nle rfl) rfl,aio rfl Xa0 Qhf (odt hi14a) (odt hi14b) (Xar _),ast rfl Qhf (by rfl) (mgt Qak g16) (nle rfl) (Qhv Qak rfl),aio rfl Xa0 Qhf (odt hi17a) (odt hi17b) (Xar _),ast rfl Qhf (by rfl) (mgt Qak g19) (nle rfl) (Qhv Qak rfl),tv⟩<|bln<|thn<|wxz1<|thn<|arm (mto (n:=38) [(0,.own 0 3 (0) p0),(1,I p1),(2,I p2),(3,I p3),(10,I (w64 (y2+1)))] [0,1] [Zf0 y3 p1 y2 x9 p2 x12,Qrj] hq (pc (.rn (Qas rfl)) (pw (pw (pw (pw pn))))) (qc (spr Qap) (qbi qn))) (ih (w64 (y2+1),(y3.set ((w64 (p1+y2)).toNat) (⟨(⟨x9.Stair.Amount,x9.Stair.Price⟩:Qay),x9.inlet⟩:Qae)).set ((w64 (p2+y2)).toNat) (⟨(⟨x12.Stair.Amount,x12.Stair.Price⟩:Qay),x12.inlet⟩:Qae)) h)
 refine Qax<|Qan<|Qan<|Qaw rfl ?_
 obtain rfl:=osi h
 exact⟨_,mto (n:=38) (l':=[]) (own':=[Qqq y3,Qrj]) [] [0,1] [Qqq y3,Qrj] hq pn (qc (spr Qap) (qbi qn)),fio [] tv⟩
def Qbl (N p0:Nat) (p2:Int) (k4:Int×(List Qae)->Option (List Qae)):Nat->Int->Int->(List Qae)->Option (List Qae)
 |0,_,_,_=>none
 |n13+1,y7,y8,y9=>bif (y7 != y8) then bif decide (y7>y8) then (Qcb N p0 (w64 (p2-y7)) p2 y8 y9).bind fun x17=>Qbl N p0 p2 k4 n13 (w64 (y7-y8)) y8 x17 else (Qcb N p0 (w64 (p2-y7)) (w64 ((w64 (p2+y8))-y7)) y7 y9).bind fun x19=>Qbl N p0 p2 k4 n13 y7 (w64 (y8-y7)) x19 else k4 (y7,y9)
def Qc3 (N p0:Nat) (p1 p2 p3:Int) (p4:List Qae):Option (List Qae):=Qb0 (fun ⟨y2,y3⟩=>(Qcb N p0 (w64 (p2-y2)) p2 y2 y3).bind fun x6=>some x6) fun k4:Int×(List Qae)->Option (List Qae)=>Qbl N p0 p2 k4 N (w64 (p2-p1)) (w64 (p3-p2)) p4
abbrev Qrk:AV:=.fn (.func 55) [] [.ref 1 1 (0) 0]
abbrev Qnc:Slot:=.own 1 [[.fn (.func 32) [] []]]
abbrev Q14 (y9:List Qae):Slot:=.own 3 (y9.map Qak)
def Qkv (N p0:Nat) (p1 p2 p3:Int) (p4 r:List Qae) (h:Qc3 N p0 p1 p2 p3 p4=some r):Spec prog 103 [.own 0 3 (0) p0,I p1,I p2,I p3,Qrk] [.own 3 (p4.map Qak),Qnc] (.tup []) [.own 3 (r.map Qak),Qnc]:=by
 refine sF func103 2 fun _ _ _ hq hd0=>?_
 unfold Qc3 at h
 refine wxz<|wxz<|wjq h (fun ⟨y2,y3⟩=>⟨mk 58 [(0,.own 0 3 (0) p0),(2,I p2),(4,Qrk),(10,I y2)],[.own 3 (y3.map Qak),Qnc]⟩) (fun t h=>?_) fun k4 h=>?_
 ·obtain⟨y2,y3⟩:=t
  refine bnq h fun x6 f5 h=>wx1 tbk [(7,⟨_,_,_,_,false⟩)] ⟨acq [.own 0 3 (0) p0,I (w64 (p2-y2)),I p2,I y2,Qrk] [.own 3 (y3.map Qak),Qnc] [.own 3 (x6.map Qak),Qnc] (.tup []) [0,1] Q3j (Qfa N p0 (w64 (p2-y2)) p2 y2 y3 _ f5) (Qct (rnc (Qdf rfl) (rncc (rnc pli (rnc (Qby rn0 (rnc (Qa2 rfl) rn0)) rn0))))) (slc (Qa5 Qap) (sfn Qai)) (slc (Qa5 Qap) (sfn Qai)) pli,tv⟩ ?_
  obtain rfl:=osi h
  exact⟨_,mto (n:=58) (l':=[]) (own':=[.own 3 (x6.map Qak),Qnc]) [] [0,1] [.own 3 (x6.map Qak),Qnc] hq pn (qc (spr Qap) (qbi qn)),fio [] tv⟩
 refine Qaf<|wmr (mto (n:=58) (l':=[(0,.own 0 3 (0) p0),(2,I p2),(4,Qrk),(10,I (w64 (p2-p1))),(11,I (w64 (p3-p2)))]) (own':=[.own 3 (p4.map Qak),Qnc]) [(0,.own 0 3 (0) p0),(2,I p2),(4,Qrk),(10,I (w64 (p2-p1))),(11,I (w64 (p3-p2)))] [0,1] [.own 3 (p4.map Qak),Qnc] hq (pc (.rn (Qas rfl)) (pw (pc (.rn (Qby rn0 (rnc (rqr rfl) rn0))) (pw (pw pn))))) (qc (spr Qap) (qbi qn))) ?_
 refine Qbf (τ:=Int×Int×(List Qae)) (fun n t=>Qbl N p0 p2 k4 n t.1 t.2.1 t.2.2=some r) (fun ⟨y7,y8,y9⟩=>⟨mk 58 [(0,.own 0 3 (0) p0),(2,I p2),(4,Qrk),(10,I y7),(11,I y8)],[Q14 y9,Qnc]⟩) (fun t h=>by rw[Qbl] at h;cases h) (fun n13 ih t h=>?_) N (w64 (p2-p1),w64 (p3-p2),p4) h
 obtain⟨y7,y8,y9⟩:=t
 rw[Qbl] at h
 refine wsq<|wxz<|bfq h (fun c14 h=>?_) fun c14 h=>?_
 ·refine Qah<|thn<|Qaf<|wxz ?_
  refine bfq h (fun c15 h=>?_) fun c15 h=>?_
  ·exact bnq h fun x17 f16 h=>wx tbk [(7,⟨_,_,_,_,false⟩)] ⟨acq [.own 0 3 (0) p0,I (w64 (p2-y7)),I p2,I y8,Qrk] [Q14 y9,Qnc] [.own 3 (x17.map Qak),Qnc] (.tup []) [0,1] Q3j (Qfa N p0 (w64 (p2-y7)) p2 y8 y9 _ f16) (Qct (rnc (Qdf rfl) (rncc (rnc pli (rnc (Qby rn0 (rnc (Qa2 rfl) rn0)) rn0))))) (slc (Qa5 Qap) (sfn Qai)) (slc (Qa5 Qap) (sfn Qai)) pli,tv⟩<|wxz1<|bln<|thn<|arm (mto (n:=58) [(0,.own 0 3 (0) p0),(2,I p2),(4,Qrk),(10,I (w64 (y7-y8))),(11,I y8)] [0,1] [.own 3 (x17.map Qak),Qnc] hq (pc (.rn (Qas rfl)) (pw (pc (.rn (Qby rn0 (rnc (rqr rfl) rn0))) (pw (pw pn))))) (qc (spr Qap) (qbi qn))) (ih (w64 (y7-y8),y8,x17) h)
  exact bnq h fun x19 f18 h=>wx tbk [(11,⟨_,_,_,_,false⟩)] ⟨acq [.own 0 3 (0) p0,I (w64 (p2-y7)),I (w64 ((w64 (p2+y8))-y7)),I y7,Qrk] [Q14 y9,Qnc] [.own 3 (x19.map Qak),Qnc] (.tup []) [0,1] Q3j (Qfa N p0 (w64 (p2-y7)) (w64 ((w64 (p2+y8))-y7)) y7 y9 _ f18) (Qct (rnc (Qdf rfl) (rncc (rnc pli (rnc (Qby rn0 (rnc (Qa2 rfl) rn0)) rn0))))) (slc (Qa5 Qap) (sfn Qai)) (slc (Qa5 Qap) (sfn Qai)) pli,tv⟩<|wxz1<|bln<|thn<|arm (mto (n:=58) [(0,.own 0 3 (0) p0),(2,I p2),(4,Qrk),(10,I y7),(11,I (w64 (y8-y7)))] [0,1] [.own 3 (x19.map Qak),Qnc] hq (pc (.rn (Qas rfl)) (pw (pc (.rn (Qby rn0 (rnc (rqr rfl) rn0))) (pw (pw pn))))) (qc (spr Qap) (qbi qn))) (ih (y7,w64 (y8-y7),x19) h)
 exact Qax<|Qan<|Qan<|Qaw rfl<|thn<|⟨(y7,y9),h,mto (n:=58) [(0,.own 0 3 (0) p0),(2,I p2),(4,Qrk),(10,I y7)] [0,1] [Q14 y9,Qnc] hq (pc (.rn (Qas rfl)) (pw (pc (.rn (Qby rn0 (rnc (rqr rfl) rn0))) (pw pn)))) (qc (spr Qap) (qbi qn))⟩
def slices_symMergeCmpFunc_inject_offerX_1_loop1 (N p0:Nat) (p4:List Qae) (x10:Int) (k13:Int->Option (List Qae)):Nat->Int->Int->Option (List Qae)
 |0,_,_=>none
 |n36+1,y32,y33=>bif decide (y32<y33) then (some (w64 ((IntKind.wrap .u64 (w64 (y32+y33)))/2))).bind fun x38=>chk (decide (0<=w64 (x10-x38))&&decide ((w64 (x10-x38)).toNat<p0))<|(p4[(w64 (x10-x38)).toNat]?).bind fun x41=>chk (decide (0<=x38)&&decide (x38.toNat<p0))<|(p4[x38.toNat]?).bind fun x44=>(Qcu N (⟨(⟨x41.Stair.Amount,x41.Stair.Price⟩:Qay),x41.inlet⟩:Qae) (⟨(⟨x44.Stair.Amount,x44.Stair.Price⟩:Qay),x44.inlet⟩:Qae)).bind fun x47=>bif (!(decide (x47<0))) then slices_symMergeCmpFunc_inject_offerX_1_loop1 N p0 p4 x10 k13 n36 (w64 (x38+1)) y33 else slices_symMergeCmpFunc_inject_offerX_1_loop1 N p0 p4 x10 k13 n36 y32 x38 else k13 y32
def Qbx (N p0:Nat) (y53:Int) (k56:(List Qae)->Option (List Qae)):Nat->Int->(List Qae)->Option (List Qae)
 |0,_,_=>none
 |n61+1,y57,y58=>bif decide (y57>y53) then chk (decide (0<=w64 (y57-1))&&decide ((w64 (y57-1)).toNat<p0))<|(y58[(w64 (y57-1)).toNat]?).bind fun x64=>chk (decide (0<=y57)&&decide (y57.toNat<p0))<|(y58[y57.toNat]?).bind fun x67=>chk (decide (0<=y57)&&decide (y57.toNat<p0))<|(y58[y57.toNat]?).bind fun _=>chk (decide (0<=w64 (y57-1))&&decide ((w64 (y57-1)).toNat<p0))<|((y58.set y57.toNat (⟨(⟨x64.Stair.Amount,x64.Stair.Price⟩:Qay),x64.inlet⟩:Qae))[(w64 (y57-1)).toNat]?).bind fun _=>Qbx N p0 y53 k56 n61 (w64 (y57-1)) ((y58.set y57.toNat (⟨(⟨x64.Stair.Amount,x64.Stair.Price⟩:Qay),x64.inlet⟩:Qae)).set ((w64 (y57-1)).toNat) (⟨(⟨x67.Stair.Amount,x67.Stair.Price⟩:Qay),x67.inlet⟩:Qae)) else k56 y58
def slices_symMergeCmpFunc_inject_offerX_1_loop3 (N p0:Nat) (p2:Int) (p4:List Qae) (k54:Int->Option (List Qae)):Nat->Int->Int->Option (List Qae)
 |0,_,_=>none
 |n79+1,y75,y76=>bif decide (y75<y76) then (some (w64 ((IntKind.wrap .u64 (w64 (y75+y76)))/2))).bind fun x81=>chk (decide (0<=p2)&&decide (p2.toNat<p0))<|(p4[p2.toNat]?).bind fun x84=>chk (decide (0<=x81)&&decide (x81.toNat<p0))<|(p4[x81.toNat]?).bind fun x87=>(Qcu N (⟨(⟨x84.Stair.Amount,x84.Stair.Price⟩:Qay),x84.inlet⟩:Qae) (⟨(⟨x87.Stair.Amount,x87.Stair.Price⟩:Qay),x87.inlet⟩:Qae)).bind fun x90=>bif (!(decide (x90<0))) then slices_symMergeCmpFunc_inject_offerX_1_loop3 N p0 p2 p4 k54 n79 (w64 (x81+1)) y76 else slices_symMergeCmpFunc_inject_offerX_1_loop3 N p0 p2 p4 k54 n79 y75 x81 else k54 y75
def Qbw (N p0:Nat) (y93:Int) (k96:(List Qae)->Option (List Qae)):Nat->Int->(List Qae)->Option (List Qae)
 |0,_,_=>none
 |n101+1,y97,y98=>bif decide (y97<(w64 (y93-1))) then chk (decide (0<=w64 (y97+1))&&decide ((w64 (y97+1)).toNat<p0))<|(y98[(w64 (y97+1)).toNat]?).bind fun x104=>chk (decide (0<=y97)&&decide (y97.toNat<p0))<|(y98[y97.toNat]?).bind fun x107=>chk (decide (0<=y97)&&decide (y97.toNat<p0))<|(y98[y97.toNat]?).bind fun _=>chk (decide (0<=w64 (y97+1))&&decide ((w64 (y97+1)).toNat<p0))<|((y98.set y97.toNat (⟨(⟨x104.Stair.Amount,x104.Stair.Price⟩:Qay),x104.inlet⟩:Qae))[(w64 (y97+1)).toNat]?).bind fun _=>Qbw N p0 y93 k96 n101 (w64 (y97+1)) ((y98.set y97.toNat (⟨(⟨x104.Stair.Amount,x104.Stair.Price⟩:Qay),x104.inlet⟩:Qae)).set ((w64 (y97+1)).toNat) (⟨(⟨x107.Stair.Amount,x107.Stair.Price⟩:Qay),x107.inlet⟩:Qae)) else k96 y98
def slices_symMergeCmpFunc_inject_offerX_1_loop5 (N p0:Nat) (p1:Int) (p4:List Qae) (k94:Int->Option (List Qae)):Nat->Int->Int->Option (List Qae)
 |0,_,_=>none
 |n119+1,y115,y116=>bif decide (y115<y116) then (some (w64 ((IntKind.wrap .u64 (w64 (y115+y116)))/2))).bind fun x121=>chk (decide (0<=x121)&&decide (x121.toNat<p0))<|(p4[x121.toNat]?).bind fun x124=>chk (decide (0<=p1)&&decide (p1.toNat<p0))<|(p4[p1.toNat]?).bind fun x127=>(Qcu N (⟨(⟨x124.Stair.Amount,x124.Stair.Price⟩:Qay),x124.inlet⟩:Qae) (⟨(⟨x127.Stair.Amount,x127.Stair.Price⟩:Qay),x127.inlet⟩:Qae)).bind fun x130=>bif decide (x130<0) then slices_symMergeCmpFunc_inject_offerX_1_loop5 N p0 p1 p4 k94 n119 (w64 (x121+1)) y116 else slices_symMergeCmpFunc_inject_offerX_1_loop5 N p0 p1 p4 k94 n119 y115 x121 else k94 y115
def Qdx (N:Nat) (rec_:Nat->Int->Int->Int->(List Qae)->Option (List Qae)) (p0:Nat) (p1 p2 p3:Int) (p4:List Qae):Option (List Qae):=Qb0 (fun _=>Qb0 (fun _=>(some (w64 ((IntKind.wrap .u64 (w64 (p1+p3)))/2))).bind fun x5=>Qb0 (fun ⟨y7,y8⟩=>(some (w64 ((w64 (x5+p2))-1))).bind fun x10=>Qb0 (fun y12=>(some (w64 ((w64 (x5+p2))-y12))).bind fun x14=>Qb0 (fun y16=>Qb0 (fun y18=>bif decide (x5<x14) then bif decide (x14<p3) then (rec_ p0 x5 x14 p3 y18).bind fun x23=>some x23 else some y18 else some y18) fun k19:(List Qae)->Option (List Qae)=>bif decide (p1<y12) then bif decide (y12<x5) then (rec_ p0 p1 y12 x5 y16).bind fun x27=>k19 x27 else k19 y16 else k19 y16) fun k17:(List Qae)->Option (List Qae)=>bif decide (y12<p2) then bif decide (p2<x14) then (Qc3 N p0 y12 p2 x14 p4).bind fun x31=>k17 x31 else k17 p4 else k17 p4) fun k13:Int->Option (List Qae)=>slices_symMergeCmpFunc_inject_offerX_1_loop1 N p0 p4 x10 k13 N y7 y8) fun k9:Int×Int->Option (List Qae)=>bif decide (p2>x5) then (some (w64 ((w64 (x5+p2))-p3))).bind fun x50=>k9 (x50,x5) else k9 (p1,p2)) fun k4:Unit->Option (List Qae)=>bif ((w64 (p3-p2))==1) then Qb0 (fun y53=>Qb0 (fun y55=>some y55) fun k56:(List Qae)->Option (List Qae)=>Qbx N p0 y53 k56 N p2 p4) fun k54:Int->Option (List Qae)=>slices_symMergeCmpFunc_inject_offerX_1_loop3 N p0 p2 p4 k54 N p1 p2 else k4 ()) fun k3:Unit->Option (List Qae)=>bif ((w64 (p2-p1))==1) then Qb0 (fun y93=>Qb0 (fun y95=>some y95) fun k96:(List Qae)->Option (List Qae)=>Qbw N p0 y93 k96 N p1 p4) fun k94:Int->Option (List Qae)=>slices_symMergeCmpFunc_inject_offerX_1_loop5 N p0 p1 p4 k94 N p2 p3 else k3 ()
def Qbb:Nat->Nat->Int->Int->Int->(List Qae)->Option (List Qae)
 |0,_,_,_,_,_=>none
 |N+1,p0,p1,p2,p3,p4=>Qdx N (Qbb N) p0 p1 p2 p3 p4
abbrev Qhc:AV:=.fn (.func 55) [] [.ref 1 1 (0) 0]
abbrev Qfj (p4:List Qae):Slot:=.own 3 (p4.map Qak)
abbrev Qdb:Slot:=.own 1 [[.fn (.func 32) [] []]]
abbrev Qr5 (y18:List Qae):Slot:=.own 3 (y18.map Qak)
abbrev Zlm (x41:Qae):AV:=.agg [I x41.Stair.Amount,I x41.Stair.Price,I x41.inlet]
abbrev Zll (x44:Qae):AV:=.agg [I x44.Stair.Amount,I x44.Stair.Price,I x44.inlet]
abbrev Qpg (y58:List Qae):Slot:=.own 3 (y58.map Qak)
abbrev Zaf (x64:Qae):AV:=.agg [I x64.Stair.Amount,I x64.Stair.Price,I x64.inlet]
abbrev Zad (x67:Qae):AV:=.agg [I x67.Stair.Amount,I x67.Stair.Price,I x67.inlet]
abbrev Q16 (y58:List Qae) (y57:Int) (x64:Qae):Slot:=.own 3 ((y58.set y57.toNat (⟨(⟨x64.Stair.Amount,x64.Stair.Price⟩:Qay),x64.inlet⟩:Qae):List Qae).map Qak)
abbrev Zac (y58:List Qae) (y57:Int) (x64 x67:Qae):Slot:=.own 3 (((y58.set y57.toNat (⟨(⟨x64.Stair.Amount,x64.Stair.Price⟩:Qay),x64.inlet⟩:Qae)).set ((w64 (y57-1)).toNat) (⟨(⟨x67.Stair.Amount,x67.Stair.Price⟩:Qay),x67.inlet⟩:Qae):List Qae).map Qak)
abbrev Zlk (x84:Qae):AV:=.agg [I x84.Stair.Amount,I x84.Stair.Price,I x84.inlet]
abbrev Zlj (x87:Qae):AV:=.agg [I x87.Stair.Amount,I x87.Stair.Price,I x87.inlet]
abbrev Qpf (y98:List Qae):Slot:=.own 3 (y98.map Qak)
abbrev Zae (x104:Qae):AV:=.agg [I x104.Stair.Amount,I x104.Stair.Price,I x104.inlet]
abbrev Zab (x107:Qae):AV:=.agg [I x107.Stair.Amount,I x107.Stair.Price,I x107.inlet]
abbrev Q15 (y98:List Qae) (y97:Int) (x104:Qae):Slot:=.own 3 ((y98.set y97.toNat (⟨(⟨x104.Stair.Amount,x104.Stair.Price⟩:Qay),x104.inlet⟩:Qae):List Qae).map Qak)
abbrev Zaa (y98:List Qae) (y97:Int) (x104 x107:Qae):Slot:=.own 3 (((y98.set y97.toNat (⟨(⟨x104.Stair.Amount,x104.Stair.Price⟩:Qay),x104.inlet⟩:Qae)).set ((w64 (y97+1)).toNat) (⟨(⟨x107.Stair.Amount,x107.Stair.Price⟩:Qay),x107.inlet⟩:Qae):List Qae).map Qak)
abbrev Zli (x124:Qae):AV:=.agg [I x124.Stair.Amount,I x124.Stair.Price,I x124.inlet]
abbrev Zlh (x127:Qae):AV:=.agg [I x127.Stair.Amount,I x127.Stair.Price,I x127.inlet]
def Qg5:∀(N p0:Nat) (p1 p2 p3:Int) (p4 r:List Qae) (_:Qbb N p0 p1 p2 p3 p4=some r),Spec prog 90 [.own 0 3 (0) p0,I p1,I p2,I p3,Qhc] [Qfj p4,Qdb] (.tup []) [.own 3 (r.map Qak),Qdb]:=by
 intro N
 induction N with
 |zero=>intro p0 p1 p2 p3 p4 r h;exact nomatch (show(none:Option (List Qae))=some r from h)
 |succ N ihX=>
 intro p0 p1 p2 p3 p4 r h
 replace h:Qdx N (Qbb N) p0 p1 p2 p3 p4=some r:=h
 refine sF func90 2 fun _ _ _ hq hd0=>?_
 unfold Qdx at h
 refine wjq h (fun _=>⟨mk 220 [(0,.own 0 3 (0) p0),(1,I p1),(2,I p2),(3,I p3),(4,Qhc)],[Qfj p4,Qdb]⟩) (fun t h=>?_) fun k3 h=>?_
 ·refine wjq h (fun _=>⟨mk 220 [(0,.own 0 3 (0) p0),(1,I p1),(2,I p2),(3,I p3),(4,Qhc)],[Qfj p4,Qdb]⟩) (fun t h=>?_) fun k4 h=>?_
  ·refine bnq h fun x5 hl6 h=>wx tbk [(3,rp [(.tmp 131,I (w64 (p1+p3)))] (K .u64 (IntKind.wrap .u64 (w64 (p1+p3))))),(4,rp [(.tmp 132,K .u64 (IntKind.wrap .u64 (w64 (p1+p3)))),(.const (.int .u64 1),K .u64 (1))] (K .u64 ((IntKind.wrap .u64 (w64 (p1+p3)))/2))),(5,rp [(.tmp 133,K .u64 ((IntKind.wrap .u64 (w64 (p1+p3)))/2))] (I (w64 ((IntKind.wrap .u64 (w64 (p1+p3)))/2)))),(6,rp [(.tmp 134,I (w64 ((IntKind.wrap .u64 (w64 (p1+p3)))/2)))] (I x5))] ⟨acv rfl (by rw[Xce];rfl) Xdh,Quw rfl (by decide) (by decide),acv rfl (by rw[Xdh];rfl) Xce,Qhz hl6 (aas rfl),tv⟩<|wxz<|wxz<|wjq h (fun ⟨y7,y8⟩=>⟨mk 220 [(0,.own 0 3 (0) p0),(1,I p1),(2,I p2),(3,I p3),(4,Qhc),(18,I x5),(19,I (w64 (x5+p2))),(20,I y7),(21,I y8)],[Qfj p4,Qdb]⟩) (fun t h=>?_) fun k9 h=>?_
   ·obtain⟨y7,y8⟩:=t
    refine bnq h fun x10 hl11 h=>wx tbk [(2,rp [(.tmp 148,I (w64 ((w64 (x5+p2))-1)))] (I x10))] ⟨Qhz hl11 (aas rfl),tv⟩<|wjq h (fun y12=>⟨mk 220 [(0,.own 0 3 (0) p0),(1,I p1),(2,I p2),(3,I p3),(4,Qhc),(18,I x5),(19,I (w64 (x5+p2))),(20,I y12)],[Qfj p4,Qdb]⟩) (fun y12 h=>?_) fun k13 h=>?_
    ·refine bnq h fun x14 hl15 h=>wx tbk [(3,rp [(.tmp 177,I (w64 ((w64 (x5+p2))-y12)))] (I x14))] ⟨Qhz hl15 (aas rfl),tv⟩<|wjq h (fun y16=>⟨mk 220 [(0,.own 0 3 (0) p0),(1,I p1),(3,I p3),(4,Qhc),(18,I x5),(20,I y12),(24,I x14)],[.own 3 (y16.map Qak),Qdb]⟩) (fun y16 h=>?_) fun k17 h=>?_
     ·refine wjq h (fun y18=>⟨mk 220 [(0,.own 0 3 (0) p0),(3,I p3),(4,Qhc),(18,I x5),(24,I x14)],[Qr5 y18,Qdb]⟩) (fun y18 h=>?_) fun k19 h=>?_
      ·refine bfe h (fun hb20 h=>?_) fun hb20 h=>?_
       ·refine wx tbk [(3,rp [(.tmp 208,B (decide (x5<x14)))] (B true))] ⟨asb hb20 (amv rfl),tv⟩<|bfq h (fun c21 h=>?_) fun c21 h=>?_
        ·refine bnq h fun x23 f22 h=>wx1 tbk [(5,⟨_,_,_,_,false⟩)] ⟨acq [.own 0 3 (0) p0,I x5,I x14,I p3,Qhc] [Qr5 y18,Qdb] [.own 3 (x23.map Qak),Qdb] (.tup []) [0,1] Q3d (ihX p0 x5 x14 p3 y18 _ f22) (Qct (rnc (Qdf rfl) (rncc (rnc pli (rnc (Qby rn0 (rnc (Qa2 rfl) rn0)) rn0))))) (slc (Qa5 Qap) (sfn Qai)) (slc (Qa5 Qap) (sfn Qai)) pli,tv⟩ ?_
         obtain rfl:=osi h
         exact⟨_,mto (n:=220) (l':=[]) (own':=[.own 3 (x23.map Qak),Qdb]) [] [0,1] [.own 3 (x23.map Qak),Qdb] hq pn (qc (spr Qap) (qbi qn)),fio [] tv⟩
        refine Qah ?_
        obtain rfl:=osi h
        exact⟨_,mto (n:=220) (l':=[]) (own':=[Qr5 y18,Qdb]) [] [0,1] [Qr5 y18,Qdb] hq pn (qc (spr Qap) (qbi qn)),fio [] tv⟩
       refine wx tbk [(3,rp [(.tmp 208,B (decide (x5<x14)))] (B false))] ⟨asb hb20 (amv rfl),tv⟩<|wfa<|Qah ?_
       obtain rfl:=osi h
       exact⟨_,mto (n:=220) (l':=[]) (own':=[Qr5 y18,Qdb]) [] [0,1] [Qr5 y18,Qdb] hq pn (qc (spr Qap) (qbi qn)),fio [] tv⟩
      refine bfe h (fun hb24 h=>?_) fun hb24 h=>?_
      ·refine wx tbk [(3,rp [(.tmp 194,B (decide (p1<y12)))] (B true))] ⟨asb hb24 (amv rfl),tv⟩<|bfq h (fun c25 h=>?_) fun c25 h=>?_
       ·refine bnq h fun x27 f26 h=>wx1 tbk [(5,⟨_,_,_,_,false⟩)] ⟨acq [.own 0 3 (0) p0,I p1,I y12,I x5,Qhc] [.own 3 (y16.map Qak),Qdb] [.own 3 (x27.map Qak),Qdb] (.tup []) [0,1] Q3d (ihX p0 p1 y12 x5 y16 _ f26) (Qct (rnc (Qdf rfl) (rncc (rnc pli (rnc (Qby rn0 (rnc (Qa2 rfl) rn0)) rn0))))) (slc (Qa5 Qap) (sfn Qai)) (slc (Qa5 Qap) (sfn Qai)) pli,tv⟩<|thn ?_
        exact⟨x27,h,mto (n:=220) [(0,.own 0 3 (0) p0),(3,I p3),(4,Qhc),(18,I x5),(24,I x14)] [0,1] [.own 3 (x27.map Qak),Qdb] hq (pc (.rn (Qas rfl)) (pw (pc (.rn (Qby rn0 (rnc (rqr rfl) rn0))) (pw (pw pn))))) (qc (spr Qap) (qbi qn))⟩
       exact Qah<|thn<|⟨y16,h,mto (n:=220) [(0,.own 0 3 (0) p0),(3,I p3),(4,Qhc),(18,I x5),(24,I x14)] [0,1] [.own 3 (y16.map Qak),Qdb] hq (pc (.rn (Qas rfl)) (pw (pc (.rn (Qby rn0 (rnc (rqr rfl) rn0))) (pw (pw pn))))) (qc (spr Qap) (qbi qn))⟩
      exact wx tbk [(3,rp [(.tmp 194,B (decide (p1<y12)))] (B false))] ⟨asb hb24 (amv rfl),tv⟩<|wfa<|Qah<|thn<|⟨y16,h,mto (n:=220) [(0,.own 0 3 (0) p0),(3,I p3),(4,Qhc),(18,I x5),(24,I x14)] [0,1] [.own 3 (y16.map Qak),Qdb] hq (pc (.rn (Qas rfl)) (pw (pc (.rn (Qby rn0 (rnc (rqr rfl) rn0))) (pw (pw pn))))) (qc (spr Qap) (qbi qn))⟩
     refine bfe h (fun hb28 h=>?_) fun hb28 h=>?_
     ·refine wx tbk [(3,rp [(.tmp 180,B (decide (y12<p2)))] (B true))] ⟨asb hb28 (amv rfl),tv⟩<|bfq h (fun c29 h=>?_) fun c29 h=>?_
      ·refine bnq h fun x31 f30 h=>wx1 tbk [(5,⟨_,_,_,_,false⟩)] ⟨acq [.own 0 3 (0) p0,I y12,I p2,I x14,Qhc] [Qfj p4,Qdb] [.own 3 (x31.map Qak),Qdb] (.tup []) [0,1] Znm (Qkv N p0 y12 p2 x14 p4 _ f30) (Qct (rnc (Qdf rfl) (rncc (rnc pli (rnc (Qby rn0 (rnc (Qa2 rfl) rn0)) rn0))))) (slc (Qa5 Qap) (sfn Qai)) (slc (Qa5 Qap) (sfn Qai)) pli,tv⟩<|thn ?_
       exact⟨x31,h,mto (n:=220) [(0,.own 0 3 (0) p0),(1,I p1),(3,I p3),(4,Qhc),(18,I x5),(20,I y12),(24,I x14)] [0,1] [.own 3 (x31.map Qak),Qdb] hq (pc (.rn (Qas rfl)) (pw (pw (pc (.rn (Qby rn0 (rnc (rqr rfl) rn0))) (pw (pw (pw pn))))))) (qc (spr Qap) (qbi qn))⟩
      exact Qah<|thn<|⟨p4,h,mto (n:=220) [(0,.own 0 3 (0) p0),(1,I p1),(3,I p3),(4,Qhc),(18,I x5),(20,I y12),(24,I x14)] [0,1] [Qfj p4,Qdb] hq (pc (.rn (Qas rfl)) (pw (pw (pc (.rn (Qby rn0 (rnc (rqr rfl) rn0))) (pw (pw (pw pn))))))) (qc (spr Qap) (qbi qn))⟩
     exact wx tbk [(3,rp [(.tmp 180,B (decide (y12<p2)))] (B false))] ⟨asb hb28 (amv rfl),tv⟩<|wfa<|Qah<|thn<|⟨p4,h,mto (n:=220) [(0,.own 0 3 (0) p0),(1,I p1),(3,I p3),(4,Qhc),(18,I x5),(20,I y12),(24,I x14)] [0,1] [Qfj p4,Qdb] hq (pc (.rn (Qas rfl)) (pw (pw (pc (.rn (Qby rn0 (rnc (rqr rfl) rn0))) (pw (pw (pw pn))))))) (qc (spr Qap) (qbi qn))⟩
    refine Qaf<|wmr (mto (n:=220) (l':=[(0,.own 0 3 (0) p0),(1,I p1),(2,I p2),(3,I p3),(4,Qhc),(18,I x5),(19,I (w64 (x5+p2))),(20,I y7),(21,I y8),(22,I x10)]) (own':=[Qfj p4,Qdb]) [(0,.own 0 3 (0) p0),(1,I p1),(2,I p2),(3,I p3),(4,Qhc),(18,I x5),(19,I (w64 (x5+p2))),(20,I y7),(21,I y8),(22,I x10)] [0,1] [Qfj p4,Qdb] hq (pc (.rn (Qas rfl)) (pw (pw (pw (pc (.rn (Qby rn0 (rnc (rqr rfl) rn0))) (pw (pw (pw (pw (pw pn)))))))))) (qc (spr Qap) (qbi qn))) ?_
    refine Qbf (τ:=Int×Int) (fun n t=>slices_symMergeCmpFunc_inject_offerX_1_loop1 N p0 p4 x10 k13 n t.1 t.2=some r) (fun ⟨y32,y33⟩=>⟨mk 220 [(0,.own 0 3 (0) p0),(1,I p1),(2,I p2),(3,I p3),(4,Qhc),(18,I x5),(19,I (w64 (x5+p2))),(20,I y32),(21,I y33),(22,I x10)],[Qfj p4,Qdb]⟩) (fun t h=>by rw[slices_symMergeCmpFunc_inject_offerX_1_loop1] at h;cases h) (fun n36 ih t h=>?_) N (y7,y8) h
    obtain⟨y32,y33⟩:=t
    rw[slices_symMergeCmpFunc_inject_offerX_1_loop1] at h
    refine wsq<|wxz<|bfq h (fun c37 h=>?_) fun c37 h=>?_
    ·refine Qah<|thn<|Qaf ?_
     refine bnq h fun x38 hl39 h=>wx tbk [(3,rp [(.tmp 154,I (w64 (y32+y33)))] (K .u64 (IntKind.wrap .u64 (w64 (y32+y33))))),(4,rp [(.tmp 155,K .u64 (IntKind.wrap .u64 (w64 (y32+y33)))),(.const (.int .u64 1),K .u64 (1))] (K .u64 ((IntKind.wrap .u64 (w64 (y32+y33)))/2))),(5,rp [(.tmp 156,K .u64 ((IntKind.wrap .u64 (w64 (y32+y33)))/2))] (I (w64 ((IntKind.wrap .u64 (w64 (y32+y33)))/2)))),(6,rp [(.tmp 157,I (w64 ((IntKind.wrap .u64 (w64 (y32+y33)))/2)))] (I x38))] ⟨acv rfl (by rw[Xce];rfl) Xdh,Quw rfl (by decide) (by decide),acv rfl (by rw[Xdh];rfl) Xce,Qhz hl39 (aas rfl),tv⟩<|ckq h fun i40 h=>?_
     obtain⟨hi40a,hi40b⟩:=Qb6 i40
     refine bnq h fun x41 g42 h=>ckq h fun i43 h=>?_
     obtain⟨hi43a,hi43b⟩:=Qb6 i43
     refine bnq h fun x44 g45 h=>bnq h fun x47 f46 h=>wxd tbk [(5,rb [(.tmp 159,.own 0 3 (0) p0),(.tmp 162,I (w64 (x10-x38)))] [(0,Qfj p4)] (.ref 0 3 ((w64 (x10-x38)).toNat) 0)),(6,rb [(.tmp 163,.ref 0 3 ((w64 (x10-x38)).toNat) 0)] [(0,Qfj p4)] (Zlm x41)),(9,rb [(.tmp 165,.own 0 3 (0) p0),(.tmp 166,I x38)] [(0,Qfj p4)] (.ref 0 3 x38.toNat 0)),(10,rb [(.tmp 167,.ref 0 3 x38.toNat 0)] [(0,Qfj p4)] (Zll x44)),(11,⟨_,_,_,_,false⟩)] ⟨aio rfl Xa0 Qhf (odt hi40a) (odt hi40b) (Xar _),ald rfl Qhf (by decide) (mgt Qak g42) (nle rfl) rfl,aio rfl Xa0 Qhf (odt hi43a) (odt hi43b) (Xar _),ald rfl Qhf (by decide) (mgt Qak g45) (nle rfl) rfl,Qd5 (first:=[]) (cap:=[.ref 1 1 0 0]) (vs:=[.agg [I ((⟨(⟨x41.Stair.Amount,x41.Stair.Price⟩:Qay),x41.inlet⟩:Qae).Stair.Amount),I ((⟨(⟨x41.Stair.Amount,x41.Stair.Price⟩:Qay),x41.inlet⟩:Qae).Stair.Price),I ((⟨(⟨x41.Stair.Amount,x41.Stair.Price⟩:Qay),x41.inlet⟩:Qae).inlet)],.agg [I ((⟨(⟨x44.Stair.Amount,x44.Stair.Price⟩:Qay),x44.inlet⟩:Qae).Stair.Amount),I ((⟨(⟨x44.Stair.Amount,x44.Stair.Price⟩:Qay),x44.inlet⟩:Qae).Stair.Price),I ((⟨(⟨x44.Stair.Amount,x44.Stair.Price⟩:Qay),x44.inlet⟩:Qae).inlet)]]) (σr:=[Qdb]) (σr':=[Qdb]) (res':=(I x47)) [1] rfl Q3f (Qfc N (⟨(⟨x41.Stair.Amount,x41.Stair.Price⟩:Qay),x41.inlet⟩:Qae) (⟨(⟨x44.Stair.Amount,x44.Stair.Price⟩:Qay),x44.inlet⟩:Qae) _ f46) rfl (Qct (rnc pli (rnc pli (rnc (Qa2 rfl) rn0)))) (sfn Qai) (sfn Qai) pli rfl rfl rfl,tv⟩<|bfq h (fun c48 h=>?_) fun c48 h=>?_
     ·exact wxz1<|bln<|thn<|arm (mto (n:=220) [(0,.own 0 3 (0) p0),(1,I p1),(2,I p2),(3,I p3),(4,Qhc),(18,I x5),(19,I (w64 (x5+p2))),(20,I (w64 (x38+1))),(21,I y33),(22,I x10)] [0,1] [Qfj p4,Qdb] hq (pc (.rn (Qas rfl)) (pw (pw (pw (pc (.rn (Qby rn0 (rnc (rqr rfl) rn0))) (pw (pw (pw (pw (pw pn)))))))))) (qc (spr Qap) (qbi qn))) (ih (w64 (x38+1),y33) h)
     exact wxz1<|bln<|thn<|arm (mto (n:=220) [(0,.own 0 3 (0) p0),(1,I p1),(2,I p2),(3,I p3),(4,Qhc),(18,I x5),(19,I (w64 (x5+p2))),(20,I y32),(21,I x38),(22,I x10)] [0,1] [Qfj p4,Qdb] hq (pc (.rn (Qas rfl)) (pw (pw (pw (pc (.rn (Qby rn0 (rnc (rqr rfl) rn0))) (pw (pw (pw (pw (pw pn)))))))))) (qc (spr Qap) (qbi qn))) (ih (y32,x38) h)
    exact Qax<|Qan<|Qan<|Qaw rfl<|thn<|⟨y32,h,mto (n:=220) [(0,.own 0 3 (0) p0),(1,I p1),(2,I p2),(3,I p3),(4,Qhc),(18,I x5),(19,I (w64 (x5+p2))),(20,I y32)] [0,1] [Qfj p4,Qdb] hq (pc (.rn (Qas rfl)) (pw (pw (pw (pc (.rn (Qby rn0 (rnc (rqr rfl) rn0))) (pw (pw (pw pn)))))))) (qc (spr Qap) (qbi qn))⟩
   refine wxz<|bfq h (fun c49 h=>?_) fun c49 h=>?_
   ·exact bnq h fun x50 hl51 h=>wx tbk [(3,rp [(.tmp 143,I (w64 ((w64 (x5+p2))-p3)))] (I x50))] ⟨Qhz hl51 (aas rfl),tv⟩<|wxz1<|thn<|⟨(x50,x5),h,mto (n:=220) [(0,.own 0 3 (0) p0),(1,I p1),(2,I p2),(3,I p3),(4,Qhc),(18,I x5),(19,I (w64 (x5+p2))),(20,I x50),(21,I x5)] [0,1] [Qfj p4,Qdb] hq (pc (.rn (Qas rfl)) (pw (pw (pw (pc (.rn (Qby rn0 (rnc (rqr rfl) rn0))) (pw (pw (pw (pw pn))))))))) (qc (spr Qap) (qbi qn))⟩
   exact wxz<|wxz1<|thn<|⟨(p1,p2),h,mto (n:=220) [(0,.own 0 3 (0) p0),(1,I p1),(2,I p2),(3,I p3),(4,Qhc),(18,I x5),(19,I (w64 (x5+p2))),(20,I p1),(21,I p2)] [0,1] [Qfj p4,Qdb] hq (pc (.rn (Qas rfl)) (pw (pw (pw (pc (.rn (Qby rn0 (rnc (rqr rfl) rn0))) (pw (pw (pw (pw pn))))))))) (qc (spr Qap) (qbi qn))⟩
  refine wxz<|bfq h (fun c52 h=>?_) fun c52 h=>?_
  ·refine wxz<|wxz<|wjq h (fun y53=>⟨mk 220 [(0,.own 0 3 (0) p0),(2,I p2),(14,I y53)],[Qfj p4,Qdb]⟩) (fun y53 h=>?_) fun k54 h=>?_
   ·refine wjq h (fun y55=>⟨mk 220 [],[.own 3 (y55.map Qak),Qdb]⟩) (fun y55 h=>?_) fun k56 h=>?_
    ·refine wmr (mto (n:=220) (l':=[]) (own':=[.own 3 (y55.map Qak),Qdb]) [] [0,1] [.own 3 (y55.map Qak),Qdb] hq pn (qc (spr Qap) (qbi qn)))<|Qad<|Qac ?_
     obtain rfl:=osi h
     exact⟨_,Mor.rfl,fio [] tv⟩
    refine wxz<|Qaf ?_
    refine wmr (mto (n:=220) (l':=[(0,.own 0 3 (0) p0),(14,I y53),(17,I p2)]) (own':=[Qfj p4,Qdb]) [(0,.own 0 3 (0) p0),(14,I y53),(17,I p2)] [0,1] [Qfj p4,Qdb] hq (pc (.rn (Qas rfl)) (pw (pw pn))) (qc (spr Qap) (qbi qn))) ?_
    refine Qbf (τ:=Int×(List Qae)) (fun n t=>Qbx N p0 y53 k56 n t.1 t.2=some r) (fun ⟨y57,y58⟩=>⟨mk 220 [(0,.own 0 3 (0) p0),(14,I y53),(17,I y57)],[Qpg y58,Qdb]⟩) (fun t h=>by rw[Qbx] at h;cases h) (fun n61 ih t h=>?_) N (p2,p4) h
    obtain⟨y57,y58⟩:=t
    rw[Qbx] at h
    refine wsq<|wxz<|bfq h (fun c62 h=>?_) fun c62 h=>?_
    ·refine Qah<|thn<|wsq<|Qaf ?_
     refine ckq h fun i63 h=>?_
     obtain⟨hi63a,hi63b⟩:=Qb6 i63
     refine bnq h fun x64 g65 h=>ckq h fun i66 h=>?_
     obtain⟨hi66a,hi66b⟩:=Qb6 i66
     refine bnq h fun x67 g68 h=>ckq h fun i69 h=>?_
     obtain⟨hi69a,hi69b⟩:=Qb6 i69
     refine bnq h fun x70 g71 h=>ckq h fun i72 h=>?_
     obtain⟨hi72a,hi72b⟩:=Qb6 i72
     exact bnq h fun x73 g74 h=>wy1 tbk [(8,rb [(.tmp 118,.own 0 3 (0) p0),(.tmp 120,I (w64 (y57-1)))] [(0,Qpg y58)] (.ref 0 3 ((w64 (y57-1)).toNat) 0)),(9,rb [(.tmp 121,.ref 0 3 ((w64 (y57-1)).toNat) 0)] [(0,Qpg y58)] (Zaf x64)),(12,rb [(.tmp 123,.own 0 3 (0) p0),(.tmp 124,I y57)] [(0,Qpg y58)] (.ref 0 3 y57.toNat 0)),(13,rb [(.tmp 125,.ref 0 3 y57.toNat 0)] [(0,Qpg y58)] (Zad x67)),(14,rb [(.tmp 113,.own 0 3 (0) p0),(.tmp 114,I y57)] [(0,Qpg y58)] (.ref 0 3 y57.toNat 0)),(15,⟨[(.tmp 127,.ref 0 3 y57.toNat 0),(.tmp 122,Zaf x64)],[(0,Qpg y58)],.any,[(0,Q16 y58 y57 x64)],false⟩),(16,rb [(.tmp 115,.own 0 3 (0) p0),(.tmp 117,I (w64 (y57-1)))] [(0,Q16 y58 y57 x64)] (.ref 0 3 ((w64 (y57-1)).toNat) 0)),(17,⟨[(.tmp 128,.ref 0 3 ((w64 (y57-1)).toNat) 0),(.tmp 126,Zad x67)],[(0,Q16 y58 y57 x64)],.any,[(0,Zac y58 y57 x64 x67)],false⟩)] ⟨aio rfl Xa0 Qhf (odt hi63a) (odt hi63b) (Xar _),ald rfl Qhf (by decide) (mgt Qak g65) (nle rfl) rfl,aio rfl Xa0 Qhf (odt hi66a) (odt hi66b) (Xar _),ald rfl Qhf (by decide) (mgt Qak g68) (nle rfl) rfl,aio rfl Xa0 Qhf (odt hi69a) (odt hi69b) (Xar _),ast rfl Qhf (by rfl) (mgt Qak g71) (nle rfl) (Qhv Qak rfl),aio rfl Xa0 Qhf (odt hi72a) (odt hi72b) (Xar _),ast rfl Qhf (by rfl) (mgt Qak g74) (nle rfl) (Qhv Qak rfl),tv⟩<|bln<|thn<|wxz1<|thn<|arm (mto (n:=220) [(0,.own 0 3 (0) p0),(14,I y53),(17,I (w64 (y57-1)))] [0,1] [Zac y58 y57 x64 x67,Qdb] hq (pc (.rn (Qas rfl)) (pw (pw pn))) (qc (spr Qap) (qbi qn))) (ih (w64 (y57-1),(y58.set y57.toNat (⟨(⟨x64.Stair.Amount,x64.Stair.Price⟩:Qay),x64.inlet⟩:Qae)).set ((w64 (y57-1)).toNat) (⟨(⟨x67.Stair.Amount,x67.Stair.Price⟩:Qay),x67.inlet⟩:Qae)) h)
    exact Qax<|Qan<|Qan<|Qaw rfl<|thn<|⟨y58,h,mto (n:=220) [] [0,1] [Qpg y58,Qdb] hq pn (qc (spr Qap) (qbi qn))⟩
   refine Qaf<|wmr (mto (n:=220) (l':=[(0,.own 0 3 (0) p0),(2,I p2),(4,Qhc),(14,I p1),(15,I p2)]) (own':=[Qfj p4,Qdb]) [(0,.own 0 3 (0) p0),(2,I p2),(4,Qhc),(14,I p1),(15,I p2)] [0,1] [Qfj p4,Qdb] hq (pc (.rn (Qas rfl)) (pw (pc (.rn (Qby rn0 (rnc (rqr rfl) rn0))) (pw (pw pn))))) (qc (spr Qap) (qbi qn))) ?_
   refine Qbf (τ:=Int×Int) (fun n t=>slices_symMergeCmpFunc_inject_offerX_1_loop3 N p0 p2 p4 k54 n t.1 t.2=some r) (fun ⟨y75,y76⟩=>⟨mk 220 [(0,.own 0 3 (0) p0),(2,I p2),(4,Qhc),(14,I y75),(15,I y76)],[Qfj p4,Qdb]⟩) (fun t h=>by rw[slices_symMergeCmpFunc_inject_offerX_1_loop3] at h;cases h) (fun n79 ih t h=>?_) N (p1,p2) h
   obtain⟨y75,y76⟩:=t
   rw[slices_symMergeCmpFunc_inject_offerX_1_loop3] at h
   refine wsq<|wxz<|bfq h (fun c80 h=>?_) fun c80 h=>?_
   ·refine Qah<|thn<|Qaf ?_
    refine bnq h fun x81 hl82 h=>wx tbk [(3,rp [(.tmp 88,I (w64 (y75+y76)))] (K .u64 (IntKind.wrap .u64 (w64 (y75+y76))))),(4,rp [(.tmp 89,K .u64 (IntKind.wrap .u64 (w64 (y75+y76)))),(.const (.int .u64 1),K .u64 (1))] (K .u64 ((IntKind.wrap .u64 (w64 (y75+y76)))/2))),(5,rp [(.tmp 90,K .u64 ((IntKind.wrap .u64 (w64 (y75+y76)))/2))] (I (w64 ((IntKind.wrap .u64 (w64 (y75+y76)))/2)))),(6,rp [(.tmp 91,I (w64 ((IntKind.wrap .u64 (w64 (y75+y76)))/2)))] (I x81))] ⟨acv rfl (by rw[Xce];rfl) Xdh,Quw rfl (by decide) (by decide),acv rfl (by rw[Xdh];rfl) Xce,Qhz hl82 (aas rfl),tv⟩<|ckq h fun i83 h=>?_
    obtain⟨hi83a,hi83b⟩:=Qb6 i83
    refine bnq h fun x84 g85 h=>ckq h fun i86 h=>?_
    obtain⟨hi86a,hi86b⟩:=Qb6 i86
    refine bnq h fun x87 g88 h=>bnq h fun x90 f89 h=>wxd tbk [(3,rb [(.tmp 93,.own 0 3 (0) p0),(.tmp 94,I p2)] [(0,Qfj p4)] (.ref 0 3 p2.toNat 0)),(4,rb [(.tmp 95,.ref 0 3 p2.toNat 0)] [(0,Qfj p4)] (Zlk x84)),(7,rb [(.tmp 97,.own 0 3 (0) p0),(.tmp 98,I x81)] [(0,Qfj p4)] (.ref 0 3 x81.toNat 0)),(8,rb [(.tmp 99,.ref 0 3 x81.toNat 0)] [(0,Qfj p4)] (Zlj x87)),(9,⟨_,_,_,_,false⟩)] ⟨aio rfl Xa0 Qhf (odt hi83a) (odt hi83b) (Xar _),ald rfl Qhf (by decide) (mgt Qak g85) (nle rfl) rfl,aio rfl Xa0 Qhf (odt hi86a) (odt hi86b) (Xar _),ald rfl Qhf (by decide) (mgt Qak g88) (nle rfl) rfl,Qd5 (first:=[]) (cap:=[.ref 1 1 0 0]) (vs:=[.agg [I ((⟨(⟨x84.Stair.Amount,x84.Stair.Price⟩:Qay),x84.inlet⟩:Qae).Stair.Amount),I ((⟨(⟨x84.Stair.Amount,x84.Stair.Price⟩:Qay),x84.inlet⟩:Qae).Stair.Price),I ((⟨(⟨x84.Stair.Amount,x84.Stair.Price⟩:Qay),x84.inlet⟩:Qae).inlet)],.agg [I ((⟨(⟨x87.Stair.Amount,x87.Stair.Price⟩:Qay),x87.inlet⟩:Qae).Stair.Amount),I ((⟨(⟨x87.Stair.Amount,x87.Stair.Price⟩:Qay),x87.inlet⟩:Qae).Stair.Price),I ((⟨(⟨x87.Stair.Amount,x87.Stair.Price⟩:Qay),x87.inlet⟩:Qae).inlet)]]) (σr:=[Qdb]) (σr':=[Qdb]) (res':=(I x90)) [1] rfl Q3f (Qfc N (⟨(⟨x84.Stair.Amount,x84.Stair.Price⟩:Qay),x84.inlet⟩:Qae) (⟨(⟨x87.Stair.Amount,x87.Stair.Price⟩:Qay),x87.inlet⟩:Qae) _ f89) rfl (Qct (rnc pli (rnc pli (rnc (Qa2 rfl) rn0)))) (sfn Qai) (sfn Qai) pli rfl rfl rfl,tv⟩<|bfq h (fun c91 h=>?_) fun c91 h=>?_
    ·exact wxz1<|bln<|thn<|arm (mto (n:=220) [(0,.own 0 3 (0) p0),(2,I p2),(4,Qhc),(14,I (w64 (x81+1))),(15,I y76)] [0,1] [Qfj p4,Qdb] hq (pc (.rn (Qas rfl)) (pw (pc (.rn (Qby rn0 (rnc (rqr rfl) rn0))) (pw (pw pn))))) (qc (spr Qap) (qbi qn))) (ih (w64 (x81+1),y76) h)
    exact wxz1<|bln<|thn<|arm (mto (n:=220) [(0,.own 0 3 (0) p0),(2,I p2),(4,Qhc),(14,I y75),(15,I x81)] [0,1] [Qfj p4,Qdb] hq (pc (.rn (Qas rfl)) (pw (pc (.rn (Qby rn0 (rnc (rqr rfl) rn0))) (pw (pw pn))))) (qc (spr Qap) (qbi qn))) (ih (y75,x81) h)
   exact Qax<|Qan<|Qan<|Qaw rfl<|thn<|⟨y75,h,mto (n:=220) [(0,.own 0 3 (0) p0),(2,I p2),(14,I y75)] [0,1] [Qfj p4,Qdb] hq (pc (.rn (Qas rfl)) (pw (pw pn))) (qc (spr Qap) (qbi qn))⟩
  exact Qah<|thn<|⟨(),h,mto (n:=220) [(0,.own 0 3 (0) p0),(1,I p1),(2,I p2),(3,I p3),(4,Qhc)] [0,1] [Qfj p4,Qdb] hq (pc (.rn (Qas rfl)) (pw (pw (pw (pc (.rn (Qby rn0 (rnc (rqr rfl) rn0))) pn))))) (qc (spr Qap) (qbi qn))⟩
 refine wxz<|bfq h (fun c92 h=>?_) fun c92 h=>?_
 ·refine wxz<|wxz<|wjq h (fun y93=>⟨mk 220 [(0,.own 0 3 (0) p0),(1,I p1),(10,I y93)],[Qfj p4,Qdb]⟩) (fun y93 h=>?_) fun k94 h=>?_
  ·refine wjq h (fun y95=>⟨mk 220 [],[.own 3 (y95.map Qak),Qdb]⟩) (fun y95 h=>?_) fun k96 h=>?_
   ·refine wmr (mto (n:=220) (l':=[]) (own':=[.own 3 (y95.map Qak),Qdb]) [] [0,1] [.own 3 (y95.map Qak),Qdb] hq pn (qc (spr Qap) (qbi qn)))<|Qad<|Qac ?_
    obtain rfl:=osi h
    exact⟨_,Mor.rfl,fio [] tv⟩
   refine wxz<|Qaf ?_
   refine wmr (mto (n:=220) (l':=[(0,.own 0 3 (0) p0),(10,I y93),(13,I p1)]) (own':=[Qfj p4,Qdb]) [(0,.own 0 3 (0) p0),(10,I y93),(13,I p1)] [0,1] [Qfj p4,Qdb] hq (pc (.rn (Qas rfl)) (pw (pw pn))) (qc (spr Qap) (qbi qn))) ?_
   refine Qbf (τ:=Int×(List Qae)) (fun n t=>Qbw N p0 y93 k96 n t.1 t.2=some r) (fun ⟨y97,y98⟩=>⟨mk 220 [(0,.own 0 3 (0) p0),(10,I y93),(13,I y97)],[Qpf y98,Qdb]⟩) (fun t h=>by rw[Qbw] at h;cases h) (fun n101 ih t h=>?_) N (p1,p4) h
   obtain⟨y97,y98⟩:=t
   rw[Qbw] at h
   refine wsq<|wxz<|bfq h (fun c102 h=>?_) fun c102 h=>?_
   ·refine Qah<|thn<|wsq<|Qaf ?_
    refine ckq h fun i103 h=>?_
    obtain⟨hi103a,hi103b⟩:=Qb6 i103
    refine bnq h fun x104 g105 h=>ckq h fun i106 h=>?_
    obtain⟨hi106a,hi106b⟩:=Qb6 i106
    refine bnq h fun x107 g108 h=>ckq h fun i109 h=>?_
    obtain⟨hi109a,hi109b⟩:=Qb6 i109
    refine bnq h fun x110 g111 h=>ckq h fun i112 h=>?_
    obtain⟨hi112a,hi112b⟩:=Qb6 i112
    exact bnq h fun x113 g114 h=>wy1 tbk [(8,rb [(.tmp 66,.own 0 3 (0) p0),(.tmp 68,I (w64 (y97+1)))] [(0,Qpf y98)] (.ref 0 3 ((w64 (y97+1)).toNat) 0)),(9,rb [(.tmp 69,.ref 0 3 ((w64 (y97+1)).toNat) 0)] [(0,Qpf y98)] (Zae x104)),(12,rb [(.tmp 71,.own 0 3 (0) p0),(.tmp 72,I y97)] [(0,Qpf y98)] (.ref 0 3 y97.toNat 0)),(13,rb [(.tmp 73,.ref 0 3 y97.toNat 0)] [(0,Qpf y98)] (Zab x107)),(14,rb [(.tmp 61,.own 0 3 (0) p0),(.tmp 62,I y97)] [(0,Qpf y98)] (.ref 0 3 y97.toNat 0)),(15,⟨[(.tmp 75,.ref 0 3 y97.toNat 0),(.tmp 70,Zae x104)],[(0,Qpf y98)],.any,[(0,Q15 y98 y97 x104)],false⟩),(16,rb [(.tmp 63,.own 0 3 (0) p0),(.tmp 65,I (w64 (y97+1)))] [(0,Q15 y98 y97 x104)] (.ref 0 3 ((w64 (y97+1)).toNat) 0)),(17,⟨[(.tmp 76,.ref 0 3 ((w64 (y97+1)).toNat) 0),(.tmp 74,Zab x107)],[(0,Q15 y98 y97 x104)],.any,[(0,Zaa y98 y97 x104 x107)],false⟩)] ⟨aio rfl Xa0 Qhf (odt hi103a) (odt hi103b) (Xar _),ald rfl Qhf (by decide) (mgt Qak g105) (nle rfl) rfl,aio rfl Xa0 Qhf (odt hi106a) (odt hi106b) (Xar _),ald rfl Qhf (by decide) (mgt Qak g108) (nle rfl) rfl,aio rfl Xa0 Qhf (odt hi109a) (odt hi109b) (Xar _),ast rfl Qhf (by rfl) (mgt Qak g111) (nle rfl) (Qhv Qak rfl),aio rfl Xa0 Qhf (odt hi112a) (odt hi112b) (Xar _),ast rfl Qhf (by rfl) (mgt Qak g114) (nle rfl) (Qhv Qak rfl),tv⟩<|bln<|thn<|wxz1<|thn<|arm (mto (n:=220) [(0,.own 0 3 (0) p0),(10,I y93),(13,I (w64 (y97+1)))] [0,1] [Zaa y98 y97 x104 x107,Qdb] hq (pc (.rn (Qas rfl)) (pw (pw pn))) (qc (spr Qap) (qbi qn))) (ih (w64 (y97+1),(y98.set y97.toNat (⟨(⟨x104.Stair.Amount,x104.Stair.Price⟩:Qay),x104.inlet⟩:Qae)).set ((w64 (y97+1)).toNat) (⟨(⟨x107.Stair.Amount,x107.Stair.Price⟩:Qay),x107.inlet⟩:Qae)) h)
   exact Qax<|Qan<|Qan<|Qaw rfl<|thn<|⟨y98,h,mto (n:=220) [] [0,1] [Qpf y98,Qdb] hq pn (qc (spr Qap) (qbi qn))⟩
  refine Qaf<|wmr (mto (n:=220) (l':=[(0,.own 0 3 (0) p0),(1,I p1),(4,Qhc),(10,I p2),(11,I p3)]) (own':=[Qfj p4,Qdb]) [(0,.own 0 3 (0) p0),(1,I p1),(4,Qhc),(10,I p2),(11,I p3)] [0,1] [Qfj p4,Qdb] hq (pc (.rn (Qas rfl)) (pw (pc (.rn (Qby rn0 (rnc (rqr rfl) rn0))) (pw (pw pn))))) (qc (spr Qap) (qbi qn))) ?_
  refine Qbf (τ:=Int×Int) (fun n t=>slices_symMergeCmpFunc_inject_offerX_1_loop5 N p0 p1 p4 k94 n t.1 t.2=some r) (fun ⟨y115,y116⟩=>⟨mk 220 [(0,.own 0 3 (0) p0),(1,I p1),(4,Qhc),(10,I y115),(11,I y116)],[Qfj p4,Qdb]⟩) (fun t h=>by rw[slices_symMergeCmpFunc_inject_offerX_1_loop5] at h;cases h) (fun n119 ih t h=>?_) N (p2,p3) h
  obtain⟨y115,y116⟩:=t
  rw[slices_symMergeCmpFunc_inject_offerX_1_loop5] at h
  refine wsq<|wxz<|bfq h (fun c120 h=>?_) fun c120 h=>?_
  ·refine Qah<|thn<|Qaf ?_
   refine bnq h fun x121 hl122 h=>wx tbk [(3,rp [(.tmp 36,I (w64 (y115+y116)))] (K .u64 (IntKind.wrap .u64 (w64 (y115+y116))))),(4,rp [(.tmp 37,K .u64 (IntKind.wrap .u64 (w64 (y115+y116)))),(.const (.int .u64 1),K .u64 (1))] (K .u64 ((IntKind.wrap .u64 (w64 (y115+y116)))/2))),(5,rp [(.tmp 38,K .u64 ((IntKind.wrap .u64 (w64 (y115+y116)))/2))] (I (w64 ((IntKind.wrap .u64 (w64 (y115+y116)))/2)))),(6,rp [(.tmp 39,I (w64 ((IntKind.wrap .u64 (w64 (y115+y116)))/2)))] (I x121))] ⟨acv rfl (by rw[Xce];rfl) Xdh,Quw rfl (by decide) (by decide),acv rfl (by rw[Xdh];rfl) Xce,Qhz hl122 (aas rfl),tv⟩<|ckq h fun i123 h=>?_
   obtain⟨hi123a,hi123b⟩:=Qb6 i123
   refine bnq h fun x124 g125 h=>ckq h fun i126 h=>?_
   obtain⟨hi126a,hi126b⟩:=Qb6 i126
   refine bnq h fun x127 g128 h=>bnq h fun x130 f129 h=>wxd tbk [(3,rb [(.tmp 41,.own 0 3 (0) p0),(.tmp 42,I x121)] [(0,Qfj p4)] (.ref 0 3 x121.toNat 0)),(4,rb [(.tmp 43,.ref 0 3 x121.toNat 0)] [(0,Qfj p4)] (Zli x124)),(7,rb [(.tmp 45,.own 0 3 (0) p0),(.tmp 46,I p1)] [(0,Qfj p4)] (.ref 0 3 p1.toNat 0)),(8,rb [(.tmp 47,.ref 0 3 p1.toNat 0)] [(0,Qfj p4)] (Zlh x127)),(9,⟨_,_,_,_,false⟩)] ⟨aio rfl Xa0 Qhf (odt hi123a) (odt hi123b) (Xar _),ald rfl Qhf (by decide) (mgt Qak g125) (nle rfl) rfl,aio rfl Xa0 Qhf (odt hi126a) (odt hi126b) (Xar _),ald rfl Qhf (by decide) (mgt Qak g128) (nle rfl) rfl,Qd5 (first:=[]) (cap:=[.ref 1 1 0 0]) (vs:=[.agg [I ((⟨(⟨x124.Stair.Amount,x124.Stair.Price⟩:Qay),x124.inlet⟩:Qae).Stair.Amount),I ((⟨(⟨x124.Stair.Amount,x124.Stair.Price⟩:Qay),x124.inlet⟩:Qae).Stair.Price),I ((⟨(⟨x124.Stair.Amount,x124.Stair.Price⟩:Qay),x124.inlet⟩:Qae).inlet)],.agg [I ((⟨(⟨x127.Stair.Amount,x127.Stair.Price⟩:Qay),x127.inlet⟩:Qae).Stair.Amount),I ((⟨(⟨x127.Stair.Amount,x127.Stair.Price⟩:Qay),x127.inlet⟩:Qae).Stair.Price),I ((⟨(⟨x127.Stair.Amount,x127.Stair.Price⟩:Qay),x127.inlet⟩:Qae).inlet)]]) (σr:=[Qdb]) (σr':=[Qdb]) (res':=(I x130)) [1] rfl Q3f (Qfc N (⟨(⟨x124.Stair.Amount,x124.Stair.Price⟩:Qay),x124.inlet⟩:Qae) (⟨(⟨x127.Stair.Amount,x127.Stair.Price⟩:Qay),x127.inlet⟩:Qae) _ f129) rfl (Qct (rnc pli (rnc pli (rnc (Qa2 rfl) rn0)))) (sfn Qai) (sfn Qai) pli rfl rfl rfl,tv⟩<|bfq h (fun c131 h=>?_) fun c131 h=>?_
   ·exact wxz1<|bln<|thn<|arm (mto (n:=220) [(0,.own 0 3 (0) p0),(1,I p1),(4,Qhc),(10,I (w64 (x121+1))),(11,I y116)] [0,1] [Qfj p4,Qdb] hq (pc (.rn (Qas rfl)) (pw (pc (.rn (Qby rn0 (rnc (rqr rfl) rn0))) (pw (pw pn))))) (qc (spr Qap) (qbi qn))) (ih (w64 (x121+1),y116) h)
   exact wxz1<|bln<|thn<|arm (mto (n:=220) [(0,.own 0 3 (0) p0),(1,I p1),(4,Qhc),(10,I y115),(11,I x121)] [0,1] [Qfj p4,Qdb] hq (pc (.rn (Qas rfl)) (pw (pc (.rn (Qby rn0 (rnc (rqr rfl) rn0))) (pw (pw pn))))) (qc (spr Qap) (qbi qn))) (ih (y115,x121) h)
  exact Qax<|Qan<|Qan<|Qaw rfl<|thn<|⟨y115,h,mto (n:=220) [(0,.own 0 3 (0) p0),(1,I p1),(10,I y115)] [0,1] [Qfj p4,Qdb] hq (pc (.rn (Qas rfl)) (pw (pw pn))) (qc (spr Qap) (qbi qn))⟩
 exact Qah<|thn<|⟨(),h,mto (n:=220) [(0,.own 0 3 (0) p0),(1,I p1),(2,I p2),(3,I p3),(4,Qhc)] [0,1] [Qfj p4,Qdb] hq (pc (.rn (Qas rfl)) (pw (pw (pw (pc (.rn (Qby rn0 (rnc (rqr rfl) rn0))) pn))))) (qc (spr Qap) (qbi qn))⟩
def Qb5 (N p0:Nat) (p1 y7:Int) (k15:Int×(List Qae)->Option (List Qae)):Nat->Int->Int->(List Qae)->Option (List Qae)
 |0,_,_,_=>none
 |n25+1,y19,y20,y21=>bif decide (y20<=p1) then (Qbb N p0 y19 (w64 (y19+y7)) y20 y21).bind fun x28=>(some (w64 (y20+(w64 (2*y7))))).bind fun x29=>Qb5 N p0 p1 y7 k15 n25 y20 x29 x28 else k15 (y19,y21)
def Qaz (N p0:Nat) (p1:Int):Nat->Int->(List Qae)->Option (List Qae)
 |0,_,_=>none
 |n11+1,y7,y8=>bif decide (y7<p1) then Qb0 (fun ⟨y13,y14⟩=>bif decide ((w64 (y13+y7))<p1) then (Qbb N p0 y13 (w64 (y13+y7)) p1 y14).bind fun x18=>Qaz N p0 p1 n11 (w64 (y7*2)) x18 else Qaz N p0 p1 n11 (w64 (y7*2)) y14) fun k15:Int×(List Qae)->Option (List Qae)=>Qb5 N p0 p1 y7 k15 N 0 (w64 (2*y7)) y8 else some y8
def Qb4 (N p0:Nat) (p1:Int) (k4:Int×(List Qae)->Option (List Qae)):Nat->Int->Int->(List Qae)->Option (List Qae)
 |0,_,_,_=>none
 |n37+1,y31,y32,y33=>bif decide (y32<=p1) then (Qb2 N p0 y31 y32 y33).bind fun x40=>Qb4 N p0 p1 k4 n37 y32 (w64 (y32+20)) x40 else k4 (y31,y33)
def Qey (N p0:Nat) (p1:Int) (p2:List Qae):Option (List Qae):=Qb0 (fun ⟨y2,y3⟩=>(Qb2 N p0 y2 p1 y3).bind fun x6=>Qaz N p0 p1 N 20 x6) fun k4:Int×(List Qae)->Option (List Qae)=>Qb4 N p0 p1 k4 N 0 20 p2
abbrev Qlc:AV:=.fn (.func 55) [] [.ref 1 1 (0) 0]
abbrev Qix:Slot:=.own 1 [[.fn (.func 32) [] []]]
abbrev Qxv (y8:List Qae):Slot:=.own 3 (y8.map Qak)
def Qkt (N p0:Nat) (p1:Int) (p2 r:List Qae) (h:Qey N p0 p1 p2=some r):Spec prog 73 [.own 0 3 (0) p0,I p1,Qlc] [.own 3 (p2.map Qak),Qix] (.tup []) [.own 3 (r.map Qak),Qix]:=by
 refine sF func73 2 fun _ _ _ hq hd0=>?_
 unfold Qey at h
 refine wxz<|wxz<|wjq h (fun ⟨y2,y3⟩=>⟨mk 63 [(0,.own 0 3 (0) p0),(1,I p1),(2,Qlc),(6,I 20),(7,I y2)],[.own 3 (y3.map Qak),Qix]⟩) (fun t h=>?_) fun k4 h=>?_
 ·obtain⟨y2,y3⟩:=t
  refine bnq h fun x6 f5 h=>?_
  refine wx tbk [(4,⟨_,_,_,_,false⟩)] ⟨acq [.own 0 3 (0) p0,I y2,I p1,Qlc] [.own 3 (y3.map Qak),Qix] [.own 3 (x6.map Qak),Qix] (.tup []) [0,1] Q3e (Qf2 N p0 y2 p1 y3 _ f5) (Qct (rnc (Qdf rfl) (rncc (rnc (Qby rn0 (rnc (Qa2 rfl) rn0)) rn0)))) (slc (Qa5 Qap) (sfn Qai)) (slc (Qa5 Qap) (sfn Qai)) pli,tv⟩<|Qaf ?_
  refine wmr (mto (n:=63) (l':=[(0,.own 0 3 (0) p0),(1,I p1),(2,Qlc),(6,I 20)]) (own':=[.own 3 (x6.map Qak),Qix]) [(0,.own 0 3 (0) p0),(1,I p1),(2,Qlc),(6,I 20)] [0,1] [.own 3 (x6.map Qak),Qix] hq (pc (.rn (Qas rfl)) (pw (pc (.rn (Qby rn0 (rnc (rqr rfl) rn0))) (pw pn)))) (qc (spr Qap) (qbi qn))) ?_
  refine Qbf (τ:=Int×(List Qae)) (fun n t=>Qaz N p0 p1 n t.1 t.2=some r) (fun ⟨y7,y8⟩=>⟨mk 63 [(0,.own 0 3 (0) p0),(1,I p1),(2,Qlc),(6,I y7)],[Qxv y8,Qix]⟩) (fun t h=>by rw[Qaz] at h;cases h) (fun n11 ih t h=>?_) N (20,x6) h
  obtain⟨y7,y8⟩:=t
  rw[Qaz] at h
  refine wsq<|wxz<|bfq h (fun c12 h=>?_) fun c12 h=>?_
  ·refine Qah<|thn<|Qaf<|wxz ?_
   refine wjq h (fun ⟨y13,y14⟩=>⟨mk 63 [(0,.own 0 3 (0) p0),(1,I p1),(2,Qlc),(6,I y7),(7,I y13)],[.own 3 (y14.map Qak),Qix]⟩) (fun t h=>?_) fun k15 h=>?_
   ·obtain⟨y13,y14⟩:=t
    refine wsq<|wxz<|wxz<|bfq h (fun c16 h=>?_) fun c16 h=>?_
    ·exact bnq h fun x18 f17 h=>wx1 tbk [(5,⟨_,_,_,_,false⟩)] ⟨acq [.own 0 3 (0) p0,I y13,I (w64 (y13+y7)),I p1,Qlc] [.own 3 (y14.map Qak),Qix] [.own 3 (x18.map Qak),Qix] (.tup []) [0,1] Q3d (Qg5 N p0 y13 (w64 (y13+y7)) p1 y14 _ f17) (Qct (rnc (Qdf rfl) (rncc (rnc pli (rnc (Qby rn0 (rnc (Qa2 rfl) rn0)) rn0))))) (slc (Qa5 Qap) (sfn Qai)) (slc (Qa5 Qap) (sfn Qai)) pli,tv⟩<|thn<|wxz1<|bln<|thn<|arm (mto (n:=63) [(0,.own 0 3 (0) p0),(1,I p1),(2,Qlc),(6,I (w64 (y7*2)))] [0,1] [.own 3 (x18.map Qak),Qix] hq (pc (.rn (Qas rfl)) (pw (pc (.rn (Qby rn0 (rnc (rqr rfl) rn0))) (pw pn)))) (qc (spr Qap) (qbi qn))) (ih (w64 (y7*2),x18) h)
    exact Qah<|thn<|wxz1<|bln<|thn<|arm (mto (n:=63) [(0,.own 0 3 (0) p0),(1,I p1),(2,Qlc),(6,I (w64 (y7*2)))] [0,1] [.own 3 (y14.map Qak),Qix] hq (pc (.rn (Qas rfl)) (pw (pc (.rn (Qby rn0 (rnc (rqr rfl) rn0))) (pw pn)))) (qc (spr Qap) (qbi qn))) (ih (w64 (y7*2),y14) h)
   refine Qaf<|wmr (mto (n:=63) (l':=[(0,.own 0 3 (0) p0),(1,I p1),(2,Qlc),(6,I y7),(7,I 0),(8,I (w64 (2*y7)))]) (own':=[Qxv y8,Qix]) [(0,.own 0 3 (0) p0),(1,I p1),(2,Qlc),(6,I y7),(7,I 0),(8,I (w64 (2*y7)))] [0,1] [Qxv y8,Qix] hq (pc (.rn (Qas rfl)) (pw (pc (.rn (Qby rn0 (rnc (rqr rfl) rn0))) (pw (pw (pw pn)))))) (qc (spr Qap) (qbi qn))) ?_
   refine Qbf (τ:=Int×Int×(List Qae)) (fun n t=>Qb5 N p0 p1 y7 k15 n t.1 t.2.1 t.2.2=some r) (fun ⟨y19,y20,y21⟩=>⟨mk 63 [(0,.own 0 3 (0) p0),(1,I p1),(2,Qlc),(6,I y7),(7,I y19),(8,I y20)],[.own 3 (y21.map Qak),Qix]⟩) (fun t h=>by rw[Qb5] at h;cases h) (fun n25 ih t h=>?_) N (0,w64 (2*y7),y8) h
   obtain⟨y19,y20,y21⟩:=t
   rw[Qb5] at h
   refine wsq<|wxz<|bfq h (fun c26 h=>?_) fun c26 h=>?_
   ·refine Qah<|thn<|Qaf ?_
    exact bnq h fun x28 f27 h=>wx tbk [(7,⟨_,_,_,_,false⟩)] ⟨acq [.own 0 3 (0) p0,I y19,I (w64 (y19+y7)),I y20,Qlc] [.own 3 (y21.map Qak),Qix] [.own 3 (x28.map Qak),Qix] (.tup []) [0,1] Q3d (Qg5 N p0 y19 (w64 (y19+y7)) y20 y21 _ f27) (Qct (rnc (Qdf rfl) (rncc (rnc pli (rnc (Qby rn0 (rnc (Qa2 rfl) rn0)) rn0))))) (slc (Qa5 Qap) (sfn Qai)) (slc (Qa5 Qap) (sfn Qai)) pli,tv⟩<|wxz<|bnq h fun x29 hl30 h=>wx1 tbk [(4,rp [(.tmp 48,I (w64 (y20+(w64 (2*y7)))))] (I x29))] ⟨Qhz hl30 (aas rfl),tv⟩<|bln<|thn<|arm (mto (n:=63) [(0,.own 0 3 (0) p0),(1,I p1),(2,Qlc),(6,I y7),(7,I y20),(8,I x29)] [0,1] [.own 3 (x28.map Qak),Qix] hq (pc (.rn (Qas rfl)) (pw (pc (.rn (Qby rn0 (rnc (rqr rfl) rn0))) (pw (pw (pw pn)))))) (qc (spr Qap) (qbi qn))) (ih (y20,x29,x28) h)
   exact Qax<|Qan<|Qan<|Qaw rfl<|thn<|⟨(y19,y21),h,mto (n:=63) [(0,.own 0 3 (0) p0),(1,I p1),(2,Qlc),(6,I y7),(7,I y19)] [0,1] [.own 3 (y21.map Qak),Qix] hq (pc (.rn (Qas rfl)) (pw (pc (.rn (Qby rn0 (rnc (rqr rfl) rn0))) (pw (pw pn))))) (qc (spr Qap) (qbi qn))⟩
  refine Qax<|Qan<|Qan<|Qaw rfl ?_
  obtain rfl:=osi h
  exact⟨_,mto (n:=63) (l':=[]) (own':=[Qxv y8,Qix]) [] [0,1] [Qxv y8,Qix] hq pn (qc (spr Qap) (qbi qn)),fio [] tv⟩
 refine Qaf<|wmr (mto (n:=63) (l':=[(0,.own 0 3 (0) p0),(1,I p1),(2,Qlc),(6,I 20),(7,I 0),(8,I 20)]) (own':=[.own 3 (p2.map Qak),Qix]) [(0,.own 0 3 (0) p0),(1,I p1),(2,Qlc),(6,I 20),(7,I 0),(8,I 20)] [0,1] [.own 3 (p2.map Qak),Qix] hq (pc (.rn (Qas rfl)) (pw (pc (.rn (Qby rn0 (rnc (rqr rfl) rn0))) (pw (pw (pw pn)))))) (qc (spr Qap) (qbi qn))) ?_
 refine Qbf (τ:=Int×Int×(List Qae)) (fun n t=>Qb4 N p0 p1 k4 n t.1 t.2.1 t.2.2=some r) (fun ⟨y31,y32,y33⟩=>⟨mk 63 [(0,.own 0 3 (0) p0),(1,I p1),(2,Qlc),(6,I 20),(7,I y31),(8,I y32)],[.own 3 (y33.map Qak),Qix]⟩) (fun t h=>by rw[Qb4] at h;cases h) (fun n37 ih t h=>?_) N (0,20,p2) h
 obtain⟨y31,y32,y33⟩:=t
 rw[Qb4] at h
 refine wsq<|wxz<|bfq h (fun c38 h=>?_) fun c38 h=>?_
 ·refine Qah<|thn<|Qaf ?_
  exact bnq h fun x40 f39 h=>wx tbk [(4,⟨_,_,_,_,false⟩)] ⟨acq [.own 0 3 (0) p0,I y31,I y32,Qlc] [.own 3 (y33.map Qak),Qix] [.own 3 (x40.map Qak),Qix] (.tup []) [0,1] Q3e (Qf2 N p0 y31 y32 y33 _ f39) (Qct (rnc (Qdf rfl) (rncc (rnc (Qby rn0 (rnc (Qa2 rfl) rn0)) rn0)))) (slc (Qa5 Qap) (sfn Qai)) (slc (Qa5 Qap) (sfn Qai)) pli,tv⟩<|wxz<|wxz1<|bln<|thn<|arm (mto (n:=63) [(0,.own 0 3 (0) p0),(1,I p1),(2,Qlc),(6,I 20),(7,I y32),(8,I (w64 (y32+20)))] [0,1] [.own 3 (x40.map Qak),Qix] hq (pc (.rn (Qas rfl)) (pw (pc (.rn (Qby rn0 (rnc (rqr rfl) rn0))) (pw (pw (pw pn)))))) (qc (spr Qap) (qbi qn))) (ih (y32,w64 (y32+20),x40) h)
 exact Qax<|Qan<|Qan<|Qaw rfl<|thn<|⟨(y31,y33),h,mto (n:=63) [(0,.own 0 3 (0) p0),(1,I p1),(2,Qlc),(6,I 20),(7,I y31)] [0,1] [.own 3 (y33.map Qak),Qix] hq (pc (.rn (Qas rfl)) (pw (pc (.rn (Qby rn0 (rnc (rqr rfl) rn0))) (pw (pw pn))))) (qc (spr Qap) (qbi qn))⟩
def Qcy (N p0:Nat) (p1:List Qae):Option (List Qae):=(Qey N p0 ((p0:Nat):Int) p1).bind fun x3=>some x3
abbrev Zo1:AV:=.fn (.func 55) [] [.ref 1 1 (0) 0]
abbrev Q0e:Slot:=.own 1 [[.fn (.func 32) [] []]]
def Qh5 (N p0:Nat) (p1 r:List Qae) (h:Qcy N p0 p1=some r):Spec prog 54 [.own 0 3 (0) p0,Zo1] [.own 3 (p1.map Qak),Q0e] (.tup []) [.own 3 (r.map Qak),Q0e]:=by
 refine sF func54 2 fun _ _ _ hq hd0=>?_
 unfold Qcy at h
 refine bnq h fun x3 f2 h=>wx1 tbk [(2,rp [(.tmp 5,.own 0 3 (0) p0)] (I ((p0:Nat):Int))),(4,⟨_,_,_,_,false⟩)] ⟨aln rfl Xa0 rfl,acq [.own 0 3 (0) p0,I ((p0:Nat):Int),Zo1] [.own 3 (p1.map Qak),Q0e] [.own 3 (x3.map Qak),Q0e] (.tup []) [0,1] Ziv (Qkt N p0 ((p0:Nat):Int) p1 _ f2) (Qct (rnc (Qdf rfl) (rnc pli (rnc (Qby rn0 (rnc (Qa2 rfl) rn0)) rn0)))) (slc (Qa5 Qap) (sfn Qai)) (slc (Qa5 Qap) (sfn Qai)) pli,tv⟩ ?_
 obtain rfl:=osi h
 exact⟨_,mto (n:=9) (l':=[]) (own':=[.own 3 (x3.map Qak),Q0e]) [] [0,1] [.own 3 (x3.map Qak),Q0e] hq pn (qc (spr Qap) (qbi qn)),fio [] tv⟩
def Qec (N p0:Nat) (p1:List Qae):Option (List Qae):=(Qcy N p0 p1).bind fun x3=>some x3
abbrev Zo2:AV:=.fn (.func 55) [] [.ref 1 1 (0) 0]
abbrev Zo3:Slot:=.own 1 [[.fn (.func 32) [] []]]
def Qmt (N p0:Nat) (p1 r:List Qae) (h:Qec N p0 p1=some r):Spec prog 31 [.own 0 3 (0) p0,.fn (.func 32) [] []] [.own 3 (p1.map Qak)] (.own 0 3 (0) p0) [.own 3 (r.map Qak)]:=by
 refine sF func31 1 fun _ _ _ hq hd0=>?_
 unfold Qec at h
 refine wxz<|bnq h fun x3 f2 h=>wx tbk [(1,rp [(.tmp 3,.ref 1 1 0 0)] Zo2),(2,⟨_,_,_,_,false⟩)] ⟨Qfp (fs:=[]) (cs:=[.ref 1 1 0 0]) rfl rfl rfl rfl,acq [.own 0 3 (0) p0,Zo2] [.own 3 (p1.map Qak),Zo3] [.own 3 (x3.map Qak),Zo3] (.tup []) [0,1] Ziz (Qh5 N p0 p1 _ f2) (Qct (rnc (Qdf rfl) (rnc (Qby rn0 (rnc (Qa2 rfl) rn0)) rn0))) (slc (Qa5 Qap) (sfn Qai)) (slc (Qa5 Qap) (sfn Qai)) pli,tv⟩<|wxz ?_
 refine wmr (mto (n:=9) (l':=[(4,.own 0 3 (0) p0)]) (own':=[.own 3 (x3.map Qak)]) [(4,.own 0 3 (0) p0)] [0] [.own 3 (x3.map Qak)] hq (pc (.rn (Qas rfl)) pn) (qc (spr Qap) qn))<|Qad ?_
 obtain rfl:=osi h
 exact⟨_,Mor.rfl,fio [.own 0 3 (0) p0] ⟨rot,tv⟩⟩
def Qf9 (N:Nat) (p1:Qbj) (k23:Int×Int×(List Int)->Option ((List Int)×Int×Int)) (x28:List Qae):Nat->Int->Int->Int->(List Int)->Option ((List Int)×Int×Int)
 |0,_,_,_,_=>none
 |n37+1,y29,y30,y31,y32=>bif decide (y29<(x28.length:Int)) then (getI x28 y29).bind fun x39=>(Qie N (⟨(⟨x39.Stair.Amount,x39.Stair.Price⟩:Qay),x39.inlet⟩:Qae) y30 ((p1.Inlets.length:Int).toNat) y31 y32).bind fun x44=>Qf9 N p1 k23 x28 n37 (w64 (y29+1)) x44.1 x44.2.1 x44.2.2 else k23 (y30,y31,y32)
def Qe8 (N:Nat) (p1:Qbj) (y17:List Qae) (k23:Int×Int×(List Int)->Option ((List Int)×Int×Int)) (x47:List Qae):Nat->Int->Int->Int->(List Int)->Option ((List Int)×Int×Int)
 |0,_,_,_,_=>none
 |n56+1,y48,y49,y50,y51=>bif decide (y48<((y17.length:Nat):Int)) then chk (decide (0<=y48)&&decide (y48.toNat<y17.length))<|(x47[y48.toNat]?).bind fun x59=>(Qie N (⟨(⟨x59.Stair.Amount,x59.Stair.Price⟩:Qay),x59.inlet⟩:Qae) y49 ((p1.Inlets.length:Int).toNat) y50 y51).bind fun x62=>Qe8 N p1 y17 k23 x47 n56 (w64 (y48+1)) x62.1 x62.2.1 x62.2.2 else k23 (y49,y50,y51)
def Qfn (N:Nat) (p0:Qav) (p1:Qbj) (x16:((Nat->Int)×(Nat->Int))) (y63:Int) (k70:(List Qae)->Option ((List Int)×Int×Int)) (x71:Qb3):Nat->Int->(List Qae)->Option ((List Int)×Int×Int)
 |0,_,_=>none
 |n79+1,y75,y76=>bif decide (y75<(x71.Stairs.length:Int)) then (getI x71.Stairs y75).bind fun x81=>(Qbk N p0.Sites p0.Tests x16.1 x16.2 p1 x71).bind fun x86=>bif !x86 then chk (decide ((y76.length+([(⟨x81,y63⟩:Qae)]).length)*24<=140737488355328))<|Qfn N p0 p1 x16 y63 k70 x71 n79 (w64 (y75+1)) (y76++([(⟨x81,y63⟩:Qae)])) else Qfn N p0 p1 x16 y63 k70 x71 n79 (w64 (y75+1)) y76 else k70 y76
def Qfo (N:Nat) (p0:Qav) (p1:Qbj) (x16:((Nat->Int)×(Nat->Int))) (k18:(List Qae)->Option ((List Int)×Int×Int)):Nat->Int->(List Qae)->Option ((List Int)×Int×Int)
 |0,_,_=>none
 |n67+1,y63,y64=>bif decide (y63<(p1.Inlets.length:Int)) then Qb0 (fun y69=>Qfo N p0 p1 x16 k18 n67 (w64 (y63+1)) y69) fun k70:(List Qae)->Option ((List Int)×Int×Int)=>(getI p1.Inlets y63).bind fun x71=>Qfn N p0 p1 x16 y63 k70 x71 N 0 y64 else k18 y64
def Qj1 (N:Nat) (p0:Qav) (p1:Qbj) (p2:Int):Option ((List Int)×Int×Int):=(Qeh N p0 p1).bind fun x8=>bif (x8 != 0) then some ([],0,x8) else (Qel N p2 0 1000000).bind fun x11=>bif !x11 then some ([],0,2) else (Qdq N p0).bind (Sum.elim (fun _=>some ([],0,9)) (fun x16=>Qb0 (fun y17=>chk (decide (0<=(p1.Inlets.length:Int))&&decide (8*(p1.Inlets.length:Int)<=281474976710656)&&decide ((p1.Inlets.length:Int)<=9223372036854775807))<|Qb0 (fun ⟨y20,y21,y22⟩=>bif decide (y20>0) then some ([],0,11) else chk (decide ((p1.Inlets.length:Int).toNat<=y22.length))<|some (y22.take ((p1.Inlets.length:Int).toNat),y21,0)) fun k23:Int×Int×(List Int)->Option ((List Int)×Int×Int)=>bif y17.isEmpty then (Qed N).bind fun x28=>Qf9 N p1 k23 x28 N 0 p2 0 (List.replicate (p1.Inlets.length:Int).toNat 0) else (Qec N y17.length y17).bind fun x47=>Qe8 N p1 y17 k23 x47 N 0 p2 0 (List.replicate (p1.Inlets.length:Int).toNat 0)) fun k18:(List Qae)->Option ((List Int)×Int×Int)=>Qfo N p0 p1 x16 k18 N 0 ([]:List Qae)))
abbrev Qlu (p0:Qav):AV:=.dat 4 (p0.Tests.map Qbu)
abbrev Qv7 (p0:Qav):AV:=.agg [I p0.Sites,Qlu p0]
abbrev Qol (p1:Qbj):AV:=.dat 2 (p1.Inlets.map Qbg)
abbrev Q0k (p1:Qbj):AV:=.agg [Qol p1,.dat 1 (p1.Feeds.map Qab),I p1.Factor,I p1.Horizon]
abbrev Qw3:AV:=.dat 1 (([]:List Int).map Qab)
abbrev Qpm:AV:=.dat 1 (([]:List Int).map Qab)
abbrev Zal (p0:Qav) (x16:((Nat->Int)×(Nat->Int))):Slot:=.own 290 [I p0.Sites::Qlu p0::(arrF 144 x16.1++arrF 144 x16.2)]
abbrev Qnf (p1:Qbj):Slot:=.own 4 [[Qol p1,.dat 1 (p1.Feeds.map Qab),I p1.Factor,I p1.Horizon]]
abbrev Qtx (p1:Qbj):Slot:=.own 1 ((List.replicate (p1.Inlets.length:Int).toNat 0:List Int).map Qab)
abbrev Qqr:AV:=.fn (.func 30) [] [.ref 1 1 (0) 0,.ref 2 1 (0) 0,.ref 3 1 (0) 0]
abbrev Qtw (p1:Qbj):Slot:=.own 1 [[.own 3 1 (0) ((p1.Inlets.length:Int).toNat)]]
abbrev Q2a (y22:List Int) (p1:Qbj):AV:=.dat 1 ((y22.take ((p1.Inlets.length:Int).toNat):List Int).map Qab)
abbrev Q19 (y22:List Int) (p1:Qbj):AV:=.dat 1 ((y22.take ((p1.Inlets.length:Int).toNat):List Int).map Qab)
abbrev Qw5 (p1:Qbj):Slot:=.own 1 [[.own 5 1 (0) ((p1.Inlets.length:Int).toNat)]]
abbrev Zap:AV:=.dat 3 (([]:List Qae).map Qak)
abbrev Qtv (x28:List Qae):AV:=.dat 3 (x28.map Qak)
abbrev Qr6:AV:=.fn (.func 30) [] [.ref 0 1 (0) 0,.ref 1 1 (0) 0,.ref 2 1 (0) 0]
abbrev Zan (p1:Qbj):Slot:=.own 1 ((List.replicate (p1.Inlets.length:Int).toNat 0:List Int).map Qab)
abbrev Zao (p1:Qbj):Slot:=.own 1 [[.own 3 1 (0) ((p1.Inlets.length:Int).toNat)]]
abbrev Qpl (x47:List Qae):Slot:=.own 3 (x47.map Qak)
abbrev Qw4 (p1:Qbj):Slot:=.own 1 [[.own 4 1 (0) ((p1.Inlets.length:Int).toNat)]]
abbrev Zln (x59:Qae):AV:=.agg [I x59.Stair.Amount,I x59.Stair.Price,I x59.inlet]
abbrev Zam (p1:Qbj):Slot:=.own 1 [[.own 4 1 (0) ((p1.Inlets.length:Int).toNat)]]
abbrev Zga:Slot:=.gro 3 ((([]:List Qae):List Qae).map Qak)
abbrev Qpk (x71:Qb3):AV:=.dat 2 (x71.Stairs.map Qbm)
abbrev Qtu (x71:Qb3):Slot:=.own 2 [[I x71.Site,Qpk x71]]
abbrev Q18 (x81:Qay) (y63:Int):AV:=.agg [I x81.Amount,I x81.Price,I y63]
def Qw1 (N:Nat) (p0:Qav) (p1:Qbj) (p2:Int) (r:((List Int)×Int×Int)) (h:Qj1 N p0 p1 p2=some r):Spec prog 11 [.agg (Qis p0),.agg (Qla p1),I p2] [] (.tup [.dat 1 (r.1.map Qab),I r.2.1,I r.2.2]) []:=by
 refine sF func11 0 fun _ _ _ hq hd0=>?_
 unfold Qj1 at h
 refine wxz<|wsq<|bnq h fun x8 f7 h=>wx tbk [(2,rp _ _)] ⟨apw Q3g (Qje N p0 p1 _ f7),tv⟩<|wxz<|bfq h (fun c9 h=>?_) fun c9 h=>?_
 ·refine wxz ?_
  refine wmr (mto (n:=84) (l':=[(6,.ref 0 1 0 0),(7,.ref 1 1 0 0),(8,I x8)]) (own':=[.own 1 [[Qw3]],.own 1 [[I 0]]]) [(6,.ref 3 1 0 0),(7,.ref 4 1 0 0),(8,I x8)] [3,4] [.own 1 [[nilS]],.own 1 [[I 0]]] hq (prr (prr (pw pn))) (qb (lc (.nil _) ln) (qbi qn)))<|Qad<|Qac ?_
  obtain rfl:=osi h
  exact⟨_,Mor.rfl,fie [Qpm,I 0,I x8] ⟨Qbv (n:=0) (m:=1) (j:=0) (i:=0) (xs:=[[Qpm]]) (by kernel_rfl) (by kernel_rfl) ti27 (by decide) rfl (nle rfl) rfl,Qbv (n:=1) (m:=1) (j:=0) (i:=0) (xs:=[[I 0]]) (by kernel_rfl) (by kernel_rfl) ti3 (by decide) rfl (nle rfl) rfl,rot,tv⟩⟩
 refine Qah<|thn<|wsq ?_
 refine bnq h fun x11 f10 h=>wx tbk [(1,rp _ _)] ⟨apw Qoy (Qes N p2 0 1000000 _ f10),tv⟩<|bfq h (fun c12 h=>?_) fun c12 h=>?_
 ·refine wxz ?_
  refine wmr (mto (n:=84) (l':=[(6,.ref 0 1 0 0),(7,.ref 1 1 0 0),(8,I 2)]) (own':=[.own 1 [[Qw3]],.own 1 [[I 0]]]) [(6,.ref 3 1 0 0),(7,.ref 4 1 0 0),(8,I 2)] [3,4] [.own 1 [[nilS]],.own 1 [[I 0]]] hq (prr (prr (pw pn))) (qb (lc (.nil _) ln) (qbi qn)))<|Qad<|Qac ?_
  obtain rfl:=osi h
  exact⟨_,Mor.rfl,fie [Qpm,I 0,I 2] ⟨Qbv (n:=0) (m:=1) (j:=0) (i:=0) (xs:=[[Qpm]]) (by kernel_rfl) (by kernel_rfl) ti27 (by decide) rfl (nle rfl) rfl,Qbv (n:=1) (m:=1) (j:=0) (i:=0) (xs:=[[I 0]]) (by kernel_rfl) (by kernel_rfl) ti3 (by decide) rfl (nle rfl) rfl,rot,tv⟩⟩
 refine Qah<|thn ?_
 refine bnq h fun x14 f13 h=>?_
 rcases x14 with x15 |x16
 ·replace h:=Q72 h
  refine wx tbk [(1,rp _ _)] ⟨acq [Qv7 p0] [] [] (.tup [.lit (.pointer none),I 9]) [] Qr1 (Qjb N p0 _ f13) pli Qai Qai pli,tv⟩<|wsq<|wxz<|wtr<|wxz ?_
  refine wmr (mto (n:=84) (l':=[(6,.ref 0 1 0 0),(7,.ref 1 1 0 0),(8,I 9)]) (own':=[.own 1 [[Qw3]],.own 1 [[I 0]]]) [(6,.ref 3 1 0 0),(7,.ref 4 1 0 0),(8,I 9)] [3,4] [.own 1 [[nilS]],.own 1 [[I 0]]] hq (prr (prr (pw pn))) (qb (lc (.nil _) ln) (qbi qn)))<|Qad<|Qac ?_
  obtain rfl:=osi h
  exact⟨_,Mor.rfl,fie [Qpm,I 0,I 9] ⟨Qbv (n:=0) (m:=1) (j:=0) (i:=0) (xs:=[[Qpm]]) (by kernel_rfl) (by kernel_rfl) ti27 (by decide) rfl (nle rfl) rfl,Qbv (n:=1) (m:=1) (j:=0) (i:=0) (xs:=[[I 0]]) (by kernel_rfl) (by kernel_rfl) ti3 (by decide) rfl (nle rfl) rfl,rot,tv⟩⟩
 replace h:=Q71 h
 refine wx tbk [(1,⟨_,_,_,_,false⟩)] ⟨acq [Qv7 p0] [] [Zal p0 x16] (.tup [.ref 5 290 0 0,I 0]) [5] Qr1 (Qja N p0 _ f13) pli Qai (slc (Qcr (rnc pli (rnc (pld Qbz) (Qek (Qbh fun _=>pli) (Qbh fun _=>pli))))) Qai) (Q0s (rnc (Qb7 rfl) (rnc pli rn0))),tv⟩<|wsq ?_
 refine wmr (Qyw [.own 2 [[I p0.Sites,Qlu p0]],Qnf p1,.own 1 [[I p2]],.own 1 [[nilS]],.own 1 [[I 0]],Zal p0 x16] (Q21 (n:=84) (m:=290) (xs:=[I p0.Sites::Qlu p0::(arrF 144 x16.1++arrF 144 x16.2)]) (l':=[(0,Qv7 p0),(1,Q0k p1),(2,I p2),(3,.ref 0 2 0 0),(4,.ref 1 4 0 0),(5,.ref 2 1 0 0),(6,.ref 3 1 0 0),(7,.ref 4 1 0 0),(8,I 0),(9,I x8),(10,.dptr (I p0.Sites::Qlu p0::(arrF 144 x16.1++arrF 144 x16.2)) 0),(19,Qv7 p0),(20,Q0k p1),(21,I x8),(22,I x8),(23,B (x8 != 0)),(25,I p2),(26,B x11),(27,B !x11),(28,.any),(29,Qv7 p0),(30,.any),(31,.dptr (I p0.Sites::Qlu p0::(arrF 144 x16.1++arrF 144 x16.2)) 0),(32,I 0)]) (own':=[.own 2 [[I p0.Sites,Qlu p0]],Qnf p1,.own 1 [[I p2]],.own 1 [[nilS]],.own 1 [[I 0]],.dead]) 5 [(0,Qv7 p0),(1,Q0k p1),(2,I p2),(3,.ref 0 2 0 0),(4,.ref 1 4 0 0),(5,.ref 2 1 0 0),(6,.ref 3 1 0 0),(7,.ref 4 1 0 0),(8,I 0),(9,I x8),(10,.ref 5 290 0 0),(19,Qv7 p0),(20,Q0k p1),(21,I x8),(22,I x8),(23,B (x8 != 0)),(25,I p2),(26,B x11),(27,B !x11),(28,.tup [.ref 5 290 0 0,I 0]),(29,Qv7 p0),(30,.tup [.ref 5 290 0 0,I 0]),(31,.ref 5 290 0 0),(32,I 0)] (by kernel_rfl) (by kernel_rfl) (by kernel_rfl) ⟨rfl,.same _,rfl,.same _,rfl,.same _,rfl,.same _,rfl,.same _,rfl,.same _,rfl,.same _,rfl,.same _,rfl,.same _,rfl,.same _,rfl,.ptr _ _ rfl,rfl,.same _,rfl,.same _,rfl,.same _,rfl,.same _,rfl,.same _,rfl,.same _,rfl,.same _,rfl,.same _,rfl,.any _,rfl,.same _,rfl,.any _,rfl,.ptr _ _ rfl,rfl,.same _,tv⟩ (qc Qks (qc Qks (qc Qks (qc Qks (qc Qks (qc .dead qn))))))))<|wxz<|wfa<|Qah<|thn<|wxz ?_
 refine wjq h (fun y17=>⟨mk 84 [(4,.ref 0 4 0 0),(5,.ref 1 1 0 0),(6,.ref 2 1 0 0),(7,.ref 3 1 0 0),(11,.gro 4 119 3 y17.length)],[Qnf p1,.own 1 [[I p2]],.own 1 [[nilS]],.own 1 [[I 0]],.gro 3 (y17.map Qak)]⟩) (fun y17 h=>?_) fun k18 h=>?_
 ·refine ckq h fun hm19 h=>wx tbk [(2,rp _ _),(3,⟨[(.tmp 66,I (p1.Inlets.length:Int)),(.tmp 66,I (p1.Inlets.length:Int))],[(5,.unused)],.own 5 1 (0) ((p1.Inlets.length:Int).toNat),[(5,Qtx p1)],false⟩)] ⟨alq 2 Qbg p1.Inlets Xbr,Qsh rfl Xag te3 tz3 rfl (Zd8 hm19) rfl (Zd7 hm19) (Zb8 hm19) (Q75 Qab rfl),tv⟩<|wx tbk [(0,rp [(.tmp 5,.ref 1 1 0 0),(.tmp 6,.ref 2 1 0 0),(.tmp 7,.ref 3 1 0 0)] Qqr)] ⟨Qfp (fs:=[]) (cs:=[.ref 1 1 0 0,.ref 2 1 0 0,.ref 3 1 0 0]) rfl rfl rfl rfl,tv⟩<|wjq h (fun ⟨y20,y21,y22⟩=>⟨mk 84 [(5,.ref 0 1 0 0),(6,.ref 1 1 0 0),(7,.ref 2 1 0 0)],[.own 1 [[I y20]],Qtw p1,.own 1 [[I y21]],.own 1 (y22.map Qab)]⟩) (fun t h=>?_) fun k23 h=>?_
  ·obtain⟨y20,y21,y22⟩:=t
   refine wsq<|wxz<|bfq h (fun c24 h=>?_) fun c24 h=>?_
   ·refine wxz ?_
    refine wmr (mto (n:=84) (l':=[(6,.ref 0 1 0 0),(7,.ref 1 1 0 0),(8,I 11)]) (own':=[.own 1 [[Qw3]],.own 1 [[I 0]]]) [(6,.ref 1 1 0 0),(7,.ref 2 1 0 0),(8,I 11)] [1,2] [.own 1 [[nilS]],.own 1 [[I 0]]] hq (prr (prr (pw pn))) (qb (lc (.nil _) ln) (qbi qn)))<|Qad<|Qac ?_
    obtain rfl:=osi h
    exact⟨_,Mor.rfl,fie [Qpm,I 0,I 11] ⟨Qbv (n:=0) (m:=1) (j:=0) (i:=0) (xs:=[[Qpm]]) (by kernel_rfl) (by kernel_rfl) ti27 (by decide) rfl (nle rfl) rfl,Qbv (n:=1) (m:=1) (j:=0) (i:=0) (xs:=[[I 0]]) (by kernel_rfl) (by kernel_rfl) ti3 (by decide) rfl (nle rfl) rfl,rot,tv⟩⟩
   refine Qah<|thn<|wxe ?_
   refine ckq h fun hz25 h=>wmr (Q22 (n:=84) (mp:=1) (m:=1) (xs:=y22.map Qab) (c:=[.own 3 1 (0) ((p1.Inlets.length:Int).toNat)]) (l':=[(6,.ref 1 1 0 0),(7,.ref 2 1 0 0),(8,I 0)]) (c':=[Q2a y22 p1]) (own':=[.own 1 [[I y20]],.own 1 [[Q2a y22 p1]],.own 1 [[I y21]],.dead]) 3 1 [(6,.ref 1 1 0 0),(7,.ref 2 1 0 0),(8,I 0)] (by kernel_rfl) (by kernel_rfl) (by kernel_rfl) (by kernel_rfl) ⟨Qvq hz25,tv⟩ ⟨rfl,.same _,rfl,.same _,rfl,.same _,tv⟩ (by kernel_rfl)) ?_
   refine wmr (mto (n:=84) (l':=[(6,.ref 0 1 0 0),(7,.ref 1 1 0 0),(8,I 0)]) (own':=[.own 1 [[Q19 y22 p1]],.own 1 [[I y21]]]) [(6,.ref 1 1 0 0),(7,.ref 2 1 0 0),(8,I 0)] [1,2] [.own 1 [[Q2a y22 p1]],.own 1 [[I y21]]] hq (prr (prr (pw pn))) (qbi (qbi qn)))<|Qad ?_
   obtain rfl:=osi h
   exact⟨_,Mor.rfl,fie [Q19 y22 p1,I y21,I 0] ⟨Qbv (n:=0) (m:=1) (j:=0) (i:=0) (xs:=[[Q19 y22 p1]]) (by kernel_rfl) (by kernel_rfl) ti27 (by decide) rfl (nle rfl) rfl,Qbv (n:=1) (m:=1) (j:=0) (i:=0) (xs:=[[I y21]]) (by kernel_rfl) (by kernel_rfl) ti3 (by decide) rfl (nle rfl) rfl,rot,tv⟩⟩
  refine bfe h (fun hb26 h=>?_) fun hb26 h=>?_
  ·obtain rfl:=Xhz.1 hb26
   refine wmr (Qyw [Qnf p1,.own 1 [[I p2]],Qw5 p1,.own 1 [[I 0]],.gro 3 (([]:List Qae).map Qak),Qtx p1] (Zmj (n:=84) (m:=3) (xs:=([]:List Qae).map Qak) (l':=[(4,.ref 0 4 0 0),(5,.ref 1 1 0 0),(6,.ref 2 1 0 0),(7,.ref 3 1 0 0),(11,Zap),(16,Qqr),(64,.ref 0 4 0 0),(65,Qol p1),(66,I (p1.Inlets.length:Int)),(67,.own 5 1 (0) ((p1.Inlets.length:Int).toNat)),(68,Qqr)]) (own':=[Qnf p1,.own 1 [[I p2]],Qw5 p1,.own 1 [[I 0]],.dead,Qtx p1]) 4 [(4,.ref 0 4 0 0),(5,.ref 1 1 0 0),(6,.ref 2 1 0 0),(7,.ref 3 1 0 0),(11,.gro 4 119 3 (([]).length)),(16,Qqr),(64,.ref 0 4 0 0),(65,Qol p1),(66,I (p1.Inlets.length:Int)),(67,.own 5 1 (0) ((p1.Inlets.length:Int).toNat)),(68,Qqr)] (by kernel_rfl) (by kernel_rfl) (by kernel_rfl) ⟨rfl,.same _,rfl,.same _,rfl,.same _,rfl,.same _,rfl,.gro _ _ (Zr1).symm,rfl,.same _,rfl,.same _,rfl,.same _,rfl,.same _,rfl,.same _,rfl,.same _,tv⟩ (qc Qt4 (qc Qt4 (qc Qt4 (qc Qt4 (qc .dead (qc Qt4 qn)))))))) ?_
   refine bnq h fun x28 f27 h=>?_
   refine wx tbk [(1,rp _ _),(2,rp _ _)] ⟨acq [Zap,.fn (.func 32) [] []] [] [] (Qtv x28) [] Zjb (Qmu N _ f27) pli Qai Qai (pld Qap),alq 3 Qak x28 Xa0,tv⟩<|Qaf ?_
   refine wmr (mto (n:=84) (l':=[(5,.ref 0 1 0 0),(6,.ref 1 1 0 0),(7,.ref 2 1 0 0),(16,Qr6),(70,Qtv x28),(71,I (x28.length:Int)),(72,I 0)]) (own':=[.own 1 [[I p2]],Qtw p1,.own 1 [[I 0]],Zan p1]) [(5,.ref 1 1 0 0),(6,.ref 2 1 0 0),(7,.ref 3 1 0 0),(16,Qqr),(70,Qtv x28),(71,I (x28.length:Int)),(72,I 0)] [1,2,3,5] [.own 1 [[I p2]],Qw5 p1,.own 1 [[I 0]],Qtx p1] hq (prr (prr (prr (pc (.rn (Qby rn0 (rnc (rqr rfl) (rnc (rqr rfl) (rnc (rqr rfl) rn0))))) (pqi (pw (pw pn))))))) (qbi (qb (lc (.rn (Qas rfl)) ln) (qbi (qc (spr Qar) qn))))) ?_
   refine Qbf (τ:=Int×Int×Int×(List Int)) (fun n t=>Qf9 N p1 k23 x28 n t.1 t.2.1 t.2.2.1 t.2.2.2=some r) (fun ⟨y29,y30,y31,y32⟩=>⟨mk 84 [(5,.ref 0 1 0 0),(6,.ref 1 1 0 0),(7,.ref 2 1 0 0),(16,Qr6),(70,Qtv x28),(71,I (x28.length:Int)),(72,I y29)],[.own 1 [[I y30]],Qtw p1,.own 1 [[I y31]],.own 1 (y32.map Qab)]⟩) (fun t h=>by rw[Qf9] at h;cases h) (fun n37 ih t h=>?_) N (0,p2,0,List.replicate (p1.Inlets.length:Int).toNat 0) h
   obtain⟨y29,y30,y31,y32⟩:=t
   rw[Qf9] at h
   refine wxz<|wsq<|bfq h (fun c38 h=>?_) fun c38 h=>?_
   ·refine Qah<|thn<|wsq<|Qaf ?_
    exact bgq h fun x39 i41 j42 h=>wx tbk [(0,rp _ _)] ⟨aiq Xa0 Qhf Qak i41 j42,tv⟩<|bnq h fun x44 f43 h=>wx1 tbk [(2,⟨_,_,_,_,false⟩)] ⟨Qd5 (first:=[]) (cap:=[.ref 0 1 0 0,.ref 1 1 0 0,.ref 2 1 0 0]) (vs:=[.agg [I ((⟨(⟨x39.Stair.Amount,x39.Stair.Price⟩:Qay),x39.inlet⟩:Qae).Stair.Amount),I ((⟨(⟨x39.Stair.Amount,x39.Stair.Price⟩:Qay),x39.inlet⟩:Qae).Stair.Price),I ((⟨(⟨x39.Stair.Amount,x39.Stair.Price⟩:Qay),x39.inlet⟩:Qae).inlet)]]) (σr:=[.own 1 [[I y30]],Qtw p1,.own 1 [[I y31]],.own 1 (y32.map Qab)]) (σr':=[.own 1 [[I x44.1]],Zao p1,.own 1 [[I x44.2.1]],.own 1 (x44.2.2.map Qab)]) (res':=(.tup [])) [0,1,2,3] rfl Zjc (Qob N (⟨(⟨x39.Stair.Amount,x39.Stair.Price⟩:Qay),x39.inlet⟩:Qae) y30 ((p1.Inlets.length:Int).toNat) y31 y32 _ f43) rfl (Qct (rnc pli (rnc (Qa2 rfl) (rnc (Qa2 rfl) (rnc (Qa2 rfl) rn0))))) (sbi (slc (Qcr (rnc (Qdf rfl) rn0)) (sbi (slc (Qa5 Qar) Qai)))) (sbi (slc (Qcr (rnc (Qff rfl) rn0)) (sbi (slc (Qa5 Qar) Qai)))) pli rfl rfl rfl,tv⟩<|bln<|thn<|wxz1<|thn<|arm (mto (n:=84) [(5,.ref 0 1 0 0),(6,.ref 1 1 0 0),(7,.ref 2 1 0 0),(16,Qr6),(70,Qtv x28),(71,I (x28.length:Int)),(72,I (w64 (y29+1)))] [0,1,2,3] [.own 1 [[I x44.1]],Zao p1,.own 1 [[I x44.2.1]],.own 1 (x44.2.2.map Qab)] hq (prr (prr (prr (pc (.rn (Qby rn0 (rnc (rqr rfl) (rnc (rqr rfl) (rnc (rqr rfl) rn0))))) (pqi (pw (pw pn))))))) (qbi (qb (lc (.rn (Qas rfl)) ln) (qbi (qc (spr Qar) qn))))) (ih (w64 (y29+1),x44.1,x44.2.1,x44.2.2) h)
   exact Qax<|Qan<|Qan<|Qaw rfl<|thn<|⟨(y30,y31,y32),h,mto (n:=84) [(5,.ref 0 1 0 0),(6,.ref 1 1 0 0),(7,.ref 2 1 0 0)] [0,1,2,3] [.own 1 [[I y30]],Qtw p1,.own 1 [[I y31]],.own 1 (y32.map Qab)] hq (prr (prr (prr pn))) (qbi (qb (lc (.rn (Qas rfl)) ln) (qbi (qc (spr Qar) qn))))⟩
  have hz45:(!y17.isEmpty)=true:=by rw[hb26];rfl
  refine bnq h fun x47 f46 h=>?_
  refine wx tbk [(1,⟨[fu 31,(.tmp 69,.gro 4 119 3 y17.length),fu 32],[(4,.gro 3 (y17.map Qak))],.own 4 3 (0) y17.length,[(4,Qpl x47)],false⟩),(2,rp [(.tmp 70,.own 4 3 (0) y17.length)] (I ((y17.length:Nat):Int)))] ⟨Qzo (bl':=[(4,.own 3 (y17.map Qak))]) ⟨rfl,SLess.gro (Qmz hz45),tv⟩ (awk (rd':=[fu 31,(.tmp 69,.own 4 3 (0) y17.length),fu 32]) ⟨rfl,lrf,rfl,Less.gro,rfl,lrf,tv⟩ (acq [.own 4 3 (0) y17.length,.fn (.func 32) [] []] [.own 3 (y17.map Qak)] [Qpl x47] (.own 4 3 (0) y17.length) [4] Zjb (Qmt N y17.length y17 _ f46) (Qct (rnc (Qdf rfl) (rnc pli rn0))) (slc (Qa5 Qap) Qai) (slc (Qa5 Qap) Qai) (Qff rfl))),aln rfl Xa0 rfl,tv⟩<|Qaf ?_
  refine wmr (mto (n:=84) (l':=[(5,.ref 0 1 0 0),(6,.ref 1 1 0 0),(7,.ref 2 1 0 0),(16,Qr6),(70,.own 3 3 (0) y17.length),(71,I ((y17.length:Nat):Int)),(72,I 0)]) (own':=[.own 1 [[I p2]],Qw4 p1,.own 1 [[I 0]],Qpl x47,Zan p1]) [(5,.ref 1 1 0 0),(6,.ref 2 1 0 0),(7,.ref 3 1 0 0),(16,Qqr),(70,.own 4 3 (0) y17.length),(71,I ((y17.length:Nat):Int)),(72,I 0)] [1,2,3,4,5] [.own 1 [[I p2]],Qw5 p1,.own 1 [[I 0]],Qpl x47,Qtx p1] hq (prr (prr (prr (pc (.rn (Qby rn0 (rnc (rqr rfl) (rnc (rqr rfl) (rnc (rqr rfl) rn0))))) (pc (.rn (Qas rfl)) (pw (pw pn))))))) (qbi (qb (lc (.rn (Qas rfl)) ln) (qbi (qc (spr Qap) (qc (spr Qar) qn)))))) ?_
  refine Qbf (τ:=Int×Int×Int×(List Int)) (fun n t=>Qe8 N p1 y17 k23 x47 n t.1 t.2.1 t.2.2.1 t.2.2.2=some r) (fun ⟨y48,y49,y50,y51⟩=>⟨mk 84 [(5,.ref 0 1 0 0),(6,.ref 1 1 0 0),(7,.ref 2 1 0 0),(16,Qr6),(70,.own 3 3 (0) y17.length),(71,I ((y17.length:Nat):Int)),(72,I y48)],[.own 1 [[I y49]],Qw4 p1,.own 1 [[I y50]],Qpl x47,.own 1 (y51.map Qab)]⟩) (fun t h=>by rw[Qe8] at h;cases h) (fun n56 ih t h=>?_) N (0,p2,0,List.replicate (p1.Inlets.length:Int).toNat 0) h
  obtain⟨y48,y49,y50,y51⟩:=t
  rw[Qe8] at h
  refine wxz<|wsq<|bfq h (fun c57 h=>?_) fun c57 h=>?_
  ·refine Qah<|thn<|wsq<|Qaf ?_
   refine ckq h fun i58 h=>?_
   obtain⟨hi58a,hi58b⟩:=Qb6 i58
   exact bnq h fun x59 g60 h=>wx tbk [(0,rb [(.tmp 70,.own 3 3 (0) y17.length),(.tmp 72,I y48)] [(3,Qpl x47)] (.ref 3 3 y48.toNat 0)),(1,rb [(.tmp 74,.ref 3 3 y48.toNat 0)] [(3,Qpl x47)] (Zln x59))] ⟨aio rfl Xa0 Qhf (odt hi58a) (odt hi58b) (Xar _),ald rfl Qhf (by decide) (mgt Qak g60) (nle rfl) rfl,tv⟩<|bnq h fun x62 f61 h=>wx1 tbk [(2,⟨_,_,_,_,false⟩)] ⟨Qd5 (first:=[]) (cap:=[.ref 0 1 0 0,.ref 1 1 0 0,.ref 2 1 0 0]) (vs:=[.agg [I ((⟨(⟨x59.Stair.Amount,x59.Stair.Price⟩:Qay),x59.inlet⟩:Qae).Stair.Amount),I ((⟨(⟨x59.Stair.Amount,x59.Stair.Price⟩:Qay),x59.inlet⟩:Qae).Stair.Price),I ((⟨(⟨x59.Stair.Amount,x59.Stair.Price⟩:Qay),x59.inlet⟩:Qae).inlet)]]) (σr:=[.own 1 [[I y49]],Qw4 p1,.own 1 [[I y50]],.own 1 (y51.map Qab)]) (σr':=[.own 1 [[I x62.1]],Zam p1,.own 1 [[I x62.2.1]],.own 1 (x62.2.2.map Qab)]) (res':=(.tup [])) [0,1,2,4] rfl Zjc (Qob N (⟨(⟨x59.Stair.Amount,x59.Stair.Price⟩:Qay),x59.inlet⟩:Qae) y49 ((p1.Inlets.length:Int).toNat) y50 y51 _ f61) rfl (Qct (rnc pli (rnc (Qa2 rfl) (rnc (Qa2 rfl) (rnc (Qa2 rfl) rn0))))) (sbi (slc (Qcr (rnc (Qdf rfl) rn0)) (sbi (slc (Qa5 Qar) Qai)))) (sbi (slc (Qcr (rnc (Qff rfl) rn0)) (sbi (slc (Qa5 Qar) Qai)))) pli rfl rfl rfl,tv⟩<|bln<|thn<|wxz1<|thn<|arm (mto (n:=84) [(5,.ref 0 1 0 0),(6,.ref 1 1 0 0),(7,.ref 2 1 0 0),(16,Qr6),(70,.own 3 3 (0) y17.length),(71,I ((y17.length:Nat):Int)),(72,I (w64 (y48+1)))] [0,1,2,3,4] [.own 1 [[I x62.1]],Zam p1,.own 1 [[I x62.2.1]],Qpl x47,.own 1 (x62.2.2.map Qab)] hq (prr (prr (prr (pc (.rn (Qby rn0 (rnc (rqr rfl) (rnc (rqr rfl) (rnc (rqr rfl) rn0))))) (pc (.rn (Qas rfl)) (pw (pw pn))))))) (qbi (qb (lc (.rn (Qas rfl)) ln) (qbi (qc (spr Qap) (qc (spr Qar) qn)))))) (ih (w64 (y48+1),x62.1,x62.2.1,x62.2.2) h)
  exact Qax<|Qan<|Qan<|Qaw rfl<|thn<|⟨(y49,y50,y51),h,mto (n:=84) [(5,.ref 0 1 0 0),(6,.ref 1 1 0 0),(7,.ref 2 1 0 0)] [0,1,2,4] [.own 1 [[I y49]],Qw4 p1,.own 1 [[I y50]],.own 1 (y51.map Qab)] hq (prr (prr (prr pn))) (qbi (qb (lc (.rn (Qas rfl)) ln) (qbi (qc (spr Qar) qn))))⟩
 refine wx tbk [(2,rp _ _)] ⟨alq 2 Qbg p1.Inlets Xbr,tv⟩<|Qaf ?_
 refine wmr (Mor.trans (Zbd 6 119 3 11 (by kernel_rfl) (by kernel_rfl)) (mto (n:=84) (l':=[(4,.ref 0 4 0 0),(5,.ref 1 1 0 0),(6,.ref 2 1 0 0),(7,.ref 3 1 0 0),(10,.dptr (I p0.Sites::Qlu p0::(arrF 144 x16.1++arrF 144 x16.2)) 0),(11,.gro 4 119 3 (([]:List Qae).length)),(37,Qol p1),(38,I (p1.Inlets.length:Int)),(39,I 0)]) (own':=[Qnf p1,.own 1 [[I p2]],.own 1 [[nilS]],.own 1 [[I 0]],Zga]) [(4,.ref 1 4 0 0),(5,.ref 2 1 0 0),(6,.ref 3 1 0 0),(7,.ref 4 1 0 0),(10,.dptr (I p0.Sites::Qlu p0::(arrF 144 x16.1++arrF 144 x16.2)) 0),(11,.gro 6 119 3 (([]:List Qae).length)),(37,Qol p1),(38,I (p1.Inlets.length:Int)),(39,I 0)] [1,2,3,4,6] [Qnf p1,.own 1 [[I p2]],.own 1 [[nilS]],.own 1 [[I 0]],Zga] hq (prr (prr (prr (prr (pqi (pc (.rn (Qp1 rfl)) (pqi (pw (pw pn))))))))) (qbi (qbi (qbi (qbi (qc (Qm8 Qap) qn))))))) ?_
 refine Qbf (τ:=Int×(List Qae)) (fun n t=>Qfo N p0 p1 x16 k18 n t.1 t.2=some r) (fun ⟨y63,y64⟩=>⟨mk 84 [(4,.ref 0 4 0 0),(5,.ref 1 1 0 0),(6,.ref 2 1 0 0),(7,.ref 3 1 0 0),(10,.dptr (I p0.Sites::Qlu p0::(arrF 144 x16.1++arrF 144 x16.2)) 0),(11,.gro 4 119 3 y64.length),(37,Qol p1),(38,I (p1.Inlets.length:Int)),(39,I y63)],[Qnf p1,.own 1 [[I p2]],.own 1 [[nilS]],.own 1 [[I 0]],.gro 3 (y64.map Qak)]⟩) (fun t h=>by rw[Qfo] at h;cases h) (fun n67 ih t h=>?_) N (0,([]:List Qae)) h
 obtain⟨y63,y64⟩:=t
 rw[Qfo] at h
 refine wxz<|wsq<|bfq h (fun c68 h=>?_) fun c68 h=>?_
 ·refine Qah<|thn ?_
  refine wjq h (fun y69=>⟨mk 84 [(4,.ref 0 4 0 0),(5,.ref 1 1 0 0),(6,.ref 2 1 0 0),(7,.ref 3 1 0 0),(10,.dptr (I p0.Sites::Qlu p0::(arrF 144 x16.1++arrF 144 x16.2)) 0),(11,.gro 4 119 3 y69.length),(37,Qol p1),(38,I (p1.Inlets.length:Int)),(39,I y63)],[Qnf p1,.own 1 [[I p2]],.own 1 [[nilS]],.own 1 [[I 0]],.gro 3 (y69.map Qak)]⟩) (fun y69 h=>?_) fun k70 h=>?_
  ·exact wxz1<|thn<|arm (mto (n:=84) [(4,.ref 0 4 0 0),(5,.ref 1 1 0 0),(6,.ref 2 1 0 0),(7,.ref 3 1 0 0),(10,.dptr (I p0.Sites::Qlu p0::(arrF 144 x16.1++arrF 144 x16.2)) 0),(11,.gro 4 119 3 y69.length),(37,Qol p1),(38,I (p1.Inlets.length:Int)),(39,I (w64 (y63+1)))] [0,1,2,3,4] [Qnf p1,.own 1 [[I p2]],.own 1 [[nilS]],.own 1 [[I 0]],.gro 3 (y69.map Qak)] hq (prr (prr (prr (prr (pqi (pc (.rn (Qp1 rfl)) (pqi (pw (pw pn))))))))) (qbi (qbi (qbi (qbi (qc (Qm8 Qap) qn)))))) (ih (w64 (y63+1),y69) h)
  refine Qaf ?_
  refine bgq h fun x71 i73 j74 h=>wx tbk [(1,rp _ _)] ⟨aiq Xbr Q4s Qbg i73 j74,tv⟩ ?_
  refine wx tbk [(2,rp _ _)] ⟨alq 2 Qbm x71.Stairs Xbv,tv⟩<|Qaf ?_
  refine wmr (mto (n:=84) (l':=[(4,.ref 0 4 0 0),(5,.ref 1 1 0 0),(6,.ref 2 1 0 0),(7,.ref 3 1 0 0),(10,.dptr (I p0.Sites::Qlu p0::(arrF 144 x16.1++arrF 144 x16.2)) 0),(11,.gro 4 119 3 y64.length),(12,I y63),(13,.ref 5 2 0 0),(37,Qol p1),(38,I (p1.Inlets.length:Int)),(39,I y63),(45,Qpk x71),(46,I (x71.Stairs.length:Int)),(47,I 0)]) (own':=[Qnf p1,.own 1 [[I p2]],.own 1 [[nilS]],.own 1 [[I 0]],.gro 3 (y64.map Qak),Qtu x71]) [(4,.ref 0 4 0 0),(5,.ref 1 1 0 0),(6,.ref 2 1 0 0),(7,.ref 3 1 0 0),(10,.dptr (I p0.Sites::Qlu p0::(arrF 144 x16.1++arrF 144 x16.2)) 0),(11,.gro 4 119 3 y64.length),(12,I y63),(13,.ref 5 2 0 0),(37,Qol p1),(38,I (p1.Inlets.length:Int)),(39,I y63),(45,Qpk x71),(46,I (x71.Stairs.length:Int)),(47,I 0)] [0,1,2,3,4,5] [Qnf p1,.own 1 [[I p2]],.own 1 [[nilS]],.own 1 [[I 0]],.gro 3 (y64.map Qak),Qtu x71] hq (prr (prr (prr (prr (pqi (pc (.rn (Qp1 rfl)) (pw (prr (pqi (pw (pw (pqi (pw (pw pn)))))))))))))) (qbi (qbi (qbi (qbi (qc (Qm8 Qap) (qbi qn))))))) ?_
  refine Qbf (τ:=Int×(List Qae)) (fun n t=>Qfn N p0 p1 x16 y63 k70 x71 n t.1 t.2=some r) (fun ⟨y75,y76⟩=>⟨mk 84 [(4,.ref 0 4 0 0),(5,.ref 1 1 0 0),(6,.ref 2 1 0 0),(7,.ref 3 1 0 0),(10,.dptr (I p0.Sites::Qlu p0::(arrF 144 x16.1++arrF 144 x16.2)) 0),(11,.gro 4 119 3 y76.length),(12,I y63),(13,.ref 5 2 0 0),(37,Qol p1),(38,I (p1.Inlets.length:Int)),(39,I y63),(45,Qpk x71),(46,I (x71.Stairs.length:Int)),(47,I y75)],[Qnf p1,.own 1 [[I p2]],.own 1 [[nilS]],.own 1 [[I 0]],.gro 3 (y76.map Qak),Qtu x71]⟩) (fun t h=>by rw[Qfn] at h;cases h) (fun n79 ih t h=>?_) N (0,y64) h
  obtain⟨y75,y76⟩:=t
  rw[Qfn] at h
  refine wxz<|wsq<|bfq h (fun c80 h=>?_) fun c80 h=>?_
  ·refine Qah<|thn<|wsq<|Qaf ?_
   refine bgq h fun x81 i83 j84 h=>wx tbk [(0,rp _ _)] ⟨aiq Xbv Qx4 Qbm i83 j84,tv⟩<|bnq h fun x86 f85 h=>wx tbk [(3,rp [fu 29,(.tmp 51,.dptr (I p0.Sites::Qlu p0::(arrF 144 x16.1++arrF 144 x16.2)) 0),(.tmp 52,Q0k p1),(.tmp 53,.agg [I x71.Site,Qpk x71])] (B x86))] ?_ ?_
   ·exact⟨acq [.dptr (I p0.Sites::Qlu p0::(arrF 144 x16.1++arrF 144 x16.2)) 0,Q0k p1,.agg [I x71.Site,Qpk x71]] [] [] (B x86) [] Q8u (Qjh N p0.Sites p0.Tests x16.1 x16.2 p1 x71 _ f85) pli Qai Qai pli,tv⟩
   refine bfq h (fun c87 h=>?_) fun c87 h=>?_
   ·refine ckq h fun a88 h=>wx1 tbk [(3,rp [(.tmp 57,.agg [I x81.Amount,I x81.Price]),(.tmp 58,I y63)] (Q18 x81 y63)),(4,rp [(.tmp 59,Q18 x81 y63)] (.dat 3 (([(⟨x81,y63⟩:Qae)]:List Qae).map Qak))),(5,⟨[(.tmp 56,.gro 4 119 3 y76.length),(.tmp 60,.dat 3 (([(⟨x81,y63⟩:Qae)]:List Qae).map Qak))],[(4,.gro 3 (y76.map Qak)),(7,.unused)],.gro 7 119 3 ((y76++([(⟨x81,y63⟩:Qae)])).length),[(4,.dead),(7,.gro 3 ((y76++([(⟨x81,y63⟩:Qae)]):List Qae).map Qak))],false⟩)] ?_ ?_
    ·exact⟨Qbt (vs:=[.agg [I x81.Amount,I x81.Price],I y63]) rfl Zxz Zq0 rfl (by rfl) rfl,Qds (vs:=[Q18 x81 y63]) rfl Xa0 Qhf Zq0 rfl (by decide) rfl (by decide) (by rfl) (by rfl) (by rfl) rfl,Qzv (c:=Qak) (a:=y76) (b:=[(⟨x81,y63⟩:Qae)]) rfl Xa0 Zyf rfl (Qmz rfl) (by rfl) a88 (by decide),tv⟩
    exact bln<|thn<|wxz1<|thn<|arm (mto (n:=84) [(4,.ref 0 4 0 0),(5,.ref 1 1 0 0),(6,.ref 2 1 0 0),(7,.ref 3 1 0 0),(10,.dptr (I p0.Sites::Qlu p0::(arrF 144 x16.1++arrF 144 x16.2)) 0),(11,.gro 7 119 3 ((y76++([(⟨x81,y63⟩:Qae)])).length)),(12,I y63),(13,.ref 5 2 0 0),(37,Qol p1),(38,I (p1.Inlets.length:Int)),(39,I y63),(45,Qpk x71),(46,I (x71.Stairs.length:Int)),(47,I (w64 (y75+1)))] [0,1,2,3,7,5] [Qnf p1,.own 1 [[I p2]],.own 1 [[nilS]],.own 1 [[I 0]],.gro 3 ((y76++([(⟨x81,y63⟩:Qae)]):List Qae).map Qak),Qtu x71] hq (prr (prr (prr (prr (pqi (pc (.rn (Qp1 rfl)) (pw (prr (pqi (pw (pw (pqi (pw (pw pn)))))))))))))) (qbi (qbi (qbi (qbi (qc (Qm8 Qap) (qbi qn))))))) (ih (w64 (y75+1),y76++([(⟨x81,y63⟩:Qae)])) h)
   exact Qah<|bln<|thn<|wxz1<|thn<|arm (mto (n:=84) [(4,.ref 0 4 0 0),(5,.ref 1 1 0 0),(6,.ref 2 1 0 0),(7,.ref 3 1 0 0),(10,.dptr (I p0.Sites::Qlu p0::(arrF 144 x16.1++arrF 144 x16.2)) 0),(11,.gro 4 119 3 y76.length),(12,I y63),(13,.ref 5 2 0 0),(37,Qol p1),(38,I (p1.Inlets.length:Int)),(39,I y63),(45,Qpk x71),(46,I (x71.Stairs.length:Int)),(47,I (w64 (y75+1)))] [0,1,2,3,4,5] [Qnf p1,.own 1 [[I p2]],.own 1 [[nilS]],.own 1 [[I 0]],.gro 3 (y76.map Qak),Qtu x71] hq (prr (prr (prr (prr (pqi (pc (.rn (Qp1 rfl)) (pw (prr (pqi (pw (pw (pqi (pw (pw pn)))))))))))))) (qbi (qbi (qbi (qbi (qc (Qm8 Qap) (qbi qn))))))) (ih (w64 (y75+1),y76) h)
  exact Qax<|Qan<|Qan<|Qaw rfl<|bln<|thn<|⟨y76,h,mto (n:=84) [(4,.ref 0 4 0 0),(5,.ref 1 1 0 0),(6,.ref 2 1 0 0),(7,.ref 3 1 0 0),(10,.dptr (I p0.Sites::Qlu p0::(arrF 144 x16.1++arrF 144 x16.2)) 0),(11,.gro 4 119 3 y76.length),(37,Qol p1),(38,I (p1.Inlets.length:Int)),(39,I y63)] [0,1,2,3,4] [Qnf p1,.own 1 [[I p2]],.own 1 [[nilS]],.own 1 [[I 0]],.gro 3 (y76.map Qak)] hq (prr (prr (prr (prr (pqi (pc (.rn (Qp1 rfl)) (pqi (pw (pw pn))))))))) (qbi (qbi (qbi (qbi (qc (Qm8 Qap) qn)))))⟩
 exact Qax<|Qan<|Qan<|Qaw rfl<|thn<|⟨y64,h,mto (n:=84) [(4,.ref 0 4 0 0),(5,.ref 1 1 0 0),(6,.ref 2 1 0 0),(7,.ref 3 1 0 0),(11,.gro 4 119 3 y64.length)] [0,1,2,3,4] [Qnf p1,.own 1 [[I p2]],.own 1 [[nilS]],.own 1 [[I 0]],.gro 3 (y64.map Qak)] hq (prr (prr (prr (prr (pc (.rn (Qp1 rfl)) pn))))) (qbi (qbi (qbi (qbi (qc (Qm8 Qap) qn)))))⟩
end
section
def Qfe (N:Nat) (p0:Qav) (p1:Qbj) (x7:((Nat->Int)×(Nat->Int))) (k9:(List Int)->Option ((List Int)×Int)):Nat->(List Int)->Int->Option ((List Int)×Int)
 |0,_,_=>none
 |n14+1,y10,y11=>bif decide (y11<(p1.Inlets.length:Int)) then (getI p1.Inlets y11).bind fun x16=>(Qbk N p0.Sites p0.Tests x7.1 x7.2 p1 x16).bind fun x21=>bif x21 then chk (decide ((y10.length+([y11]).length)*8<=140737488355328))<|Qfe N p0 p1 x7 k9 n14 (y10++([y11])) (w64 (y11+1)) else Qfe N p0 p1 x7 k9 n14 y10 (w64 (y11+1)) else k9 y10
def Qlm (N:Nat) (p0:Qav) (p1:Qbj):Option ((List Int)×Int):=(Qeh N p0 p1).bind fun x2=>bif (x2 != 0) then some ([],x2) else (Qdq N p0).bind (Sum.elim (fun _=>some ([],9)) (fun x7=>Qb0 (fun y8=>some (y8,0)) fun k9:(List Int)->Option ((List Int)×Int)=>Qfe N p0 p1 x7 k9 N ([]) 0))
abbrev Qpe (p0:Qav):AV:=.dat 4 (p0.Tests.map Qbu)
abbrev Qv6 (p0:Qav):AV:=.agg [I p0.Sites,Qpe p0]
abbrev Qxt (p1:Qbj):AV:=.dat 2 (p1.Inlets.map Qbg)
abbrev Q0d (p1:Qbj):AV:=.agg [Qxt p1,.dat 1 (p1.Feeds.map Qab),I p1.Factor,I p1.Horizon]
abbrev Zfz:AV:=.dat 1 (([]:List Int).map Qab)
abbrev Zoz (p0:Qav) (x7:((Nat->Int)×(Nat->Int))):Slot:=.own 290 [I p0.Sites::Qpe p0::(arrF 144 x7.1++arrF 144 x7.2)]
abbrev Qxs (p1:Qbj):Slot:=.own 4 [[Qxt p1,.dat 1 (p1.Feeds.map Qab),I p1.Factor,I p1.Horizon]]
def Qvp (N:Nat) (p0:Qav) (p1:Qbj) (r:((List Int)×Int)) (h:Qlm N p0 p1=some r):Spec prog 15 [.agg (Qis p0),.agg (Qla p1)] [] (.tup [.dat 1 (r.1.map Qab),I r.2]) []:=by
 refine sA func15 0 fun _ _ _ hq hd0=>?_
 unfold Qlm at h
 refine wxz<|wsq<|bnq h fun x2 f1 h=>wx tbk [(2,rp _ _)] ⟨apw Q3g (Qje N p0 p1 _ f1),tv⟩<|wxz<|bfq h (fun c3 h=>?_) fun c3 h=>?_
 ·refine wxz<|Qad<|Qac ?_
  obtain rfl:=osi h
  exact fie [Zfz,I x2] ⟨Qg0 (v:=nilS) rot Less.nil,rot,tv⟩
 refine Qah<|thn ?_
 refine bnq h fun x5 f4 h=>?_
 rcases x5 with x6 |x7
 ·replace h:=Q72 h
  refine wx tbk [(1,rp _ _)] ⟨acq [Qv6 p0] [] [] (.tup [.lit (.pointer none),I 9]) [] Qr1 (Qjb N p0 _ f4) pli Qai Qai pli,tv⟩<|wsq<|wxz<|wtr<|wxz<|Qad<|Qac ?_
  obtain rfl:=osi h
  exact fie [Zfz,I 9] ⟨Qg0 (v:=nilS) rot Less.nil,rot,tv⟩
 replace h:=Q71 h
 refine wx tbk [(1,⟨_,_,_,_,false⟩)] ⟨acq [Qv6 p0] [] [Zoz p0 x7] (.tup [.ref 2 290 0 0,I 0]) [2] Qr1 (Qja N p0 _ f4) pli Qai (slc (Qcr (rnc pli (rnc (pld Qbz) (Qek (Qbh fun _=>pli) (Qbh fun _=>pli))))) Qai) (Q0s (rnc (Qb7 rfl) (rnc pli rn0))),tv⟩<|wsq ?_
 refine wmr (Qyw [.own 2 [[I p0.Sites,Qpe p0]],Qxs p1,Zoz p0 x7] (Q21 (n:=44) (m:=290) (xs:=[I p0.Sites::Qpe p0::(arrF 144 x7.1++arrF 144 x7.2)]) (l':=[(0,Qv6 p0),(1,Q0d p1),(2,.ref 0 2 0 0),(3,.ref 1 4 0 0),(4,nilS),(5,I 0),(6,I x2),(7,.dptr (I p0.Sites::Qpe p0::(arrF 144 x7.1++arrF 144 x7.2)) 0),(8,I 0),(12,Qv6 p0),(13,Q0d p1),(14,I x2),(15,I x2),(16,B (x2 != 0)),(18,.any),(19,Qv6 p0),(20,.any),(21,.dptr (I p0.Sites::Qpe p0::(arrF 144 x7.1++arrF 144 x7.2)) 0),(22,I 0)]) (own':=[.own 2 [[I p0.Sites,Qpe p0]],Qxs p1,.dead]) 2 [(0,Qv6 p0),(1,Q0d p1),(2,.ref 0 2 0 0),(3,.ref 1 4 0 0),(4,nilS),(5,I 0),(6,I x2),(7,.ref 2 290 0 0),(8,I 0),(12,Qv6 p0),(13,Q0d p1),(14,I x2),(15,I x2),(16,B (x2 != 0)),(18,.tup [.ref 2 290 0 0,I 0]),(19,Qv6 p0),(20,.tup [.ref 2 290 0 0,I 0]),(21,.ref 2 290 0 0),(22,I 0)] (by kernel_rfl) (by kernel_rfl) (by kernel_rfl) ⟨rfl,.same _,rfl,.same _,rfl,.same _,rfl,.same _,rfl,.same _,rfl,.same _,rfl,.same _,rfl,.ptr _ _ rfl,rfl,.same _,rfl,.same _,rfl,.same _,rfl,.same _,rfl,.same _,rfl,.same _,rfl,.any _,rfl,.same _,rfl,.any _,rfl,.ptr _ _ rfl,rfl,.same _,tv⟩ (qc Qks (qc Qks (qc .dead qn)))))<|wxz<|wfa<|Qah<|thn<|wxz ?_
 refine wjq h (fun y8=>⟨mk 44 [(9,.acc 0 3 1 (y8.map Qab))],[.tok]⟩) (fun y8 h=>?_) fun k9 h=>?_
 ·refine wxz<|Qad ?_
  obtain rfl:=osi h
  exact fie [.dat 1 (y8.map Qab),I 0] ⟨Qg0 (v:=(.acc 0 3 1 (y8.map Qab))) rot Less.acc,rot,tv⟩
 refine wx tbk [(2,rp _ _)] ⟨alq 2 Qbg p1.Inlets Xbr,tv⟩<|Qaf ?_
 refine wmr (Mor.trans (Qyx 3 3 1 9 (by kernel_rfl) (by kernel_rfl)) (mto (n:=44) (l':=[(3,.ref 0 4 0 0),(7,.dptr (I p0.Sites::Qpe p0::(arrF 144 x7.1++arrF 144 x7.2)) 0),(9,.acc 1 3 1 (([]:List Int).map Qab)),(27,Qxt p1),(28,I (p1.Inlets.length:Int)),(29,I 0)]) (own':=[Qxs p1,.tok]) [(3,.ref 1 4 0 0),(7,.dptr (I p0.Sites::Qpe p0::(arrF 144 x7.1++arrF 144 x7.2)) 0),(9,.acc 3 3 1 (([]:List Int).map Qab)),(27,Qxt p1),(28,I (p1.Inlets.length:Int)),(29,I 0)] [1,3] [Qxs p1,.tok] hq (prr (pqi (pc (.rn (Qcv rfl (Qcf Qar _))) (pqi (pw (pw pn)))))) (qbi (qc .tok qn)))) ?_
 refine Qbf (τ:=(List Int)×Int) (fun n t=>Qfe N p0 p1 x7 k9 n t.1 t.2=some r) (fun ⟨y10,y11⟩=>⟨mk 44 [(3,.ref 0 4 0 0),(7,.dptr (I p0.Sites::Qpe p0::(arrF 144 x7.1++arrF 144 x7.2)) 0),(9,.acc 1 3 1 (y10.map Qab)),(27,Qxt p1),(28,I (p1.Inlets.length:Int)),(29,I y11)],[Qxs p1,.tok]⟩) (fun t h=>by rw[Qfe] at h;cases h) (fun n14 ih t h=>?_) N ([],0) h
 obtain⟨y10,y11⟩:=t
 rw[Qfe] at h
 refine wxz<|wsq<|bfq h (fun c15 h=>?_) fun c15 h=>?_
 ·refine Qah<|thn<|wsq<|Qaf ?_
  refine bgq h fun x16 i18 j19 h=>wx tbk [(1,rp _ _)] ⟨aiq Xbr Q4s Qbg i18 j19,tv⟩<|bnq h fun x21 f20 h=>wx tbk [(3,rp [fu 29,(.tmp 34,.dptr (I p0.Sites::Qpe p0::(arrF 144 x7.1++arrF 144 x7.2)) 0),(.tmp 35,Q0d p1),(.tmp 36,.agg [I x16.Site,.dat 2 (x16.Stairs.map Qbm)])] (B x21))] ?_ ?_
  ·exact⟨acq [.dptr (I p0.Sites::Qpe p0::(arrF 144 x7.1++arrF 144 x7.2)) 0,Q0d p1,.agg [I x16.Site,.dat 2 (x16.Stairs.map Qbm)]] [] [] (B x21) [] Q8u (Qjh N p0.Sites p0.Tests x7.1 x7.2 p1 x16 _ f20) pli Qai Qai pli,tv⟩
  refine bfq h (fun c22 h=>?_) fun c22 h=>?_
  ·exact ckq h fun a23 h=>wx1 tbk [(2,rp [(.tmp 39,I y11)] (.dat 1 (([y11]:List Int).map Qab))),(3,⟨[(.tmp 38,.acc 1 3 1 (y10.map Qab)),(.tmp 40,.dat 1 (([y11]:List Int).map Qab))],[(1,.tok),(3,.unused)],.acc 3 3 1 ((y10++([y11]):List Int).map Qab),[(1,.dead),(3,.tok)],false⟩)] ⟨Qds (vs:=[I y11]) rfl Xag ti3 tz3 rfl (by decide) rfl (by decide) (by rfl) (by rfl) (by rfl) rfl,Qg7 rfl Xag te3 (Base.acc _ _) rfl rfl (by rfl) (Qkk Qab a23) (Qkj Qab a23 (by decide)) (Qki Qab) rfl rfl,tv⟩<|bln<|thn<|wxz1<|thn<|arm (mto (n:=44) [(3,.ref 0 4 0 0),(7,.dptr (I p0.Sites::Qpe p0::(arrF 144 x7.1++arrF 144 x7.2)) 0),(9,.acc 3 3 1 ((y10++([y11]):List Int).map Qab)),(27,Qxt p1),(28,I (p1.Inlets.length:Int)),(29,I (w64 (y11+1)))] [0,3] [Qxs p1,.tok] hq (prr (pqi (pc (.rn (Qcv rfl (Qcf Qar _))) (pqi (pw (pw pn)))))) (qbi (qc .tok qn))) (ih (y10++([y11]),w64 (y11+1)) h)
  exact Qah<|bln<|thn<|wxz1<|thn<|arm (mto (n:=44) [(3,.ref 0 4 0 0),(7,.dptr (I p0.Sites::Qpe p0::(arrF 144 x7.1++arrF 144 x7.2)) 0),(9,.acc 1 3 1 (y10.map Qab)),(27,Qxt p1),(28,I (p1.Inlets.length:Int)),(29,I (w64 (y11+1)))] [0,1] [Qxs p1,.tok] hq (prr (pqi (pc (.rn (Qcv rfl (Qcf Qar _))) (pqi (pw (pw pn)))))) (qbi (qc .tok qn))) (ih (y10,w64 (y11+1)) h)
 exact Qax<|Qan<|Qan<|Qaw rfl<|thn<|⟨y10,h,mto (n:=44) [(9,.acc 1 3 1 (y10.map Qab))] [1] [.tok] hq (pc (.rn (Qcv rfl (Qcf Qar _))) pn) (qc .tok qn)⟩
def Qcw (N:Nat) (p0:Qb3) (k1:Unit->Option Bool) (p2:Int):Nat->Int->Int->Option Bool
 |0,_,_=>none
 |n6+1,y2,y3=>bif decide (y3<(p0.Stairs.length:Int)) then (getI p0.Stairs y3).bind fun x8=>(some (if x8.Amount<y2 then x8.Amount else y2)).bind fun x12=>bif decide (x12>0) then bif decide (x8.Price>p2) then some false else bif decide (x12<x8.Amount) then bif decide (x8.Price<p2) then some false else Qcw N p0 k1 p2 n6 (w64 (y2-x12)) (w64 (y3+1)) else Qcw N p0 k1 p2 n6 (w64 (y2-x12)) (w64 (y3+1)) else bif decide (x12<x8.Amount) then bif decide (x8.Price<p2) then some false else Qcw N p0 k1 p2 n6 (w64 (y2-x12)) (w64 (y3+1)) else Qcw N p0 k1 p2 n6 (w64 (y2-x12)) (w64 (y3+1)) else k1 ()
def Qg9 (N:Nat) (p0:Qb3) (p1 p2:Int):Option Bool:=Qb0 (fun _=>some true) fun k1:Unit->Option Bool=>Qcw N p0 k1 p2 N p1 0
abbrev Qxr (p0:Qb3):AV:=.dat 2 (p0.Stairs.map Qbm)
def Q11 (x12:Int):List (Nat×Rec):=[(2,rp [(.tmp 22,B (decide (x12>0)))] (B true))]
def Qmw (N:Nat) (p0:Qb3) (p1 p2:Int) (r:Bool) (h:Qg9 N p0 p1 p2=some r):Spec prog 35 [.agg (Qbg p0),I p1,I p2] [] (B r) []:=by
 refine sA func35 0 fun _ _ _ hq hd0=>?_
 unfold Qg9 at h
 refine wxz<|wjq h (fun _=>⟨mk 45 [],[]⟩) (fun t h=>?_) fun k1 h=>?_
 ·exact wxz<|Qad<|frb h
 refine wx tbk [(2,rp _ _)] ⟨alq 2 Qbm p0.Stairs Xbv,tv⟩<|Qaf ?_
 refine wmr (mto (n:=45) (l':=[(1,I p1),(2,I p2),(11,Qxr p0),(12,I (p0.Stairs.length:Int)),(13,I 0)]) (own':=[]) [(1,I p1),(2,I p2),(11,Qxr p0),(12,I (p0.Stairs.length:Int)),(13,I 0)] [] [] hq (pw (pw (pqi (pw (pw pn))))) qn) ?_
 refine Qbf (τ:=Int×Int) (fun n t=>Qcw N p0 k1 p2 n t.1 t.2=some r) (fun ⟨y2,y3⟩=>⟨mk 45 [(1,I y2),(2,I p2),(11,Qxr p0),(12,I (p0.Stairs.length:Int)),(13,I y3)],[]⟩) (fun t h=>by rw[Qcw] at h;cases h) (fun n6 ih t h=>?_) N (p1,0) h
 obtain⟨y2,y3⟩:=t
 rw[Qcw] at h
 refine wxz<|wsq<|bfq h (fun c7 h=>?_) fun c7 h=>?_
 ·refine Qah<|thn<|wsq<|Qaf ?_
  refine bgq h fun x8 i10 j11 h=>wx tbk [(0,rp _ _)] ⟨aiq Xbv Qx4 Qbm i10 j11,tv⟩<|bnq h fun x12 hl13 h=>wx tbk [(3,rp [(.tmp 17,I y2),(.tmp 19,I x8.Amount)] (I (if x8.Amount<y2 then x8.Amount else y2))),(4,rp [(.tmp 20,I (if x8.Amount<y2 then x8.Amount else y2))] (I x12))] ⟨Qo3 rfl,Qhz hl13 (aas rfl),tv⟩<|wsq<|bfe h (fun hb14 h=>?_) fun hb14 h=>?_
  ·refine hpre (A:=(Q11 x12)) ⟨asb hb14 (amv rfl),tv⟩ fun q1_=>?_
   refine bfe h (fun hb15 h=>?_) fun hb15 h=>?_
   ·refine wx tbk (hcat (Q11 x12) [(8,rp [(.tmp 28,B (decide (x8.Price>p2)))] (B true))]) (hap q1_ ⟨asb hb15 (amv rfl),tv⟩)<|wtr<|wxz<|Qad<|Qac<|Qal<|Qac<|Qac<|Qal<|Qac ?_
    exact frb h
   refine bfe h (fun hb16 h=>?_) fun hb16 h=>?_
   ·refine wx tbk (hcat (Q11 x12) [(8,rp [(.tmp 28,B (decide (x8.Price>p2)))] (B false)),(13,rp [(.tmp 29,B false),(.tmp 33,B (decide (x12<x8.Amount)))] (B true))]) (hap q1_ ⟨asb hb15 (amv rfl),asb hb16 (ag_ (amv rfl)),tv⟩)<|bfq h (fun c17 h=>?_) fun c17 h=>?_
    ·exact wxz<|Qad<|Qac<|Qal<|Qac<|Qac<|Qal<|Qac<|frb h
    exact Qah<|thn<|wxz1<|bln<|thn<|wxz1<|thn<|arm (mto (n:=45) [(1,I (w64 (y2-x12))),(2,I p2),(11,Qxr p0),(12,I (p0.Stairs.length:Int)),(13,I (w64 (y3+1)))] [] [] hq (pw (pw (pqi (pw (pw pn))))) qn) (ih (w64 (y2-x12),w64 (y3+1)) h)
   exact wx tbk (hcat (Q11 x12) [(8,rp [(.tmp 28,B (decide (x8.Price>p2)))] (B false)),(13,rp [(.tmp 29,B false),(.tmp 33,B (decide (x12<x8.Amount)))] (B false))]) (hap q1_ ⟨asb hb15 (amv rfl),asb hb16 (ag_ (amv rfl)),tv⟩)<|wfa<|Qah<|thn<|wxz1<|bln<|thn<|wxz1<|thn<|arm (mto (n:=45) [(1,I (w64 (y2-x12))),(2,I p2),(11,Qxr p0),(12,I (p0.Stairs.length:Int)),(13,I (w64 (y3+1)))] [] [] hq (pw (pw (pqi (pw (pw pn))))) qn) (ih (w64 (y2-x12),w64 (y3+1)) h)
  refine bfe h (fun hb18 h=>?_) fun hb18 h=>?_
  ·refine wx tbk [(2,rp [(.tmp 22,B (decide (x12>0)))] (B false)),(13,rp [(.tmp 29,B false),(.tmp 33,B (decide (x12<x8.Amount)))] (B true))] ⟨asb hb14 (amv rfl),asb hb18 (ag_ (amv rfl)),tv⟩<|bfq h (fun c19 h=>?_) fun c19 h=>?_
   ·exact wxz<|Qad<|Qac<|Qal<|Qac<|Qac<|Qal<|Qac<|frb h
   exact Qah<|thn<|wxz1<|bln<|thn<|wxz1<|thn<|arm (mto (n:=45) [(1,I (w64 (y2-x12))),(2,I p2),(11,Qxr p0),(12,I (p0.Stairs.length:Int)),(13,I (w64 (y3+1)))] [] [] hq (pw (pw (pqi (pw (pw pn))))) qn) (ih (w64 (y2-x12),w64 (y3+1)) h)
  exact wx tbk [(2,rp [(.tmp 22,B (decide (x12>0)))] (B false)),(13,rp [(.tmp 29,B false),(.tmp 33,B (decide (x12<x8.Amount)))] (B false))] ⟨asb hb14 (amv rfl),asb hb18 (ag_ (amv rfl)),tv⟩<|wfa<|Qah<|thn<|wxz1<|bln<|thn<|wxz1<|thn<|arm (mto (n:=45) [(1,I (w64 (y2-x12))),(2,I p2),(11,Qxr p0),(12,I (p0.Stairs.length:Int)),(13,I (w64 (y3+1)))] [] [] hq (pw (pw (pqi (pw (pw pn))))) qn) (ih (w64 (y2-x12),w64 (y3+1)) h)
 exact Qax<|Qan<|Qan<|Qaw rfl<|thn<|⟨(),h,mto (n:=45) [] [] [] hq pn qn⟩
def Qc4 (N:Nat) (p0:Qav) (p1:Qbj) (p3:List Int) (p4:Int) (x5:((Nat->Int)×(Nat->Int))) (k7:Int->Option Bool):Nat->Int->Int->Option Bool
 |0,_,_=>none
 |n12+1,y8,y9=>bif decide (y9<(p1.Inlets.length:Int)) then (getI p1.Inlets y9).bind fun x14=>(getI p3 y9).bind fun x18=>(Qbk N p0.Sites p0.Tests x5.1 x5.2 p1 x14).bind fun x23=>bif x23 then bif decide (x18>0) then some false else bif !x23 then (Qg9 N x14 x18 p4).bind fun x28=>bif !x28 then some false else Qc4 N p0 p1 p3 p4 x5 k7 n12 (w64 (y8+x18)) (w64 (y9+1)) else Qc4 N p0 p1 p3 p4 x5 k7 n12 (w64 (y8+x18)) (w64 (y9+1)) else bif !x23 then (Qg9 N x14 x18 p4).bind fun x32=>bif !x32 then some false else Qc4 N p0 p1 p3 p4 x5 k7 n12 (w64 (y8+x18)) (w64 (y9+1)) else Qc4 N p0 p1 p3 p4 x5 k7 n12 (w64 (y8+x18)) (w64 (y9+1)) else k7 y8
def Qjc (N:Nat) (p0:Qav) (p1:Qbj) (p2:Int) (p3:List Int) (p4:Int):Option Bool:=Qb0 (fun _=>(Qdq N p0).bind (Sum.elim (fun _=>some false) (fun x5=>Qb0 (fun y6=>some (y6==p2)) fun k7:Int->Option Bool=>Qc4 N p0 p1 p3 p4 x5 k7 N 0 0))) fun k1:Unit->Option Bool=>(Qeh N p0 p1).bind fun x35=>bif (x35 != 0) then some false else (Qd9 N p1 p3).bind fun x38=>bif !x38 then some false else k1 ()
abbrev Qoj (p0:Qav):AV:=.dat 4 (p0.Tests.map Qbu)
abbrev Q99 (p0:Qav):Slot:=.own 2 [[I p0.Sites,Qoj p0]]
abbrev Qts (p1:Qbj):AV:=.dat 2 (p1.Inlets.map Qbg)
abbrev Qri (p1:Qbj):Slot:=.own 4 [[Qts p1,.dat 1 (p1.Feeds.map Qab),I p1.Factor,I p1.Horizon]]
abbrev Q4f (p0:Qav):AV:=.agg [I p0.Sites,Qoj p0]
abbrev Zoy (p0:Qav) (x5:((Nat->Int)×(Nat->Int))):Slot:=.own 290 [I p0.Sites::Qoj p0::(arrF 144 x5.1++arrF 144 x5.2)]
abbrev Q98 (p1:Qbj):AV:=.agg [Qts p1,.dat 1 (p1.Feeds.map Qab),I p1.Factor,I p1.Horizon]
abbrev Q13 (x14:Qb3):AV:=.agg [I x14.Site,.dat 2 (x14.Stairs.map Qbm)]
def Q12 (x23:Bool) (p3:List Int) (y9 x18:Int):List (Nat×Rec):=[(1,rp [(.tmp 52,B x23)] (B true)),(4,rp [(.tmp 53,B true),(.tmp 54,.dat 1 (p3.map Qab)),(.tmp 55,I y9)] (.dptr (Qab x18) 0))]
def Q7i (p0:Qav) (p1:Qbj) (x35:Int):List (Nat×Rec):=[(2,rp [fu 26,(.tmp 17,Q4f p0),(.tmp 18,Q98 p1)] (I x35))]
def Qrx (N:Nat) (p0:Qav) (p1:Qbj) (p2:Int) (p3:List Int) (p4:Int) (r:Bool) (h:Qjc N p0 p1 p2 p3 p4=some r):Spec prog 16 [.agg (Qis p0),.agg (Qla p1),I p2,.dat 1 (p3.map Qab),I p4] [] (B r) []:=by
 refine sA func16 0 fun _ _ _ hq hd0=>?_
 unfold Qjc at h
 refine wxz<|wjq h (fun _=>⟨mk 78 [(2,I p2),(3,.dat 1 (p3.map Qab)),(4,I p4),(5,.ref 0 2 0 0),(6,.ref 1 4 0 0)],[Q99 p0,Qri p1]⟩) (fun t h=>?_) fun k1 h=>?_
 ·refine bnq h fun x3 f2 h=>?_
  rcases x3 with x4 |x5
  ·replace h:=Q72 h
   exact wx tbk [(1,rp _ _)] ⟨acq [Q4f p0] [] [] (.tup [.lit (.pointer none),I 9]) [] Qr1 (Qjb N p0 _ f2) pli Qai Qai pli,tv⟩<|wsq<|wxz<|wtr<|wxz<|Qad<|Qac<|frb h
  replace h:=Q71 h
  refine wx tbk [(1,⟨_,_,_,_,false⟩)] ⟨acq [Q4f p0] [] [Zoy p0 x5] (.tup [.ref 2 290 0 0,I 0]) [2] Qr1 (Qja N p0 _ f2) pli Qai (slc (Qcr (rnc pli (rnc (pld Qbz) (Qek (Qbh fun _=>pli) (Qbh fun _=>pli))))) Qai) (Q0s (rnc (Qb7 rfl) (rnc pli rn0))),tv⟩<|wsq ?_
  refine wmr (Qyw [Q99 p0,Qri p1,Zoy p0 x5] (Q21 (n:=78) (m:=290) (xs:=[I p0.Sites::Qoj p0::(arrF 144 x5.1++arrF 144 x5.2)]) (l':=[(2,I p2),(3,.dat 1 (p3.map Qab)),(4,I p4),(5,.ref 0 2 0 0),(6,.ref 1 4 0 0),(11,.dptr (I p0.Sites::Qoj p0::(arrF 144 x5.1++arrF 144 x5.2)) 0),(12,I 0),(27,.any),(28,Q4f p0),(29,.any),(30,.dptr (I p0.Sites::Qoj p0::(arrF 144 x5.1++arrF 144 x5.2)) 0),(31,I 0)]) (own':=[Q99 p0,Qri p1,.dead]) 2 [(2,I p2),(3,.dat 1 (p3.map Qab)),(4,I p4),(5,.ref 0 2 0 0),(6,.ref 1 4 0 0),(11,.ref 2 290 0 0),(12,I 0),(27,.tup [.ref 2 290 0 0,I 0]),(28,Q4f p0),(29,.tup [.ref 2 290 0 0,I 0]),(30,.ref 2 290 0 0),(31,I 0)] (by kernel_rfl) (by kernel_rfl) (by kernel_rfl) ⟨rfl,.same _,rfl,.same _,rfl,.same _,rfl,.same _,rfl,.same _,rfl,.ptr _ _ rfl,rfl,.same _,rfl,.any _,rfl,.same _,rfl,.any _,rfl,.ptr _ _ rfl,rfl,.same _,tv⟩ (qc Qks (qc Qks (qc .dead qn)))))<|wxz<|wfa<|Qah<|thn<|wxz ?_
  refine wjq h (fun y6=>⟨mk 78 [(2,I p2),(13,I y6)],[]⟩) (fun y6 h=>?_) fun k7 h=>?_
  ·refine wxz<|Qad ?_
   obtain rfl:=osi h
   exact fend ⟨[B (y6==p2)],⟨rot,tv⟩,rfl⟩ nll
  refine wx tbk [(2,rp _ _)] ⟨alq 2 Qbg p1.Inlets Xbr,tv⟩<|Qaf ?_
  refine wmr (mto (n:=78) (l':=[(2,I p2),(3,.dat 1 (p3.map Qab)),(4,I p4),(6,.ref 0 4 0 0),(11,.dptr (I p0.Sites::Qoj p0::(arrF 144 x5.1++arrF 144 x5.2)) 0),(13,I 0),(35,Qts p1),(36,I (p1.Inlets.length:Int)),(37,I 0)]) (own':=[Qri p1]) [(2,I p2),(3,.dat 1 (p3.map Qab)),(4,I p4),(6,.ref 1 4 0 0),(11,.dptr (I p0.Sites::Qoj p0::(arrF 144 x5.1++arrF 144 x5.2)) 0),(13,I 0),(35,Qts p1),(36,I (p1.Inlets.length:Int)),(37,I 0)] [1] [Qri p1] hq (pw (pqi (pw (prr (pqi (pw (pqi (pw (pw pn))))))))) (qbi qn)) ?_
  refine Qbf (τ:=Int×Int) (fun n t=>Qc4 N p0 p1 p3 p4 x5 k7 n t.1 t.2=some r) (fun ⟨y8,y9⟩=>⟨mk 78 [(2,I p2),(3,.dat 1 (p3.map Qab)),(4,I p4),(6,.ref 0 4 0 0),(11,.dptr (I p0.Sites::Qoj p0::(arrF 144 x5.1++arrF 144 x5.2)) 0),(13,I y8),(35,Qts p1),(36,I (p1.Inlets.length:Int)),(37,I y9)],[Qri p1]⟩) (fun t h=>by rw[Qc4] at h;cases h) (fun n12 ih t h=>?_) N (0,0) h
  obtain⟨y8,y9⟩:=t
  rw[Qc4] at h
  refine wxz<|wsq<|bfq h (fun c13 h=>?_) fun c13 h=>?_
  ·refine Qah<|thn<|wsq<|Qaf ?_
   refine bgq h fun x14 i16 j17 h=>wx tbk [(1,rp _ _)] ⟨aiq Xbr Q4s Qbg i16 j17,tv⟩<|bgq h fun x18 i20 j21 h=>wx tbk [(3,rp _ _)] ⟨aiq Xag ti3 Qab i20 j21,tv⟩<|bnq h fun x23 f22 h=>wx tbk [(3,rp [fu 29,(.tmp 48,.dptr (I p0.Sites::Qoj p0::(arrF 144 x5.1++arrF 144 x5.2)) 0),(.tmp 49,Q98 p1),(.tmp 50,Q13 x14)] (B x23))] ?_ ?_
   ·exact⟨acq [.dptr (I p0.Sites::Qoj p0::(arrF 144 x5.1++arrF 144 x5.2)) 0,Q98 p1,Q13 x14] [] [] (B x23) [] Q8u (Qjh N p0.Sites p0.Tests x5.1 x5.2 p1 x14 _ f22) pli Qai Qai pli,tv⟩
   refine bfe h (fun hb24 h=>?_) fun hb24 h=>?_
   ·refine hpre (A:=(Q12 x23 p3 y9 x18)) ⟨asb hb24 (amv rfl),ag_ (aiq Xag ti3 Qab i20 j21),tv⟩ fun q1_=>?_
    refine bfe h (fun hb25 h=>?_) fun hb25 h=>?_
    ·exact wxd tbk (hcat (Q12 x23 p3 y9 x18) [(8,rp [(.tmp 59,B (decide (x18>0)))] (B true))]) (hap q1_ ⟨asb hb25 (amv rfl),tv⟩)<|wtr<|wxz<|Qad<|Qal<|Qac<|Qac<|Qal<|Qac<|frb h
    refine bfe h (fun hb26 h=>?_) fun hb26 h=>?_
    ·refine bnq h fun x28 f27 h=>wxd tbk (hcat (Q12 x23 p3 y9 x18) [(8,rp [(.tmp 59,B (decide (x18>0)))] (B false)),(11,rp [(.tmp 60,B false),(.tmp 62,B !x23)] (B true)),(15,rp [(.tmp 63,B true),(.tmp 65,.dat 1 (p3.map Qab)),(.tmp 66,I y9)] (.dptr (Qab x18) 0)),(18,rp [(.tmp 63,B true),fu 35,(.tmp 64,Q13 x14),(.tmp 68,I x18),(.tmp 69,I p4)] (B x28))]) (hap q1_ ⟨asb hb25 (amv rfl),asb hb26 (ag_ (amv rfl)),ag_ (aiq Xag ti3 Qab i20 j21),ag_ (apv Zi8 (Qmw N x14 x18 p4 _ f27) (nlc (NLt.agg _ (nlc nll (nlc (nld Qlk _) nl0))) (nlcc nl0)) nll),tv⟩)<|bfq h (fun c29 h=>?_) fun c29 h=>?_
     ·exact wxz<|Qad<|Qal<|Qac<|Qac<|Qal<|Qac<|frb h
     exact Qah<|bln<|thn<|wxz1<|thn<|arm (mto (n:=78) [(2,I p2),(3,.dat 1 (p3.map Qab)),(4,I p4),(6,.ref 0 4 0 0),(11,.dptr (I p0.Sites::Qoj p0::(arrF 144 x5.1++arrF 144 x5.2)) 0),(13,I (w64 (y8+x18))),(35,Qts p1),(36,I (p1.Inlets.length:Int)),(37,I (w64 (y9+1)))] [0] [Qri p1] hq (pw (pqi (pw (prr (pqi (pw (pqi (pw (pw pn))))))))) (qbi qn)) (ih (w64 (y8+x18),w64 (y9+1)) h)
    exact wxd tbk (hcat (Q12 x23 p3 y9 x18) [(8,rp [(.tmp 59,B (decide (x18>0)))] (B false)),(11,rp [(.tmp 60,B false),(.tmp 62,B !x23)] (B false))]) (hap q1_ ⟨asb hb25 (amv rfl),asb hb26 (ag_ (amv rfl)),tv⟩)<|wfa<|Qah<|bln<|thn<|wxz1<|thn<|arm (mto (n:=78) [(2,I p2),(3,.dat 1 (p3.map Qab)),(4,I p4),(6,.ref 0 4 0 0),(11,.dptr (I p0.Sites::Qoj p0::(arrF 144 x5.1++arrF 144 x5.2)) 0),(13,I (w64 (y8+x18))),(35,Qts p1),(36,I (p1.Inlets.length:Int)),(37,I (w64 (y9+1)))] [0] [Qri p1] hq (pw (pqi (pw (prr (pqi (pw (pqi (pw (pw pn))))))))) (qbi qn)) (ih (w64 (y8+x18),w64 (y9+1)) h)
   refine bfe h (fun hb30 h=>?_) fun hb30 h=>?_
   ·refine bnq h fun x32 f31 h=>wxd tbk [(1,rp [(.tmp 52,B x23)] (B false)),(11,rp [(.tmp 60,B false),(.tmp 62,B !x23)] (B true)),(15,rp [(.tmp 63,B true),(.tmp 65,.dat 1 (p3.map Qab)),(.tmp 66,I y9)] (.dptr (Qab x18) 0)),(18,rp [(.tmp 63,B true),fu 35,(.tmp 64,Q13 x14),(.tmp 68,I x18),(.tmp 69,I p4)] (B x32))] ⟨asb hb24 (amv rfl),asb hb30 (ag_ (amv rfl)),ag_ (aiq Xag ti3 Qab i20 j21),ag_ (apv Zi8 (Qmw N x14 x18 p4 _ f31) (nlc (NLt.agg _ (nlc nll (nlc (nld Qlk _) nl0))) (nlcc nl0)) nll),tv⟩<|bfq h (fun c33 h=>?_) fun c33 h=>?_
    ·exact wxz<|Qad<|Qal<|Qac<|Qac<|Qal<|Qac<|frb h
    exact Qah<|bln<|thn<|wxz1<|thn<|arm (mto (n:=78) [(2,I p2),(3,.dat 1 (p3.map Qab)),(4,I p4),(6,.ref 0 4 0 0),(11,.dptr (I p0.Sites::Qoj p0::(arrF 144 x5.1++arrF 144 x5.2)) 0),(13,I (w64 (y8+x18))),(35,Qts p1),(36,I (p1.Inlets.length:Int)),(37,I (w64 (y9+1)))] [0] [Qri p1] hq (pw (pqi (pw (prr (pqi (pw (pqi (pw (pw pn))))))))) (qbi qn)) (ih (w64 (y8+x18),w64 (y9+1)) h)
   exact wxd tbk [(1,rp [(.tmp 52,B x23)] (B false)),(11,rp [(.tmp 60,B false),(.tmp 62,B !x23)] (B false))] ⟨asb hb24 (amv rfl),asb hb30 (ag_ (amv rfl)),tv⟩<|wfa<|Qah<|bln<|thn<|wxz1<|thn<|arm (mto (n:=78) [(2,I p2),(3,.dat 1 (p3.map Qab)),(4,I p4),(6,.ref 0 4 0 0),(11,.dptr (I p0.Sites::Qoj p0::(arrF 144 x5.1++arrF 144 x5.2)) 0),(13,I (w64 (y8+x18))),(35,Qts p1),(36,I (p1.Inlets.length:Int)),(37,I (w64 (y9+1)))] [0] [Qri p1] hq (pw (pqi (pw (prr (pqi (pw (pqi (pw (pw pn))))))))) (qbi qn)) (ih (w64 (y8+x18),w64 (y9+1)) h)
  exact Qax<|Qan<|Qan<|Qaw rfl<|thn<|⟨y8,h,mto (n:=78) [(2,I p2),(13,I y8)] [] [] hq (pw (pw pn)) qn⟩
 refine bnq h fun x35 f34 h=>hpre (A:=(Q7i p0 p1 x35)) ⟨apv Q3g (Qje N p0 p1 _ f34) (nlc (NLt.agg _ (nlc nll (nlc (nld Qbz _) nl0))) (nlc (NLt.agg _ (nlc (nld Qh1 _) (nlc (nld Qar _) (nlcc nl0)))) nl0)) nll,tv⟩ fun q2_=>?_
 refine bfe h (fun hb36 h=>?_) fun hb36 h=>?_
 ·exact wx tbk (hcat (Q7i p0 p1 x35) [(4,rp [(.tmp 20,B (x35 != 0))] (B true))]) (hap q2_ ⟨asb hb36 (amv rfl),tv⟩)<|wtr<|wxz<|Qad<|Qac<|frb h
 refine bnq h fun x38 f37 h=>wx tbk (hcat (Q7i p0 p1 x35) [(4,rp [(.tmp 20,B (x35 != 0))] (B false)),(7,rp [(.tmp 21,B false),fu 33,(.tmp 22,Q98 p1),(.tmp 23,.dat 1 (p3.map Qab))] (B x38))]) (hap q2_ ⟨asb hb36 (amv rfl),ag_ (apv Zi9 (Qmq N p1 p3 _ f37) (nlc (NLt.agg _ (nlc (nld Qh1 _) (nlc (nld Qar _) (nlcc nl0)))) (nlc (nld Qar _) nl0)) nll),tv⟩)<|bfq h (fun c39 h=>?_) fun c39 h=>?_
 ·exact wxz<|Qad<|Qac<|frb h
 exact Qah<|thn<|⟨(),h,mto (n:=78) [(2,I p2),(3,.dat 1 (p3.map Qab)),(4,I p4),(5,.ref 0 2 0 0),(6,.ref 1 4 0 0)] [0,1] [Q99 p0,Qri p1] hq (pw (pqi (pw (prr (prr pn))))) (qbi (qbi qn))⟩
end
section
def Qim (_N:Nat) (p0 p1 p2:Int):Option Bool:=bif decide (p0>=p1) then some (decide (p0<=p2)) else some false
def Qhi (N:Nat) (p0 p1 p2:Int) (r:Bool) (h:Qim N p0 p1 p2=some r):Spec prog 17 [I p0,I p1,I p2] [] (B r) []:=by
 refine sA func17 0 fun _ _ _ hq hd0=>?_
 unfold Qim at h
 refine wxz<|bfe h (fun hb1 h=>?_) fun hb1 h=>?_
 ·refine wx tbk [(3,rp [(.tmp 9,B (decide (p0>=p1)))] (B true))] ⟨asb hb1 (amv rfl),tv⟩<|Qad ?_
  obtain rfl:=osi h
  exact fend ⟨[B (decide (p0<=p2))],⟨rot,tv⟩,rfl⟩ nll
 exact wx tbk [(3,rp [(.tmp 9,B (decide (p0>=p1)))] (B false))] ⟨asb hb1 (amv rfl),tv⟩<|Qad<|frb h
def Qkx (_N:Nat) (p0:Qav) (p1:Int):Option Bool:=bif decide (p1>=0) then some (decide (p1<p0.Sites)) else some false
def Qm9 (N:Nat) (p0:Qav) (p1:Int) (r:Bool) (h:Qkx N p0 p1=some r):Spec prog 19 [.agg (Qis p0),I p1] [] (B r) []:=by
 refine sA func19 0 fun _ _ _ hq hd0=>?_
 unfold Qkx at h
 refine wxz<|bfe h (fun hb1 h=>?_) fun hb1 h=>?_
 ·refine wx tbk [(2,rp [(.tmp 6,B (decide (p1>=0)))] (B true))] ⟨asb hb1 (amv rfl),tv⟩<|Qad ?_
  obtain rfl:=osi h
  exact fend ⟨[B (decide (p1<p0.Sites))],⟨rot,tv⟩,rfl⟩ nll
 exact wx tbk [(2,rp [(.tmp 6,B (decide (p1>=0)))] (B false))] ⟨asb hb1 (amv rfl),tv⟩<|Qad<|frb h
def Qe5 (N:Nat) (p0:Qav) (k5:Unit->Option Int):Nat->Int->Option Int
 |0,_=>none
 |n8+1,y6=>bif decide (y6<(p0.Tests.length:Int)) then (getI p0.Tests y6).bind fun x10=>(Qkx N p0 x10.From).bind fun x15=>bif !x15 then some 1 else (Qkx N p0 x10.To).bind fun x18=>bif !x18 then some 1 else bif (x10.From==x10.To) then some 1 else (Qim N x10.Seen.Lo 0 1000000).bind fun x22=>bif !x22 then some 1 else (Qim N x10.Seen.Hi 0 1000000).bind fun x25=>bif !x25 then some 1 else bif decide (x10.Seen.Lo>x10.Seen.Hi) then some 1 else Qe5 N p0 k5 n8 (w64 (y6+1)) else k5 ()
def Qjo (N:Nat) (p0:Qav):Option Int:=bif decide ((p0.Tests.length:Int)>60) then some 3 else (Qim N p0.Sites 1 12).bind fun x3=>bif !x3 then some 1 else Qb0 (fun _=>some 0) fun k5:Unit->Option Int=>Qe5 N p0 k5 N 0
abbrev Zov (p0:Qav):AV:=.dat 4 (p0.Tests.map Qbu)
abbrev Q97 (p0:Qav):Slot:=.own 2 [[I p0.Sites,Zov p0]]
abbrev Zou (p0:Qav):AV:=.agg [I p0.Sites,Zov p0]
def Q7b (p0:Qav) (x10:Qc8) (x15:Bool):List (Nat×Rec):=[(3,rp [fu 19,(.tmp 25,Zou p0),(.tmp 27,I x10.From)] (B x15))]
def Q7a p0 x10 x15 (x18:Bool):=hcat (Q7b p0 x10 x15) [(5,rp [(.tmp 29,B !x15)] (B false)),(9,rp [(.tmp 30,B false),fu 19,(.tmp 31,Zou p0),(.tmp 33,I x10.To)] (B x18))]
def Q69 p0 x10 x15 x18:=hcat (Q7a p0 x10 x15 x18) [(12,rp [(.tmp 36,B !x18)] (B false))]
def Q68 p0 x10 x15 x18 (x22:Bool):=hcat (Q69 p0 x10 x15 x18) [(19,rp [(.tmp 43,B (x10.From==x10.To))] (B false)),(23,rp [(.tmp 44,B false),fu 17,(.tmp 47,I x10.Seen.Lo),ci 0,ci 1000000] (B x22))]
def Q67 p0 x10 x15 x18 x22 (x25:Bool):=hcat (Q68 p0 x10 x15 x18 x22) [(26,rp [(.tmp 50,B !x22)] (B false)),(30,rp [(.tmp 51,B false),fu 17,(.tmp 54,I x10.Seen.Hi),ci 0,ci 1000000] (B x25))]
def Qsk (N:Nat) (p0:Qav) (r:Int) (h:Qjo N p0=some r):Spec prog 18 [.agg (Qis p0)] [] (I r) []:=by
 refine sA func18 0 fun _ _ _ hq hd0=>?_
 unfold Qjo at h
 refine wxz<|wsq<|wx tbk [(2,rp _ _)] ⟨alq 4 Qbu p0.Tests Xdt,tv⟩<|bfq h (fun c1 h=>?_) fun c1 h=>?_
 ·refine wxz<|Qad<|Qac ?_
  obtain rfl:=osi h
  exact fend ⟨[I 3],⟨rot,tv⟩,rfl⟩ nll
 refine Qah<|thn<|wsq ?_
 refine bnq h fun x3 f2 h=>wx tbk [(2,rp _ _)] ⟨apw Qoz (Qhi N p0.Sites 1 12 _ f2),tv⟩<|bfq h (fun c4 h=>?_) fun c4 h=>?_
 ·refine wxz<|Qad<|Qac ?_
  obtain rfl:=osi h
  exact fend ⟨[I 1],⟨rot,tv⟩,rfl⟩ nll
 refine Qah<|thn ?_
 refine wjq h (fun _=>⟨mk 67 [],[]⟩) (fun t h=>?_) fun k5 h=>?_
 ·refine wxz<|Qad ?_
  obtain rfl:=osi h
  exact fend ⟨[I 0],⟨rot,tv⟩,rfl⟩ nll
 refine wxz<|Qaf ?_
 refine wmr (mto (n:=67) (l':=[(1,.ref 0 2 0 0),(3,I 0)]) (own':=[Q97 p0]) [(1,.ref 0 2 0 0),(3,I 0)] [0] [Q97 p0] hq (prr (pw pn)) (qbi qn)) ?_
 refine Qbf (τ:=Int) (fun n t=>Qe5 N p0 k5 n t=some r) (fun y6=>⟨mk 67 [(1,.ref 0 2 0 0),(3,I y6)],[Q97 p0]⟩) (fun t h=>by rw[Qe5] at h;cases h) (fun n8 ih y6 h=>?_) N (0) h
 rw[Qe5] at h
 refine wsq<|wx tbk [(3,rp _ _)] ⟨alq 4 Qbu p0.Tests Xdt,tv⟩<|bfq h (fun c9 h=>?_) fun c9 h=>?_
 ·refine Qah<|thn<|wsq<|Qaf ?_
  refine bgq h fun x10 i12 j13 h=>wx tbk [(3,rp _ _)] ⟨aiq Xdt Zq6 Qbu i12 j13,tv⟩<|bnq h fun x15 f14 h=>hpre (A:=(Q7b p0 x10 x15)) ⟨apv Q3h (Qm9 N p0 x10.From _ f14) (nlc (NLt.agg _ (nlc nll (nlc (nld Qbz _) nl0))) (nlc nll nl0)) nll,tv⟩ fun q1_=>?_
  refine bfe h (fun hb16 h=>?_) fun hb16 h=>?_
  ·refine wx tbk (hcat (Q7b p0 x10 x15) [(5,rp [(.tmp 29,B !x15)] (B true))]) (hap q1_ ⟨asb hb16 (amv rfl),tv⟩)<|wtr<|wxz<|Qad<|Qal<|Qac<|Qac<|Qal<|Qac ?_
   obtain rfl:=osi h
   exact fend ⟨[I 1],⟨rot,tv⟩,rfl⟩ nll
  refine bnq h fun x18 f17 h=>hpre (A:=(Q7a p0 x10 x15 x18)) (hap q1_ ⟨asb hb16 (amv rfl),ag_ (apv Q3h (Qm9 N p0 x10.To _ f17) (nlc (NLt.agg _ (nlc nll (nlc (nld Qbz _) nl0))) (nlc nll nl0)) nll),tv⟩) fun q2_=>?_
  refine bfe h (fun hb19 h=>?_) fun hb19 h=>?_
  ·refine wx tbk (hcat (Q7a p0 x10 x15 x18) [(12,rp [(.tmp 36,B !x18)] (B true))]) (hap q2_ ⟨asb hb19 (amv rfl),tv⟩)<|wtr<|wxz<|Qad<|Qal<|Qac<|Qac<|Qal<|Qac ?_
   obtain rfl:=osi h
   exact fend ⟨[I 1],⟨rot,tv⟩,rfl⟩ nll
  refine hpre (A:=(Q69 p0 x10 x15 x18)) (hap q2_ ⟨asb hb19 (amv rfl),tv⟩) fun q3_=>?_
  refine bfe h (fun hb20 h=>?_) fun hb20 h=>?_
  ·refine wx tbk (hcat (Q69 p0 x10 x15 x18) [(19,rp [(.tmp 43,B (x10.From==x10.To))] (B true))]) (hap q3_ ⟨asb hb20 (amv rfl),tv⟩)<|wtr<|wxz<|Qad<|Qal<|Qac<|Qac<|Qal<|Qac ?_
   obtain rfl:=osi h
   exact fend ⟨[I 1],⟨rot,tv⟩,rfl⟩ nll
  refine bnq h fun x22 f21 h=>hpre (A:=(Q68 p0 x10 x15 x18 x22)) (hap q3_ ⟨asb hb20 (amv rfl),ag_ (apv Qoz (Qhi N x10.Seen.Lo 0 1000000 _ f21) (nlcc (nlc nll nl0)) nll),tv⟩) fun q4_=>?_
  refine bfe h (fun hb23 h=>?_) fun hb23 h=>?_
  ·refine wx tbk (hcat (Q68 p0 x10 x15 x18 x22) [(26,rp [(.tmp 50,B !x22)] (B true))]) (hap q4_ ⟨asb hb23 (amv rfl),tv⟩)<|wtr<|wxz<|Qad<|Qal<|Qac<|Qac<|Qal<|Qac ?_
   obtain rfl:=osi h
   exact fend ⟨[I 1],⟨rot,tv⟩,rfl⟩ nll
  refine bnq h fun x25 f24 h=>hpre (A:=(Q67 p0 x10 x15 x18 x22 x25)) (hap q4_ ⟨asb hb23 (amv rfl),ag_ (apv Qoz (Qhi N x10.Seen.Hi 0 1000000 _ f24) (nlcc (nlc nll nl0)) nll),tv⟩) fun q5_=>?_
  refine bfe h (fun hb26 h=>?_) fun hb26 h=>?_
  ·refine wx tbk (hcat (Q67 p0 x10 x15 x18 x22 x25) [(33,rp [(.tmp 57,B !x25)] (B true))]) (hap q5_ ⟨asb hb26 (amv rfl),tv⟩)<|wtr<|wxz<|Qad<|Qal<|Qac<|Qac<|Qal<|Qac ?_
   obtain rfl:=osi h
   exact fend ⟨[I 1],⟨rot,tv⟩,rfl⟩ nll
  refine wx tbk (hcat (Q67 p0 x10 x15 x18 x22 x25) [(33,rp [(.tmp 57,B !x25)] (B false))]) (hap q5_ ⟨asb hb26 (amv rfl),tv⟩)<|bfq h (fun c27 h=>?_) fun c27 h=>?_
  ·refine wxz<|Qad<|Qal<|Qac<|Qac<|Qal<|Qac ?_
   obtain rfl:=osi h
   exact fend ⟨[I 1],⟨rot,tv⟩,rfl⟩ nll
  exact Qah<|bln<|thn<|wxz1<|thn<|arm (mto (n:=67) [(1,.ref 0 2 0 0),(3,I (w64 (y6+1)))] [0] [Q97 p0] hq (prr (pw pn)) (qbi qn)) (ih (w64 (y6+1)) h)
 exact Qax<|Qan<|Qan<|Qaw rfl<|thn<|⟨(),h,mto (n:=67) [] [] [] hq pn qn⟩
def Qda (N:Nat) (p1:Qbj) (y7:Int) (k11:Unit->Option Int):Nat->Int->Option Int
 |0,_=>none
 |n15+1,y13=>bif decide (y13<(p1.Inlets.length:Int)) then (getI p1.Inlets y13).bind fun x17=>(getI p1.Feeds y7).bind fun x21=>bif (x17.Site==x21) then some 1 else Qda N p1 y7 k11 n15 (w64 (y13+1)) else k11 ()
def Qco (N:Nat) (p0:Qav) (p1:Qbj) (k6:Unit->Option Int):Nat->Int->Option Int
 |0,_=>none
 |n9+1,y7=>bif decide (y7<(p1.Feeds.length:Int)) then Qb0 (fun _=>Qco N p0 p1 k6 n9 (w64 (y7+1))) fun k11:Unit->Option Int=>Qb0 (fun _=>Qda N p1 y7 k11 N 0) fun k12:Unit->Option Int=>(getI p1.Feeds y7).bind fun x26=>(Qkx N p0 x26).bind fun x31=>bif !x31 then some 1 else bif decide (y7>0) then (getI p1.Feeds (w64 (y7-1))).bind fun x34=>bif decide (x26<=x34) then some 1 else k12 () else k12 () else k6 ()
def Qcn (N:Nat) (k43:Unit->Option Int) (x44:Qb3):Nat->Int->Option Int
 |0,_=>none
 |n52+1,y50=>bif decide (y50<(x44.Stairs.length:Int)) then (getI x44.Stairs y50).bind fun x54=>(Qim N x54.Amount 1 1000000).bind fun x59=>bif !x59 then some 1 else (Qim N x54.Price 0 1000).bind fun x62=>bif !x62 then some 1 else bif decide (y50>0) then (getI x44.Stairs (w64 (y50-1))).bind fun x65=>bif decide (x54.Price<=x65.Price) then some 1 else Qcn N k43 x44 n52 (w64 (y50+1)) else Qcn N k43 x44 n52 (w64 (y50+1)) else k43 ()
def Qeg (N:Nat) (p1:Qbj) (y39:Int) (x44:Qb3) (k49:Unit->Option Int):Nat->Int->Option Int
 |0,_=>none
 |n72+1,y70=>bif decide (y70<y39) then (getI p1.Inlets y70).bind fun x74=>bif (x74.Site==x44.Site) then some 1 else Qeg N p1 y39 x44 k49 n72 (w64 (y70+1)) else k49 ()
def Qc9 (N:Nat) (p0:Qav) (p1:Qbj) (k5:Unit->Option Int):Nat->Int->Option Int
 |0,_=>none
 |n41+1,y39=>bif decide (y39<(p1.Inlets.length:Int)) then Qb0 (fun _=>Qc9 N p0 p1 k5 n41 (w64 (y39+1))) fun k43:Unit->Option Int=>(getI p1.Inlets y39).bind fun x44=>Qb0 (fun _=>Qb0 (fun _=>Qcn N k43 x44 N 0) fun k49:Unit->Option Int=>Qeg N p1 y39 x44 k49 N 0) fun k48:Unit->Option Int=>(Qkx N p0 x44.Site).bind fun x80=>bif !x80 then some 1 else (Qim N (x44.Stairs.length:Int) 1 6).bind fun x83=>bif !x83 then some 1 else k48 () else k5 ()
def Qjp (N:Nat) (p0:Qav) (p1:Qbj):Option Int:=(Qjo N p0).bind fun x2=>bif (x2 != 0) then some x2 else Qb0 (fun _=>Qb0 (fun _=>Qb0 (fun _=>some 0) fun k6:Unit->Option Int=>Qco N p0 p1 k6 N 0) fun k5:Unit->Option Int=>Qc9 N p0 p1 k5 N 0) fun k4:Unit->Option Int=>(Qim N (p1.Inlets.length:Int) 1 10).bind fun x86=>bif !x86 then some 1 else (Qim N (p1.Feeds.length:Int) 1 10).bind fun x89=>bif !x89 then some 1 else (Qim N p1.Factor 1000 100000).bind fun x92=>bif !x92 then some 1 else (Qim N p1.Horizon 0 100000000).bind fun x95=>bif !x95 then some 1 else k4 ()
abbrev Zox (p0:Qav):AV:=.agg [I p0.Sites,.dat 4 (p0.Tests.map Qbu)]
abbrev Qhb (p0:Qav):Slot:=.own 2 [[I p0.Sites,.dat 4 (p0.Tests.map Qbu)]]
abbrev Zow (p1:Qbj):AV:=.dat 2 (p1.Inlets.map Qbg)
abbrev Q4e (p1:Qbj):AV:=.dat 1 (p1.Feeds.map Qab)
abbrev Qha (p1:Qbj):Slot:=.own 4 [[Zow p1,Q4e p1,I p1.Factor,I p1.Horizon]]
def Q10 (p1:Qbj) (y7 x26:Int) (p0:Qav) (x31:Bool):List (Nat×Rec):=[(4,rp [(.tmp 127,Q4e p1),(.tmp 128,I y7)] (.dptr (Qab x26) 0)),(6,rp [fu 19,(.tmp 125,Zox p0),(.tmp 130,I x26)] (B x31))]
abbrev Q7h (x44:Qb3):AV:=.dat 2 (x44.Stairs.map Qbm)
abbrev Qmx (x44:Qb3):Slot:=.own 2 [[I x44.Site,Q7h x44]]
def Q7g (x54:Qay) (x59:Bool):List (Nat×Rec):=[(2,rp [fu 17,(.tmp 93,I x54.Amount),ci 1,ci 1000000] (B x59))]
def Q1z x54 x59 (x62:Bool):=hcat (Q7g x54 x59) [(4,rp [(.tmp 95,B !x59)] (B false)),(7,rp [(.tmp 96,B false),fu 17,(.tmp 98,I x54.Price),ci 0,ci 1000] (B x62))]
def Q7f (p0:Qav) (x44:Qb3) (x80:Bool):List (Nat×Rec):=[(3,rp [fu 19,(.tmp 54,Zox p0),(.tmp 56,I x44.Site)] (B x80))]
def Q7e (p1:Qbj) (x86:Bool):List (Nat×Rec):=[(2,rp [(.tmp 19,Zow p1)] (I (p1.Inlets.length:Int))),(3,rp [fu 17,(.tmp 20,I (p1.Inlets.length:Int)),ci 1,ci 10] (B x86))]
def Q7d p1 x86 (x89:Bool):=hcat (Q7e p1 x86) [(5,rp [(.tmp 22,B !x86)] (B false)),(8,rp [(.tmp 23,B false),(.tmp 25,Q4e p1)] (I (p1.Feeds.length:Int))),(9,rp [(.tmp 23,B false),fu 17,(.tmp 26,I (p1.Feeds.length:Int)),ci 1,ci 10] (B x89))]
def Q7c p1 x86 x89 (x92:Bool):=hcat (Q7d p1 x86 x89) [(12,rp [(.tmp 29,B !x89)] (B false)),(15,rp [(.tmp 30,B false),fu 17,(.tmp 32,I p1.Factor),ci 1000,ci 100000] (B x92))]
def Qsl (N:Nat) (p0:Qav) (p1:Qbj) (r:Int) (h:Qjp N p0 p1=some r):Spec prog 6 [.agg (Qis p0),.agg (Qla p1)] [] (I r) []:=by
 refine sA func6 0 fun _ _ _ hq hd0=>?_
 unfold Qjp at h
 refine wxz<|wsq<|bnq h fun x2 f1 h=>wx tbk [(1,rp _ _)] ⟨apw Ztk (Qsk N p0 _ f1),tv⟩<|wxz<|bfq h (fun c3 h=>?_) fun c3 h=>?_
 ·refine wxz<|Qad<|Qac ?_
  obtain rfl:=osi h
  exact fend ⟨[I x2],⟨rot,tv⟩,rfl⟩ nll
 refine Qah<|thn ?_
 refine wjq h (fun _=>⟨mk 170 [(2,.ref 0 2 0 0),(3,.ref 1 4 0 0)],[Qhb p0,Qha p1]⟩) (fun t h=>?_) fun k4 h=>?_
 ·refine wjq h (fun _=>⟨mk 170 [(2,.ref 0 2 0 0),(3,.ref 1 4 0 0)],[Qhb p0,Qha p1]⟩) (fun t h=>?_) fun k5 h=>?_
  ·refine wjq h (fun _=>⟨mk 170 [],[]⟩) (fun t h=>?_) fun k6 h=>?_
   ·refine wxz<|Qad ?_
    obtain rfl:=osi h
    exact fend ⟨[I 0],⟨rot,tv⟩,rfl⟩ nll
   refine wxz<|Qaf ?_
   refine wmr (mto (n:=170) (l':=[(2,.ref 0 2 0 0),(3,.ref 1 4 0 0),(11,I 0)]) (own':=[Qhb p0,Qha p1]) [(2,.ref 0 2 0 0),(3,.ref 1 4 0 0),(11,I 0)] [0,1] [Qhb p0,Qha p1] hq (prr (prr (pw pn))) (qbi (qbi qn))) ?_
   refine Qbf (τ:=Int) (fun n t=>Qco N p0 p1 k6 n t=some r) (fun y7=>⟨mk 170 [(2,.ref 0 2 0 0),(3,.ref 1 4 0 0),(11,I y7)],[Qhb p0,Qha p1]⟩) (fun t h=>by rw[Qco] at h;cases h) (fun n9 ih y7 h=>?_) N (0) h
   rw[Qco] at h
   refine wsq<|wx tbk [(3,rp _ _)] ⟨alq 1 Qab p1.Feeds Xag,tv⟩<|bfq h (fun c10 h=>?_) fun c10 h=>?_
   ·refine Qah<|thn ?_
    refine wjq h (fun _=>⟨mk 170 [(2,.ref 0 2 0 0),(3,.ref 1 4 0 0),(11,I y7)],[Qhb p0,Qha p1]⟩) (fun t h=>?_) fun k11 h=>?_
    ·exact wxz1<|thn<|arm (mto (n:=170) [(2,.ref 0 2 0 0),(3,.ref 1 4 0 0),(11,I (w64 (y7+1)))] [0,1] [Qhb p0,Qha p1] hq (prr (prr (pw pn))) (qbi (qbi qn))) (ih (w64 (y7+1)) h)
    refine Qaf ?_
    refine wjq h (fun _=>⟨mk 170 [(2,.ref 0 2 0 0),(3,.ref 1 4 0 0),(11,I y7)],[Qhb p0,Qha p1]⟩) (fun t h=>?_) fun k12 h=>?_
    ·refine wxz<|Qaf ?_
     refine wmr (mto (n:=170) (l':=[(2,.ref 0 2 0 0),(3,.ref 1 4 0 0),(11,I y7),(12,I 0)]) (own':=[Qhb p0,Qha p1]) [(2,.ref 0 2 0 0),(3,.ref 1 4 0 0),(11,I y7),(12,I 0)] [0,1] [Qhb p0,Qha p1] hq (prr (prr (pw (pw pn)))) (qbi (qbi qn))) ?_
     refine Qbf (τ:=Int) (fun n t=>Qda N p1 y7 k11 n t=some r) (fun y13=>⟨mk 170 [(2,.ref 0 2 0 0),(3,.ref 1 4 0 0),(11,I y7),(12,I y13)],[Qhb p0,Qha p1]⟩) (fun t h=>by rw[Qda] at h;cases h) (fun n15 ih y13 h=>?_) N (0) h
     rw[Qda] at h
     refine wsq<|wx tbk [(3,rp _ _)] ⟨alq 2 Qbg p1.Inlets Xck,tv⟩<|bfq h (fun c16 h=>?_) fun c16 h=>?_
     ·refine Qah<|thn<|wsq<|Qaf ?_
      refine bgq h fun x17 i19 j20 h=>bgq h fun x21 i23 j24 h=>wxd tbk [(3,rp _ _),(9,rp _ _)] ⟨aiq Xck ti77 Qbg i19 j20,aiq Xag ti3 Qab i23 j24,tv⟩<|bfq h (fun c25 h=>?_) fun c25 h=>?_
      ·refine wxz<|Qad<|Qal<|Qac<|Qac<|Qal<|Qal<|Qac<|Qac ?_
       refine Qal<|Qac ?_
       obtain rfl:=osi h
       exact fend ⟨[I 1],⟨rot,tv⟩,rfl⟩ nll
      exact Qah<|bln<|thn<|wxz1<|thn<|arm (mto (n:=170) [(2,.ref 0 2 0 0),(3,.ref 1 4 0 0),(11,I y7),(12,I (w64 (y13+1)))] [0,1] [Qhb p0,Qha p1] hq (prr (prr (pw (pw pn)))) (qbi (qbi qn))) (ih (w64 (y13+1)) h)
     exact Qax<|Qan<|Qan<|Qaw rfl<|bln<|thn<|⟨(),h,mto (n:=170) [(2,.ref 0 2 0 0),(3,.ref 1 4 0 0),(11,I y7)] [0,1] [Qhb p0,Qha p1] hq (prr (prr (pw pn))) (qbi (qbi qn))⟩
    refine bgq h fun x26 i28 j29 h=>bnq h fun x31 f30 h=>hpre (A:=(Q10 p1 y7 x26 p0 x31)) ⟨aiq Xag ti3 Qab i28 j29,apv Q3h (Qm9 N p0 x26 _ f30) (nlc (NLt.agg _ (nlc nll (nlc (nld Qbz _) nl0))) (nlc nll nl0)) nll,tv⟩ fun q1_=>?_
    refine bfe h (fun hb32 h=>?_) fun hb32 h=>?_
    ·refine wxd tbk (hcat (Q10 p1 y7 x26 p0 x31) [(8,rp [(.tmp 132,B !x31)] (B true))]) (hap q1_ ⟨asb hb32 (amv rfl),tv⟩)<|wtr<|wxz<|Qad<|Qac<|Qal<|Qac<|Qac<|Qal<|Qac ?_
     obtain rfl:=osi h
     exact fend ⟨[I 1],⟨rot,tv⟩,rfl⟩ nll
    refine bfe h (fun hb33 h=>?_) fun hb33 h=>?_
    ·refine bgq h fun x34 i36 j37 h=>wxd tbk (hcat (Q10 p1 y7 x26 p0 x31) [(8,rp [(.tmp 132,B !x31)] (B false)),(11,rp [(.tmp 133,B false),(.tmp 135,B (decide (y7>0)))] (B true)),(15,rp [(.tmp 136,B true),(.tmp 138,Q4e p1),(.tmp 139,I y7)] (.dptr (Qab x26) 0)),(21,rp [(.tmp 136,B true),(.tmp 143,Q4e p1),(.tmp 145,I (w64 (y7-1)))] (.dptr (Qab x34) 0))]) (hap q1_ ⟨asb hb32 (amv rfl),asb hb33 (ag_ (amv rfl)),ag_ (aiq Xag ti3 Qab i28 j29),ag_ (aiq Xag ti3 Qab i36 j37),tv⟩)<|bfq h (fun c38 h=>?_) fun c38 h=>?_
     ·refine wxz<|Qad<|Qac<|Qal<|Qac<|Qac<|Qal<|Qac ?_
      obtain rfl:=osi h
      exact fend ⟨[I 1],⟨rot,tv⟩,rfl⟩ nll
     exact Qah<|thn<|⟨(),h,mto (n:=170) [(2,.ref 0 2 0 0),(3,.ref 1 4 0 0),(11,I y7)] [0,1] [Qhb p0,Qha p1] hq (prr (prr (pw pn))) (qbi (qbi qn))⟩
    exact wxd tbk (hcat (Q10 p1 y7 x26 p0 x31) [(8,rp [(.tmp 132,B !x31)] (B false)),(11,rp [(.tmp 133,B false),(.tmp 135,B (decide (y7>0)))] (B false))]) (hap q1_ ⟨asb hb32 (amv rfl),asb hb33 (ag_ (amv rfl)),tv⟩)<|wfa<|Qah<|thn<|⟨(),h,mto (n:=170) [(2,.ref 0 2 0 0),(3,.ref 1 4 0 0),(11,I y7)] [0,1] [Qhb p0,Qha p1] hq (prr (prr (pw pn))) (qbi (qbi qn))⟩
   exact Qax<|Qan<|Qan<|Qaw rfl<|thn<|⟨(),h,mto (n:=170) [] [] [] hq pn qn⟩
  refine wxz<|Qaf ?_
  refine wmr (mto (n:=170) (l':=[(2,.ref 0 2 0 0),(3,.ref 1 4 0 0),(6,I 0)]) (own':=[Qhb p0,Qha p1]) [(2,.ref 0 2 0 0),(3,.ref 1 4 0 0),(6,I 0)] [0,1] [Qhb p0,Qha p1] hq (prr (prr (pw pn))) (qbi (qbi qn))) ?_
  refine Qbf (τ:=Int) (fun n t=>Qc9 N p0 p1 k5 n t=some r) (fun y39=>⟨mk 170 [(2,.ref 0 2 0 0),(3,.ref 1 4 0 0),(6,I y39)],[Qhb p0,Qha p1]⟩) (fun t h=>by rw[Qc9] at h;cases h) (fun n41 ih y39 h=>?_) N (0) h
  rw[Qc9] at h
  refine wsq<|wx tbk [(3,rp _ _)] ⟨alq 2 Qbg p1.Inlets Xck,tv⟩<|bfq h (fun c42 h=>?_) fun c42 h=>?_
  ·refine Qah<|thn ?_
   refine wjq h (fun _=>⟨mk 170 [(2,.ref 0 2 0 0),(3,.ref 1 4 0 0),(6,I y39)],[Qhb p0,Qha p1]⟩) (fun t h=>?_) fun k43 h=>?_
   ·exact wxz1<|thn<|arm (mto (n:=170) [(2,.ref 0 2 0 0),(3,.ref 1 4 0 0),(6,I (w64 (y39+1)))] [0,1] [Qhb p0,Qha p1] hq (prr (prr (pw pn))) (qbi (qbi qn))) (ih (w64 (y39+1)) h)
   refine Qaf ?_
   refine bgq h fun x44 i46 j47 h=>wx tbk [(3,rp _ _)] ⟨aiq Xck ti77 Qbg i46 j47,tv⟩<|wjq h (fun _=>⟨mk 170 [(2,.ref 0 2 0 0),(3,.ref 1 4 0 0),(6,I y39),(7,.ref 2 2 0 0)],[Qhb p0,Qha p1,Qmx x44]⟩) (fun t h=>?_) fun k48 h=>?_
   ·refine wjq h (fun _=>⟨mk 170 [(2,.ref 0 2 0 0),(3,.ref 1 4 0 0),(6,I y39),(7,.ref 2 2 0 0)],[Qhb p0,Qha p1,Qmx x44]⟩) (fun t h=>?_) fun k49 h=>?_
    ·refine wxz<|Qaf ?_
     refine wmr (mto (n:=170) (l':=[(2,.ref 0 2 0 0),(3,.ref 1 4 0 0),(6,I y39),(7,.ref 2 2 0 0),(9,I 0)]) (own':=[Qhb p0,Qha p1,Qmx x44]) [(2,.ref 0 2 0 0),(3,.ref 1 4 0 0),(6,I y39),(7,.ref 2 2 0 0),(9,I 0)] [0,1,2] [Qhb p0,Qha p1,Qmx x44] hq (prr (prr (pw (prr (pw pn))))) (qbi (qbi (qbi qn)))) ?_
     refine Qbf (τ:=Int) (fun n t=>Qcn N k43 x44 n t=some r) (fun y50=>⟨mk 170 [(2,.ref 0 2 0 0),(3,.ref 1 4 0 0),(6,I y39),(7,.ref 2 2 0 0),(9,I y50)],[Qhb p0,Qha p1,Qmx x44]⟩) (fun t h=>by rw[Qcn] at h;cases h) (fun n52 ih y50 h=>?_) N (0) h
     rw[Qcn] at h
     refine wsq<|wx tbk [(3,rp _ _)] ⟨alq 2 Qbm x44.Stairs Xds,tv⟩<|bfq h (fun c53 h=>?_) fun c53 h=>?_
     ·refine Qah<|thn<|wsq<|Qaf ?_
      refine bgq h fun x54 i56 j57 h=>wx tbk [(3,rp _ _)] ⟨aiq Xds ti80 Qbm i56 j57,tv⟩<|bnq h fun x59 f58 h=>hpre (A:=(Q7g x54 x59)) ⟨apv Qoz (Qhi N x54.Amount 1 1000000 _ f58) (nlcc (nlc nll nl0)) nll,tv⟩ fun q2_=>?_
      refine bfe h (fun hb60 h=>?_) fun hb60 h=>?_
      ·refine wxd tbk (hcat (Q7g x54 x59) [(4,rp [(.tmp 95,B !x59)] (B true))]) (hap q2_ ⟨asb hb60 (amv rfl),tv⟩)<|wtr<|wxz<|Qad<|Qal<|Qac<|Qac<|Qal<|Qal<|Qac ?_
       refine Qac<|Qal<|Qac ?_
       obtain rfl:=osi h
       exact fend ⟨[I 1],⟨rot,tv⟩,rfl⟩ nll
      refine bnq h fun x62 f61 h=>hpre (A:=(Q1z x54 x59 x62)) (hap q2_ ⟨asb hb60 (amv rfl),ag_ (apv Qoz (Qhi N x54.Price 0 1000 _ f61) (nlcc (nlc nll nl0)) nll),tv⟩) fun q3_=>?_
      refine bfe h (fun hb63 h=>?_) fun hb63 h=>?_
      ·refine wxd tbk (hcat (Q1z x54 x59 x62) [(10,rp [(.tmp 101,B !x62)] (B true))]) (hap q3_ ⟨asb hb63 (amv rfl),tv⟩)<|wtr<|wxz<|Qad<|Qal<|Qac<|Qac<|Qal<|Qal<|Qac ?_
       refine Qac<|Qal<|Qac ?_
       obtain rfl:=osi h
       exact fend ⟨[I 1],⟨rot,tv⟩,rfl⟩ nll
      refine bfe h (fun hb64 h=>?_) fun hb64 h=>?_
      ·refine bgq h fun x65 i67 j68 h=>wxd tbk (hcat (Q1z x54 x59 x62) [(10,rp [(.tmp 101,B !x62)] (B false)),(13,rp [(.tmp 102,B false),(.tmp 104,B (decide (y50>0)))] (B true)),(20,rp [(.tmp 105,B true),(.tmp 109,Q7h x44),(.tmp 111,I (w64 (y50-1)))] (.dptr (Qbm x65) 0))]) (hap q3_ ⟨asb hb63 (amv rfl),asb hb64 (ag_ (amv rfl)),ag_ (aiq Xds ti80 Qbm i67 j68),tv⟩)<|bfq h (fun c69 h=>?_) fun c69 h=>?_
       ·refine wxz<|Qad<|Qal<|Qac<|Qac<|Qal<|Qal<|Qac<|Qac ?_
        refine Qal<|Qac ?_
        obtain rfl:=osi h
        exact fend ⟨[I 1],⟨rot,tv⟩,rfl⟩ nll
       exact Qah<|bln<|thn<|wxz1<|thn<|arm (mto (n:=170) [(2,.ref 0 2 0 0),(3,.ref 1 4 0 0),(6,I y39),(7,.ref 2 2 0 0),(9,I (w64 (y50+1)))] [0,1,2] [Qhb p0,Qha p1,Qmx x44] hq (prr (prr (pw (prr (pw pn))))) (qbi (qbi (qbi qn)))) (ih (w64 (y50+1)) h)
      exact wxd tbk (hcat (Q1z x54 x59 x62) [(10,rp [(.tmp 101,B !x62)] (B false)),(13,rp [(.tmp 102,B false),(.tmp 104,B (decide (y50>0)))] (B false))]) (hap q3_ ⟨asb hb63 (amv rfl),asb hb64 (ag_ (amv rfl)),tv⟩)<|wfa<|Qah<|bln<|thn<|wxz1<|thn<|arm (mto (n:=170) [(2,.ref 0 2 0 0),(3,.ref 1 4 0 0),(6,I y39),(7,.ref 2 2 0 0),(9,I (w64 (y50+1)))] [0,1,2] [Qhb p0,Qha p1,Qmx x44] hq (prr (prr (pw (prr (pw pn))))) (qbi (qbi (qbi qn)))) (ih (w64 (y50+1)) h)
     exact Qax<|Qan<|Qan<|Qaw rfl<|bln<|thn<|⟨(),h,mto (n:=170) [(2,.ref 0 2 0 0),(3,.ref 1 4 0 0),(6,I y39)] [0,1] [Qhb p0,Qha p1] hq (prr (prr (pw pn))) (qbi (qbi qn))⟩
    refine wxz<|Qaf ?_
    refine wmr (mto (n:=170) (l':=[(2,.ref 0 2 0 0),(3,.ref 1 4 0 0),(6,I y39),(7,.ref 2 2 0 0),(8,I 0)]) (own':=[Qhb p0,Qha p1,Qmx x44]) [(2,.ref 0 2 0 0),(3,.ref 1 4 0 0),(6,I y39),(7,.ref 2 2 0 0),(8,I 0)] [0,1,2] [Qhb p0,Qha p1,Qmx x44] hq (prr (prr (pw (prr (pw pn))))) (qbi (qbi (qbi qn)))) ?_
    refine Qbf (τ:=Int) (fun n t=>Qeg N p1 y39 x44 k49 n t=some r) (fun y70=>⟨mk 170 [(2,.ref 0 2 0 0),(3,.ref 1 4 0 0),(6,I y39),(7,.ref 2 2 0 0),(8,I y70)],[Qhb p0,Qha p1,Qmx x44]⟩) (fun t h=>by rw[Qeg] at h;cases h) (fun n72 ih y70 h=>?_) N (0) h
    rw[Qeg] at h
    refine wsq<|wxz<|bfq h (fun c73 h=>?_) fun c73 h=>?_
    ·refine Qah<|thn<|wsq<|Qaf ?_
     refine bgq h fun x74 i76 j77 h=>wxd tbk [(3,rp _ _)] ⟨aiq Xck ti77 Qbg i76 j77,tv⟩<|bfq h (fun c78 h=>?_) fun c78 h=>?_
     ·refine wxz<|Qad<|Qal<|Qac<|Qac<|Qal<|Qac<|Qal<|Qac ?_
      refine Qac<|Qal<|Qac ?_
      obtain rfl:=osi h
      exact fend ⟨[I 1],⟨rot,tv⟩,rfl⟩ nll
     exact Qah<|bln<|thn<|wxz1<|thn<|arm (mto (n:=170) [(2,.ref 0 2 0 0),(3,.ref 1 4 0 0),(6,I y39),(7,.ref 2 2 0 0),(8,I (w64 (y70+1)))] [0,1,2] [Qhb p0,Qha p1,Qmx x44] hq (prr (prr (pw (prr (pw pn))))) (qbi (qbi (qbi qn)))) (ih (w64 (y70+1)) h)
    exact Qax<|Qan<|Qan<|Qaw rfl<|thn<|⟨(),h,mto (n:=170) [(2,.ref 0 2 0 0),(3,.ref 1 4 0 0),(6,I y39),(7,.ref 2 2 0 0)] [0,1,2] [Qhb p0,Qha p1,Qmx x44] hq (prr (prr (pw (prr pn)))) (qbi (qbi (qbi qn)))⟩
   refine bnq h fun x80 f79 h=>hpre (A:=(Q7f p0 x44 x80)) ⟨apv Q3h (Qm9 N p0 x44.Site _ f79) (nlc (NLt.agg _ (nlc nll (nlc (nld Qbz _) nl0))) (nlc nll nl0)) nll,tv⟩ fun q4_=>?_
   refine bfe h (fun hb81 h=>?_) fun hb81 h=>?_
   ·refine wx tbk (hcat (Q7f p0 x44 x80) [(5,rp [(.tmp 58,B !x80)] (B true))]) (hap q4_ ⟨asb hb81 (amv rfl),tv⟩)<|wtr<|wxz<|Qad<|Qac<|Qal<|Qac<|Qac<|Qal<|Qac ?_
    obtain rfl:=osi h
    exact fend ⟨[I 1],⟨rot,tv⟩,rfl⟩ nll
   refine bnq h fun x83 f82 h=>wx tbk (hcat (Q7f p0 x44 x80) [(5,rp [(.tmp 58,B !x80)] (B false)),(8,rp [(.tmp 59,B false),(.tmp 61,Q7h x44)] (I (x44.Stairs.length:Int))),(9,rp [(.tmp 59,B false),fu 17,(.tmp 62,I (x44.Stairs.length:Int)),ci 1,ci 6] (B x83))]) (hap q4_ ⟨asb hb81 (amv rfl),ag_ (alq 2 Qbm x44.Stairs Xds),ag_ (apv Qoz (Qhi N (x44.Stairs.length:Int) 1 6 _ f82) (nlcc (nlc nll nl0)) nll),tv⟩)<|bfq h (fun c84 h=>?_) fun c84 h=>?_
   ·refine wxz<|Qad<|Qac<|Qal<|Qac<|Qac<|Qal<|Qac ?_
    obtain rfl:=osi h
    exact fend ⟨[I 1],⟨rot,tv⟩,rfl⟩ nll
   exact Qah<|thn<|⟨(),h,mto (n:=170) [(2,.ref 0 2 0 0),(3,.ref 1 4 0 0),(6,I y39),(7,.ref 2 2 0 0)] [0,1,2] [Qhb p0,Qha p1,Qmx x44] hq (prr (prr (pw (prr pn)))) (qbi (qbi (qbi qn)))⟩
  exact Qax<|Qan<|Qan<|Qaw rfl<|thn<|⟨(),h,mto (n:=170) [(2,.ref 0 2 0 0),(3,.ref 1 4 0 0)] [0,1] [Qhb p0,Qha p1] hq (prr (prr pn)) (qbi (qbi qn))⟩
 refine bnq h fun x86 f85 h=>hpre (A:=(Q7e p1 x86)) ⟨alq 2 Qbg p1.Inlets Xck,apv Qoz (Qhi N (p1.Inlets.length:Int) 1 10 _ f85) (nlcc (nlc nll nl0)) nll,tv⟩ fun q5_=>?_
 refine bfe h (fun hb87 h=>?_) fun hb87 h=>?_
 ·refine wx tbk (hcat (Q7e p1 x86) [(5,rp [(.tmp 22,B !x86)] (B true))]) (hap q5_ ⟨asb hb87 (amv rfl),tv⟩)<|wtr<|wxz<|Qad<|Qac ?_
  obtain rfl:=osi h
  exact fend ⟨[I 1],⟨rot,tv⟩,rfl⟩ nll
 refine bnq h fun x89 f88 h=>hpre (A:=(Q7d p1 x86 x89)) (hap q5_ ⟨asb hb87 (amv rfl),ag_ (alq 1 Qab p1.Feeds Xag),ag_ (apv Qoz (Qhi N (p1.Feeds.length:Int) 1 10 _ f88) (nlcc (nlc nll nl0)) nll),tv⟩) fun q6_=>?_
 refine bfe h (fun hb90 h=>?_) fun hb90 h=>?_
 ·refine wx tbk (hcat (Q7d p1 x86 x89) [(12,rp [(.tmp 29,B !x89)] (B true))]) (hap q6_ ⟨asb hb90 (amv rfl),tv⟩)<|wtr<|wxz<|Qad<|Qac ?_
  obtain rfl:=osi h
  exact fend ⟨[I 1],⟨rot,tv⟩,rfl⟩ nll
 refine bnq h fun x92 f91 h=>hpre (A:=(Q7c p1 x86 x89 x92)) (hap q6_ ⟨asb hb90 (amv rfl),ag_ (apv Qoz (Qhi N p1.Factor 1000 100000 _ f91) (nlcc (nlc nll nl0)) nll),tv⟩) fun q7_=>?_
 refine bfe h (fun hb93 h=>?_) fun hb93 h=>?_
 ·refine wx tbk (hcat (Q7c p1 x86 x89 x92) [(18,rp [(.tmp 35,B !x92)] (B true))]) (hap q7_ ⟨asb hb93 (amv rfl),tv⟩)<|wtr<|wxz<|Qad<|Qac ?_
  obtain rfl:=osi h
  exact fend ⟨[I 1],⟨rot,tv⟩,rfl⟩ nll
 refine bnq h fun x95 f94 h=>wx tbk (hcat (Q7c p1 x86 x89 x92) [(18,rp [(.tmp 35,B !x92)] (B false)),(21,rp [(.tmp 36,B false),fu 17,(.tmp 38,I p1.Horizon),ci 0,ci 100000000] (B x95))]) (hap q7_ ⟨asb hb93 (amv rfl),ag_ (apv Qoz (Qhi N p1.Horizon 0 100000000 _ f94) (nlcc (nlc nll nl0)) nll),tv⟩)<|bfq h (fun c96 h=>?_) fun c96 h=>?_
 ·refine wxz<|Qad<|Qac ?_
  obtain rfl:=osi h
  exact fend ⟨[I 1],⟨rot,tv⟩,rfl⟩ nll
 exact Qah<|thn<|⟨(),h,mto (n:=170) [(2,.ref 0 2 0 0),(3,.ref 1 4 0 0)] [0,1] [Qhb p0,Qha p1] hq (prr (prr pn)) (qbi (qbi qn))⟩
def Qsd (_N:Nat) (p0:Qav):Option Bool:=some (decide ((p0.Tests.length:Int)<=70))
def Q25 (N:Nat) (p0:Qav) (r:Bool) (h:Qsd N p0=some r):Spec prog 5 [.agg (Qis p0)] [] (B r) []:=by
 refine sA func5 0 fun _ _ _ hq hd0=>?_
 unfold Qsd at h
 refine wxz<|wx tbk [(2,rp _ _)] ⟨alq 4 Qbu p0.Tests Xdt,tv⟩<|Qad ?_
 obtain rfl:=osi h
 exact fend ⟨[B (decide ((p0.Tests.length:Int)<=70))],⟨rot,tv⟩,rfl⟩ nll
def Qgu (N:Nat) (p0:Qav) (k2:(List Qc8)->Option Qav):Nat->Int->(List Qc8)->Option Qav
 |0,_,_=>none
 |n7+1,y3,y4=>bif decide (y3<(p0.Tests.length:Int)) then (getI p0.Tests y3).bind fun x9=>chk (decide ((y4.length+([(⟨x9.From,x9.To,(⟨x9.Seen.Lo,x9.Seen.Hi⟩:Qkb)⟩:Qc8)]).length)*32<=140737488355328))<|Qgu N p0 k2 n7 (w64 (y3+1)) (y4++([(⟨x9.From,x9.To,(⟨x9.Seen.Lo,x9.Seen.Hi⟩:Qkb)⟩:Qc8)])) else k2 y4
def Qh9 (N:Nat) (p0:Qav):Option Qav:=Qb0 (fun y1=>some (⟨p0.Sites,y1⟩:Qav)) fun k2:(List Qc8)->Option Qav=>Qgu N p0 k2 N 0 ([])
abbrev Q0c:Slot:=.own 2 [[I (0),nilS]]
abbrev Zvd (p0:Qav):AV:=.dat 4 (p0.Tests.map Qbu)
abbrev Q96 (p0:Qav):Slot:=.own 2 [[I p0.Sites,Zvd p0]]
abbrev Zqu (x9:Qc8):AV:=.agg [I x9.Seen.Lo,I x9.Seen.Hi]
abbrev Zfy (x9:Qc8):AV:=.agg [I x9.From,I x9.To,I x9.Seen.Lo,I x9.Seen.Hi]
abbrev Zfx (x9:Qc8):AV:=.dat 4 (([(⟨x9.From,x9.To,(⟨x9.Seen.Lo,x9.Seen.Hi⟩:Qkb)⟩:Qc8)]:List Qc8).map Qbu)
abbrev Zfw (y4:List Qc8) (x9:Qc8):AV:=.acc 5 88 4 ((y4++([(⟨x9.From,x9.To,(⟨x9.Seen.Lo,x9.Seen.Hi⟩:Qkb)⟩:Qc8)]):List Qc8).map Qbu)
def Qk1 (N:Nat) (p0 r:Qav) (h:Qh9 N p0=some r):Spec prog 12 [.agg (Qis p0)] [] (.agg (Qis r)) []:=by
 refine sA func12 0 fun _ _ _ hq hd0=>?_
 unfold Qh9 at h
 refine wxz<|wx tbk [(2,rp _ _)] ⟨Qbt (vs:=[I p0.Sites]) rfl ts58 tz58 rfl (by rfl) rfl,tv⟩<|wjq h (fun y1=>⟨mk 39 [(2,.ref 0 2 0 0),(3,.ref 1 2 0 0)],[Q0c,.own 2 [[I p0.Sites,.acc 2 88 4 (y1.map Qbu)]],.tok]⟩) (fun y1 h=>?_) fun k2 h=>?_
 ·refine wxz<|Qad ?_
  obtain rfl:=osi h
  exact fie [.agg [I p0.Sites,.dat 4 (y1.map Qbu)]] ⟨Qg0 (v:=(.agg [I p0.Sites,.acc 2 88 4 (y1.map Qbu)])) (Qbv (n:=0) (m:=2) (j:=0) (i:=0) (xs:=[[I p0.Sites,.acc 2 88 4 (y1.map Qbu)]]) (by kernel_rfl) (by kernel_rfl) ti58 (by decide) rfl (nle rfl) rfl) (Less.agg ⟨lrf,Less.acc,tv⟩),tv⟩
 refine wxz<|Qaf ?_
 refine wmr (Mor.trans (Qpq (n:=3) (ty:=88) (m:=4) (q:=2) (mq:=2) (c:=[I p0.Sites,nilS]) 1 (by kernel_rfl) (by kernel_rfl) (by kernel_rfl) (by decide)) (mto (n:=39) (l':=[(1,.ref 0 2 0 0),(2,.ref 1 2 0 0),(3,.ref 2 2 0 0),(4,I 0)]) (own':=[Q96 p0,Q0c,.own 2 [[I p0.Sites,.acc 3 88 4 (([]:List Qc8).map Qbu)]],.tok]) [(1,.ref 0 2 0 0),(2,.ref 1 2 0 0),(3,.ref 2 2 0 0),(4,I 0)] [0,1,2,3] [Q96 p0,Q0c,.own 2 [[I p0.Sites,.acc 3 88 4 (([]:List Qc8).map Qbu)]],.tok] hq (prr (prr (prr (pw pn)))) (qbi (qbi (qb (lc rwl (lc (.rn (Qcv rfl (Qcf Qbz _))) ln)) (qc .tok qn)))))) ?_
 refine Qbf (τ:=Int×(List Qc8)) (fun n t=>Qgu N p0 k2 n t.1 t.2=some r) (fun ⟨y3,y4⟩=>⟨mk 39 [(1,.ref 0 2 0 0),(2,.ref 1 2 0 0),(3,.ref 2 2 0 0),(4,I y3)],[Q96 p0,Q0c,.own 2 [[I p0.Sites,.acc 3 88 4 (y4.map Qbu)]],.tok]⟩) (fun t h=>by rw[Qgu] at h;cases h) (fun n7 ih t h=>?_) N (0,[]) h
 obtain⟨y3,y4⟩:=t
 rw[Qgu] at h
 refine wsq<|wx tbk [(3,rp _ _)] ⟨alq 4 Qbu p0.Tests Xdt,tv⟩<|bfq h (fun c8 h=>?_) fun c8 h=>?_
 ·refine Qah<|thn<|wsq<|Qaf ?_
  exact bgq h fun x9 i11 j12 h=>wx tbk [(3,rp _ _)] ⟨aiq Xdt Zq6 Qbu i11 j12,tv⟩<|ckq h fun a13 h=>wx1 tbk [(12,rp _ _),(13,rp _ _),(14,rp [(.tmp 34,Zfy x9)] (Zfx x9)),(15,⟨[(.tmp 22,.acc 3 88 4 (y4.map Qbu)),(.tmp 35,Zfx x9)],[(3,.tok),(5,.unused)],Zfw y4 x9,[(3,.dead),(5,.tok)],false⟩)] ⟨Qbt (vs:=[I x9.Seen.Lo,I x9.Seen.Hi]) rfl ts86 tz86 rfl (by rfl) rfl,Qbt (vs:=[I x9.From,I x9.To,Zqu x9]) rfl ts88 tz88 rfl (by rfl) rfl,Qds (vs:=[Zfy x9]) rfl Xb7 ti88 tz88 rfl (by decide) rfl (by decide) (by rfl) (by rfl) (by rfl) rfl,Qg7 rfl Xb7 te88 (Base.acc _ _) rfl rfl (by rfl) (Qkk Qbu a13) (Qkj Qbu a13 (by decide)) (Qki Qbu) rfl rfl,tv⟩<|bln<|thn<|wxz1<|thn<|arm (mto (n:=39) [(1,.ref 0 2 0 0),(2,.ref 1 2 0 0),(3,.ref 2 2 0 0),(4,I (w64 (y3+1)))] [0,1,2,5] [Q96 p0,Q0c,.own 2 [[I p0.Sites,Zfw y4 x9]],.tok] hq (prr (prr (prr (pw pn)))) (qbi (qbi (qb (lc rwl (lc (.rn (Qcv rfl (Qcf Qbz _))) ln)) (qc .tok qn))))) (ih (w64 (y3+1),y4++([(⟨x9.From,x9.To,(⟨x9.Seen.Lo,x9.Seen.Hi⟩:Qkb)⟩:Qc8)])) h)
 exact Qax<|Qan<|Qan<|Qaw rfl<|thn<|⟨y4,h,mto (n:=39) [(2,.ref 1 2 0 0),(3,.ref 2 2 0 0)] [1,2,3] [Q0c,.own 2 [[I p0.Sites,.acc 3 88 4 (y4.map Qbu)]],.tok] hq (prr (prr pn)) (qbi (qb (lc rwl (lc (.rn (Qcv rfl (Qcf Qbz _))) ln)) (qc .tok qn)))⟩
def Qgv (N:Nat) (x16:Qb3) (k23:(List Qb3)×(List Int)×(List Qay)->Option Qbj):Nat->Int->(List Qb3)->(List Int)->(List Qay)->Option Qbj
 |0,_,_,_,_=>none
 |n33+1,y25,y26,y27,y28=>bif decide (y25<(x16.Stairs.length:Int)) then (getI x16.Stairs y25).bind fun x35=>chk (decide ((y28.length+([x35]).length)*16<=140737488355328))<|Qgv N x16 k23 n33 (w64 (y25+1)) y26 y27 (y28++([x35])) else k23 (y26,y27,y28)
def Qfz (N:Nat) (p0:Qbj) (k4:(List Qb3)×(List Int)->Option Qbj):Nat->Int->(List Qb3)->(List Int)->Option Qbj
 |0,_,_,_=>none
 |n11+1,y5,y6,y7=>bif decide (y5<(p0.Inlets.length:Int)) then Qb0 (fun ⟨y13,y14⟩=>Qfz N p0 k4 n11 (w64 (y5+1)) y13 y14) fun k15:(List Qb3)×(List Int)->Option Qbj=>(getI p0.Inlets y5).bind fun x16=>Qb0 (fun ⟨y20,y21,y22⟩=>chk (decide ((y20.length+([(⟨x16.Site,y22⟩:Qb3)]).length)*32<=140737488355328))<|k15 (y20++([(⟨x16.Site,y22⟩:Qb3)]),y21)) fun k23:(List Qb3)×(List Int)×(List Qay)->Option Qbj=>Qgv N x16 k23 N 0 y6 y7 ([]) else k4 (y6,y7)
def Qia (N:Nat) (p0:Qbj):Option Qbj:=chk (decide ((([]:List Int).length+p0.Feeds.length)*8<=140737488355328))<|Qb0 (fun ⟨y2,y3⟩=>some (⟨y2,y3,p0.Factor,p0.Horizon⟩:Qbj)) fun k4:(List Qb3)×(List Int)->Option Qbj=>Qfz N p0 k4 N 0 ([]) (([]:List Int)++p0.Feeds)
abbrev Zot:AV:=.acc 2 3 1 ((([]:List Int):List Int).map Qab)
abbrev Q93 (p0:Qbj):AV:=.acc 3 3 1 ((([]:List Int)++p0.Feeds:List Int).map Qab)
abbrev Qpd:Slot:=.own 4 [[nilS,nilS,I (0),I (0)]]
abbrev Zvc (p0:Qbj):AV:=.dat 2 (p0.Inlets.map Qbg)
abbrev Qq7 (p0:Qbj):Slot:=.own 4 [[Zvc p0,.dat 1 (p0.Feeds.map Qab),I p0.Factor,I p0.Horizon]]
abbrev Q1y (y6:List Qb3) (y7:List Int) (p0:Qbj):Slot:=.own 4 [[.acc 3 115 2 (y6.map Qbg),.acc 4 3 1 (y7.map Qab),I p0.Factor,I p0.Horizon]]
abbrev Q95 (y14:List Int):AV:=.acc 4 3 1 (y14.map Qab)
abbrev Zle:AV:=.acc 6 116 2 (([]:List Qay).map Qbm)
abbrev Zlf:AV:=.acc 6 116 2 (([]:List Qay).map Qbm)
abbrev Q1x (y26:List Qb3) (y27:List Int) (p0:Qbj):Slot:=.own 4 [[.acc 4 115 2 (y26.map Qbg),.acc 5 3 1 (y27.map Qab),I p0.Factor,I p0.Horizon]]
abbrev Q94 (x35:Qay):AV:=.agg [I x35.Amount,I x35.Price]
def Qk2 (N:Nat) (p0 r:Qbj) (h:Qia N p0=some r):Spec prog 13 [.agg (Qla p0)] [] (.agg (Qla r)) []:=by
 refine sA func13 0 fun _ _ _ hq hd0=>?_
 unfold Qia at h
 refine wxz<|ckq h fun a1 h=>wxd tbk [(0,⟨[],[(2,.unused)],Zot,[(2,.tok)],false⟩),(3,⟨[(.tmp 8,Zot),(.tmp 10,.dat 1 (p0.Feeds.map Qab))],[(2,.tok),(3,.unused)],Q93 p0,[(2,.dead),(3,.tok)],false⟩),(8,rp _ _)] ⟨Qlb rfl Xag ti3 tz3,Qg7 rfl Xag te3 (Base.acc _ _) rfl rfl (Qsa Qab Qvh _) (Qkk Qab a1) (Qkj Qab a1 (by decide)) (Qki Qab) rfl rfl,Qbt (vs:=[Q93 p0,I p0.Factor,I p0.Horizon]) rfl ts62 tz62 rfl (by rfl) rfl,tv⟩<|wjq h (fun ⟨y2,y3⟩=>⟨mk 68 [(2,.ref 0 4 0 0),(3,.ref 1 4 0 0)],[Qpd,.own 4 [[.acc 2 115 2 (y2.map Qbg),.acc 3 3 1 (y3.map Qab),I p0.Factor,I p0.Horizon]],.tok,.tok]⟩) (fun t h=>?_) fun k4 h=>?_
 ·obtain⟨y2,y3⟩:=t
  refine wxz<|Qad ?_
  obtain rfl:=osi h
  exact fie [.agg [.dat 2 (y2.map Qbg),.dat 1 (y3.map Qab),I p0.Factor,I p0.Horizon]] ⟨Qg0 (v:=(.agg [.acc 2 115 2 (y2.map Qbg),.acc 3 3 1 (y3.map Qab),I p0.Factor,I p0.Horizon])) (Qbv (n:=0) (m:=4) (j:=0) (i:=0) (xs:=[[.acc 2 115 2 (y2.map Qbg),.acc 3 3 1 (y3.map Qab),I p0.Factor,I p0.Horizon]]) (by kernel_rfl) (by kernel_rfl) ti62 (by decide) rfl (nle rfl) rfl) (Less.agg ⟨Less.acc,Less.acc,lrf,lrf,tv⟩),tv⟩
 refine wxz<|Qaf ?_
 refine wmr (Mor.trans (Qpq (n:=5) (ty:=115) (m:=2) (q:=4) (mq:=4) (c:=[nilS,Q93 p0,I p0.Factor,I p0.Horizon]) 0 (by kernel_rfl) (by kernel_rfl) (by kernel_rfl) (by decide)) (mto (n:=68) (l':=[(1,.ref 0 4 0 0),(2,.ref 1 4 0 0),(3,.ref 2 4 0 0),(4,I 0)]) (own':=[Qq7 p0,Qpd,.own 4 [[.acc 3 115 2 (([]:List Qb3).map Qbg),.acc 4 3 1 ((([]:List Int)++p0.Feeds:List Int).map Qab),I p0.Factor,I p0.Horizon]],.tok,.tok]) [(1,.ref 0 4 0 0),(2,.ref 1 4 0 0),(3,.ref 4 4 0 0),(4,I 0)] [0,1,4,5,3] [Qq7 p0,Qpd,.own 4 [[.acc 5 115 2 (([]:List Qb3).map Qbg),Q93 p0,I p0.Factor,I p0.Horizon]],.tok,.tok] hq (prr (prr (prr (pw pn)))) (qbi (qbi (qb (lc (.rn (Qcv rfl (Qcf Qh1 _))) (lc (.rn (Qcv rfl (Qcf Qar _))) (lcc ln))) (qc .tok (qc .tok qn))))))) ?_
 refine Qbf (τ:=Int×(List Qb3)×(List Int)) (fun n t=>Qfz N p0 k4 n t.1 t.2.1 t.2.2=some r) (fun ⟨y5,y6,y7⟩=>⟨mk 68 [(1,.ref 0 4 0 0),(2,.ref 1 4 0 0),(3,.ref 2 4 0 0),(4,I y5)],[Qq7 p0,Qpd,Q1y y6 y7 p0,.tok,.tok]⟩) (fun t h=>by rw[Qfz] at h;cases h) (fun n11 ih t h=>?_) N (0,[],([]:List Int)++p0.Feeds) h
 obtain⟨y5,y6,y7⟩:=t
 rw[Qfz] at h
 refine wsq<|wx tbk [(3,rp _ _)] ⟨alq 2 Qbg p0.Inlets Xck,tv⟩<|bfq h (fun c12 h=>?_) fun c12 h=>?_
 ·refine Qah<|thn ?_
  refine wjq h (fun ⟨y13,y14⟩=>⟨mk 68 [(1,.ref 0 4 0 0),(2,.ref 1 4 0 0),(3,.ref 2 4 0 0),(4,I y5)],[Qq7 p0,Qpd,.own 4 [[.acc 3 115 2 (y13.map Qbg),Q95 y14,I p0.Factor,I p0.Horizon]],.tok,.tok]⟩) (fun t h=>?_) fun k15 h=>?_
  ·obtain⟨y13,y14⟩:=t
   exact wxz1<|thn<|arm (mto (n:=68) [(1,.ref 0 4 0 0),(2,.ref 1 4 0 0),(3,.ref 2 4 0 0),(4,I (w64 (y5+1)))] [0,1,2,3,4] [Qq7 p0,Qpd,.own 4 [[.acc 3 115 2 (y13.map Qbg),Q95 y14,I p0.Factor,I p0.Horizon]],.tok,.tok] hq (prr (prr (prr (pw pn)))) (qbi (qbi (qb (lc (.rn (Qcv rfl (Qcf Qh1 _))) (lc (.rn (Qcv rfl (Qcf Qar _))) (lcc ln))) (qc .tok (qc .tok qn)))))) (ih (w64 (y5+1),y13,y14) h)
  refine Qaf ?_
  refine bgq h fun x16 i18 j19 h=>wx tbk [(3,rp _ _),(6,rp _ _)] ⟨aiq Xck ti77 Qbg i18 j19,Qbt (vs:=[I x16.Site]) rfl Zx1 Zq2 rfl (by rfl) rfl,tv⟩<|wjq h (fun ⟨y20,y21,y22⟩=>⟨mk 68 [(1,.ref 0 4 0 0),(2,.ref 1 4 0 0),(3,.ref 2 4 0 0),(4,I y5),(5,.ref 3 2 0 0)],[Qq7 p0,Qpd,.own 4 [[.acc 4 115 2 (y20.map Qbg),.acc 5 3 1 (y21.map Qab),I p0.Factor,I p0.Horizon]],.own 2 [[I x16.Site,.acc 6 116 2 (y22.map Qbm)]],.tok,.tok,.tok]⟩) (fun t h=>?_) fun k23 h=>?_
  ·obtain⟨y20,y21,y22⟩:=t
   refine ckq h fun a24 h=>wx1 tbk [(3,rp [(.tmp 63,.agg [I x16.Site,.acc 6 116 2 (y22.map Qbm)])] (.dat 2 (([(⟨x16.Site,y22⟩:Qb3)]:List Qb3).map Qbg))),(4,⟨[(.tmp 62,.acc 4 115 2 (y20.map Qbg)),(.tmp 64,.dat 2 (([(⟨x16.Site,y22⟩:Qb3)]:List Qb3).map Qbg))],[(4,.tok),(7,.unused)],.acc 7 115 2 ((y20++([(⟨x16.Site,y22⟩:Qb3)]):List Qb3).map Qbg),[(4,.dead),(7,.tok)],false⟩)] ⟨awk (rd':=[(.tmp 63,.agg [I x16.Site,.dat 2 (y22.map Qbm)])]) ⟨rfl,Less.agg ⟨lrf,Less.acc,tv⟩,tv⟩ (Qds (vs:=[.agg [I x16.Site,.dat 2 (y22.map Qbm)]]) rfl Xbr Q4s Zq2 rfl (by decide) rfl (by decide) (by rfl) (by rfl) (by rfl) rfl),Qg7 rfl Xbr Zyh (Base.acc _ _) rfl rfl (by rfl) (Qkk Qbg a24) (Qkj Qbg a24 (by decide)) (Qki Qbg) rfl rfl,tv⟩<|bln<|thn ?_
   exact⟨(y20++([(⟨x16.Site,y22⟩:Qb3)]),y21),h,mto (n:=68) [(1,.ref 0 4 0 0),(2,.ref 1 4 0 0),(3,.ref 2 4 0 0),(4,I y5)] [0,1,2,7,5] [Qq7 p0,Qpd,.own 4 [[.acc 7 115 2 ((y20++([(⟨x16.Site,y22⟩:Qb3)]):List Qb3).map Qbg),.acc 5 3 1 (y21.map Qab),I p0.Factor,I p0.Horizon]],.tok,.tok] hq (prr (prr (prr (pw pn)))) (qbi (qbi (qb (lc (.rn (Qcv rfl (Qcf Qh1 _))) (lc (.rn (Qcv rfl (Qcf Qar _))) (lcc ln))) (qc .tok (qc .tok qn)))))⟩
  refine wxz<|Qaf ?_
  refine wmr (Mor.trans (Qpq (n:=6) (ty:=116) (m:=2) (q:=5) (mq:=2) (c:=[I x16.Site,nilS]) 1 (by kernel_rfl) (by kernel_rfl) (by kernel_rfl) (by decide)) (mto (n:=68) (l':=[(1,.ref 0 4 0 0),(2,.ref 1 4 0 0),(3,.ref 2 4 0 0),(4,I y5),(5,.ref 3 2 0 0),(6,I 0)]) (own':=[Qq7 p0,Qpd,.own 4 [[.acc 4 115 2 (y6.map Qbg),.acc 5 3 1 (y7.map Qab),I p0.Factor,I p0.Horizon]],.own 2 [[I x16.Site,Zle]],.tok,.tok,.tok]) [(1,.ref 0 4 0 0),(2,.ref 1 4 0 0),(3,.ref 2 4 0 0),(4,I y5),(5,.ref 5 2 0 0),(6,I 0)] [0,1,2,5,3,4,6] [Qq7 p0,Qpd,Q1y y6 y7 p0,.own 2 [[I x16.Site,Zlf]],.tok,.tok,.tok] hq (prr (prr (prr (pw (prr (pw pn)))))) (qbi (qbi (qb (lc (.rn (Qcv rfl (Qcf Qh1 _))) (lc (.rn (Qcv rfl (Qcf Qar _))) (lcc ln))) (qb (lc rwl (lc (.rn (Qcv rfl (Qcf Qlk _))) ln)) (qc .tok (qc .tok (qc .tok qn))))))))) ?_
  refine Qbf (τ:=Int×(List Qb3)×(List Int)×(List Qay)) (fun n t=>Qgv N x16 k23 n t.1 t.2.1 t.2.2.1 t.2.2.2=some r) (fun ⟨y25,y26,y27,y28⟩=>⟨mk 68 [(1,.ref 0 4 0 0),(2,.ref 1 4 0 0),(3,.ref 2 4 0 0),(4,I y5),(5,.ref 3 2 0 0),(6,I y25)],[Qq7 p0,Qpd,Q1x y26 y27 p0,.own 2 [[I x16.Site,.acc 6 116 2 (y28.map Qbm)]],.tok,.tok,.tok]⟩) (fun t h=>by rw[Qgv] at h;cases h) (fun n33 ih t h=>?_) N (0,y6,y7,[]) h
  obtain⟨y25,y26,y27,y28⟩:=t
  rw[Qgv] at h
  refine wsq<|wx tbk [(4,rp _ _),(7,rp _ _)] ⟨aiq Xck ti77 Qbg i18 j19,alq 2 Qbm x16.Stairs Xds,tv⟩<|bfq h (fun c34 h=>?_) fun c34 h=>?_
  ·refine Qah<|thn<|wsq<|Qaf ?_
   exact bgq h fun x35 i37 j38 h=>wx tbk [(3,rp _ _),(7,rp _ _)] ⟨aiq Xck ti77 Qbg i18 j19,aiq Xds ti80 Qbm i37 j38,tv⟩<|ckq h fun a39 h=>wx1 tbk [(6,rp _ _),(7,rp [(.tmp 57,Q94 x35)] (.dat 2 (([x35]:List Qay).map Qbm))),(8,⟨[(.tmp 52,.acc 6 116 2 (y28.map Qbm)),(.tmp 58,.dat 2 (([x35]:List Qay).map Qbm))],[(6,.tok),(8,.unused)],.acc 8 116 2 ((y28++([x35]):List Qay).map Qbm),[(6,.dead),(8,.tok)],false⟩)] ⟨Qbt (vs:=[I x35.Amount,I x35.Price]) rfl Zx0 Zq1 rfl (by rfl) rfl,Qds (vs:=[Q94 x35]) rfl Xbv Qx4 Zq1 rfl (by decide) rfl (by decide) (by rfl) (by rfl) (by rfl) rfl,Qg7 rfl Xbv Zyg (Base.acc _ _) rfl rfl (by rfl) (Qkk Qbm a39) (Qkj Qbm a39 (by decide)) (Qki Qbm) rfl rfl,tv⟩<|bln<|thn<|wxz1<|thn<|arm (mto (n:=68) [(1,.ref 0 4 0 0),(2,.ref 1 4 0 0),(3,.ref 2 4 0 0),(4,I y5),(5,.ref 3 2 0 0),(6,I (w64 (y25+1)))] [0,1,2,3,4,5,8] [Qq7 p0,Qpd,Q1x y26 y27 p0,.own 2 [[I x16.Site,.acc 8 116 2 ((y28++([x35]):List Qay).map Qbm)]],.tok,.tok,.tok] hq (prr (prr (prr (pw (prr (pw pn)))))) (qbi (qbi (qb (lc (.rn (Qcv rfl (Qcf Qh1 _))) (lc (.rn (Qcv rfl (Qcf Qar _))) (lcc ln))) (qb (lc rwl (lc (.rn (Qcv rfl (Qcf Qlk _))) ln)) (qc .tok (qc .tok (qc .tok qn)))))))) (ih (w64 (y25+1),y26,y27,y28++([x35])) h)
  exact Qax<|Qan<|Qan<|Qaw rfl<|thn<|⟨(y26,y27,y28),h,mto (n:=68) [(1,.ref 0 4 0 0),(2,.ref 1 4 0 0),(3,.ref 2 4 0 0),(4,I y5),(5,.ref 3 2 0 0)] [0,1,2,3,4,5,6] [Qq7 p0,Qpd,Q1x y26 y27 p0,.own 2 [[I x16.Site,.acc 6 116 2 (y28.map Qbm)]],.tok,.tok,.tok] hq (prr (prr (prr (pw (prr pn))))) (qbi (qbi (qb (lc (.rn (Qcv rfl (Qcf Qh1 _))) (lc (.rn (Qcv rfl (Qcf Qar _))) (lcc ln))) (qb (lc rwl (lc (.rn (Qcv rfl (Qcf Qlk _))) ln)) (qc .tok (qc .tok (qc .tok qn)))))))⟩
 exact Qax<|Qan<|Qan<|Qaw rfl<|thn<|⟨(y6,y7),h,mto (n:=68) [(2,.ref 1 4 0 0),(3,.ref 2 4 0 0)] [1,2,3,4] [Qpd,Q1y y6 y7 p0,.tok,.tok] hq (prr (prr pn)) (qbi (qb (lc (.rn (Qcv rfl (Qcf Qh1 _))) (lc (.rn (Qcv rfl (Qcf Qar _))) (lcc ln))) (qc .tok (qc .tok qn))))⟩
end
section
def Qfw (N:Nat) (p5:List Int) (x40:((List Int)×Int)) (y61:Int) (k68:Unit->Option Bool):Nat->Int->Option Bool
 |0,_=>none
 |n80+1,y78=>bif decide (y78<(x40.1.length:Int)) then (getI x40.1 y78).bind fun x82=>bif (x82==y61) then (getI p5 y61).bind fun x87=>bif (x87 != 0) then (Qgi 2000 ).bind fun x93=>some x93 else Qfw N p5 x40 y61 k68 n80 (w64 (y78+1)) else Qfw N p5 x40 y61 k68 n80 (w64 (y78+1)) else k68 ()
def Qgk (N:Nat) (p5:List Int) (x40:((List Int)×Int)) (k43:Int->Option Bool):Nat->Int->Int->Option Bool
 |0,_,_=>none
 |n64+1,y60,y61=>bif decide (y61<(p5.length:Int)) then Qb0 (fun y66=>Qgk N p5 x40 k43 n64 y66 (w64 (y61+1))) fun k67:Int->Option Bool=>Qb0 (fun _=>(getI p5 y61).bind fun x69=>(Qim N x69 0 1000000).bind fun x74=>bif !x74 then (Qgi 2000 ).bind fun x77=>some x77 else k67 (w64 (y60+x69))) fun k68:Unit->Option Bool=>Qfw N p5 x40 y61 k68 N 0 else k43 y60
def Qgj (N:Nat) (x17:((List Int)×Int×Int)) (k28:Int->Option Bool):Nat->Int->Int->Option Bool
 |0,_,_=>none
 |n109+1,y105,y106=>bif decide (y106<(x17.1.length:Int)) then (getI x17.1 y106).bind fun x111=>Qgj N x17 k28 n109 (w64 (y105+x111)) (w64 (y106+1)) else k28 y105
def Qpn (N:Nat) (p0:GNet) (p1:List Int) (p2:List Qaa) (p3:Qav) (p4:Qbj) (p5:List Int):Option Bool:=Qb0 (fun _=>(Qqi N p0).bind fun x3=>chk (decide ((([]:List Int).length+p1.length)*8<=140737488355328))<|(Qll N p2).bind fun x6=>(Qmj N x3 (([]:List Int)++p1) x6).bind fun x8=>bif (x8.2.2.2 != 0) then (Qgi 2000 ).bind fun x11=>some x11 else (Qh9 N p3).bind fun x13=>(Qia N p4).bind fun x15=>(Qj1 N x13 x15 x8.2.1.Mass).bind fun x17=>bif (x17.2.2 != 0) then bif (x17.2.2==9) then bif (x8.1.Mass==x8.2.1.Mass) then (Qgi 2000 ).bind fun x22=>some x22 else some false else bif (x17.2.2==11) then bif (x8.1.Mass==x8.2.1.Mass) then (Qgi 2000 ).bind fun x26=>some x26 else some false else some false else Qb0 (fun y27=>(Qh9 N p3).bind fun x30=>(Qia N p4).bind fun x32=>(Qjy N x30 x32 x17.1).bind fun x34=>(Qh9 N p3).bind fun x36=>(Qia N p4).bind fun x38=>(Qlm N x36 x38).bind fun x40=>Qb0 (fun _=>Qb0 (fun y42=>(Qh9 N p3).bind fun x45=>(Qia N p4).bind fun x47=>chk (decide ((([]:List Int).length+p5.length)*8<=140737488355328))<|(Qjy N x45 x47 (([]:List Int)++p5)).bind fun x50=>bif (x50.2 != 0) then (Qgi 2000 ).bind fun x53=>some x53 else bif (y42 != x8.1.Mass) then (Qgi 2000 ).bind fun x56=>some x56 else bif decide (x50.1>=x34.1) then (Qgi 2000 ).bind fun x59=>some x59 else some false) fun k43:Int->Option Bool=>Qgk N p5 x40 k43 N 0 0) fun k41:Unit->Option Bool=>bif (x34.2 != 0) then some false else bif (x40.2 != 0) then some false else bif (y27 != x8.1.Mass) then some false else (Qh9 N p3).bind fun x98=>(Qia N p4).bind fun x100=>chk (decide ((([]:List Int).length+x17.1.length)*8<=140737488355328))<|(Qjc N x98 x100 x8.1.Mass (([]:List Int)++x17.1) x17.2.1).bind fun x103=>bif !x103 then some false else k41 ()) fun k28:Int->Option Bool=>Qgj N x17 k28 N 0 0) fun k1:Unit->Option Bool=>(Qog N p0 p2).bind fun x116=>bif !x116 then (Qgi 2000 ).bind fun x119=>some x119 else bif decide ((p1.length:Int)>25) then (Qgi 2000 ).bind fun x122=>some x122 else bif decide ((p5.length:Int)>20) then (Qgi 2000 ).bind fun x125=>some x125 else (Qsd N p3).bind fun x127=>bif !x127 then (Qgi 2000 ).bind fun x130=>some x130 else bif decide ((p4.Inlets.length:Int)>15) then (Qgi 2000 ).bind fun x133=>some x133 else bif decide ((p4.Feeds.length:Int)>15) then (Qgi 2000 ).bind fun x136=>some x136 else (Qjp N p3 p4).bind fun x138=>bif (x138 != 0) then (Qgi 2000 ).bind fun x141=>some x141 else k1 ()
abbrev Q66 (p2:List Qaa):AV:=.dat 4 (p2.map Qag)
abbrev Zfv (p0:GNet):AV:=.dat 7 (p0.Elements.map Qaj)
abbrev Qj4 (p3:Qav):Slot:=.own 2 [[I p3.Sites,.dat 4 (p3.Tests.map Qbu)]]
abbrev Zfp (p4:Qbj):AV:=.dat 2 (p4.Inlets.map Qbg)
abbrev Qj3 (p4:Qbj):Slot:=.own 4 [[Zfp p4,.dat 1 (p4.Feeds.map Qab),I p4.Factor,I p4.Horizon]]
abbrev Zvb (p0:GNet):AV:=.agg [.dat 5 (p0.Table.map Qat),Zfv p0]
abbrev Zft (x3:GNet):AV:=.agg [.dat 5 (x3.Table.map Qat),.dat 7 (x3.Elements.map Qaj)]
abbrev Qu3:AV:=.acc 3 3 1 ((([]:List Int):List Int).map Qab)
abbrev Zfq (p3:Qav):AV:=.agg [I p3.Sites,.dat 4 (p3.Tests.map Qbu)]
abbrev Zfu (p4:Qbj):AV:=.agg [Zfp p4,.dat 1 (p4.Feeds.map Qab),I p4.Factor,I p4.Horizon]
abbrev Qsy (x17:((List Int)×Int×Int)):AV:=.dat 1 (x17.1.map Qab)
def Q1w (x17:((List Int)×Int×Int)):List (Nat×Rec):=[(2,rp [(.tmp 99,B (x17.2.2==9))] (B false))]
abbrev Qif (x8:(Qaa×Qaa×Qbp×Int)):Slot:=.own 4 [[I x8.1.Mass,I x8.1.Heat,I x8.1.Silica,I x8.1.Gas]]
abbrev Qlp (x40:((List Int)×Int)):AV:=.dat 1 (x40.1.map Qab)
abbrev Zfs (x45:Qav):AV:=.agg [I x45.Sites,.dat 4 (x45.Tests.map Qbu)]
abbrev Zfr (x47:Qbj):AV:=.agg [.dat 2 (x47.Inlets.map Qbg),.dat 1 (x47.Feeds.map Qab),I x47.Factor,I x47.Horizon]
def Q1v (x50:(Int×Int)):List (Nat×Rec):=[(2,rp [(.tmp 220,B (x50.2 != 0))] (B false))]
def Q1u (x34:(Int×Int)):List (Nat×Rec):=[(2,rp [(.tmp 144,B (x34.2 != 0))] (B false))]
abbrev Q65 (x98:Qav):AV:=.agg [I x98.Sites,.dat 4 (x98.Tests.map Qbu)]
abbrev Q64 (x100:Qbj):AV:=.agg [.dat 2 (x100.Inlets.map Qbg),.dat 1 (x100.Feeds.map Qab),I x100.Factor,I x100.Horizon]
def Q63 (p0:GNet) (p2:List Qaa) (x116:Bool):List (Nat×Rec):=[(2,rp [fu 4,(.tmp 31,Zvb p0),(.tmp 32,Q66 p2)] (B x116))]
def Q62 p0 p2 x116 (p1:List Int):=hcat (Q63 p0 p2 x116) [(4,rp [(.tmp 34,B !x116)] (B false)),(6,rp [(.tmp 35,B false),(.tmp 36,.dat 1 (p1.map Qab))] (I (p1.length:Int)))]
def Q61 p0 p2 x116 p1 (p5:List Int):=hcat (Q62 p0 p2 x116 p1) [(9,rp [(.tmp 39,B (decide ((p1.length:Int)>25)))] (B false)),(11,rp [(.tmp 40,B false),(.tmp 41,.dat 1 (p5.map Qab))] (I (p5.length:Int)))]
def Q60 p0 p2 x116 p1 p5 (p3:Qav) (x127:Bool):=hcat (Q61 p0 p2 x116 p1 p5) [(14,rp [(.tmp 44,B (decide ((p5.length:Int)>20)))] (B false)),(16,rp [(.tmp 45,B false),fu 5,(.tmp 46,Zfq p3)] (B x127))]
def Q6z p0 p2 x116 p1 p5 p3 x127 (p4:Qbj):=hcat (Q60 p0 p2 x116 p1 p5 p3 x127) [(19,rp [(.tmp 49,B !x127)] (B false)),(22,rp [(.tmp 50,B false),(.tmp 52,Zfp p4)] (I (p4.Inlets.length:Int)))]
def Q6y p0 p2 x116 p1 p5 p3 x127 p4:=hcat (Q6z p0 p2 x116 p1 p5 p3 x127 p4) [(25,rp [(.tmp 55,B (decide ((p4.Inlets.length:Int)>15)))] (B false)),(28,rp [(.tmp 56,B false),(.tmp 58,.dat 1 (p4.Feeds.map Qab))] (I (p4.Feeds.length:Int)))]
def Qx2 (N:Nat) (p0:GNet) (p1:List Int) (p2:List Qaa) (p3:Qav) (p4:Qbj) (p5:List Int) (r:Bool) (h:Qpn N p0 p1 p2 p3 p4 p5=some r):Spec prog 3 [.agg (Qpt p0),.dat 1 (p1.map Qab),.dat 4 (p2.map Qag),.agg (Qis p3),.agg (Qla p4),.dat 1 (p5.map Qab)] [] (B r) []:=by
 refine sA func3 0 fun _ _ _ hq hd0=>?_
 unfold Qpn at h
 refine wxz<|wjq h (fun _=>⟨mk 235 [(1,.dat 1 (p1.map Qab)),(2,Q66 p2),(5,.dat 1 (p5.map Qab)),(6,.ref 0 2 0 0),(9,.ref 1 2 0 0),(10,.ref 2 4 0 0)],[.own 2 [[.dat 5 (p0.Table.map Qat),Zfv p0]],Qj4 p3,Qj3 p4]⟩) (fun t h=>?_) fun k1 h=>?_
 ·refine bnq h fun x3 f2 h=>ckq h fun a4 h=>bnq h fun x6 f5 h=>bnq h fun x8 f7 h=>wx tbk [(1,rp _ _),(2,⟨[],[(3,.unused)],Qu3,[(3,.tok)],false⟩),(4,⟨[(.tmp 72,Qu3),(.tmp 73,.dat 1 (p1.map Qab))],[(3,.tok),(4,.unused)],.acc 4 3 1 ((([]:List Int)++p1:List Int).map Qab),[(3,.dead),(4,.tok)],false⟩),(6,rp _ _),(7,rp [fu 8,(.tmp 71,Zft x3),(.tmp 74,.acc 4 3 1 ((([]:List Int)++p1:List Int).map Qab)),(.tmp 76,.dat 4 (x6.map Qag))] (.tup [.agg [I x8.1.Mass,I x8.1.Heat,I x8.1.Silica,I x8.1.Gas],.agg [I x8.2.1.Mass,I x8.2.1.Heat,I x8.2.1.Silica,I x8.2.1.Gas],.agg [I x8.2.2.1.Heat,I x8.2.2.1.Silica,I x8.2.2.1.Gas,I x8.2.2.1.Scale],I x8.2.2.2]))] ⟨apw Zwn (Q26 N p0 _ f2),Qlb rfl Xag ti3 tz3,Qg7 rfl Xag te3 (Base.acc _ _) rfl rfl (Qsa Qab Qvh _) (Qkk Qab a4) (Qkj Qab a4 (by decide)) (Qki Qab) rfl rfl,apw Zto (Qvo N p2 _ f5),awk (rd':=(.func 8,.fn (.func 8) [] [])::[(.tmp 71,Zft x3),(.tmp 74,.dat 1 ((([]:List Int)++p1:List Int).map Qab)),(.tmp 76,.dat 4 (x6.map Qag))]) ⟨rfl,lrf,rfl,lrf,rfl,Less.acc,rfl,lrf,tv⟩ (apv Zwo (Qwz N x3 (([]:List Int)++p1) x6 _ f7) (nlc (NLt.agg _ (nlc (nld Qcg _) (nlc (nld Qau _) nl0))) (nlc (nld Qar _) (nlc (nld Qaq _) nl0))) (NLt.tup _ (nlc (NLt.agg _ (nlcc (nlcc nl0))) (nlc (NLt.agg _ (nlcc (nlcc nl0))) (nlc (NLt.agg _ (nlcc (nlcc nl0))) (nlc nll nl0)))))),tv⟩<|wsq<|wxz<|bfq h (fun c9 h=>?_) fun c9 h=>?_
  ·refine bnq h fun x11 f10 h=>?_
   exact wx tbk [(0,rp _ _)] ⟨apw Qox (Qfk 2000  _ f10),tv⟩<|Qad<|Qac<|frb h
  refine Qah<|thn ?_
  refine bnq h fun x13 f12 h=>bnq h fun x15 f14 h=>bnq h fun x17 f16 h=>wxd tbk [(1,rp _ _),(3,rp _ _),(6,rp _ _)] ⟨apw Qze (Qk1 N p3 _ f12),apw Qzd (Qk2 N p4 _ f14),apw Ztn (Qw1 N x13 x15 x8.2.1.Mass _ f16),tv⟩<|wsq<|wxz<|bfq h (fun c18 h=>?_) fun c18 h=>?_
  ·refine bfe h (fun hb19 h=>?_) fun hb19 h=>?_
   ·refine bfe h (fun hb20 h=>?_) fun hb20 h=>?_
    ·refine bnq h fun x22 f21 h=>?_
     exact wx tbk [(2,rp [(.tmp 99,B (x17.2.2==9))] (B true)),(13,rp [(.tmp 110,B (x8.1.Mass==x8.2.1.Mass))] (B true)),(14,rp [(.tmp 111,B true),fu 7] (B x22))] ⟨asb hb19 (amv rfl),asb hb20 (amv rfl),ag_ (apv Qox (Qfk 2000  _ f21) nl0 nll),tv⟩<|Qad<|Qac<|frb h
    exact wx tbk [(2,rp [(.tmp 99,B (x17.2.2==9))] (B true)),(13,rp [(.tmp 110,B (x8.1.Mass==x8.2.1.Mass))] (B false))] ⟨asb hb19 (amv rfl),asb hb20 (amv rfl),tv⟩<|Qad<|Qac<|frb h
   refine hpre (A:=(Q1w x17)) ⟨asb hb19 (amv rfl),tv⟩ fun q1_=>?_
   refine bfe h (fun hb23 h=>?_) fun hb23 h=>?_
   ·refine bfe h (fun hb24 h=>?_) fun hb24 h=>?_
    ·refine bnq h fun x26 f25 h=>?_
     exact wx tbk (hcat (Q1w x17) [(6,rp [(.tmp 103,B (x17.2.2==11))] (B true)),(13,rp [(.tmp 110,B (x8.1.Mass==x8.2.1.Mass))] (B true)),(14,rp [(.tmp 111,B true),fu 7] (B x26))]) (hap q1_ ⟨asb hb23 (amv rfl),asb hb24 (amv rfl),ag_ (apv Qox (Qfk 2000  _ f25) nl0 nll),tv⟩)<|Qad<|Qac<|frb h
    exact wx tbk (hcat (Q1w x17) [(6,rp [(.tmp 103,B (x17.2.2==11))] (B true)),(13,rp [(.tmp 110,B (x8.1.Mass==x8.2.1.Mass))] (B false))]) (hap q1_ ⟨asb hb23 (amv rfl),asb hb24 (amv rfl),tv⟩)<|Qad<|Qac<|frb h
   exact wx tbk (hcat (Q1w x17) [(6,rp [(.tmp 103,B (x17.2.2==11))] (B false))]) (hap q1_ ⟨asb hb23 (amv rfl),tv⟩)<|Qad<|Qac<|frb h
  refine Qah<|thn<|wxz ?_
  refine wjq h (fun y27=>⟨mk 235 [(5,.dat 1 (p5.map Qab)),(9,.ref 0 2 0 0),(10,.ref 1 4 0 0),(13,.ref 2 4 0 0),(17,Qsy x17),(18,I x17.2.1),(20,I y27),(21,I 0)],[Qj4 p3,Qj3 p4,Qif x8]⟩) (fun y27 h=>?_) fun k28 h=>?_
  ·refine bnq h fun x30 f29 h=>bnq h fun x32 f31 h=>bnq h fun x34 f33 h=>wxd tbk [(1,rp _ _),(3,rp _ _),(5,rp _ _)] ⟨apw Qze (Qk1 N p3 _ f29),apw Qzd (Qk2 N p4 _ f31),apw Zjd (Qrz N x30 x32 x17.1 _ f33),tv⟩<|bnq h fun x36 f35 h=>bnq h fun x38 f37 h=>bnq h fun x40 f39 h=>wxd tbk [(1,rp _ _),(3,rp _ _),(4,rp _ _)] ⟨apw Qze (Qk1 N p3 _ f35),apw Qzd (Qk2 N p4 _ f37),apw Ztm (Qvp N x36 x38 _ f39),tv⟩<|wjq h (fun _=>⟨mk 235 [(5,.dat 1 (p5.map Qab)),(9,.ref 0 2 0 0),(10,.ref 1 4 0 0),(13,.ref 2 4 0 0),(21,I 0),(23,I x34.1),(25,Qlp x40)],[Qj4 p3,Qj3 p4,Qif x8]⟩) (fun t h=>?_) fun k41 h=>?_
   ·refine wjq h (fun y42=>⟨mk 235 [(5,.dat 1 (p5.map Qab)),(9,.ref 0 2 0 0),(10,.ref 1 4 0 0),(13,.ref 2 4 0 0),(21,I y42),(23,I x34.1)],[Qj4 p3,Qj3 p4,Qif x8]⟩) (fun y42 h=>?_) fun k43 h=>?_
    ·refine bnq h fun x45 f44 h=>bnq h fun x47 f46 h=>ckq h fun a48 h=>bnq h fun x50 f49 h=>wxd tbk [(1,rp _ _),(3,rp _ _),(4,⟨[],[(3,.unused)],Qu3,[(3,.tok)],false⟩),(6,⟨[(.tmp 213,Qu3),(.tmp 214,.dat 1 (p5.map Qab))],[(3,.tok),(4,.unused)],.acc 4 3 1 ((([]:List Int)++p5:List Int).map Qab),[(3,.dead),(4,.tok)],false⟩),(7,rp [fu 14,(.tmp 210,Zfs x45),(.tmp 212,Zfr x47),(.tmp 215,.acc 4 3 1 ((([]:List Int)++p5:List Int).map Qab))] (.tup [I x50.1,I x50.2]))] ⟨apw Qze (Qk1 N p3 _ f44),apw Qzd (Qk2 N p4 _ f46),Qlb rfl Xag ti3 tz3,Qg7 rfl Xag te3 (Base.acc _ _) rfl rfl (Qsa Qab Qvh _) (Qkk Qab a48) (Qkj Qab a48 (by decide)) (Qki Qab) rfl rfl,awk (rd':=(.func 14,.fn (.func 14) [] [])::[(.tmp 210,Zfs x45),(.tmp 212,Zfr x47),(.tmp 215,.dat 1 ((([]:List Int)++p5:List Int).map Qab))]) ⟨rfl,lrf,rfl,lrf,rfl,lrf,rfl,Less.acc,tv⟩ (apv Zjd (Qrz N x45 x47 (([]:List Int)++p5) _ f49) (nlc (NLt.agg _ (nlc nll (nlc (nld Qbz _) nl0))) (nlc (NLt.agg _ (nlc (nld Qh1 _) (nlc (nld Qar _) (nlcc nl0)))) (nlc (nld Qar _) nl0))) (NLt.tup _ (nlcc nl0))),tv⟩<|bfe h (fun hb51 h=>?_) fun hb51 h=>?_
     ·refine bnq h fun x53 f52 h=>?_
      exact wx tbk [(2,rp [(.tmp 220,B (x50.2 != 0))] (B true)),(14,rp [(.tmp 232,B true),fu 7] (B x53))] ⟨asb hb51 (amv rfl),ag_ (apv Qox (Qfk 2000  _ f52) nl0 nll),tv⟩<|Qad<|frb h
     refine hpre (A:=(Q1v x50)) ⟨asb hb51 (amv rfl),tv⟩ fun q2_=>?_
     refine bfe h (fun hb54 h=>?_) fun hb54 h=>?_
     ·refine bnq h fun x56 f55 h=>?_
      exact wx tbk (hcat (Q1v x50) [(8,rp [(.tmp 226,B (y42 != x8.1.Mass))] (B true)),(14,rp [(.tmp 232,B true),fu 7] (B x56))]) (hap q2_ ⟨asb hb54 (amv rfl),ag_ (apv Qox (Qfk 2000  _ f55) nl0 nll),tv⟩)<|Qad<|frb h
     refine bfe h (fun hb57 h=>?_) fun hb57 h=>?_
     ·refine bnq h fun x59 f58 h=>?_
      exact wx tbk (hcat (Q1v x50) [(8,rp [(.tmp 226,B (y42 != x8.1.Mass))] (B false)),(13,rp [(.tmp 231,B (decide (x50.1>=x34.1)))] (B true)),(14,rp [(.tmp 232,B true),fu 7] (B x59))]) (hap q2_ ⟨asb hb54 (amv rfl),asb hb57 (amv rfl),ag_ (apv Qox (Qfk 2000  _ f58) nl0 nll),tv⟩)<|Qad<|frb h
     exact wx tbk (hcat (Q1v x50) [(8,rp [(.tmp 226,B (y42 != x8.1.Mass))] (B false)),(13,rp [(.tmp 231,B (decide (x50.1>=x34.1)))] (B false))]) (hap q2_ ⟨asb hb54 (amv rfl),asb hb57 (amv rfl),tv⟩)<|Qad<|frb h
    refine wxz<|Qaf ?_
    refine wmr (mto (n:=235) (l':=[(5,.dat 1 (p5.map Qab)),(9,.ref 0 2 0 0),(10,.ref 1 4 0 0),(13,.ref 2 4 0 0),(21,I 0),(23,I x34.1),(25,Qlp x40),(27,I 0)]) (own':=[Qj4 p3,Qj3 p4,Qif x8]) [(5,.dat 1 (p5.map Qab)),(9,.ref 0 2 0 0),(10,.ref 1 4 0 0),(13,.ref 2 4 0 0),(21,I 0),(23,I x34.1),(25,Qlp x40),(27,I 0)] [0,1,2] [Qj4 p3,Qj3 p4,Qif x8] hq (pqi (prr (prr (prr (pw (pw (pqi (pw pn)))))))) (qbi (qbi (qbi qn)))) ?_
    refine Qbf (τ:=Int×Int) (fun n t=>Qgk N p5 x40 k43 n t.1 t.2=some r) (fun ⟨y60,y61⟩=>⟨mk 235 [(5,.dat 1 (p5.map Qab)),(9,.ref 0 2 0 0),(10,.ref 1 4 0 0),(13,.ref 2 4 0 0),(21,I y60),(23,I x34.1),(25,Qlp x40),(27,I y61)],[Qj4 p3,Qj3 p4,Qif x8]⟩) (fun t h=>by rw[Qgk] at h;cases h) (fun n64 ih t h=>?_) N (0,0) h
    obtain⟨y60,y61⟩:=t
    rw[Qgk] at h
    refine wsq<|wx tbk [(2,rp _ _)] ⟨alq 1 Qab p5 Xag,tv⟩<|bfq h (fun c65 h=>?_) fun c65 h=>?_
    ·refine Qah<|thn ?_
     refine wjq h (fun y66=>⟨mk 235 [(5,.dat 1 (p5.map Qab)),(9,.ref 0 2 0 0),(10,.ref 1 4 0 0),(13,.ref 2 4 0 0),(21,I y66),(23,I x34.1),(25,Qlp x40),(27,I y61)],[Qj4 p3,Qj3 p4,Qif x8]⟩) (fun y66 h=>?_) fun k67 h=>?_
     ·exact wxz1<|thn<|arm (mto (n:=235) [(5,.dat 1 (p5.map Qab)),(9,.ref 0 2 0 0),(10,.ref 1 4 0 0),(13,.ref 2 4 0 0),(21,I y66),(23,I x34.1),(25,Qlp x40),(27,I (w64 (y61+1)))] [0,1,2] [Qj4 p3,Qj3 p4,Qif x8] hq (pqi (prr (prr (prr (pw (pw (pqi (pw pn)))))))) (qbi (qbi (qbi qn)))) (ih (y66,w64 (y61+1)) h)
     refine Qaf ?_
     refine wjq h (fun _=>⟨mk 235 [(5,.dat 1 (p5.map Qab)),(9,.ref 0 2 0 0),(10,.ref 1 4 0 0),(13,.ref 2 4 0 0),(21,I y60),(23,I x34.1),(25,Qlp x40),(27,I y61)],[Qj4 p3,Qj3 p4,Qif x8]⟩) (fun t h=>?_) fun k68 h=>?_
     ·refine wsq<|bgq h fun x69 i71 j72 h=>bnq h fun x74 f73 h=>wx tbk [(2,rp _ _),(4,rp _ _)] ⟨aiq Xag ti3 Qab i71 j72,apw Qoz (Qhi N x69 0 1000000 _ f73),tv⟩<|bfq h (fun c75 h=>?_) fun c75 h=>?_
      ·refine bnq h fun x77 f76 h=>?_
       exact wx tbk [(0,rp _ _)] ⟨apw Qox (Qfk 2000  _ f76),tv⟩<|Qad<|Qac<|Qal<|Qac<|Qac<|Qal<|Qac<|frb h
      refine Qah<|thn ?_
      exact wx1 tbk [(3,rp _ _)] ⟨aiq Xag ti3 Qab i71 j72,tv⟩<|bln<|thn<|⟨w64 (y60+x69),h,mto (n:=235) [(5,.dat 1 (p5.map Qab)),(9,.ref 0 2 0 0),(10,.ref 1 4 0 0),(13,.ref 2 4 0 0),(21,I (w64 (y60+x69))),(23,I x34.1),(25,Qlp x40),(27,I y61)] [0,1,2] [Qj4 p3,Qj3 p4,Qif x8] hq (pqi (prr (prr (prr (pw (pw (pqi (pw pn)))))))) (qbi (qbi (qbi qn)))⟩
     refine wxz<|Qaf ?_
     refine wmr (mto (n:=235) (l':=[(5,.dat 1 (p5.map Qab)),(9,.ref 0 2 0 0),(10,.ref 1 4 0 0),(13,.ref 2 4 0 0),(21,I y60),(23,I x34.1),(25,Qlp x40),(27,I y61),(28,I 0)]) (own':=[Qj4 p3,Qj3 p4,Qif x8]) [(5,.dat 1 (p5.map Qab)),(9,.ref 0 2 0 0),(10,.ref 1 4 0 0),(13,.ref 2 4 0 0),(21,I y60),(23,I x34.1),(25,Qlp x40),(27,I y61),(28,I 0)] [0,1,2] [Qj4 p3,Qj3 p4,Qif x8] hq (pqi (prr (prr (prr (pw (pw (pqi (pw (pw pn))))))))) (qbi (qbi (qbi qn)))) ?_
     refine Qbf (τ:=Int) (fun n t=>Qfw N p5 x40 y61 k68 n t=some r) (fun y78=>⟨mk 235 [(5,.dat 1 (p5.map Qab)),(9,.ref 0 2 0 0),(10,.ref 1 4 0 0),(13,.ref 2 4 0 0),(21,I y60),(23,I x34.1),(25,Qlp x40),(27,I y61),(28,I y78)],[Qj4 p3,Qj3 p4,Qif x8]⟩) (fun t h=>by rw[Qfw] at h;cases h) (fun n80 ih y78 h=>?_) N (0) h
     rw[Qfw] at h
     refine wsq<|wx tbk [(2,rp _ _)] ⟨alq 1 Qab x40.1 Xag,tv⟩<|bfq h (fun c81 h=>?_) fun c81 h=>?_
     ·refine Qah<|thn<|wsq<|Qaf ?_
      refine bgq h fun x82 i84 j85 h=>bfe h (fun hb86 h=>?_) fun hb86 h=>?_
      ·refine bgq h fun x87 i89 j90 h=>wx tbk [(2,rp _ _),(6,rp [(.tmp 186,B (x82==y61))] (B true)),(9,rp [(.tmp 187,B true),(.tmp 188,.dat 1 (p5.map Qab)),(.tmp 189,I y61)] (.dptr (Qab x87) 0))] ⟨aiq Xag ti3 Qab i84 j85,asb hb86 (amv rfl),ag_ (aiq Xag ti3 Qab i89 j90),tv⟩<|bfq h (fun c91 h=>?_) fun c91 h=>?_
       ·refine bnq h fun x93 f92 h=>?_
        refine wx tbk [(0,rp _ _)] ⟨apw Qox (Qfk 2000  _ f92),tv⟩<|Qad<|Qal<|Qac<|Qac<|Qal<|Qac<|Qal<|Qac<|Qac ?_
        exact Qal<|Qac<|frb h
       exact Qah<|bln<|thn<|wxz1<|thn<|arm (mto (n:=235) [(5,.dat 1 (p5.map Qab)),(9,.ref 0 2 0 0),(10,.ref 1 4 0 0),(13,.ref 2 4 0 0),(21,I y60),(23,I x34.1),(25,Qlp x40),(27,I y61),(28,I (w64 (y78+1)))] [0,1,2] [Qj4 p3,Qj3 p4,Qif x8] hq (pqi (prr (prr (prr (pw (pw (pqi (pw (pw pn))))))))) (qbi (qbi (qbi qn)))) (ih (w64 (y78+1)) h)
      exact wx tbk [(2,rp _ _),(6,rp [(.tmp 186,B (x82==y61))] (B false))] ⟨aiq Xag ti3 Qab i84 j85,asb hb86 (amv rfl),tv⟩<|wfa<|Qah<|bln<|thn<|wxz1<|thn<|arm (mto (n:=235) [(5,.dat 1 (p5.map Qab)),(9,.ref 0 2 0 0),(10,.ref 1 4 0 0),(13,.ref 2 4 0 0),(21,I y60),(23,I x34.1),(25,Qlp x40),(27,I y61),(28,I (w64 (y78+1)))] [0,1,2] [Qj4 p3,Qj3 p4,Qif x8] hq (pqi (prr (prr (prr (pw (pw (pqi (pw (pw pn))))))))) (qbi (qbi (qbi qn)))) (ih (w64 (y78+1)) h)
     exact Qax<|Qan<|Qan<|Qaw rfl<|thn<|⟨(),h,mto (n:=235) [(5,.dat 1 (p5.map Qab)),(9,.ref 0 2 0 0),(10,.ref 1 4 0 0),(13,.ref 2 4 0 0),(21,I y60),(23,I x34.1),(25,Qlp x40),(27,I y61)] [0,1,2] [Qj4 p3,Qj3 p4,Qif x8] hq (pqi (prr (prr (prr (pw (pw (pqi (pw pn)))))))) (qbi (qbi (qbi qn)))⟩
    exact Qax<|Qan<|Qan<|Qaw rfl<|thn<|⟨y60,h,mto (n:=235) [(5,.dat 1 (p5.map Qab)),(9,.ref 0 2 0 0),(10,.ref 1 4 0 0),(13,.ref 2 4 0 0),(21,I y60),(23,I x34.1)] [0,1,2] [Qj4 p3,Qj3 p4,Qif x8] hq (pqi (prr (prr (prr (pw (pw pn)))))) (qbi (qbi (qbi qn)))⟩
   refine bfe h (fun hb94 h=>?_) fun hb94 h=>?_
   ·exact wxd tbk [(2,rp [(.tmp 144,B (x34.2 != 0))] (B true))] ⟨asb hb94 (amv rfl),tv⟩<|wtr<|wxz<|Qad<|Qac<|frb h
   refine hpre (A:=(Q1u x34)) ⟨asb hb94 (amv rfl),tv⟩ fun q3_=>?_
   refine bfe h (fun hb95 h=>?_) fun hb95 h=>?_
   ·exact wxd tbk (hcat (Q1u x34) [(6,rp [(.tmp 148,B (x40.2 != 0))] (B true))]) (hap q3_ ⟨asb hb95 (amv rfl),tv⟩)<|wtr<|wxz<|Qad<|Qac<|frb h
   refine bfe h (fun hb96 h=>?_) fun hb96 h=>?_
   ·exact wxd tbk (hcat (Q1u x34) [(6,rp [(.tmp 148,B (x40.2 != 0))] (B false)),(12,rp [(.tmp 154,B (y27 != x8.1.Mass))] (B true))]) (hap q3_ ⟨asb hb95 (amv rfl),asb hb96 (amv rfl),tv⟩)<|wtr<|wxz<|Qad<|Qac<|frb h
   refine bnq h fun x98 f97 h=>bnq h fun x100 f99 h=>ckq h fun a101 h=>bnq h fun x103 f102 h=>wxd tbk (hcat (Q1u x34) [(6,rp [(.tmp 148,B (x40.2 != 0))] (B false)),(12,rp [(.tmp 154,B (y27 != x8.1.Mass))] (B false)),(14,rp [(.tmp 155,B false),fu 12,(.tmp 156,Zfq p3)] (Q65 x98)),(16,rp [(.tmp 155,B false),fu 13,(.tmp 158,Zfu p4)] (Q64 x100)),(19,⟨[(.tmp 155,B false)],[(3,.unused)],Qu3,[(3,.tok)],false⟩),(21,⟨[(.tmp 155,B false),(.tmp 162,Qu3),(.tmp 163,Qsy x17)],[(3,.tok),(4,.unused)],.acc 4 3 1 ((([]:List Int)++x17.1:List Int).map Qab),[(3,.dead),(4,.tok)],false⟩),(23,rp [(.tmp 155,B false),fu 16,(.tmp 157,Q65 x98),(.tmp 159,Q64 x100),(.tmp 161,I x8.1.Mass),(.tmp 164,.acc 4 3 1 ((([]:List Int)++x17.1:List Int).map Qab)),(.tmp 165,I x17.2.1)] (B x103))]) (hap q3_ ⟨asb hb95 (amv rfl),asb hb96 (amv rfl),ag_ (apv Qze (Qk1 N p3 _ f97) (nlc (NLt.agg _ (nlc nll (nlc (nld Qbz _) nl0))) nl0) (NLt.agg _ (nlc nll (nlc (nld Qbz _) nl0)))),ag_ (apv Qzd (Qk2 N p4 _ f99) (nlc (NLt.agg _ (nlc (nld Qh1 _) (nlc (nld Qar _) (nlcc nl0)))) nl0) (NLt.agg _ (nlc (nld Qh1 _) (nlc (nld Qar _) (nlcc nl0))))),ag_ (Qlb rfl Xag ti3 tz3),ag_ (Qg7 rfl Xag te3 (Base.acc _ _) rfl rfl (Qsa Qab Qvh _) (Qkk Qab a101) (Qkj Qab a101 (by decide)) (Qki Qab) rfl rfl),ag_ (awk (rd':=(.func 16,.fn (.func 16) [] [])::[(.tmp 157,Q65 x98),(.tmp 159,Q64 x100),(.tmp 161,I x8.1.Mass),(.tmp 164,.dat 1 ((([]:List Int)++x17.1:List Int).map Qab)),(.tmp 165,I x17.2.1)]) ⟨rfl,lrf,rfl,lrf,rfl,lrf,rfl,lrf,rfl,Less.acc,rfl,lrf,tv⟩ (apv Ztl (Qrx N x98 x100 x8.1.Mass (([]:List Int)++x17.1) x17.2.1 _ f102) (nlc (NLt.agg _ (nlc nll (nlc (nld Qbz _) nl0))) (nlc (NLt.agg _ (nlc (nld Qh1 _) (nlc (nld Qar _) (nlcc nl0)))) (nlc nll (nlc (nld Qar _) (nlc nll nl0))))) nll)),tv⟩)<|bfq h (fun c104 h=>?_) fun c104 h=>?_
   ·exact wxz<|Qad<|Qac<|frb h
   exact Qah<|thn<|⟨(),h,mto (n:=235) [(5,.dat 1 (p5.map Qab)),(9,.ref 0 2 0 0),(10,.ref 1 4 0 0),(13,.ref 2 4 0 0),(21,I 0),(23,I x34.1),(25,Qlp x40)] [0,1,2] [Qj4 p3,Qj3 p4,Qif x8] hq (pqi (prr (prr (prr (pw (pw (pqi pn))))))) (qbi (qbi (qbi qn)))⟩
  refine wxz<|Qaf ?_
  refine wmr (mto (n:=235) (l':=[(5,.dat 1 (p5.map Qab)),(9,.ref 0 2 0 0),(10,.ref 1 4 0 0),(13,.ref 2 4 0 0),(17,Qsy x17),(18,I x17.2.1),(20,I 0),(21,I 0),(22,I 0)]) (own':=[Qj4 p3,Qj3 p4,Qif x8]) [(5,.dat 1 (p5.map Qab)),(9,.ref 1 2 0 0),(10,.ref 2 4 0 0),(13,.ref 5 4 0 0),(17,Qsy x17),(18,I x17.2.1),(20,I 0),(21,I 0),(22,I 0)] [1,2,5] [Qj4 p3,Qj3 p4,Qif x8] hq (pqi (prr (prr (prr (pqi (pw (pw (pw (pw pn))))))))) (qbi (qbi (qbi qn)))) ?_
  refine Qbf (τ:=Int×Int) (fun n t=>Qgj N x17 k28 n t.1 t.2=some r) (fun ⟨y105,y106⟩=>⟨mk 235 [(5,.dat 1 (p5.map Qab)),(9,.ref 0 2 0 0),(10,.ref 1 4 0 0),(13,.ref 2 4 0 0),(17,Qsy x17),(18,I x17.2.1),(20,I y105),(21,I 0),(22,I y106)],[Qj4 p3,Qj3 p4,Qif x8]⟩) (fun t h=>by rw[Qgj] at h;cases h) (fun n109 ih t h=>?_) N (0,0) h
  obtain⟨y105,y106⟩:=t
  rw[Qgj] at h
  refine wsq<|wx tbk [(2,rp _ _)] ⟨alq 1 Qab x17.1 Xag,tv⟩<|bfq h (fun c110 h=>?_) fun c110 h=>?_
  ·refine Qah<|thn<|wsq<|Qaf ?_
   exact bgq h fun x111 i113 j114 h=>wx1 tbk [(3,rp _ _)] ⟨aiq Xag ti3 Qab i113 j114,tv⟩<|bln<|thn<|wxz1<|thn<|arm (mto (n:=235) [(5,.dat 1 (p5.map Qab)),(9,.ref 0 2 0 0),(10,.ref 1 4 0 0),(13,.ref 2 4 0 0),(17,Qsy x17),(18,I x17.2.1),(20,I (w64 (y105+x111))),(21,I 0),(22,I (w64 (y106+1)))] [0,1,2] [Qj4 p3,Qj3 p4,Qif x8] hq (pqi (prr (prr (prr (pqi (pw (pw (pw (pw pn))))))))) (qbi (qbi (qbi qn)))) (ih (w64 (y105+x111),w64 (y106+1)) h)
  exact Qax<|Qan<|Qan<|Qaw rfl<|thn<|⟨y105,h,mto (n:=235) [(5,.dat 1 (p5.map Qab)),(9,.ref 0 2 0 0),(10,.ref 1 4 0 0),(13,.ref 2 4 0 0),(17,Qsy x17),(18,I x17.2.1),(20,I y105),(21,I 0)] [0,1,2] [Qj4 p3,Qj3 p4,Qif x8] hq (pqi (prr (prr (prr (pqi (pw (pw (pw pn)))))))) (qbi (qbi (qbi qn)))⟩
 refine bnq h fun x116 f115 h=>hpre (A:=(Q63 p0 p2 x116)) ⟨apv Zwr (Q27 N p0 p2 _ f115) (nlc (NLt.agg _ (nlc (nld Qcg _) (nlc (nld Qau _) nl0))) (nlc (nld Qaq _) nl0)) nll,tv⟩ fun q4_=>?_
 refine bfe h (fun hb117 h=>?_) fun hb117 h=>?_
 ·refine wx tbk (hcat (Q63 p0 p2 x116) [(4,rp [(.tmp 34,B !x116)] (B true))]) (hap q4_ ⟨asb hb117 (amv rfl),tv⟩)<|wtr<|bnq h fun x119 f118 h=>?_
  exact wx tbk [(0,rp _ _)] ⟨apw Qox (Qfk 2000  _ f118),tv⟩<|Qad<|Qac<|frb h
 refine hpre (A:=(Q62 p0 p2 x116 p1)) (hap q4_ ⟨asb hb117 (amv rfl),ag_ (alq 1 Qab p1 Xag),tv⟩) fun q5_=>?_
 refine bfe h (fun hb120 h=>?_) fun hb120 h=>?_
 ·refine wx tbk (hcat (Q62 p0 p2 x116 p1) [(9,rp [(.tmp 39,B (decide ((p1.length:Int)>25)))] (B true))]) (hap q5_ ⟨asb hb120 (amv rfl),tv⟩)<|wtr<|bnq h fun x122 f121 h=>?_
  exact wx tbk [(0,rp _ _)] ⟨apw Qox (Qfk 2000  _ f121),tv⟩<|Qad<|Qac<|frb h
 refine hpre (A:=(Q61 p0 p2 x116 p1 p5)) (hap q5_ ⟨asb hb120 (amv rfl),ag_ (alq 1 Qab p5 Xag),tv⟩) fun q6_=>?_
 refine bfe h (fun hb123 h=>?_) fun hb123 h=>?_
 ·refine wx tbk (hcat (Q61 p0 p2 x116 p1 p5) [(14,rp [(.tmp 44,B (decide ((p5.length:Int)>20)))] (B true))]) (hap q6_ ⟨asb hb123 (amv rfl),tv⟩)<|wtr<|bnq h fun x125 f124 h=>?_
  exact wx tbk [(0,rp _ _)] ⟨apw Qox (Qfk 2000  _ f124),tv⟩<|Qad<|Qac<|frb h
 refine bnq h fun x127 f126 h=>hpre (A:=(Q60 p0 p2 x116 p1 p5 p3 x127)) (hap q6_ ⟨asb hb123 (amv rfl),ag_ (apv Zwq (Q25 N p3 _ f126) (nlc (NLt.agg _ (nlc nll (nlc (nld Qbz _) nl0))) nl0) nll),tv⟩) fun q7_=>?_
 refine bfe h (fun hb128 h=>?_) fun hb128 h=>?_
 ·refine wx tbk (hcat (Q60 p0 p2 x116 p1 p5 p3 x127) [(19,rp [(.tmp 49,B !x127)] (B true))]) (hap q7_ ⟨asb hb128 (amv rfl),tv⟩)<|wtr<|bnq h fun x130 f129 h=>?_
  exact wx tbk [(0,rp _ _)] ⟨apw Qox (Qfk 2000  _ f129),tv⟩<|Qad<|Qac<|frb h
 refine hpre (A:=(Q6z p0 p2 x116 p1 p5 p3 x127 p4)) (hap q7_ ⟨asb hb128 (amv rfl),ag_ (alq 2 Qbg p4.Inlets Xck),tv⟩) fun q8_=>?_
 refine bfe h (fun hb131 h=>?_) fun hb131 h=>?_
 ·refine wx tbk (hcat (Q6z p0 p2 x116 p1 p5 p3 x127 p4) [(25,rp [(.tmp 55,B (decide ((p4.Inlets.length:Int)>15)))] (B true))]) (hap q8_ ⟨asb hb131 (amv rfl),tv⟩)<|wtr<|bnq h fun x133 f132 h=>?_
  exact wx tbk [(0,rp _ _)] ⟨apw Qox (Qfk 2000  _ f132),tv⟩<|Qad<|Qac<|frb h
 refine hpre (A:=(Q6y p0 p2 x116 p1 p5 p3 x127 p4)) (hap q8_ ⟨asb hb131 (amv rfl),ag_ (alq 1 Qab p4.Feeds Xag),tv⟩) fun q9_=>?_
 refine bfe h (fun hb134 h=>?_) fun hb134 h=>?_
 ·refine wx tbk (hcat (Q6y p0 p2 x116 p1 p5 p3 x127 p4) [(31,rp [(.tmp 61,B (decide ((p4.Feeds.length:Int)>15)))] (B true))]) (hap q9_ ⟨asb hb134 (amv rfl),tv⟩)<|wtr<|bnq h fun x136 f135 h=>?_
  exact wx tbk [(0,rp _ _)] ⟨apw Qox (Qfk 2000  _ f135),tv⟩<|Qad<|Qac<|frb h
 refine bnq h fun x138 f137 h=>wx tbk (hcat (Q6y p0 p2 x116 p1 p5 p3 x127 p4) [(31,rp [(.tmp 61,B (decide ((p4.Feeds.length:Int)>15)))] (B false)),(34,rp [(.tmp 62,B false),fu 6,(.tmp 63,Zfq p3),(.tmp 64,Zfu p4)] (I x138))]) (hap q9_ ⟨asb hb134 (amv rfl),ag_ (apv Zwp (Qsl N p3 p4 _ f137) (nlc (NLt.agg _ (nlc nll (nlc (nld Qbz _) nl0))) (nlc (NLt.agg _ (nlc (nld Qh1 _) (nlc (nld Qar _) (nlcc nl0)))) nl0)) nll),tv⟩)<|bfq h (fun c139 h=>?_) fun c139 h=>?_
 ·refine bnq h fun x141 f140 h=>?_
  exact wx tbk [(0,rp _ _)] ⟨apw Qox (Qfk 2000  _ f140),tv⟩<|Qad<|Qac<|frb h
 exact Qah<|thn<|⟨(),h,mto (n:=235) [(1,.dat 1 (p1.map Qab)),(2,Q66 p2),(5,.dat 1 (p5.map Qab)),(6,.ref 0 2 0 0),(9,.ref 1 2 0 0),(10,.ref 2 4 0 0)] [0,1,2] [.own 2 [[.dat 5 (p0.Table.map Qat),Zfv p0]],Qj4 p3,Qj3 p4] hq (pqi (pqi (pqi (prr (prr (prr pn)))))) (qbi (qbi (qbi qn)))⟩
end
section
def Qa1 {x:Int}(h:-9223372036854775808<=x:=by omega) (h':x<=9223372036854775807:=by omega):w64 x=x:=by
 unfold w64
 rw[Xgy]
 omega
def w64S {i:Nat}(h:(i:Int)+1<=9223372036854775807):w64 ((i:Int)+1)=((i+1:Nat):Int):=Qa1 (by omega) h
def dlt {α:Type}{l q:List α}{x:α}{i m:Nat}(hd:l.drop i=x::q) (hd':l.drop (i+1)=q) (h:(l.drop i).length<m+1):(l.drop (i+1)).length<m:=by
 rw[hd']
 rw[hd] at h
 simp at h
 omega
def dlI {α:Type}{l:List α}{i:Nat}(h:i<l.length):decide ((i:Int)<(l.length:Int))=true:=by simpa using h
def Qb8 {α:Type}{l:List α}{i:Nat}{x:α}(h:l[i]? = some x):getI l (i:Int)=some x:=by
 simp[getI,h]
def btw (a lo hi:Int):Bool:=decide (lo<=a)&&decide (a<=hi)
def Qeb {a lo hi:Int}:btw a lo hi=true↔lo<=a/\a<=hi:=by simp[btw]
def Qrm (a b:Int):w64 (w64 a+b)=w64 (a+b):=by
 unfold w64
 rw[Xgy,Xgy,Xgy]
 omega
def Zh2:maxLen=9223372036854775807:=rfl
def Qcs {κ β:Type}(k:κ) (f:κ->Option β):Qb0 k f=f k:=by rw[Qb0]
def rowB (r:GRow):Bool:=btw r.T 0 400&&btw r.P 1 10000&&btw r.Liquid 0 4000&&btw r.Silica 0 2000&&decide (r.Liquid<r.Vapour)&&decide (r.Vapour<=4000)
def Zvw (o r:GRow):Bool:=decide (o.T<r.T)&&decide (o.P<r.P)&&decide (o.Liquid<r.Liquid)&&decide (o.Silica<=r.Silica)
def Q4w:List GRow->Bool
 |a::b::l=>Zvw a b&&Q4w (b::l)
 |_=>true
def tabB (t:List GRow):Bool:=btw t.length 2 20&&t.all rowB&&Q4w t
def Qp6 (N:Nat) (a lo hi:Int):Qe4 N a lo hi=some (btw a lo hi):=by
 unfold Qe4 btw
 by_cases h:lo<=a<;>simp[h]
def Zn9 (N:Nat) (r:GRow):Qj6 N r=some (rowB r):=by
 unfold Qj6 rowB
 simp only[Qp6,Xaa]
 cases btw r.T 0 400<;>cases btw r.P 1 10000<;>cases btw r.Liquid 0 4000<;>cases btw r.Silica 0 2000<;>by_cases h:r.Liquid<r.Vapour<;>simp[h]
def Qbn {α:Type}{t:List α}{i:Nat}{a:α}{l:List α}(h:t.drop i=a::l):t[i]? = some a/\t.drop (i+1)=l/\i<t.length:=by
 have hlt:i<t.length:=by
  rcases Xcm i t.length with h' |h'
  ·exact h'
  rw[List.drop_eq_nil_of_le h'] at h;cases h
 rw[Xbe hlt] at h
 injection h with h1 h2
 exact⟨by rw[Xab hlt,h1],h2,hlt⟩
def Qca {α:Type}{t:List α}{i:Nat}(h:t.drop i=[]):t.length<=i:=List.drop_eq_nil_iff.1 h
def Q82 (N:Nat) (t:List GRow) (k:Unit->Option Int) (hl:t.length<=1000):∀(n i:Nat),(t.drop i).length<n->i<=t.length ->
  Qbs N t k n i=bif (t.drop i).all rowB then k () else some ((i:Int)+((t.drop i).findIdx fun r=>!rowB r:Nat)):=by
 intro n
 induction n with
 |zero=>intro i h;omega
 |succ n ih=>
  intro i h hi
  unfold Qbs
  cases hd:t.drop i with
  |nil=>
   have:=Qca hd
   rw[show(decide ((i:Int)<(t.length:Int)))=false by simp;omega]
   rfl
  |cons a l=>
   obtain⟨h1,h2,h3⟩:=Qbn hd
   rw[show(decide ((i:Int)<(t.length:Int)))=true by simp;omega]
   simp only[Xak,Qb8 h1,Xaa,Qhn,Zn9]
   cases hr:rowB a with
   |false=>simp[hr,List.findIdx_cons]
   |true=>
    have e:w64 ((i:Int)+1)=((i+1:Nat):Int):=by rw[Qa1]<;>omega
    rw[e]
    have:=ih (i+1) (by rw[h2];rw[hd] at h;simpa using h) (by omega)
    simp only[Xb4,Xai,this,h2,Xdo,hr,Xcc,List.findIdx_cons]
    congr 2
    push_cast
    omega
def Zkh {N:Nat}{t:List GRow}(hl:t.length<=1000) (hN:1001<=N):Qg4 N t=some (t.all rowB):=by
 have:=Q82 N t (fun _=>some (-1)) hl N 0 (by simp;omega) (Xbg _)
 rw[show((0:Nat):Int)=0 from rfl,Xap] at this
 unfold Qg4 Qd3 Qef Qb0
 dsimp only
 rw[this]
 cases h:t.all rowB with
 |true=>simp
 |false=>simp
def Zc0 (N:Nat) (t:List GRow) (k:Unit->Option Bool) (hl:t.length<=1000):∀(n i:Nat),(t.drop i).length<n->i<t.length ->
  Qer N t k n i=bif Q4w (t.drop i) then k () else some false:=by
 intro n
 induction n with
 |zero=>intro i h;omega
 |succ n ih=>
  intro i h hi
  unfold Qer
  have hdr:∀x,(t.drop (1:Int).toNat)[i]? = some x↔t[i+1]? = some x:=fun x=>by
   rw[show(1:Int).toNat=1 from rfl,Xch,Nat.add_comm]
  have hlen:(t.drop (1:Int).toNat).length=t.length-1:=by simp
  cases hd:t.drop i with
  |nil=>have:=Qca hd;omega
  |cons a l=>
   obtain⟨h1,h2,h3⟩:=Qbn hd
   cases l with
   |nil=>
    have:=Qca h2
    rw[show(decide ((i:Int)<((t.drop (1:Int).toNat).length:Int)))=false by rw[hlen];simp;omega]
    rfl
   |cons b l=>
    obtain⟨h4,h5,h6⟩:=Qbn h2
    rw[show(decide ((i:Int)<((t.drop (1:Int).toNat).length:Int)))=true by rw[hlen];simp;omega]
    have e:w64 ((i:Int)+1)=((i+1:Nat):Int):=by rw[Qa1]<;>omega
    simp only[Xak,Qb8 ((hdr b).2 h4),Qb8 h1,Xaa,e]
    have:=ih (i+1) (by rw[h2];rw[hd] at h;simpa using h) (by omega)
    simp only[this,h2,Q4w,Zvw]
    by_cases c1:b.T<=a.T
    ·simp[c1,Xhs.2 c1]
    by_cases c2:b.P<=a.P
    ·simp[c1,c2,Xhs.2 c2]
    by_cases c3:b.Liquid<=a.Liquid
    ·simp[c1,c2,c3,Xhs.2 c3]
    by_cases c4:b.Silica<a.Silica
    ·simp[c1,c2,c3,c4,Xic.2 c4]
    simp[c1,c2,c3,c4,Xic.1 c1,Xic.1 c2,Xic.1 c3,Xhs.1 c4]
def Q4m {N:Nat}{t:List GRow}(hl:t.length<=1000) (hN:1001<=N):Qho N t=some (tabB t):=by
 unfold Qho tabB
 rw[Qp6,Zkh hl hN]
 cases hb:btw t.length 2 20 with
 |false=>rfl
 |true=>
  have h2:2<=t.length:=by simp[btw] at hb;omega
  cases ha:t.all rowB with
  |false=>rfl
  |true=>
   have:=Zc0 N t (fun _=>some true) hl N 0 (by simp;omega) (by omega)
   rw[show((0:Nat):Int)=0 from rfl,Xap] at this
   simp only[Xaa,Xb4,Xai,Qb0,Xcc]
   rw[this]
   rw[show(decide ((1:Int)<=(t.length:Int)))=true by rw[Xbw];omega]
   cases Q4w t<;>simp[chk]
def Zdl (N:Nat) (t:List GRow) (k:List GRow->Option (List GRow)) (hl:t.length<=1000):∀(n i:Nat) (acc:List GRow),(t.drop i).length<n->i<=t.length->acc.length=i ->
  Qgw N t k n acc i=k (acc++t.drop i):=by
 intro n
 induction n with
 |zero=>intro i acc h;omega
 |succ n ih=>
  intro i acc h hi ha
  unfold Qgw
  cases hd:t.drop i with
  |nil=>
   have:=Qca hd
   rw[show(decide ((i:Int)<(t.length:Int)))=false by simp;omega]
   simp
  |cons a l=>
   obtain⟨h1,h2,h3⟩:=Qbn hd
   rw[show(decide ((i:Int)<(t.length:Int)))=true by simp;omega]
   have e:w64 ((i:Int)+1)=((i+1:Nat):Int):=by rw[Qa1]<;>omega
   have hc:decide ((acc.length+[a].length)*40<=140737488355328)=true:=by simp;omega
   simp only[Xak,Qb8 h1,Xaa,e,hc,chk]
   rw[ih (i+1) _ (by rw[h2];rw[hd] at h;simpa using h) (by omega) (by simp[ha]),h2]
   simp
def Zlq {N:Nat}{t:List GRow}(hl:t.length<=1000) (hN:1001<=N):Qnw N t=some t:=by
 have:=Zdl N t (fun y=>some y) hl N 0 [] (by simp;omega) (Xbg _) rfl
 rw[show((0:Nat):Int)=0 from rfl] at this
 unfold Qnw Qb0
 dsimp only
 rw[this]
 simp
def strB (s:Qaa):Bool:=btw s.Mass 0 1000000&&btw s.Heat 0 (4000*s.Mass)&&btw s.Silica 0 (10000*s.Mass)&&btw s.Gas 0 1000000000
def Zaz {s:Qaa}(h:btw s.Mass 0 1000000=true):w64 (4000*s.Mass)=4000*s.Mass/\w64 (10000*s.Mass)=10000*s.Mass:=by
 simp only[btw,Xaq,Xbw] at h
 exact⟨Qa1,Qa1⟩
def Q2e (N:Nat) (s:Qaa):Qf7 N s=some (strB s):=by
 unfold Qf7 strB
 simp only[Qp6,Xaa]
 cases h:btw s.Mass 0 1000000 with
 |false=>rfl
 |true=>
  rw[(Zaz h).1,(Zaz h).2]
  cases btw s.Heat 0 (4000*s.Mass)<;>cases btw s.Silica 0 (10000*s.Mass)<;>cases btw s.Gas 0 1000000000<;>rfl
structure RowV (r:GRow):Prop where
 l0:0<=r.Liquid
 l1:r.Liquid<=4000
 lv:r.Liquid<r.Vapour
 v1:r.Vapour<=4000
 s0:0<=r.Silica
 s1:r.Silica<=2000
def Zrk {r:GRow}(h:rowB r=true):RowV r:=by
 simp[rowB,btw] at h
 exact⟨by omega,by omega,by omega,by omega,by omega,by omega⟩
structure StrV (s:Qaa):Prop where
 m0:0<=s.Mass
 m1:s.Mass<=1000000
 h0:0<=s.Heat
 h1:s.Heat<=4000*s.Mass
 s0:0<=s.Silica
 s1:s.Silica<=10000*s.Mass
 g0:0<=s.Gas
 g1:s.Gas<=1000000000
def Qt1 {s:Qaa}:strB s=true↔StrV s:=by
 simp only[strB,btw,Xaq,Xbw]
 exact⟨fun h=>⟨by omega,by omega,by omega,by omega,by omega,by omega,by omega,by omega⟩,fun h=>by obtain⟨_,_,_,_,_,_,_,_⟩:=h;omega⟩
def bdp {x y a b:Int}(hx:0<=x) (hx':x<=a) (hy:0<=y) (hy':y<=b) (ha:0<=a):0<=x*y/\x*y<=a*b:=
 ⟨Xfh hx hy,Int.mul_le_mul hx' hy' hy ha⟩
def stm (r:GRow) (s:Qaa):Int:=
 if s.Heat-s.Mass*r.Liquid<=0 then 0 else if s.Mass*r.Vapour<=s.Heat then s.Mass else(s.Heat-s.Mass*r.Liquid).tdiv (r.Vapour-r.Liquid)
def flG (r:GRow) (s:Qaa):Qko:=
 if stm r s=0 then⟨⟨0,0,0,0⟩,⟨s.Mass,s.Heat,min (s.Mass*r.Silica) s.Silica,s.Gas⟩,if 0<s.Mass then max (s.Heat-s.Mass*r.Liquid) 0 else 0,s.Silica-min (s.Mass*r.Silica) s.Silica⟩
 else if stm r s=s.Mass then⟨⟨s.Mass,s.Heat,0,s.Gas⟩,⟨0,0,0,0⟩,0,s.Silica⟩
 else⟨⟨stm r s,stm r s*r.Vapour,0,s.Gas⟩,⟨s.Mass-stm r s,s.Heat-stm r s*r.Vapour,min ((s.Mass-stm r s)*r.Silica) s.Silica,0⟩,s.Heat-stm r s*r.Vapour-(s.Mass-stm r s)*r.Liquid,s.Silica-min ((s.Mass-stm r s)*r.Silica) s.Silica⟩
def Qx9 {r:GRow}{s:Qaa}(hr:RowV r) (hs:StrV s) :
  (s.Heat-s.Mass*r.Liquid<=0/\stm r s=0) \/
  (0<s.Heat-s.Mass*r.Liquid/\s.Mass*r.Vapour<=s.Heat/\stm r s=s.Mass/\0<s.Mass) \/
  (0<s.Heat-s.Mass*r.Liquid/\s.Heat<s.Mass*r.Vapour/\stm r s=(s.Heat-s.Mass*r.Liquid).tdiv (r.Vapour-r.Liquid)/\0<=stm r s/\stm r s<s.Mass/\stm r s*(r.Vapour-r.Liquid)<=s.Heat-s.Mass*r.Liquid/\s.Heat-s.Mass*r.Liquid<stm r s*(r.Vapour-r.Liquid)+(r.Vapour-r.Liquid)):=by
 obtain⟨l0,l1,lv,v1,s0,s1⟩:=hr
 obtain⟨m0,m1,h0,h1,_,_,_,_⟩:=hs
 by_cases c1:s.Heat-s.Mass*r.Liquid<=0
 ·exact .inl ⟨c1,by unfold stm;rw[Xaz c1]⟩
 by_cases c2:s.Mass*r.Vapour<=s.Heat
 ·refine .inr (.inl ⟨by omega,c2,by unfold stm;rw[Xat c1,Xaz c2],?_⟩)
  rcases Int.lt_or_eq_of_le m0 with h |h
  ·exact h
  rw[<-h] at h1 c1
  simp at h1 c1
  omega
 have e:stm r s=(s.Heat-s.Mass*r.Liquid).tdiv (r.Vapour-r.Liquid):=by unfold stm;rw[Xat c1,Xat c2]
 have e2:stm r s=(s.Heat-s.Mass*r.Liquid)/(r.Vapour-r.Liquid):=by rw[e,Xex (by omega)]
 have d0:0<r.Vapour-r.Liquid:=by omega
 have q1:=Int.ediv_mul_le (s.Heat-s.Mass*r.Liquid) (b:=r.Vapour-r.Liquid) (by omega)
 have q2:=Int.lt_mul_ediv_self_add (x:=s.Heat-s.Mass*r.Liquid) (k:=r.Vapour-r.Liquid) d0
 have q3:0<=stm r s:=by rw[e2];exact Xf0 (by omega) (by omega)
 rw[<-e2] at q1 q2
 rw[Xgc (r.Vapour-r.Liquid)] at q2
 refine .inr (.inr ⟨by omega,by omega,e,q3,?_,q1,q2⟩)
 rw[e2]
 refine Int.ediv_lt_of_lt_mul d0 ?_
 rw[Xg6]
 omega
structure Zy8 (r:GRow) (s:Qaa):Prop where
 a:w64 (s.Mass*r.Liquid)=s.Mass*r.Liquid
 b:w64 (s.Heat-s.Mass*r.Liquid)=s.Heat-s.Mass*r.Liquid
 c:w64 (s.Mass*r.Vapour)=s.Mass*r.Vapour
 d:w64 (r.Vapour-r.Liquid)=r.Vapour-r.Liquid
def Zqw {r:GRow}{s:Qaa}(hr:RowV r) (hs:StrV s):Zy8 r s:=by
 obtain⟨l0,l1,lv,v1,s0,s1⟩:=hr
 obtain⟨m0,m1,h0,h1,_,_,_,_⟩:=hs
 have p1:=bdp m0 m1 l0 l1 (by omega)
 have p2:=bdp (y:=r.Vapour) m0 m1 (by omega) v1 (by omega)
 exact⟨Qa1,Qa1,Qa1,Qa1⟩
def Zlt (N:Nat) {r:GRow}{s:Qaa}(hr:RowV r) (hs:StrV s):Qiy N ⟨r⟩ s=some (stm r s):=by
 obtain⟨wa,wb,wc,wd⟩:=Zqw hr hs
 have hlv:=hr.lv
 have hd:((r.Vapour-r.Liquid) != 0)=true:=by simp;omega
 have hs':=hs
 obtain⟨m0,m1,h0,h1,_,_,_,_⟩:=hs'
 unfold Qiy
 simp only[wa,wb,wc,wd,Xaa,hd,chk,Xak]
 rcases Qx9 hr hs with ⟨a,b⟩ |⟨a,b,c,d⟩ |⟨a,b,c,d,e,_,_⟩
 ·rw[Xae a,b];rfl
 ·rw[Xah (show ¬s.Heat-s.Mass*r.Liquid<=0 by omega),Xae (show s.Heat>=s.Mass*r.Vapour from b),c];rfl
 rw[Xah (show ¬s.Heat-s.Mass*r.Liquid<=0 by omega),Xah (show ¬s.Heat>=s.Mass*r.Vapour by omega),<-c,Qa1];rfl
def Zy0 (N:Nat) {r:GRow}{s:Qaa}(hr:RowV r) (hs:StrV s):Qjm N ⟨r⟩ s=some (flG r s):=by
 have hw:=Zqw hr hs
 have hc:=Qx9 hr hs
 have he:=Zlt N hr hs
 obtain⟨l0,l1,lv,v1,s0,s1⟩:=hr
 obtain⟨m0,m1,h0,h1,q0,q1,_,_⟩:=hs
 unfold Qjm
 have:(⟨⟨r.T,r.P,r.Liquid,r.Vapour,r.Silica⟩⟩:Qpw)=⟨r⟩:=rfl
 dsimp only at this ⊢
 rw[he]
 have p1:=bdp m0 m1 s0 s1 (by omega)
 simp only[Xaa,Qb0]
 unfold flG
 generalize hm:stm r s=m at *
 by_cases z:m=0
 ·subst z
  rw[Xaz rfl,hw.a,Qa1 (x:=s.Mass*r.Silica),hw.b]
  simp only[Xb8,Xak]
  have:w64 (s.Silica-(if s.Mass*r.Silica<s.Silica then s.Mass*r.Silica else s.Silica))=s.Silica-min (s.Mass*r.Silica) s.Silica:=by
   rw[Qa1]<;>(repeat split)<;>omega
  rw[this]
  by_cases c:0<s.Mass
  ·rw[Xae (show s.Mass>0 from c),Xaz c]
   simp only[Xak]
   congr 2
   ·congr 1;split<;>omega
   split<;>omega
  rw[Xah (show ¬s.Mass>0 from c),Xat c]
  simp only[Xai]
  congr 2
  congr 1;split<;>omega
 have z1:(m==0)=false:=by simpa using z
 rw[Xat z,z1]
 by_cases f:m=s.Mass
 ·have f1:(m==s.Mass)=true:=by simpa using f
  rw[f1,Xaz f]
  have:w64 (0*r.Silica)=0:=by rw[Int.zero_mul];rfl
  simp only[Xai,Xak,this]
  have:w64 (s.Silica-(if 0<s.Silica then 0 else s.Silica))=s.Silica:=by rw[Qa1]<;>split<;>omega
  rw[this]
  simp only[show decide ((0:Int)>0)=false from rfl,Xai]
  congr 2
  ·rw[f]
  congr 1;split<;>omega
 have f1:(m==s.Mass)=false:=by simpa using f
 rw[f1,Xat f]
 rcases hc with ⟨a,b⟩ |⟨a,b,c,d⟩ |⟨a,b,c,d,e,g1,g2⟩
 ·exact absurd b z
 ·exact absurd c f
 have k1:=bdp d (show m<=1000000 by omega) (show 0<=r.Vapour by omega) v1 (by omega)
 have k2:=bdp (show 0<=s.Mass-m by omega) (show s.Mass-m<=1000000 by omega) s0 s1 (by omega)
 have k3:=bdp (show 0<=s.Mass-m by omega) (show s.Mass-m<=1000000 by omega) l0 l1 (by omega)
 rw[Xg6] at g1
 have k4:0<=s.Heat-m*r.Vapour-(s.Mass-m)*r.Liquid:=by rw[Xfz];omega
 simp only[Xai]
 rw[Qa1 (x:=s.Mass-m),Qa1 (x:=m*r.Vapour),Qa1 (x:=s.Heat-m*r.Vapour),Qa1 (x:=(s.Mass-m)*r.Silica),Qa1 (x:=(s.Mass-m)*r.Liquid),Qa1 (x:=s.Heat-m*r.Vapour-(s.Mass-m)*r.Liquid),Xae (show s.Mass-m>0 by omega)]
 have:w64 (s.Silica-(if (s.Mass-m)*r.Silica<s.Silica then(s.Mass-m)*r.Silica else s.Silica))=s.Silica-min ((s.Mass-m)*r.Silica) s.Silica:=by
  rw[Qa1]<;>(repeat split)<;>omega
 rw[this]
 simp only[Xak]
 congr 2
 ·congr 1;split<;>omega
 split<;>omega
structure Zza (s:Qaa) (p:Qko):Prop where
 st:StrV p.Steam
 wa:StrV p.Water
 km:p.Steam.Mass+p.Water.Mass=s.Mass
 kh:p.Steam.Heat+p.Water.Heat=s.Heat
 ks:p.Water.Silica+p.Scale=s.Silica
 kg:p.Steam.Gas+p.Water.Gas=s.Gas
 z:p.Steam.Silica=0
 sc:0<=p.Scale
def Zbp {r:GRow}{s:Qaa}(hr:RowV r) (hs:StrV s):Zza s (flG r s):=by
 have hc:=Qx9 hr hs
 obtain⟨l0,l1,lv,v1,s0,s1⟩:=hr
 obtain⟨m0,m1,h0,h1,q0,q1,y0,y1⟩:=hs
 have p1:=bdp m0 m1 s0 s1 (by omega)
 unfold flG
 by_cases z:stm r s=0
 ·rw[Xaz z]
  refine⟨⟨?_,?_,?_,?_,?_,?_,?_,?_⟩,⟨?_,?_,?_,?_,?_,?_,?_,?_⟩,?_,?_,?_,?_,?_,?_⟩<;>dsimp only<;>omega
 rw[Xat z]
 by_cases f:stm r s=s.Mass
 ·rw[Xaz f]
  refine⟨⟨?_,?_,?_,?_,?_,?_,?_,?_⟩,⟨?_,?_,?_,?_,?_,?_,?_,?_⟩,?_,?_,?_,?_,?_,?_⟩<;>dsimp only<;>omega
 rw[Xat f]
 rcases hc with ⟨a,b⟩ |⟨a,b,c,d⟩ |⟨a,b,c,d,e,g1,g2⟩
 ·exact absurd b z
 ·exact absurd c f
 generalize stm r s=m at *
 have k1:=bdp d (show m<=1000000 by omega) (show 0<=r.Vapour by omega) v1 (by omega)
 have k2:=bdp (show 0<=s.Mass-m by omega) (show s.Mass-m<=1000000 by omega) s0 s1 (by omega)
 have k5:m*r.Vapour<=m*4000:=Xbo v1 d
 have k6:(s.Mass-m)*r.Silica<=(s.Mass-m)*2000:=Xbo s1 (by omega)
 have k7:(s.Mass-m-1)*(r.Vapour-r.Liquid)>=0:=Xfh (by omega) (by omega)
 have k8:(s.Mass-m)*r.Vapour<=(s.Mass-m)*4000:=Xbo v1 (by omega)
 have k9:0<=s.Mass*r.Liquid-m*r.Liquid:=by rw[<-Xfz];exact Xfh (by omega) l0
 simp only[Xg6,Xfz,Int.one_mul] at g1 g2 k7 k8 k6 k2
 refine⟨⟨?_,?_,?_,?_,?_,?_,?_,?_⟩,⟨?_,?_,?_,?_,?_,?_,?_,?_⟩,?_,?_,?_,?_,?_,?_⟩<;>dsimp only<;>(try simp only[Xfz])<;>omega
def Zg3 {t:List GRow}(ht:tabB t=true) {l:Int}(h:btw l 0 (t.length-1)=true):getI t l=some ((getI t l).getD ⟨0,0,0,0,0⟩)/\RowV ((getI t l).getD ⟨0,0,0,0,0⟩):=by
 simp only[btw,Xaq,Xbw] at h
 have hi:l.toNat<t.length:=by omega
 have e:getI t l=some t[l.toNat]:=by unfold getI;rw[Xaz h.1,Xab hi]
 rw[e]
 refine⟨rfl,?_⟩
 simp only[tabB,Xaq] at ht
 exact Zrk (Xa6.1 ht.1.2 _ (Xb2 hi))
def Zrs:Qko:=⟨⟨0,0,0,0⟩,⟨0,0,0,0⟩,0,0⟩
def Zbo (t:List GRow) (l:Int) (s:Qaa):Qko×Int:=
 bif !tabB t then(Zrs,1) else bif !btw l 0 (t.length-1) then(Zrs,2) else bif !strB s then(Zrs,1) else(flG ((getI t l).getD ⟨0,0,0,0,0⟩) s,0)
def Zmp {N:Nat}(hN:1001<=N) {t:List GRow}(ht:t.length<=1000) (l:Int) (s:Qaa):Qni N t l s=some (Zbo t l s):=by
 have e0:w64 ((t.length:Int)-1)=(t.length:Int)-1:=by rw[Qa1]<;>omega
 unfold Qni Zbo
 rw[Q4m ht hN]
 cases hT:tabB t with
 |false=>rfl
 |true=>
  simp only[Xaa,Xb4,Xai,Qlo,Qp6,e0,Q2e]
  cases h1:btw l 0 ((t.length:Int)-1) with
  |false=>rfl
  |true=>
   cases h2:strB s with
   |false=>rfl
   |true=>
    obtain⟨g1,g2⟩:=Zg3 hT h1
    simp only[Xb4,Xai,Ql6]
    rw[g1]
    simp only[Xbd,Xaa]
    generalize (getI t l).getD ⟨0,0,0,0,0⟩=r at g2
    have ho:Qjm N ⟨⟨r.T,r.P,r.Liquid,r.Vapour,r.Silica⟩⟩ s=some (flG r s):=Zy0 N g2 (Qt1.1 h2)
    rw[ho]
    rfl
end
section
def Q6c {α:Type}{F:Nat->Int->Option Int}{p:List α}{q:α->Option Bool}{b:α->Bool}{k:Unit->Option Int}
  (h:∀n y,F (n+1) y=bif decide (y<(p.length:Int)) then(getI p y).bind fun x=>(q x).bind fun c=>bif c then some y else F n (w64 (y+1)) else k ())
  (hq:∀x,q x=some (b x)) (hk:k ()=some (-1)) (hl:p.length<=1000000):∀(n i:Nat),(p.drop i).length<n->(F n i).bind (fun x=>some (decide (x>=0)))=some ((p.drop i).any b):=by
 intro n
 induction n with
 |zero=>intro i h;cases h
 |succ n ih=>
  intro i hn
  rw[h]
  cases hd:p.drop i with
  |nil=>
   have:=Qca hd
   rw[show decide ((i:Int)<(p.length:Int))=false by simp;omega,Xai,hk]
   rfl
  |cons a l=>
   obtain⟨h1,h2,h3⟩:=Qbn hd
   rw[show decide ((i:Int)<(p.length:Int))=true by simp;omega,Xak,Qb8 h1,Xaa,hq,Xaa]
   cases hb:b a with
   |true=>simp[hb]
   |false=>
    rw[Xai,show w64 ((i:Int)+1)=((i+1:Nat):Int) by rw[Qa1]<;>omega,ih (i+1) (by rw[h2];rw[hd] at hn;simp at hn;omega),h2]
    simp[hb]
def Ql2 {α:Type}{F:Nat->Int->Option Int}{p:List α}{q:α->Option Bool}{b:α->Bool}{k:Unit->Option Int}{N:Nat}
  (h:∀n y,F (n+1) y=bif decide (y<(p.length:Int)) then(getI p y).bind fun x=>(q x).bind fun c=>bif c then some y else F n (w64 (y+1)) else k ())
  (hq:∀x,q x=some (b x)) (hk:k ()=some (-1)) (hl:p.length<=1000000) (hN:p.length<N):(F N 0).bind (fun x=>some (decide (x>=0)))=some (p.any b):=by
 have:=Q6c h hq hk hl N 0 (by simpa using hN)
 simpa using this
def Qoe (N:Nat) (a lo hi:Int):Qen N a lo hi=some (btw a lo hi):=by
 unfold Qen btw
 by_cases h:lo<=a<;>simp[h]
def Qz0 {α:Type}(l:List α) (b:α->Bool):(!l.any fun x=>!b x)=l.all b:=by
 induction l with
 |nil=>rfl
 |cons a l ih=>simp only[List.any_cons,Xdo,Xh1,Bool.not_not,ih]
def wtsB (w:List Int):Bool:=btw w.length 1 20&&(w.all (fun x=>btw x 0 1000)&&w.any fun x=>decide (x>0))
def outl (x:Qam):Int:=if x.Kind=4 then 2 else if x.Kind=5 then x.Weights.length else 1
def Qpv (x:Qam):Bool:=
 btw x.Kind 1 6&&btw x.Wide 0 1000000&&btw x.Narrow 1 1000000000&&btw x.From.length (if x.Kind=1 then 0 else 1) (if x.Kind=1 then 0 else if x.Kind=2 then 6 else 1) &&
 btw x.Amount 0 (if x.Kind=3 then 1000000000 else if x.Kind=4 then 1000 else 0)&&(if x.Kind=5 then wtsB x.Weights else decide (x.Weights.length=0))
def Zt1 {N:Nat}{w:List Int}(hl:w.length<=1000) (hN:1001<=N):Qju N w=some (w.all fun x=>btw x 0 1000):=by
 have hc:Qe2 N w=some (w.any fun x=>!btw x 0 1000):=by
  unfold Qe2 Qgs Qb0
  refine Ql2 (F:=Qdn N w fun _=>some (-1)) (k:=fun _=>some (-1)) (q:=Qjt N) (fun n y=>rfl) (fun x=>?_) rfl (by omega) (by omega)
  simp only[Qjt,Qi7,Qoe,Xaa]
 unfold Qju
 rw[hc,Xaa,Qz0]
def Zt0 {N:Nat}{w:List Int}(hl:w.length<=1000) (hN:1001<=N):Qd7 N w=some (w.any fun x=>decide (x>0)):=by
 unfold Qd7 Qgr Qb0
 exact Ql2 (F:=Qdm N w fun _=>some (-1)) (k:=fun _=>some (-1)) (q:=Qi6 N) (fun n y=>rfl) (fun x=>rfl) rfl (by omega) (by omega)
def Zkg {N:Nat}{x:Qam}(hw:x.Weights.length<=1000) (hN:1001<=N):Qio N x=some (Qpv x):=by
 have key:∀(a b:Int),(bif ((x.From.length:Int) != a) then some false else
   (Qen N x.Amount 0 b).bind fun x16=>bif (!x16) then some false else(Qen N x.Wide 0 1000000).bind fun x19=>bif (!x19) then some false else
    (Qen N x.Narrow 1 1000000000).bind fun x22=>bif (!x22) then some false else
    bif (x.Kind != 5) then some ((x.Weights.length:Int)==0) else(Qen N (x.Weights.length:Int) 1 20).bind fun x7=>bif x7 then(Qju N x.Weights).bind fun x10=>
    bif x10 then(Qd7 N x.Weights).bind fun x13=>some x13 else some false else some false) =
   some (decide ((x.From.length:Int)=a)&&btw x.Amount 0 b&&btw x.Wide 0 1000000&&btw x.Narrow 1 1000000000&&(if x.Kind=5 then wtsB x.Weights else decide (x.Weights.length=0))):=fun a b=>by
  simp only[Qoe,Zt1 hw hN,Zt0 hw hN,Xaa]
  by_cases h1:(x.From.length:Int)=a
  ·rw[show((x.From.length:Int) != a)=false by simpa using h1,Xai,Xae h1]
   cases btw x.Amount 0 b<;>cases btw x.Wide 0 1000000<;>cases btw x.Narrow 1 1000000000<;>simp only[Xb4,Xd9,Xak,Xai,Xhh,Xcc,Bool.false_and,Bool.and_false]
   by_cases h5:x.Kind=5
   ·rw[show(x.Kind != 5)=false by simpa using h5,Xaz h5,wtsB]
    cases btw x.Weights.length 1 20<;>cases (x.Weights.all fun x=>btw x 0 1000)<;>cases (x.Weights.any fun x=>decide (x>0))<;>rfl
   rw[show(x.Kind != 5)=true by simpa using h5,Xat h5,Xak]
   congr 1
   by_cases h0:x.Weights.length=0
   ·rw[h0];rfl
   rw[Xah h0,Xct];omega
  rw[show((x.From.length:Int) != a)=true by simpa using h1,Xak,Xah h1]
  simp
 unfold Qio Qpv
 simp only[Qb0]
 simp only[key]
 have hkd:∀a b:Int,decide ((x.From.length:Int)=a)=btw x.From.length a a:=fun a _=>by
  unfold btw
  by_cases h:(x.From.length:Int)=a
  ·rw[h];simp
  rw[Xah h]
  symm
  rw[Xfk,Xbx,Xbx];omega
 have fin:∀(a b c d e:Bool),some (a&&b&&c&&d&&e)=some (true&&c&&d&&a&&b&&e):=by
  intro a b c d e;cases a<;>cases b<;>cases c<;>cases d<;>rfl
 by_cases h1:x.Kind=1
 ·rw[h1]
  simp only[Xb8,Xak,hkd 0 0]
  exact fin _ _ _ _ _
 have b1:(x.Kind==1)=false:=by simpa using h1
 by_cases h2:x.Kind=2
 ·rw[h2]
  have e:∀c:Int,decide ((x.From.length:Int)=(if (if (6:Int)<x.From.length then 6 else(x.From.length:Int))>1 then(if (6:Int)<x.From.length then 6 else(x.From.length:Int)) else 1))=btw x.From.length 1 6:=fun _=>by
   unfold btw
   by_cases h6:(6:Int)<x.From.length
   ·rw[Xaz h6,Xaz (by decide),Xah (by omega)]
    symm;rw[Xfk,Xbx,Xbx];omega
   rw[Xat h6]
   by_cases h7:(x.From.length:Int)>1
   ·rw[Xaz h7];simp;omega
   rw[Xat h7]
   by_cases h8:(x.From.length:Int)=1
   ·rw[h8];rfl
   rw[Xah h8]
   symm;rw[Xfk,Xbx,Xbx];omega
  simp only[show((2:Int)==1)=false from rfl,Xb8,Xak,Xai,Xaa,e 0]
  exact fin _ _ _ _ _
 have b2:(x.Kind==2)=false:=by simpa using h2
 by_cases h3:x.Kind=3
 ·rw[h3]
  simp only[show((3:Int)==1)=false from rfl,show((3:Int)==2)=false from rfl,Xb8,Xak,Xai,hkd 1 0]
  exact fin _ _ _ _ _
 have b3:(x.Kind==3)=false:=by simpa using h3
 by_cases h4:x.Kind=4
 ·rw[h4]
  simp only[show((4:Int)==1)=false from rfl,show((4:Int)==2)=false from rfl,show((4:Int)==3)=false from rfl,Xb8,Xak,Xai,hkd 1 0]
  exact fin _ _ _ _ _
 have b4:(x.Kind==4)=false:=by simpa using h4
 by_cases h5:x.Kind=5
 ·rw[h5]
  simp only[show((5:Int)==1)=false from rfl,show((5:Int)==2)=false from rfl,show((5:Int)==3)=false from rfl,show((5:Int)==4)=false from rfl,Xb8,Xak,Xai,hkd 1 0]
  exact fin _ _ _ _ _
 have b5:(x.Kind==5)=false:=by simpa using h5
 by_cases h6:x.Kind=6
 ·rw[h6]
  simp only[show((6:Int)==1)=false from rfl,show((6:Int)==2)=false from rfl,show((6:Int)==3)=false from rfl,show((6:Int)==4)=false from rfl,show((6:Int)==5)=false from rfl,Xb8,Xak,Xai,hkd 1 0]
  exact fin _ _ _ _ _
 have b6:(x.Kind==6)=false:=by simpa using h6
 simp only[b1,b2,b3,b4,b5,b6,Xai]
 have:btw x.Kind 1 6=false:=by
  unfold btw
  rw[Xfk,Xbx,Xbx];omega
 rw[this];simp
def Zgu {w:List Int}(h:∀x∈w,0<=x):0<=w.sum/\(w.sum>0↔∃x∈w,x>0):=by
 induction w with
 |nil=>simp
 |cons a l ih=>
  obtain⟨h1,h2⟩:=ih fun x hx=>h x (Xal _ hx)
  have ha:=h a Xb9
  simp only[Xb0,Xa7,exists_eq_or_imp]
  refine⟨by omega,⟨fun hs=>?_,fun hs=>?_⟩⟩
  ·by_cases h3:a>0
   ·exact .inl h3
   exact .inr (h2.1 (by omega))
  rcases hs with hs |hs
  ·omega
  have:=h2.2 hs;omega
def Zhh (N:Nat) (x:Qam):Qgb N x=some (outl x):=by
 unfold Qgb outl
 by_cases h4:x.Kind=4
 ·rw[h4];rfl
 by_cases h5:x.Kind=5
 ·rw[h5];rfl
 rw[show(x.Kind==4)=false by simpa using h4,show(x.Kind==5)=false by simpa using h5,Xat h4,Xat h5];rfl
end
section
def pq (p:Qhm):Int×Int:=(p.Element,p.Outlet)
def Zhd (els:List Qam) (i:Nat) (lv:Int) (u:List (Int×Int)) (p:Qhm):Bool:=
 btw p.Element 0 ((i:Int)-1)&&(match getI els p.Element with |some y=>btw p.Outlet 0 (outl y-1)&&decide (lv<=y.Level) |none=>false)&&!u.contains (pq p)
def Qrt (els:List Qam) (i:Nat) (lv:Int):List (Int×Int)->List Qhm->Bool
 |_,[]=>true
 |u,p::l=>Zhd els i lv u p&&Qrt els i lv (u++[pq p]) l
def Q59 (n:Int) (els:List Qam):Nat->List (Int×Int)->List Qam->Bool
 |_,_,[]=>true
 |i,u,x::l=>btw x.Level 0 (n-1)&&Qrt els i x.Level u x.From&&Q59 n els (i+1) (u++x.From.map pq) l
def netB (n:GNet):Bool:=tabB n.Table&&btw n.Elements.length 1 16&&n.Elements.all Qpv&&Q59 n.Table.length n.Elements 0 [] n.Elements
structure Qth (n:GNet):Prop where
 t:n.Table.length<=25
 e:n.Elements.length<=18
 x:∀x∈n.Elements,x.From.length<=25/\x.Weights.length<=25
theorem Q8b {x:Qam}(h:x.Weights.length<=25):0<=outl x/\outl x<=25:=by
 unfold outl
 split
 ·omega
 split<;>omega
theorem Zr7 {els:List Qam}{a:Int}{i:Nat}(h:btw a 0 ((i:Int)-1)=true) (hi:i<=els.length):∃y,getI els a=some y/\y∈els:=by
 obtain⟨h1,h2⟩:=Qeb.1 h
 have hlt:a.toNat<els.length:=by omega
 exact⟨els[a.toNat],by unfold getI;rw[Xaz h1,Xab hlt],Xb2 hlt⟩
section
variable {N : Nat} {n : GNet} (hs : Qth n) (hN : 1001 <= N)
include hs hN
omit hN in
theorem Zc4 {i:Nat}(hi:i<n.Elements.length) {x:Qam}(hx:x.From.length<=25) (k:List (Int×Int)->Option Bool):∀(m j:Nat) (u:List (Int×Int)),(x.From.drop j).length<m ->
  Qfl N n i k x m j u=bif Qrt n.Elements i x.Level u (x.From.drop j) then k (u++(x.From.drop j).map pq) else some false:=by
 intro m
 induction m with
 |zero=>intro j _ h;cases h
 |succ m ih=>
  intro j u h
  rw[Qfl]
  cases hd:x.From.drop j with
  |nil=>
   have:=Qca hd
   simp[show ¬((j:Int)<x.From.length) from by omega,Qrt]
  |cons p l=>
   obtain⟨hg,hd',hlt⟩:=Qbn hd
   have e0:=hs.e
   simp only[dlI hlt,Xak,Qb8 hg,Xaa,Qoe,Qrt,Zhd]
   rw[Qa1 (x:=(i:Int)-1)]
   cases hb:btw p.Element 0 ((i:Int)-1) with
   |false=>rfl
   |true=>
    obtain⟨y,hy,hym⟩:=Zr7 hb (Nat.le_of_lt hi)
    obtain⟨o0,o1⟩:=Q8b (hs.x y hym).2
    simp only[Xb4,Xai,hy,Xaa,Zhh,Xcc]
    rw[Qa1 (x:=outl y-1)]
    cases hc:btw p.Outlet 0 (outl y-1) with
    |false=>rfl
    |true=>
     simp only[Xb4,Xai,Xcc]
     show(bif u.contains (pq p) then some false else _)=_
     cases hu:u.contains (pq p) with
     |true=>simp
     |false=>
      simp only[Xai,Xd9,Xhh]
      by_cases hl:x.Level>y.Level
      ·rw[Xae hl,Xah (by omega)];rfl
      rw[Xah hl,Xae (by omega),Xai,w64S (i:=j) (by omega),
       ih (j+1) _ (dlt hd hd' h),hd']
      have ea:addQ u (p.Element,p.Outlet)=u++[pq p]:=by
       unfold addQ
       rw[show u.contains (p.Element,p.Outlet)=false from hu];rfl
      rw[ea,Xcc,Xax,Xan]
      rfl
theorem Zjg (k:Unit->Option Bool):∀(m i:Nat) (u:List (Int×Int)),(n.Elements.drop i).length<m ->
  Qe3 N n k m i u=bif Q59 n.Table.length n.Elements i u (n.Elements.drop i) then k () else some false:=by
 intro m
 induction m with
 |zero=>intro i _ h;cases h
 |succ m ih=>
  intro i u h
  rw[Qe3]
  cases hd:n.Elements.drop i with
  |nil=>
   have:=Qca hd
   simp[show ¬((i:Int)<n.Elements.length) from by omega,Q59]
  |cons x l=>
   obtain⟨hg,hd',hlt⟩:=Qbn hd
   have e0:=hs.e
   have e1:=hs.t
   have hx:=hs.x x (Xac hg)
   simp only[dlI hlt,Xak,Qb0,Qb8 hg,Xaa,Qoe,Q59]
   rw[Qa1 (x:=(n.Table.length:Int)-1)]
   cases hb:btw x.Level 0 ((n.Table.length:Int)-1) with
   |false=>rfl
   |true=>
    have:=Zc4 (N:=N) hs hlt hx.1 (fun y9=>Qe3 N n k m (w64 ((i:Int)+1)) y9) N 0 u (by simp;omega)
    rw[Xap] at this
    simp only[Xb4,Xai,Xcc]
    refine this.trans ?_
    cases Qrt n.Elements i x.Level u x.From with
    |false=>rfl
    |true=>
     rw[Xak,w64S (i:=i) (by omega),ih (i+1) _ (dlt hd hd' h),hd',Xcc]
theorem Zt2:Qga N n.Elements=some (n.Elements.all Qpv):=by
 have e0:=hs.e
 have hc:Qcl N n.Elements=some (n.Elements.any fun x=>!Qpv x):=by
  unfold Qcl Qdi Qb0
  have gen:∀(m j:Nat),(n.Elements.drop j).length<m->(Qbc N n.Elements (fun _=>some (-1)) m j).bind (fun x=>some (decide (x>=0)))=some ((n.Elements.drop j).any fun x=>!Qpv x):=by
   intro m
   induction m with
   |zero=>intro j h;cases h
   |succ m ih=>
    intro j h
    rw[Qbc]
    cases hd:n.Elements.drop j with
    |nil=>
     have:=Qca hd
     simp[show ¬((j:Int)<n.Elements.length) from by omega]
    |cons x l=>
     obtain⟨hg,hd',hlt⟩:=Qbn hd
     have hx:=hs.x x (Xac hg)
     simp only[dlI hlt,Xak,Qb8 hg,Xaa,Qg3,Zkg (show x.Weights.length<=1000 by omega) hN,List.any_cons]
     cases Qpv x with
     |false=>simp
     |true=>
      rw[Xb4,Xai,w64S (i:=j) (by omega),ih (j+1) (dlt hd hd' h),hd',Xgn]
  have:=gen N 0 (by simp;omega)
  rw[Xap] at this
  exact this
 unfold Qga
 rw[hc,Xaa,Qz0]
theorem Zrx:Qky N n=some (netB n):=by
 have e0:=hs.e
 have e1:=hs.t
 unfold Qky netB Qk8
 simp only[Qb0,Q4m (show n.Table.length<=1000 by omega) hN,Xaa,Qoe,Zt2 hs hN]
 cases tabB n.Table with
 |false=>rfl
 |true=>
  simp only[Xb4,Xai,Xaa,Xcc,show((0:Int) != 0)=false from rfl]
  cases btw n.Elements.length 1 16 with
  |false=>rfl
  |true=>
   cases n.Elements.all Qpv with
   |false=>rfl
   |true=>
    have:=Zjg hs hN (fun _=>some true) N 0 [] (by simp;omega)
    rw[Xap] at this
    simp only[Xb4,Xai,Xcc]
    refine this.trans ?_
    cases Q59 n.Table.length n.Elements 0 [] n.Elements<;>rfl
omit hs hN in
end
theorem Zmq (N:Nat) (n:GNet) (k:Unit->Option Bool) (hl:(n.Elements.length:Int)<=9223372036854775807):∀(m i:Nat),(n.Elements.drop i).length<m ->
  Qhy N n k m i=bif (n.Elements.drop i).all (fun x=>decide (x.From.length<=25)&&decide (x.Weights.length<=25)) then k () else some false:=by
 intro m
 induction m with
 |zero=>intro i h;cases h
 |succ m ih=>
  intro i h
  rw[Qhy]
  cases hd:n.Elements.drop i with
  |nil=>
   have:=Qca hd
   simp[show ¬((i:Int)<n.Elements.length) from by omega]
  |cons x l=>
   obtain⟨hg,hd',hlt⟩:=Qbn hd
   simp only[dlI hlt,Xak,Qb8 hg,Xaa,Xdo]
   by_cases h1:(x.From.length:Int)>25
   ·rw[Xae h1,Xah (show ¬x.From.length<=25 by omega)];rfl
   by_cases h2:(x.Weights.length:Int)>25
   ·rw[Xah h1,Xae h2,Xah (show ¬x.Weights.length<=25 by omega)];simp
   rw[Xah h1,Xah h2,Xae (show x.From.length<=25 by omega),Xae (show x.Weights.length<=25 by omega),Xai,Xai,w64S (i:=i) (by omega),ih (i+1) (dlt hd hd' h),hd']
   rfl
theorem Zwi {N:Nat}{n:GNet}{ws:List Qaa}(hl:(n.Elements.length:Int)<=9223372036854775807) (hN:n.Elements.length<N):(Qog N n ws=some false)\/(Qog N n ws=some true/\Qth n/\ws.length<=25):=by
 unfold Qog
 simp only[Qb0]
 have:=Zmq N n (fun _=>bif (decide ((n.Elements.length:Int)<=18)) then bif (decide ((n.Table.length:Int)<=25)) then some (decide ((ws.length:Int)<=25)) else some false else some false) hl N 0 (by simpa using hN)
 rw[Xap,show((0:Nat):Int)=0 from rfl] at this
 rw[this]
 cases ha:n.Elements.all (fun x=>decide (x.From.length<=25)&&decide (x.Weights.length<=25)) with
 |false=>exact .inl rfl
 |true=>
  rw[Xak]
  by_cases h1:(n.Elements.length:Int)<=18
  ·by_cases h2:(n.Table.length:Int)<=25
   ·by_cases h3:(ws.length:Int)<=25
    ·refine .inr ⟨by rw[Xae h1,Xae h2,Xae h3];rfl,⟨by omega,by omega,fun x hx=>?_⟩,by omega⟩
     have:=Xa6.1 ha x hx
     simpa using this
    exact .inl (by rw[Xae h1,Xae h2,Xah h3];rfl)
   exact .inl (by rw[Xae h1,Xah h2];rfl)
  exact .inl (by rw[Xah h1];rfl)
theorem Zhw (N:Nat) (x:Qam) (k:List Qam×List Qhm×List Int->Option GNet) (hl:x.From.length<=1000) (a:List Qam) (w:List Int):∀(m j:Nat) (acc:List Qhm),(x.From.drop j).length<m->acc.length=j ->
  Qhw N x k m j a acc w=k (a,acc++x.From.drop j,w):=by
 intro m
 induction m with
 |zero=>intro j _ h;cases h
 |succ m ih=>
  intro j acc h ha
  rw[Qhw]
  cases hd:x.From.drop j with
  |nil=>
   have:=Qca hd
   simp[show ¬((j:Int)<x.From.length) from by omega]
  |cons p l=>
   obtain⟨hg,hd',hlt⟩:=Qbn hd
   simp only[dlI hlt,Xak,Qb8 hg,Xaa,chk]
   rw[show decide ((acc.length+[p].length)*16<=140737488355328)=true by simp;omega,Xak,w64S (i:=j) (by omega),
    ih (j+1) _ (dlt hd hd' h) (by simp[ha]),hd',Xan]
   rfl
theorem Zmf {N:Nat}{n:GNet}(hs:Qth n) (hN:1001<=N) (k:List Qam->Option GNet):∀(m i:Nat) (acc:List Qam),(n.Elements.drop i).length<m->acc.length=i ->
  Qhx N n k m i acc=k (acc++n.Elements.drop i):=by
 intro m
 induction m with
 |zero=>intro i _ h;cases h
 |succ m ih=>
  intro i acc h ha
  rw[Qhx]
  cases hd:n.Elements.drop i with
  |nil=>
   have:=Qca hd
   simp[show ¬((i:Int)<n.Elements.length) from by omega]
  |cons x l=>
   obtain⟨hg,hd',hlt⟩:=Qbn hd
   have e0:=hs.e
   have hx:=hs.x x (Xac hg)
   simp only[dlI hlt,Xak,Qb8 hg,Xaa,chk,Qb0]
   rw[show decide ((([]:List Int).length+x.Weights.length)*8<=140737488355328)=true by simp;omega,Xak]
   refine(Zhw N x _ (by omega) acc ([]++x.Weights) N 0 [] (by simp;omega) rfl).trans ?_
   dsimp only
   rw[Xap,Xa9,Xa9,show decide ((acc.length+[(⟨x.Kind,x.From,x.Level,x.Amount,x.Wide,x.Narrow,x.Weights⟩:Qam)].length)*88<=140737488355328)=true by simp;omega,Xak,w64S (i:=i) (by omega),
    ih (i+1) _ (dlt hd hd' h) (by simp[ha]),hd',Xan]
   rfl
theorem Zwc {N:Nat}{n:GNet}(hs:Qth n) (hN:1001<=N):Qqi N n=some n:=by
 have e0:=hs.e
 have e1:=hs.t
 unfold Qqi
 rw[Zlq (by omega) hN,Xaa,Qb0]
 refine(Zmf hs hN _ N 0 [] (by simp;omega) rfl).trans ?_
 rw[Xap,Xa9]
end
section
def Qtd {α:Type}(i:Nat):Nat->List α->List ((Int×Int)×α)
 |_,[]=>[]
 |j,a::l=>(((i:Int),(j:Int)),a)::Qtd i (j+1) l
def Qkq {α:Type}:Nat->List (List α)->List ((Int×Int)×α)
 |_,[]=>[]
 |i,r::o=>Qtd i 0 r++Qkq (i+1) o
def Qjx {α:Type}(f:α->Int) (U:List (Int×Int)) (l:List ((Int×Int)×α)):Int:=((l.filter fun x=>!U.contains x.1).map fun x=>f x.2).sum
section
variable {α : Type}
theorem Quh {i:Nat}{a b:Int}{s:α}:∀{l:List α}{j:Nat},((a,b),s)∈Qtd i j l↔a=i/\(j:Int)<=b/\l[(b-j).toNat]? = some s
 |[],j=>by simp[Qtd]
 |x::l,j=>by
  rw[Qtd,Xa7,Quh (l:=l) (j:=j+1)]
  constructor
  ·rintro (h |⟨h1,h2,h3⟩)
   ·simp only[Xef] at h
    obtain⟨⟨rfl,rfl⟩,rfl⟩:=h
    exact⟨rfl,Xbp _,by simp⟩
   refine⟨h1,by omega,?_⟩
   rw[show(b-(j:Int)).toNat=(b-((j+1:Nat):Int)).toNat+1 by omega]
   simpa using h3
  rintro ⟨h1,h2,h3⟩
  by_cases e:b=j
  ·subst e;subst h1
   simp at h3
   exact .inl (by rw[h3])
  refine .inr ⟨h1,by omega,?_⟩
  rw[show(b-(j:Int)).toNat=(b-((j+1:Nat):Int)).toNat+1 by omega] at h3
  simpa using h3
theorem Qrv {a b:Int}{s:α}:∀{o:List (List α)}{i:Nat},((a,b),s)∈Qkq i o↔(i:Int)<=a/\0<=b/\∃r,o[(a-i).toNat]? = some r/\r[b.toNat]? = some s
 |[],i=>by simp[Qkq]
 |r::o,i=>by
  rw[Qkq,Xby,Quh,Qrv (o:=o) (i:=i+1)]
  constructor
  ·rintro (⟨rfl,h2,h3⟩ |⟨h1,h2,q,h3,h4⟩)
   ·exact⟨Xbp _,by omega,r,by simp,by simpa using h3⟩
   refine⟨by omega,h2,q,?_,h4⟩
   rw[show(a-(i:Int)).toNat=(a-((i+1:Nat):Int)).toNat+1 by omega]
   simpa using h3
  rintro ⟨h1,h2,q,h3,h4⟩
  by_cases e:a=i
  ·subst e
   simp at h3
   subst h3
   exact .inl ⟨rfl,by omega,by simpa using h4⟩
  refine .inr ⟨by omega,h2,q,?_,h4⟩
  rw[show(a-(i:Int)).toNat=(a-((i+1:Nat):Int)).toNat+1 by omega] at h3
  simpa using h3
theorem Qza {i:Nat}:∀(l:List α) (j:Nat),((Qtd i j l).map fun x=>x.1).Nodup
 |[],j=>by simp[Qtd]
 |x::l,j=>by
  rw[Qtd,Xax,Xem]
  refine⟨fun h=>?_,Qza l (j+1)⟩
  obtain⟨⟨⟨a,b⟩,s⟩,h1,h2⟩:=Xba.1 h
  have:=(Quh.1 h1).2.1
  simp only[Xef] at h2
  omega
theorem Qzb:∀(o:List (List α)) (i:Nat),((Qkq i o).map fun x=>x.1).Nodup
 |[],i=>by simp[Qkq]
 |r::o,i=>by
  rw[Qkq,Xdy,Xet]
  refine⟨Qza r 0,Qzb o (i+1),fun x hx y hy=>?_⟩
  obtain⟨⟨⟨a,b⟩,s⟩,h1,rfl⟩:=Xba.1 hx
  obtain⟨⟨⟨a',b'⟩,s'⟩,h2,rfl⟩:=Xba.1 hy
  have h3:=(Quh.1 h1).1
  have h4:=(Qrv.1 h2).1
  intro e
  simp only[Xef] at e
  omega
theorem Qwi:∀(o o':List (List α)) (i:Nat),Qkq i (o++o')=Qkq i o++Qkq (i+o.length) o'
 |[],o',i=>by simp[Qkq]
 |r::o,o',i=>by
  rw[Xda,Qkq,Qwi o o' (i+1),Qkq,Xan,Xa5,show i+1+o.length=i+(o.length+1) by omega]
theorem Q5j (f:α->Int) (U:List (Int×Int)) (l l':List ((Int×Int)×α)):Qjx f U (l++l')=Qjx f U l+Qjx f U l':=by
 simp[Qjx,Xe9]
theorem Qys {f:α->Int}{U V:List (Int×Int)}{l:List ((Int×Int)×α)}(h:∀x∈l,x.1∈U↔x.1∈V):Qjx f U l=Qjx f V l:=by
 unfold Qjx
 have:(l.filter fun x=>!U.contains x.1)=l.filter fun x=>!V.contains x.1:=List.filter_congr fun x hx=>by
  have:=h x hx
  by_cases h1:x.1∈U
  ·have h2:=this.1 h1
   simp[h1,h2]
  have h2:¬x.1∈V:=fun h=>h1 (this.2 h)
  simp[h1,h2]
 rw[this]
theorem Q0y (f:α->Int) {U:List (Int×Int)}{p:Int×Int}{s:α}:∀{l:List ((Int×Int)×α)},(l.map fun x=>x.1).Nodup->(p,s)∈l->p∉U->Qjx f (p::U) l=Qjx f U l-f s
 |[],_,h,_=>by simp at h
 |x::l,hn,h,hp=>by
  rw[Xax,Xem] at hn
  have e:∀V,Qjx f V (x::l)=(if x.1∈V then 0 else f x.2)+Qjx f V l:=fun V=>by
   unfold Qjx
   by_cases hv:x.1∈V<;>simp[hv]
  rw[e,e]
  rcases Xa7.1 h with h |h
  ·subst h
   rw[Xaz (by simp),Xat hp]
   have:Qjx f (p::U) l=Qjx f U l:=Qys fun y hy=>by
    rw[Xa7]
    refine⟨fun h=>h.resolve_left fun e=>hn.1 ?_,.inr⟩
    rw[<-e]
    exact Xba.2 ⟨y,hy,rfl⟩
   rw[this]
   dsimp only
   omega
  rw[Q0y f hn.2 h hp]
  have hx:x.1≠p:=fun e=>hn.1 (by rw[e];exact Xba.2 ⟨_,h,rfl⟩)
  have:(x.1∈p::U)↔x.1∈U:=by simp[hx]
  by_cases hv:x.1∈U
  ·rw[Xaz (this.2 hv),Xaz hv];omega
  rw[Xat (fun h=>hv (this.1 h)),Xat hv];omega
theorem Qyr (f:α->Int) {l:List ((Int×Int)×α)}(hl:(l.map fun x=>x.1).Nodup):∀(P:List (Int×Int)) (S:List α) (U:List (Int×Int)),P.length=S.length->(∀(i:Nat) p s,P[i]? = some p->S[i]? = some s->(p,s)∈l)->P.Nodup->(∀p∈P,p∉U) ->
  Qjx f (P++U) l=Qjx f U l-(S.map f).sum
 |[],[],U,_,_,_,_=>by simp
 |p::P,s::S,U,hlen,hm,hn,hu=>by
  rw[Xem] at hn
  have h1:=Qyr f hl P S U (by simpa using hlen) (fun i q t h1 h2=>hm (i+1) q t (by simpa using h1) (by simpa using h2)) hn.2 fun q hq=>hu q (Xal _ hq)
  rw[Xda,Q0y f hl (hm 0 p s rfl rfl),h1]
  ·simp only[Xax,Xb0];omega
  intro h
  rcases Xby.1 h with h |h
  ·exact hn.1 h
  exact hu p Xb9 h
 |[],_::_,_,h,_,_,_=>by simp at h
 |_::_,[],_,h,_,_,_=>by simp at h
theorem Q5i (f:α->Int) {U:List (Int×Int)}{i:Nat}(hU:∀p∈U,p.1≠i):∀(r:List α) (j:Nat),Qjx f U (Qtd i j r)=(r.map f).sum
 |[],j=>rfl
 |x::r,j=>by
  have hx:((i:Int),(j:Int))∉U:=fun h=>hU _ h rfl
  have:Qjx f U (Qtd i j (x::r))=f x+Qjx f U (Qtd i (j+1) r):=by
   unfold Qjx
   rw[Qtd,Xfn,Xaz (by simpa using hx),Xax,Xb0]
  rw[this,Q5i f hU r (j+1),Xax,Xb0]
theorem Qwd {f:α->Int}{U:List (Int×Int)}:∀{l:List ((Int×Int)×α)},(∀x∈l,0<=f x.2)->0<=Qjx f U l
 |[],_=>by simp[Qjx]
 |x::l,h=>by
  have h1:=Qwd (U:=U) fun y hy=>h y (Xal x hy)
  have h2:=h x Xb9
  unfold Qjx at h1 ⊢
  rw[Xfn]
  split
  ·rw[Xax,Xb0];omega
  exact h1
theorem Q57 (i:Nat) (r:List α):Qkq i [r]=Qtd i 0 r:=by simp[Qkq]
end
end
end Go.Proofs.YtcoojdacfknboafGreat
