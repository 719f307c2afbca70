/-
  Functions of the program: what they compute, as plain functions, and that they do. No conditions.
-/
import Derived.Test.YtmbhnllcfmiajaaGreatX7
namespace Go.Proofs.YtmbhnllcfmiajaaGreat
set_option maxRecDepth 100000
set_option maxHeartbeats 4000000
open Go.RowKit
def Qg4 (_N:Nat) (p0:(List Int)):Option (List Int):=
  chk (decide ((([]:List Int).length+p0.length) * 8≤140737488355328))<|
  some (([]:List Int)++p0)
def Zfh:AV:=.acc 0 3 1 ((([]:List Int):List Int).map Qak)
def Zfg (p0:(List Int)):AV:=.acc 1 3 1 ((([]:List Int)++p0:List Int).map Qak)
def Zff (p0:(List Int)):AV:=.acc 0 3 1 (((([]:List Int)++p0):List Int).map Qak)
theorem Qli (N:Nat) (p0:(List Int)) (r:(List Int)) (h:Qg4 N p0=some r):Spec Tryz.prog 18 [(.dat 1 ((p0:List Int).map Qak))] [] (.acc 0 3 1 ((r:List Int).map Qak)) [.tok]:=by
  refine Qah Tryz.func18 rfl 1 (nle rfl) (fun X φ0 w0 hφ0 hd0=>?_)
  unfold Qg4 at h
  refine Qbx<|wxz ?_
  obtain ⟨ha2,h⟩:=cko h
  refine wx tbk [(0,⟨[],[(0,.unused)],Zfh,[(0,.tok)],false⟩),(2,⟨[(.tmp 3,Zfh),(.tmp 4,(.dat 1 ((p0:List Int).map Qak)))],[(0,.tok),(1,.unused)],(Zfg p0),[(0,.dead),(1,.tok)],false⟩)] ⟨Qh6 rfl Tryz.underlying27 ti3 tz3,Qer rfl Tryz.underlying27 te3 (Base.acc _ _) rfl rfl (Ql9 Qak Qpb _) (Qg0 Qak ha2) (Qgz Qak ha2 (by decide)) (Qgy Qak) rfl rfl,tv⟩ ?_
  refine wmr (mto (n:=6) (l':=[(2,(Zff p0))]) (own':=[.tok]) [(2,(Zfg p0))] [1] [.tok] hφ0 (pc (.rn (Qbw rfl (Qbk Qaf _))) pn) (qc .tok qn))<|Qae ?_
  obtain rfl:=osi h
  exact ⟨_,Mor.rfl,Qc8 (vs:=[(Zff p0)]) ⟨rot,tv⟩ rfl (NLt.acc _ _ _ _ (by decide) (Qqn Qaf _)) (by kernel_rfl) (Qao .tok Qbs)⟩
def Qc2 (N:Nat) (k66:Unit→Option Bool) (x69:(List GStream)) (x73:(List GStream)):Nat→Int→Option Bool
  | 0,_=>none
  | n80+1,y78=>
    bif (decide (y78<(x69.length:Int))) then
     (getI x69 y78).bind fun x82=>
     (getI x73 y78).bind fun x86=>
     bif (!(([x82.Mass,x82.Heat,x82.Silica,x82.Gas]:List Int)==[x86.Mass,x86.Heat,x86.Silica,x86.Gas])) then
      some false
     else
      Qc2 N k66 x69 x73 n80 (w64 (y78+1))
    else
     k66 ()
def Qc3 (N:Nat) (x3:Int) (x37:(GTick×Int×Int)) (x43:(GTick×Int×Int)) (k59:Unit→Option Bool):Nat→Int→Option Bool
  | 0,_=>none
  | n64+1,y62=>
    bif (decide (y62<(x37.1.Out.length:Int))) then
     Qbp (fun _=>
       Qc3 N x3 x37 x43 k59 n64 (w64 (y62+1))) fun k66:Unit→Option Bool=>
     Qbp (fun y67=>
       (getI x37.1.Out y62).bind fun x69=>
       (getI x43.1.Out y67).bind fun x73=>
       bif ((x69.length:Int) != (x73.length:Int)) then
        some false
       else
        Qc2 N k66 x69 x73 N 0) fun k68:Int→Option Bool=>
     bif (decide (y62≥x3)) then
      k68 (w64 (y62+1))
     else
      k68 (y62)
    else
     k59 ()
def Qa9 (N:Nat) (x3:Int) (y94:Int) (x104:GElement) (k115:(List GElement)×(List GPort)→Option Bool):Nat→Int→(List GElement)→(List GPort)→Option Bool
  | 0,_,_,_=>none
  | n124+1,y118,y119,y120=>
    bif (decide (y118<((x104.From.length:Nat):Int))) then
     Qbp (fun ⟨y126,y127⟩=>
       bif (y94==x3) then
        bif (y118==0) then
         chk (decide (0≤y118)&&decide (y118.toNat<x104.From.length))<|
         (y127[y118.toNat]?).bind fun _=>
         Qa9 N x3 y94 x104 k115 n124 (w64 (y118+1)) y126 (y127.set y118.toNat (⟨x3,0⟩:GPort))
        else
         Qa9 N x3 y94 x104 k115 n124 (w64 (y118+1)) y126 y127
       else
        Qa9 N x3 y94 x104 k115 n124 (w64 (y118+1)) y126 y127) fun k128:(List GElement)×(List GPort)→Option Bool=>
     chk (decide (0≤y118)&&decide (y118.toNat<x104.From.length))<|
     (y120[y118.toNat]?).bind fun x135=>
     bif (decide (x135.Element≥x3)) then
      chk (decide (0≤y118)&&decide (y118.toNat<x104.From.length))<|
      (y120[y118.toNat]?).bind fun x139=>
      chk (decide (0≤y118)&&decide (y118.toNat<x104.From.length))<|
      (y120[y118.toNat]?).bind fun x142=>
      k128 (y119,y120.set y118.toNat (⟨w64 (x139.Element+1),x142.Outlet⟩:GPort))
     else
      k128 (y119,y120)
    else
     k115 (y119,y120)
def Qbl (N:Nat) (p0:GNet) (x3:Int) (x12:GPort) (x16:GElement) (y20:Int) (k23:(List GElement)→Option Bool):Nat→Int→(List GElement)→Option Bool
  | 0,_,_=>none
  | n98+1,y94,y95=>
    bif (decide (y94<(p0.Elements.length:Int))) then
     Qbp (fun y100=>
       Qbl N p0 x3 x12 x16 y20 k23 n98 (w64 (y94+1)) y100) fun k101:(List GElement)→Option Bool=>
     Qbp (fun y102=>
       (getI p0.Elements y94).bind fun x104=>
       bif x104.From.isEmpty then
        Qbp (fun y110=>
          chk (decide ((y110.length+([(⟨x104.Kind,[],x104.Level,x104.Amount,x104.Wide,x104.Narrow,x104.Weights⟩:GElement)]).length) * 88≤140737488355328))<|
          k101 (y110++([(⟨x104.Kind,[],x104.Level,x104.Amount,x104.Wide,x104.Narrow,x104.Weights⟩:GElement)]))) fun k111:(List GElement)→Option Bool=>
        k111 (y102)
       else
        chk (decide ((0+x104.From.length) * 16≤140737488355328))<|
        Qbp (fun ⟨y113,y114⟩=>
          chk (decide (x104.From.length≤y114.length))<|
          chk (decide ((y113.length+([(⟨x104.Kind,y114.take x104.From.length,x104.Level,x104.Amount,x104.Wide,x104.Narrow,x104.Weights⟩:GElement)]).length) * 88≤140737488355328))<|
          k101 (y113++([(⟨x104.Kind,y114.take x104.From.length,x104.Level,x104.Amount,x104.Wide,x104.Narrow,x104.Weights⟩:GElement)]))) fun k115:(List GElement)×(List GPort)→Option Bool=>
        Qa9 N x3 y94 x104 k115 N 0 y102 x104.From) fun k103:(List GElement)→Option Bool=>
     bif (y94==x3) then
      chk (decide ((y95.length+([(⟨y20,[x12],x16.Level,0,1000000,1000000000,[]⟩:GElement)]).length) * 88≤140737488355328))<|
      k103 (y95++([(⟨y20,[x12],x16.Level,0,1000000,1000000000,[]⟩:GElement)]))
     else
      k103 (y95)
    else
     k23 (y95)
def Qg5 (N:Nat) (p0:GNet) (p1:(List Int)) (p2:(List GStream)) (p3:Int) (p4:Bool):Option Bool:=
  Qbp (fun _=>
    chk ((p0.Elements.length:Int) != 0)<|
    (some ((w64 p3).tmod (p0.Elements.length:Int))).bind fun x3=>
    (getI p0.Elements x3).bind fun x5=>
    bif ((x5.From.length:Int)==0) then
     (Qea 2000 ).bind fun x11=>
     some x11
    else
     (getI x5.From 0).bind fun x12=>
     (getI p0.Elements x12.Element).bind fun x16=>
     Qbp (fun y20=>
       Qbp (fun y22=>
         chk (decide (0≤0)&&decide (0≤x3)&&decide (x3≤(p1.length:Int)))<|
         (Qg4 N ((p1).take (x3.toNat - 0))).bind fun x26=>
         chk (decide ((x26.length+([0]).length) * 8≤140737488355328))<|
         chk (decide (0≤x3)&&decide (x3≤(p1.length:Int))&&decide ((p1.length:Int)≤(p1.length:Int)))<|
         chk (decide (((x26++([0])).length+(p1.drop x3.toNat).length) * 8≤140737488355328))<|
         (Qjn N p0).bind fun x31=>
         (Qg4 N p1).bind fun x33=>
         (Qgo N p2).bind fun x35=>
         (Qh1 N x31 x33 x35).bind fun x37=>
         (Qjn N (⟨p0.Table,y22⟩:GNet)).bind fun x39=>
         (Qgo N p2).bind fun x41=>
         (Qh1 N x39 ((x26++([0]))++(p1.drop x3.toNat)) x41).bind fun x43=>
         bif (x37.2.2 != x43.2.2) then
          some false
         else
          bif (x37.2.2 != 0) then
           bif (decide (x37.2.1<x3)) then
            bif (x43.2.1==x37.2.1) then
             (Qea 2000 ).bind fun x49=>
             some x49
            else
             bif (decide (x37.2.1≥x3)) then
              bif (x43.2.1==(w64 (x37.2.1+1))) then
               (Qea 2000 ).bind fun x53=>
               some x53
              else
               some false
             else
              some false
           else
            bif (decide (x37.2.1≥x3)) then
             bif (x43.2.1==(w64 (x37.2.1+1))) then
              (Qea 2000 ).bind fun x57=>
              some x57
             else
              some false
            else
             some false
          else
           Qbp (fun _=>
             Qbp (fun _=>
               (Qea 2000 ).bind fun x61=>
               some x61) fun k59:Unit→Option Bool=>
             Qc3 N x3 x37 x43 k59 N 0) fun k58:Unit→Option Bool=>
           bif ((x37.1.Out.length:Int) != (p0.Elements.length:Int)) then
            some false
           else
            bif ((x43.1.Out.length:Int) != (y22.length:Int)) then
             some false
            else
             k58 ()) fun k23:(List GElement)→Option Bool=>
       Qbl N p0 x3 x12 x16 y20 k23 N 0 ([])) fun k21:Int→Option Bool=>
     bif p4 then
      k21 (3)
     else
      k21 (6)) fun k1:Unit→Option Bool=>
  (Qjo N p0 p2).bind fun x148=>
  bif (!x148) then
   (Qea 2000 ).bind fun x151=>
   some x151
  else
   bif (decide ((p1.length:Int)>25)) then
    (Qea 2000 ).bind fun x154=>
    some x154
   else
    bif (decide ((p0.Elements.length:Int)>15)) then
     (Qea 2000 ).bind fun x157=>
     some x157
    else
     (Qi3 N p0 p1 p2).bind fun x159=>
     bif (x159 != 0) then
      (Qea 2000 ).bind fun x162=>
      some x162
     else
      k1 ()
def Qd9 (p1:(List Int)):AV:=.dat 1 ((p1:List Int).map Qak)
def Qej (p2:(List GStream)):AV:=.dat 4 ((p2:List GStream).map Qac)
def Qem (p0:GNet):AV:=.dat 5 ((p0.Table:List GRow).map Qa1)
def Qmu (p0:GNet):AV:=.dat 7 ((p0.Elements:List GElement).map Qab)
def Qe5 (p0:GNet):Slot:=.own 2 [[(Qem p0),(Qmu p0)]]
def Qk4 (x12:GPort):AV:=.dat 2 (([x12]:List GPort).map Qar)
def Qel (y20:Int) (x12:GPort) (x16:GElement):Slot:=.own 7 [[(K .u8 (y20)),(Qk4 x12),(I (x16.Level)),(I (0)),(I (1000000)),(I (1000000000)),nilS]]
def Quw (y22:(List GElement)):AV:=.acc 2 59 7 ((y22:List GElement).map Qab)
def Quv (p1:(List Int)) (x3:Int):AV:=.dat 1 (((p1).take (x3.toNat - 0):List Int).map Qak)
def Quu (x26:(List Int)):AV:=.acc 3 3 1 ((x26:List Int).map Qak)
def Q1z:AV:=.dat 1 (([0]:List Int).map Qak)
def Q7j (p0:GNet):AV:=.agg [(Qem p0),(Qmu p0)]
def Qut (x31:GNet):AV:=.agg [(.dat 5 ((x31.Table:List GRow).map Qa1)),(.dat 7 ((x31.Elements:List GElement).map Qab))]
def Qus (x33:(List Int)):AV:=.acc 6 3 1 ((x33:List Int).map Qak)
def Qur (x35:(List GStream)):AV:=.dat 4 ((x35:List GStream).map Qac)
def Qk3 (x37:(GTick×Int×Int)):AV:=.dat 1 ((x37.1.Out:List (List GStream)).map Qam)
def Quq (x39:GNet):AV:=.agg [(.dat 5 ((x39.Table:List GRow).map Qa1)),(.dat 7 ((x39.Elements:List GElement).map Qab))]
def Qup (x41:(List GStream)):AV:=.dat 4 ((x41:List GStream).map Qac)
def Qno (x43:(GTick×Int×Int)):AV:=.dat 1 ((x43.1.Out:List (List GStream)).map Qam)
def Qul (x37:(GTick×Int×Int)) (x3:Int):List (Nat×Rec):=[(3,rp [((.tmp 196),(B ((decide (x37.2.1<x3)))))] (B (true)))]
def Qqc (x37) (x3) (x43:(GTick×Int×Int)):=hcat (Qul x37 x3) [(8,rp [((.tmp 201),(B ((x43.2.1==x37.2.1))))] (B (false)))]
def Qqb (x37:(GTick×Int×Int)) (x3:Int):List (Nat×Rec):=[(3,rp [((.tmp 196),(B ((decide (x37.2.1<x3)))))] (B (false)))]
def Qgf (x37:(GTick×Int×Int)):Slot:=.own 3 [[(Qk3 x37),(.dat 4 ((x37.1.Lost:List GLost).map Qa7)),(.dat 1 ((x37.1.State:List Int).map Qak))]]
def Qge (x43:(GTick×Int×Int)):Slot:=.own 3 [[(Qno x43),(.dat 4 ((x43.1.Lost:List GLost).map Qa7)),(.dat 1 ((x43.1.State:List Int).map Qak))]]
def Quo (x69:(List GStream)):AV:=.dat 4 ((x69:List GStream).map Qac)
def Quk (x37:(GTick×Int×Int)) (p0:GNet):List (Nat×Rec):=[(2,rp [((.tmp 217),(Qk3 x37))] (I ((x37.1.Out.length:Int)))),(5,rp [((.tmp 220),(Qmu p0))] (I ((p0.Elements.length:Int))))]
def Qqg (y95:(List GElement)):AV:=.acc 3 59 7 ((y95:List GElement).map Qab)
def Qun (y102:(List GElement)):AV:=.acc 3 59 7 ((y102:List GElement).map Qab)
def Quy:AV:=.acc 5 61 2 ((([]:List GPort):List GPort).map Qar)
def Q1y (x104:GElement):AV:=.dat 2 ((x104.From:List GPort).map Qar)
def Qux:AV:=.dat 2 (([]:List GPort).map Qar)
def Ql4 (x104:GElement):AV:=.dat 1 ((x104.Weights:List Int).map Qak)
def Q1x (x104:GElement):Slot:=.own 7 [[(K .u8 (x104.Kind)),Qux,(I (x104.Level)),(I (x104.Amount)),(I (x104.Wide)),(I (x104.Narrow)),(Ql4 x104)]]
def Q1w (x104:GElement):AV:=.agg [(K .u8 (x104.Kind)),Qux,(I (x104.Level)),(I (x104.Amount)),(I (x104.Wide)),(I (x104.Narrow)),(Ql4 x104)]
def Q1v (x104:GElement):AV:=.dat 7 (([(⟨x104.Kind,[],x104.Level,x104.Amount,x104.Wide,x104.Narrow,x104.Weights⟩:GElement)]:List GElement).map Qab)
def Q1u (y110:(List GElement)) (x104:GElement):AV:=.acc 5 59 7 ((y110++([(⟨x104.Kind,[],x104.Level,x104.Amount,x104.Wide,x104.Narrow,x104.Weights⟩:GElement)]):List GElement).map Qab)
def Qum (x104:GElement):Slot:=.own 2 ((x104.From:List GPort).map Qar)
def Qqf (y113:(List GElement)):AV:=.acc 4 59 7 ((y113:List GElement).map Qab)
def Qhm (x104:GElement):Slot:=.own 7 [[(K .u8 (x104.Kind)),(.own 5 2 (0) (x104.From.length)),(I (x104.Level)),(I (x104.Amount)),(I (x104.Wide)),(I (x104.Narrow)),(Ql4 x104)]]
def Q1t (x104:GElement) (y114:(List GPort)):AV:=.agg [(K .u8 (x104.Kind)),(.dat 2 ((y114.take x104.From.length:List GPort).map Qar)),(I (x104.Level)),(I (x104.Amount)),(I (x104.Wide)),(I (x104.Narrow)),(Ql4 x104)]
def Q1s (x104:GElement) (y114:(List GPort)):AV:=.dat 7 (([(⟨x104.Kind,y114.take x104.From.length,x104.Level,x104.Amount,x104.Wide,x104.Narrow,x104.Weights⟩:GElement)]:List GElement).map Qab)
def Q1r (y113:(List GElement)) (x104:GElement) (y114:(List GPort)):AV:=.acc 6 59 7 ((y113++([(⟨x104.Kind,y114.take x104.From.length,x104.Level,x104.Amount,x104.Wide,x104.Narrow,x104.Weights⟩:GElement)]):List GElement).map Qab)
def Qqe (y119:(List GElement)):AV:=.acc 4 59 7 ((y119:List GElement).map Qab)
def Qjh (y120:(List GPort)):Slot:=.own 2 ((y120:List GPort).map Qar)
def Qqd (y126:(List GElement)):AV:=.acc 4 59 7 ((y126:List GElement).map Qab)
def Qnn (y127:(List GPort)):Slot:=.own 2 ((y127:List GPort).map Qar)
def Q7k (y20:Int) (x12:GPort) (x16:GElement):AV:=.dat 7 (([(⟨y20,[x12],x16.Level,0,1000000,1000000000,[]⟩:GElement)]:List GElement).map Qab)
def Q7l (y20:Int) (x12:GPort) (x16:GElement):AV:=.agg [(K .u8 (y20)),(Qk4 x12),(I (x16.Level)),(I (0)),(I (1000000)),(I (1000000000)),(.dat 1 (([]:List Int).map Qak))]
def Quj (p0:GNet) (p2:(List GStream)) (x148:Bool):List (Nat×Rec):=[(2,rp [fu 14,((.tmp 28),(Q7j p0)),((.tmp 29),(Qej p2))] (B (x148)))]
def Qui (p0) (p2) (x148) (p1:(List Int)):=hcat (Quj p0 p2 x148) [(4,rp [((.tmp 31),(B ((!x148))))] (B (false))),(6,rp [((.tmp 32),(B (false))),((.tmp 33),(Qd9 p1))] (I ((p1.length:Int))))]
def Quh (p0) (p2) (x148) (p1):=hcat (Qui p0 p2 x148 p1) [(9,rp [((.tmp 36),(B ((decide ((p1.length:Int)>25)))))] (B (false))),(12,rp [((.tmp 37),(B (false))),((.tmp 39),(Qmu p0))] (I ((p0.Elements.length:Int))))]
theorem Qmq (N:Nat) (p0:GNet) (p1:(List Int)) (p2:(List GStream)) (p3:Int) (p4:Bool) (r:Bool) (h:Qg5 N p0 p1 p2 p3 p4=some r):Spec Tryz.prog 4 [(.agg (Qh9 p0)),(.dat 1 (p1.map Qak)),(.dat 4 (p2.map Qac)),(K .u8 p3),(B p4)] [] (B r) []:=by
  refine Qah Tryz.func4 rfl 0 (nle rfl) (fun X φ0 w0 hφ0 hd0=>?_)
  unfold Qg5 at h
  refine wxz ?_
  obtain ⟨k1,hk_k1,h⟩:=jko h
  refine wjn (τ:=Unit) (fun t=>k1 t=some r) (fun _=>⟨mk 286 [(1,(Qd9 p1)),(2,(Qej p2)),(3,(K .u8 (p3))),(4,B p4),(5,.ref 0 2 0 0)],[(Qe5 p0)]⟩) (fun t h=>?_) ?_
  ·subst hk_k1
   obtain ⟨hz2,h⟩:=cko h
   obtain ⟨x3,hl4,h⟩:=bno h
   refine wx tbk [(1,rp [(.tmp 51,(K .u8 (p3)))] (I (w64 p3))),(4,rp [(.tmp 54,(Qmu p0))] (I ((p0.Elements.length:Int)))),(5,rp [(.tmp 52,I (w64 p3)),(.tmp 55,(I ((p0.Elements.length:Int))))] (I ((w64 p3).tmod (p0.Elements.length:Int)))),(6,rp [(.tmp 56,(I ((w64 p3).tmod (p0.Elements.length:Int))))] (I x3))] ⟨acv rfl (by rw [Tryz.underlying5]; rfl) Tryz.underlying3,alm (c:=Qab) (l:=p0.Elements) (aln rfl Tryz.underlying24 rfl),Qx9 rfl (Qpm hz2),Qjd hl4 (aas rfl),tv⟩<|wsq ?_
   obtain ⟨x5,hg6,h⟩:=bno h
   obtain ⟨hi7,hj8⟩:=gsm hg6
   refine wx tbk [(3,rp [(.tmp 58,(Qmu p0)),(.tmp 59,I x3)] (.dptr (Qab (x5)) 0)),(6,rp [(.tmp 62,(.dat 2 ((x5.From:List GPort).map Qar)))] (I ((x5.From.length:Int))))] ⟨aid rfl Tryz.underlying24 ti59 rfl rfl hi7 (mgt Qab hj8) rfl,alm (c:=Qar) (l:=x5.From) (aln rfl Tryz.underlying57 rfl),tv⟩ ?_
   refine bfe h (fun hc9 h=>?_) fun hc9 h=>?_
   ·refine wft hc9 ?_
    obtain ⟨x11,hf10,h⟩:=bno h
    exact wx tbk [(0,rp [fu 15] (B x11))] ⟨apv Qlc (Qd7 2000  _ hf10) nl0 nll,tv⟩<|Qae<|Qag<|frb h
   ·refine wfn hc9<|Qan<|thn ?_
    obtain ⟨x12,hg13,h⟩:=bno h
    obtain ⟨hi14,hj15⟩:=gsm hg13
    refine wx tbk [(3,rp [(.tmp 67,(Qmu p0)),(.tmp 68,I x3)] (.dptr (Qab (x5)) 0)),(6,rp [(.tmp 71,(.dat 2 ((x5.From:List GPort).map Qar))),ci 0] (.dptr (Qar (x12)) 0))] ⟨aid rfl Tryz.underlying24 ti59 rfl rfl hi7 (mgt Qab hj8) rfl,aid rfl Tryz.underlying57 ti61 rfl rfl hi14 (mgt Qar hj15) rfl,tv⟩ ?_
    obtain ⟨x16,hg17,h⟩:=bno h
    obtain ⟨hi18,hj19⟩:=gsm hg17
    refine wxd tbk [(1,rp [(.tmp 74,(.agg [I x12.Element,I x12.Outlet]))] (Qk4 x12)),(6,rp [(.tmp 77,(Qmu p0)),(.tmp 79,I x12.Element)] (.dptr (Qab (x16)) 0)),(9,rp [(.const (.int .u8 6),(K .u8 (6))),(.tmp 75,(Qk4 x12)),(.tmp 82,I x16.Level),ci 1000000,ci 1000000000] (.agg [(K .u8 (6)),(Qk4 x12),I x16.Level,I 0,I 1000000,I 1000000000,nilS]))] ⟨Qbo (vs:=[(.agg [I x12.Element,I x12.Outlet])]) rfl Tryz.underlying57 ti61 tz61 rfl (by decide) rfl (by decide) (by rfl) (by rfl) (by rfl) rfl,aid rfl Tryz.underlying24 ti59 rfl rfl hi18 (mgt Qab hj19) rfl,Qa2 (vs:=[(K .u8 (6)),(Qk4 x12),I x16.Level,I 1000000,I 1000000000]) rfl ts59 tz59 rfl (by rfl) rfl,tv⟩ ?_
    obtain ⟨k21,hk_k21,h⟩:=jko h
    refine wjn (τ:=Int) (fun t=>k21 t=some r) (fun y20=>⟨mk 286 [(1,(Qd9 p1)),(2,(Qej p2)),(5,.ref 0 2 0 0),(11,I x3),(13,.ref 1 7 0 0)],[(Qe5 p0),(Qel y20 x12 x16)]⟩) (fun y20 h=>?_) ?_
    ·subst hk_k21
     refine wx tbk [(2,rp [(.tmp 87,(Qem p0))] (.agg [(Qem p0),nilS]))] ⟨Qa2 (vs:=[(Qem p0)]) rfl ts26 tz26 rfl (by rfl) rfl,tv⟩ ?_
     obtain ⟨k23,hk_k23,h⟩:=jko h
     refine wjn (τ:=(List GElement)) (fun t=>k23 t=some r) (fun y22=>⟨mk 286 [(1,(Qd9 p1)),(2,(Qej p2)),(5,.ref 0 2 0 0),(11,I x3),(14,.ref 1 2 0 0)],[(Qe5 p0),(.own 2 [[(Qem p0),(Quw y22)]]),.tok]⟩) (fun y22 h=>?_) ?_
     ·subst hk_k23
      obtain ⟨hs24,h⟩:=cko h
      obtain ⟨x26,hf25,h⟩:=bno h
      obtain ⟨ha27,h⟩:=cko h
      obtain ⟨hs28,h⟩:=cko h
      obtain ⟨ha29,h⟩:=cko h
      refine wxd tbk [(2,rp [(.tmp 158,(Qd9 p1)),(.tmp 159,I x3)] (Quv p1 x3)),(3,⟨[fu 18,(.tmp 160,(Quv p1 x3))],[(3,.unused)],(Quu x26),[(3,.tok)],false⟩),(4,rp [ci 0] Q1z),(5,⟨[(.tmp 161,(Quu x26)),(.tmp 162,Q1z)],[(3,.tok),(4,.unused)],(.acc 4 3 1 ((x26++([0]):List Int).map Qak)),[(3,.dead),(4,.tok)],false⟩),(8,rp [(.tmp 164,(Qd9 p1)),(.tmp 165,I x3)] (.dat 1 ((p1.drop x3.toNat:List Int).map Qak))),(9,⟨[(.tmp 163,(.acc 4 3 1 ((x26++([0]):List Int).map Qak))),(.tmp 166,(.dat 1 ((p1.drop x3.toNat:List Int).map Qak)))],[(4,.tok),(5,.unused)],(.acc 5 3 1 (((x26++([0]))++(p1.drop x3.toNat):List Int).map Qak)),[(4,.dead),(5,.tok)],false⟩)] ⟨Qke (k:=.i64) (k':=.i64) (lo:=none) (hi:=some (.tmp 159)) (l:=0) (hh:=x3) rfl Tryz.underlying27 ti3 rfl (fun _=>rfl) (fun e=>nomatch e) (Q0q hs24) (Q0p hs24) (Zeo (Qak) hs24) (Zl0 Qak),Qat (first:=[]) (cap:=[]) (vs:=[(Quv p1 x3)]) (σr:=[]) (σr':=[.tok]) (res':=(Quu x26)) [3] rfl Q9v (Qli N ((p1).take (x3.toNat - 0)) _ hf25) rfl (Qbt (rnc (pld Qaf) rn0)) Qas (slc .tok Qas) (Qu9 rfl (Qbk Qaf _)) rfl rfl rfl,Qbo (vs:=[I 0]) rfl Tryz.underlying27 ti3 tz3 rfl (by decide) rfl (by decide) (by rfl) (by rfl) (by rfl) rfl,Qer rfl Tryz.underlying27 te3 (Base.acc _ _) rfl rfl (by rfl) (Qg0 Qak ha27) (Qgz Qak ha27 (by decide)) (Qgy Qak) rfl rfl,Qke (k:=.i64) (k':=.i64) (lo:=some (.tmp 165)) (hi:=none) (l:=x3) (hh:=((p1.length:Nat):Int)) rfl Tryz.underlying27 ti3 rfl (fun e=>nomatch e) (fun _=>by simp) (Q0q hs28) (Q0p hs28) (Zeo (Qak) hs28) (Zl1 Qak),Qer rfl Tryz.underlying27 te3 (Base.acc _ _) rfl rfl (Ql9 Qak Qpb _) (Qg0 Qak ha29) (Qgz Qak ha29 (by decide)) (Qgy Qak) rfl rfl,tv⟩ ?_
      obtain ⟨x31,hf30,h⟩:=bno h
      obtain ⟨x33,hf32,h⟩:=bno h
      obtain ⟨x35,hf34,h⟩:=bno h
      obtain ⟨x37,hf36,h⟩:=bno h
      refine wx tbk [(1,rp [fu 17,(.tmp 169,(Q7j p0))] (Qut x31)),(3,⟨[fu 18,(.tmp 171,(Qd9 p1))],[(6,.unused)],(Qus x33),[(6,.tok)],false⟩),(5,rp [fu 19,(.tmp 173,(Qej p2))] (Qur x35)),(6,rp [fu 16,(.tmp 170,(Qut x31)),(.tmp 172,(Qus x33)),(.tmp 174,(Qur x35))] (.tup [(.agg [(Qk3 x37),(.dat 4 ((x37.1.Lost:List GLost).map Qa7)),(.dat 1 ((x37.1.State:List Int).map Qak))]),I x37.2.1,I x37.2.2]))] ⟨apv Q9w (Qoc N p0 _ hf30) (nlc (NLt.agg _ (nlc (nld Qai _) (nlc (nld Qaa _) nl0))) nl0) (NLt.agg _ (nlc (nld Qai _) (nlc (nld Qaa _) nl0))),Qat (first:=[]) (cap:=[]) (vs:=[(Qd9 p1)]) (σr:=[]) (σr':=[.tok]) (res':=(Qus x33)) [6] rfl Q9v (Qli N p1 _ hf32) rfl (Qbt (rnc (pld Qaf) rn0)) Qas (slc .tok Qas) (Qu9 rfl (Qbk Qaf _)) rfl rfl rfl,apv Q9u (Qky N p2 _ hf34) (nlc (nld Qad _) nl0) (nld Qad _),awk (rd':=(.func 16,(.fn (.func 16) [] []))::[(.tmp 170,(Qut x31)),(.tmp 172,(.dat 1 ((x33:List Int).map Qak))),(.tmp 174,(Qur x35))]) ⟨rfl,lrf,rfl,lrf,rfl,Less.acc,rfl,lrf,tv⟩ (apv Qz7 (Qna N x31 x33 x35 _ hf36) (nlc (NLt.agg _ (nlc (nld Qai _) (nlc (nld Qaa _) nl0))) (nlc (nld Qaf _) (nlc (nld Qad _) nl0))) (NLt.tup _ (nlc (NLt.agg _ (nlc (nld Qal _) (nlc (nld Qaw _) (nlc (nld Qaf _) nl0)))) (nlcc nl0)))),tv⟩ ?_
      obtain ⟨x39,hf38,h⟩:=bno h
      obtain ⟨x41,hf40,h⟩:=bno h
      obtain ⟨x43,hf42,h⟩:=bno h
      refine wx tbk [(1,rp [fu 17,(.tmp 180,(.agg [(Qem p0),(Quw y22)]))] (Quq x39)),(4,rp [fu 19,(.tmp 183,(Qej p2))] (Qup x41)),(5,rp [fu 16,(.tmp 181,(Quq x39)),(.tmp 182,(.acc 5 3 1 (((x26++([0]))++(p1.drop x3.toNat):List Int).map Qak))),(.tmp 184,(Qup x41))] (.tup [(.agg [(Qno x43),(.dat 4 ((x43.1.Lost:List GLost).map Qa7)),(.dat 1 ((x43.1.State:List Int).map Qak))]),I x43.2.1,I x43.2.2]))] ⟨awk (rd':=(.func 17,(.fn (.func 17) [] []))::[(.tmp 180,(.agg [(Qem p0),(.dat 7 ((y22:List GElement).map Qab))]))]) ⟨rfl,lrf,rfl,(Less.agg ⟨lrf,Less.acc,tv⟩),tv⟩ (apv Q9w (Qoc N (⟨p0.Table,y22⟩:GNet) _ hf38) (nlc (NLt.agg _ (nlc (nld Qai _) (nlc (nld Qaa _) nl0))) nl0) (NLt.agg _ (nlc (nld Qai _) (nlc (nld Qaa _) nl0)))),apv Q9u (Qky N p2 _ hf40) (nlc (nld Qad _) nl0) (nld Qad _),awk (rd':=(.func 16,(.fn (.func 16) [] []))::[(.tmp 181,(Quq x39)),(.tmp 182,(.dat 1 (((x26++([0]))++(p1.drop x3.toNat):List Int).map Qak))),(.tmp 184,(Qup x41))]) ⟨rfl,lrf,rfl,lrf,rfl,Less.acc,rfl,lrf,tv⟩ (apv Qz7 (Qna N x39 ((x26++([0]))++(p1.drop x3.toNat)) x41 _ hf42) (nlc (NLt.agg _ (nlc (nld Qai _) (nlc (nld Qaa _) nl0))) (nlc (nld Qaf _) (nlc (nld Qad _) nl0))) (NLt.tup _ (nlc (NLt.agg _ (nlc (nld Qal _) (nlc (nld Qaw _) (nlc (nld Qaf _) nl0)))) (nlcc nl0)))),tv⟩<|wsq<|wxz ?_
      refine bfe h (fun hc44 h=>?_) fun hc44 h=>?_
      ·exact wft hc44<|wxz<|Qae<|Qag<|frb h
      ·refine wfn hc44<|Qan<|thn<|wsq<|wxz ?_
       refine bfe h (fun hc45 h=>?_) fun hc45 h=>?_
       ·refine wft hc45 ?_
        refine bfe h (fun hb46 h=>?_) fun hb46 h=>?_
        ·refine hpre (A:=(Qul x37 x3)) ⟨asb hb46 (amv rfl),tv⟩ fun q1_=>?_
         refine bfe h (fun hb47 h=>?_) fun hb47 h=>?_
         ·obtain ⟨x49,hf48,h⟩:=bno h
          exact wx tbk (hcat (Qul x37 x3) [(8,rp [(.tmp 201,(B ((x43.2.1==x37.2.1))))] (B true)),(20,rp [(.tmp 213,B true),fu 15] (B x49))]) (hap q1_ ⟨asb hb47 (amv rfl),ag_ (apv Qlc (Qd7 2000  _ hf48) nl0 nll),tv⟩)<|Qae<|Qag<|frb h
         ·refine hpre (A:=(Qqc x37 x3 x43)) (hap q1_ ⟨asb hb47 (amv rfl),tv⟩) fun q2_=>?_
          refine bfe h (fun hb50 h=>?_) fun hb50 h=>?_
          ·refine bfe h (fun hb51 h=>?_) fun hb51 h=>?_
           ·obtain ⟨x53,hf52,h⟩:=bno h
            exact wx tbk (hcat (Qqc x37 x3 x43) [(12,rp [(.tmp 202,B false),(.tmp 205,(B ((decide (x37.2.1≥x3)))))] (B true)),(19,rp [(.tmp 212,(B ((x43.2.1==(w64 (x37.2.1+1))))))] (B true)),(20,rp [(.tmp 213,B true),fu 15] (B x53))]) (hap q2_ ⟨asb hb50 (ag_ (amv rfl)),asb hb51 (amv rfl),ag_ (apv Qlc (Qd7 2000  _ hf52) nl0 nll),tv⟩)<|Qae<|Qag<|frb h
           ·exact wx tbk (hcat (Qqc x37 x3 x43) [(12,rp [(.tmp 202,B false),(.tmp 205,(B ((decide (x37.2.1≥x3)))))] (B true)),(19,rp [(.tmp 212,(B ((x43.2.1==(w64 (x37.2.1+1))))))] (B false))]) (hap q2_ ⟨asb hb50 (ag_ (amv rfl)),asb hb51 (amv rfl),tv⟩)<|Qae<|Qag<|frb h
          ·exact wx tbk (hcat (Qqc x37 x3 x43) [(12,rp [(.tmp 202,B false),(.tmp 205,(B ((decide (x37.2.1≥x3)))))] (B false))]) (hap q2_ ⟨asb hb50 (ag_ (amv rfl)),tv⟩)<|Qae<|Qag<|frb h
        ·refine hpre (A:=(Qqb x37 x3)) ⟨asb hb46 (amv rfl),tv⟩ fun q3_=>?_
         refine bfe h (fun hb54 h=>?_) fun hb54 h=>?_
         ·refine bfe h (fun hb55 h=>?_) fun hb55 h=>?_
          ·obtain ⟨x57,hf56,h⟩:=bno h
           exact wx tbk (hcat (Qqb x37 x3) [(12,rp [(.tmp 202,B false),(.tmp 205,(B ((decide (x37.2.1≥x3)))))] (B true)),(19,rp [(.tmp 212,(B ((x43.2.1==(w64 (x37.2.1+1))))))] (B true)),(20,rp [(.tmp 213,B true),fu 15] (B x57))]) (hap q3_ ⟨asb hb54 (ag_ (amv rfl)),asb hb55 (amv rfl),ag_ (apv Qlc (Qd7 2000  _ hf56) nl0 nll),tv⟩)<|Qae<|Qag<|frb h
          ·exact wx tbk (hcat (Qqb x37 x3) [(12,rp [(.tmp 202,B false),(.tmp 205,(B ((decide (x37.2.1≥x3)))))] (B true)),(19,rp [(.tmp 212,(B ((x43.2.1==(w64 (x37.2.1+1))))))] (B false))]) (hap q3_ ⟨asb hb54 (ag_ (amv rfl)),asb hb55 (amv rfl),tv⟩)<|Qae<|Qag<|frb h
         ·exact wx tbk (hcat (Qqb x37 x3) [(12,rp [(.tmp 202,B false),(.tmp 205,(B ((decide (x37.2.1≥x3)))))] (B false))]) (hap q3_ ⟨asb hb54 (ag_ (amv rfl)),tv⟩)<|Qae<|Qag<|frb h
       ·refine wfn hc45<|Qan<|thn ?_
        obtain ⟨k58,hk_k58,h⟩:=jko h
        refine wjn (τ:=Unit) (fun t=>k58 t=some r) (fun _=>⟨mk 286 [(11,I x3),(19,.ref 0 3 0 0),(22,.ref 1 3 0 0)],[(Qgf x37),(Qge x43)]⟩) (fun t h=>?_) ?_
        ·subst hk_k58
         obtain ⟨k59,hk_k59,h⟩:=jko h
         refine wjn (τ:=Unit) (fun t=>k59 t=some r) (fun _=>⟨mk 286 [],[]⟩) (fun t h=>?_) ?_
         ·subst hk_k59
          obtain ⟨x61,hf60,h⟩:=bno h
          exact wx tbk [(0,rp [fu 15] (B x61))] ⟨apv Qlc (Qd7 2000  _ hf60) nl0 nll,tv⟩<|Qae<|frb h
         ·skip
          refine wxz<|Qaj ?_
          refine wmr (mto (n:=286) (l':=[(11,I x3),(19,.ref 0 3 0 0),(22,.ref 1 3 0 0),(25,I 0)]) (own':=[(Qgf x37),(Qge x43)]) [(11,I x3),(19,.ref 0 3 0 0),(22,.ref 1 3 0 0),(25,I 0)] [0,1] [(Qgf x37),(Qge x43)] hφ0 (pw (prr (prr (pw pn)))) (qb (lc (rnd Qal) (lc (rnd Qaw) (lc (rnd Qaf) ln))) (qb (lc (rnd Qal) (lc (rnd Qaw) (lc (rnd Qaf) ln))) qn))) ?_
          refine Qcb (τ:=Int) (fun n t=>Qc3 N x3 x37 x43 k59 n t=some r) (fun y62=>⟨mk 286 [(11,I x3),(19,.ref 0 3 0 0),(22,.ref 1 3 0 0),(25,I y62)],[(Qgf x37),(Qge x43)]⟩) (fun t h=>by rw [Qc3] at h; cases h) (fun n64 ih y62 h=>?_) N (0) h
          rw [Qc3] at h
          skip
          refine wsq<|wx tbk [(3,rp [(.tmp 234,(Qk3 x37))] (I ((x37.1.Out.length:Int))))] ⟨alm (c:=Qam) (l:=x37.1.Out) (aln rfl Tryz.underlying31 rfl),tv⟩ ?_
          refine bfe h (fun hc65 h=>?_) fun hc65 h=>?_
          ·refine wft hc65<|Qan<|thn ?_
           obtain ⟨k66,hk_k66,h⟩:=jko h
           refine wjn (τ:=Unit) (fun t=>k66 t=some r) (fun _=>⟨mk 286 [(11,I x3),(19,.ref 0 3 0 0),(22,.ref 1 3 0 0),(25,I y62)],[(Qgf x37),(Qge x43)]⟩) (fun t h=>?_) ?_
           ·subst hk_k66
            exact wxz1<|thn<|arm (mto (n:=286) [(11,I x3),(19,.ref 0 3 0 0),(22,.ref 1 3 0 0),(25,(I (w64 (y62+1))))] [0,1] [(Qgf x37),(Qge x43)] hφ0 (pw (prr (prr (pw pn)))) (qb (lc (rnd Qal) (lc (rnd Qaw) (lc (rnd Qaf) ln))) (qb (lc (rnd Qal) (lc (rnd Qaw) (lc (rnd Qaf) ln))) qn))) (ih (w64 (y62+1)) h)
           ·skip
            refine Qaj<|wxz ?_
            obtain ⟨k68,hk_k68,h⟩:=jko h
            refine wjn (τ:=Int) (fun t=>k68 t=some r) (fun y67=>⟨mk 286 [(11,I x3),(19,.ref 0 3 0 0),(22,.ref 1 3 0 0),(25,I y62),(26,I y67)],[(Qgf x37),(Qge x43)]⟩) (fun y67 h=>?_) ?_
            ·subst hk_k68
             refine wsq ?_
             obtain ⟨x69,hg70,h⟩:=bno h
             obtain ⟨hi71,hj72⟩:=gsm hg70
             obtain ⟨x73,hg74,h⟩:=bno h
             obtain ⟨hi75,hj76⟩:=gsm hg74
             refine wxd tbk [(3,rp [(.tmp 246,(Qk3 x37)),(.tmp 247,I y62)] (.dptr (Qam (x69)) 0)),(5,rp [(.tmp 249,(Quo x69))] (I ((x69.length:Int)))),(9,rp [(.tmp 252,(Qno x43)),(.tmp 253,I y67)] (.dptr (Qam (x73)) 0)),(11,rp [(.tmp 255,(.dat 4 ((x73:List GStream).map Qac)))] (I ((x73.length:Int))))] ⟨aid rfl Tryz.underlying31 ti45 rfl rfl hi71 (mgt Qam hj72) rfl,alm (c:=Qac) (l:=x69) (aln rfl Tryz.underlying45 rfl),aid rfl Tryz.underlying31 ti45 rfl rfl hi75 (mgt Qam hj76) rfl,alm (c:=Qac) (l:=x73) (aln rfl Tryz.underlying45 rfl),tv⟩ ?_
             refine bfe h (fun hc77 h=>?_) fun hc77 h=>?_
             ·exact wft hc77<|wxz<|Qae<|Qag<|Qap<|Qag<|Qag<|Qap<|Qag<|frb h
             ·refine wfn hc77<|Qan<|thn<|wxz<|Qaj ?_
              refine wmr (mto (n:=286) (l':=[(11,I x3),(19,.ref 0 3 0 0),(22,.ref 1 3 0 0),(25,I y62),(26,I y67),(27,I 0)]) (own':=[(Qgf x37),(Qge x43)]) [(11,I x3),(19,.ref 0 3 0 0),(22,.ref 1 3 0 0),(25,I y62),(26,I y67),(27,I 0)] [0,1] [(Qgf x37),(Qge x43)] hφ0 (pw (prr (prr (pw (pw (pw pn)))))) (qb (lc (rnd Qal) (lc (rnd Qaw) (lc (rnd Qaf) ln))) (qb (lc (rnd Qal) (lc (rnd Qaw) (lc (rnd Qaf) ln))) qn))) ?_
              refine Qcb (τ:=Int) (fun n t=>Qc2 N k66 x69 x73 n t=some r) (fun y78=>⟨mk 286 [(11,I x3),(19,.ref 0 3 0 0),(22,.ref 1 3 0 0),(25,I y62),(26,I y67),(27,I y78)],[(Qgf x37),(Qge x43)]⟩) (fun t h=>by rw [Qc2] at h; cases h) (fun n80 ih y78 h=>?_) N (0) h
              rw [Qc2] at h
              skip
              refine wsq<|wx tbk [(4,rp [(.tmp 260,(Qk3 x37)),(.tmp 261,I y62)] (.dptr (Qam (x69)) 0)),(6,rp [(.tmp 263,(Quo x69))] (I ((x69.length:Int))))] ⟨aid rfl Tryz.underlying31 ti45 rfl rfl hi71 (mgt Qam hj72) rfl,alm (c:=Qac) (l:=x69) (aln rfl Tryz.underlying45 rfl),tv⟩ ?_
              refine bfe h (fun hc81 h=>?_) fun hc81 h=>?_
              ·refine wft hc81<|Qan<|thn<|wsq<|Qaj ?_
               obtain ⟨x82,hg83,h⟩:=bno h
               obtain ⟨hi84,hj85⟩:=gsm hg83
               obtain ⟨x86,hg87,h⟩:=bno h
               obtain ⟨hi88,hj89⟩:=gsm hg87
               refine wxd tbk [(3,rp [(.tmp 269,(Qk3 x37)),(.tmp 270,I y62)] (.dptr (Qam (x69)) 0)),(6,rp [(.tmp 272,(Quo x69)),(.tmp 273,I y78)] (.dptr (Qac (x82)) 0)),(11,rp [(.tmp 277,(Qno x43)),(.tmp 278,I y67)] (.dptr (Qam (x73)) 0)),(14,rp [(.tmp 280,(.dat 4 ((x73:List GStream).map Qac))),(.tmp 281,I y78)] (.dptr (Qac (x86)) 0)),(16,rp [(.tmp 275,(.agg [I x82.Mass,I x82.Heat,I x82.Silica,I x82.Gas])),(.tmp 283,(.agg [I x86.Mass,I x86.Heat,I x86.Silica,I x86.Gas]))] (B ((!(([x82.Mass,x82.Heat,x82.Silica,x82.Gas]:List Int)==[x86.Mass,x86.Heat,x86.Silica,x86.Gas])))))] ⟨aid rfl Tryz.underlying31 ti45 rfl rfl hi71 (mgt Qam hj72) rfl,aid rfl Tryz.underlying45 ti63 rfl rfl hi84 (mgt Qac hj85) rfl,aid rfl Tryz.underlying31 ti45 rfl rfl hi75 (mgt Qam hj76) rfl,aid rfl Tryz.underlying45 ti63 rfl rfl hi88 (mgt Qac hj89) rfl,Zag (ls:=[x82.Mass,x82.Heat,x82.Silica,x82.Gas]) (ks:=[x86.Mass,x86.Heat,x86.Silica,x86.Gas]) rfl rfl Zjj (by kernel_rfl) rfl rfl,tv⟩ ?_
               refine bfe h (fun hc90 h=>?_) fun hc90 h=>?_
               ·refine wft hc90<|wxz<|Qae<|Qap<|Qag<|Qag<|Qap<|Qap<|Qag<|Qag ?_
                exact Qap<|Qag<|frb h
               ·exact wfn hc90<|Qan<|bln<|thn<|wxz1<|thn<|arm (mto (n:=286) [(11,I x3),(19,.ref 0 3 0 0),(22,.ref 1 3 0 0),(25,I y62),(26,I y67),(27,(I (w64 (y78+1))))] [0,1] [(Qgf x37),(Qge x43)] hφ0 (pw (prr (prr (pw (pw (pw pn)))))) (qb (lc (rnd Qal) (lc (rnd Qaw) (lc (rnd Qaf) ln))) (qb (lc (rnd Qal) (lc (rnd Qaw) (lc (rnd Qaf) ln))) qn))) (ih (w64 (y78+1)) h)
              ·exact wfn hc81<|Qbi<|Qax<|Qax<|Qbh rfl<|bln<|thn<|⟨(),h,(mto (n:=286) [(11,I x3),(19,.ref 0 3 0 0),(22,.ref 1 3 0 0),(25,I y62)] [0,1] [(Qgf x37),(Qge x43)] hφ0 (pw (prr (prr (pw pn)))) (qb (lc (rnd Qal) (lc (rnd Qaw) (lc (rnd Qaf) ln))) (qb (lc (rnd Qal) (lc (rnd Qaw) (lc (rnd Qaf) ln))) qn)))⟩
            ·skip
             refine wxz ?_
             refine bfe h (fun hc91 h=>?_) fun hc91 h=>?_
             ·exact wft hc91<|wxz1<|thn<|⟨(w64 (y62+1)),h,(mto (n:=286) [(11,I x3),(19,.ref 0 3 0 0),(22,.ref 1 3 0 0),(25,I y62),(26,(I (w64 (y62+1))))] [0,1] [(Qgf x37),(Qge x43)] hφ0 (pw (prr (prr (pw (pw pn))))) (qb (lc (rnd Qal) (lc (rnd Qaw) (lc (rnd Qaf) ln))) (qb (lc (rnd Qal) (lc (rnd Qaw) (lc (rnd Qaf) ln))) qn)))⟩
             ·exact wfn hc91<|Qan<|thn<|⟨(y62),h,(mto (n:=286) [(11,I x3),(19,.ref 0 3 0 0),(22,.ref 1 3 0 0),(25,I y62),(26,I y62)] [0,1] [(Qgf x37),(Qge x43)] hφ0 (pw (prr (prr (pw (pw pn))))) (qb (lc (rnd Qal) (lc (rnd Qaw) (lc (rnd Qaf) ln))) (qb (lc (rnd Qal) (lc (rnd Qaw) (lc (rnd Qaf) ln))) qn)))⟩
          ·exact wfn hc65<|Qbi<|Qax<|Qax<|Qbh rfl<|thn<|⟨(),h,(mto (n:=286) [] [] [] hφ0 pn qn)⟩
        ·skip
         refine hpre (A:=(Quk x37 p0)) ⟨alm (c:=Qam) (l:=x37.1.Out) (aln rfl Tryz.underlying31 rfl),alm (c:=Qab) (l:=p0.Elements) (aln rfl Tryz.underlying24 rfl),tv⟩ fun q4_=>?_
         refine bfe h (fun hb92 h=>?_) fun hb92 h=>?_
         ·exact wx tbk (hcat (Quk x37 p0) [(7,rp [(.tmp 222,(B (((x37.1.Out.length:Int) != (p0.Elements.length:Int)))))] (B true))]) (hap q4_ ⟨asb hb92 (amv rfl),tv⟩)<|wtr<|wxz<|Qae<|Qag<|frb h
         ·refine wx tbk (hcat (Quk x37 p0) [(7,rp [(.tmp 222,(B (((x37.1.Out.length:Int) != (p0.Elements.length:Int)))))] (B false)),(10,rp [(.tmp 223,B false),(.tmp 225,(Qno x43))] (I ((x43.1.Out.length:Int)))),(13,rp [(.tmp 223,B false),(.tmp 228,(Quw y22))] (I ((y22.length:Int))))]) (hap q4_ ⟨asb hb92 (amv rfl),ag_ (alm (c:=Qam) (l:=x43.1.Out) (aln rfl Tryz.underlying31 rfl)),ag_ (alm (c:=Qab) (l:=y22) (aln rfl Tryz.underlying24 rfl)),tv⟩) ?_
          refine bfe h (fun hc93 h=>?_) fun hc93 h=>?_
          ·exact wft hc93<|wxz<|Qae<|Qag<|frb h
          ·exact wfn hc93<|Qan<|thn<|⟨(),h,(mto (n:=286) [(11,I x3),(19,.ref 7 3 0 0),(22,.ref 8 3 0 0)] [7,8] [(Qgf x37),(Qge x43)] hφ0 (pw (prr (prr pn))) (qb (lc (rnd Qal) (lc (rnd Qaw) (lc (rnd Qaf) ln))) (qb (lc (rnd Qal) (lc (rnd Qaw) (lc (rnd Qaf) ln))) qn)))⟩
     ·skip
      refine wxz<|Qaj ?_
      refine wmr (Mor.trans (Qn7 (n:=3) (ty:=59) (m:=7) (q:=2) (mq:=2) (c:=[(Qem p0),nilS]) 1 (by kernel_rfl) (by kernel_rfl) (by kernel_rfl) (by decide)) (mto (n:=286) (l':=[(1,(Qd9 p1)),(2,(Qej p2)),(5,.ref 0 2 0 0),(11,I x3),(13,.ref 1 7 0 0),(14,.ref 2 2 0 0),(15,I 0)]) (own':=[(Qe5 p0),(Qel y20 x12 x16),(.own 2 [[(Qem p0),(.acc 3 59 7 ((([]):List GElement).map Qab))]]),.tok]) [(1,(Qd9 p1)),(2,(Qej p2)),(5,.ref 0 2 0 0),(11,I x3),(13,.ref 1 7 0 0),(14,.ref 2 2 0 0),(15,I 0)] [0,1,2,3] [(Qe5 p0),(Qel y20 x12 x16),(.own 2 [[(Qem p0),(.acc 3 59 7 (([]:List GElement).map Qab))]]),.tok] hφ0 (pc (rnd Qaf) (pc (rnd Qad) (prr (pw (prr (prr (pw pn))))))) (qb (lc (rnd Qai) (lc (rnd Qaa) ln)) (qb (lc rwl (lc (rnd Qav) (lcc (lcc (lc rwl ln))))) (qb (lc (rnd Qai) (lc (.rn (Qbw rfl (Qbk Qaa _))) ln)) (qc .tok qn)))))) ?_
      refine Qcb (τ:=Int×(List GElement)) (fun n t=>Qbl N p0 x3 x12 x16 y20 k23 n t.1 t.2=some r) (fun ⟨y94,y95⟩=>⟨mk 286 [(1,(Qd9 p1)),(2,(Qej p2)),(5,.ref 0 2 0 0),(11,I x3),(13,.ref 1 7 0 0),(14,.ref 2 2 0 0),(15,I y94)],[(Qe5 p0),(Qel y20 x12 x16),(.own 2 [[(Qem p0),(Qqg y95)]]),.tok]⟩) (fun t h=>by rw [Qbl] at h; cases h) (fun n98 ih t h=>?_) N (0,[]) h
      obtain ⟨y94,y95⟩:=t
      rw [Qbl] at h
      skip
      refine wsq<|wx tbk [(3,rp [(.tmp 91,(Qmu p0))] (I ((p0.Elements.length:Int))))] ⟨alm (c:=Qab) (l:=p0.Elements) (aln rfl Tryz.underlying24 rfl),tv⟩ ?_
      refine bfe h (fun hc99 h=>?_) fun hc99 h=>?_
      ·refine wft hc99<|Qan<|thn ?_
       obtain ⟨k101,hk_k101,h⟩:=jko h
       refine wjn (τ:=(List GElement)) (fun t=>k101 t=some r) (fun y100=>⟨mk 286 [(1,(Qd9 p1)),(2,(Qej p2)),(5,.ref 0 2 0 0),(11,I x3),(13,.ref 1 7 0 0),(14,.ref 2 2 0 0),(15,I y94)],[(Qe5 p0),(Qel y20 x12 x16),(.own 2 [[(Qem p0),(.acc 3 59 7 ((y100:List GElement).map Qab))]]),.tok]⟩) (fun y100 h=>?_) ?_
       ·subst hk_k101
        exact wxz1<|thn<|arm (mto (n:=286) [(1,(Qd9 p1)),(2,(Qej p2)),(5,.ref 0 2 0 0),(11,I x3),(13,.ref 1 7 0 0),(14,.ref 2 2 0 0),(15,(I (w64 (y94+1))))] [0,1,2,3] [(Qe5 p0),(Qel y20 x12 x16),(.own 2 [[(Qem p0),(.acc 3 59 7 ((y100:List GElement).map Qab))]]),.tok] hφ0 (pc (rnd Qaf) (pc (rnd Qad) (prr (pw (prr (prr (pw pn))))))) (qb (lc (rnd Qai) (lc (rnd Qaa) ln)) (qb (lc rwl (lc (rnd Qav) (lcc (lcc (lc rwl ln))))) (qb (lc (rnd Qai) (lc (.rn (Qbw rfl (Qbk Qaa _))) ln)) (qc .tok qn))))) (ih (w64 (y94+1),y100) h)
       ·skip
        refine Qaj ?_
        obtain ⟨k103,hk_k103,h⟩:=jko h
        refine wjn (τ:=(List GElement)) (fun t=>k103 t=some r) (fun y102=>⟨mk 286 [(1,(Qd9 p1)),(2,(Qej p2)),(5,.ref 0 2 0 0),(11,I x3),(13,.ref 1 7 0 0),(14,.ref 2 2 0 0),(15,I y94)],[(Qe5 p0),(Qel y20 x12 x16),(.own 2 [[(Qem p0),(Qun y102)]]),.tok]⟩) (fun y102 h=>?_) ?_
        ·subst hk_k103
         obtain ⟨x104,hg105,h⟩:=bno h
         obtain ⟨hi106,hj107⟩:=gsm hg105
         refine wx tbk [(3,rp [(.tmp 106,(Qmu p0)),(.tmp 107,I y94)] (.dptr (Qab (x104)) 0))] ⟨aid rfl Tryz.underlying24 ti59 rfl rfl hi106 (mgt Qab hj107) rfl,tv⟩ ?_
         refine bfe h (fun ha109 h=>?_) fun ha109 h=>?_
         ·refine wx tbk [(0,⟨[],[(5,.unused)],Quy,[(5,.tok)],false⟩),(3,⟨[(.tmp 110,Quy),(.tmp 112,(Q1y x104))],[(5,.tok),(6,.unused)],Qux,[(5,.dead),(6,.tok)],false⟩)] ⟨Qh6 rfl Tryz.underlying57 ti61 tz61,Q5c (c:=Qar) (Qer rfl Tryz.underlying57 te61 (Base.acc _ _) rfl rfl (Ql9 Qar Qxh _) (Qg0 Qar (Zl2 (c:=16) ha109)) (Qgz Qar (Zl2 (c:=16) ha109) (by decide)) (Qgy Qar) rfl rfl) (Zi1 ha109),tv⟩ ?_
          obtain ⟨k111,hk_k111,h⟩:=jko h
          refine wjn (τ:=(List GElement)) (fun t=>k111 t=some r) (fun y110=>⟨mk 286 [(1,(Qd9 p1)),(2,(Qej p2)),(5,.ref 0 2 0 0),(11,I x3),(13,.ref 1 7 0 0),(14,.ref 2 2 0 0),(15,I y94),(16,.ref 3 7 0 0)],[(Qe5 p0),(Qel y20 x12 x16),(.own 2 [[(Qem p0),(.acc 4 59 7 ((y110:List GElement).map Qab))]]),(Q1x x104),.tok]⟩) (fun y110 h=>?_) ?_
          ·subst hk_k111
           obtain ⟨ha112,h⟩:=cko h
           refine wx1 tbk [(3,rp [(.tmp 154,(Q1w x104))] (Q1v x104)),(4,⟨[(.tmp 153,(.acc 4 59 7 ((y110:List GElement).map Qab))),(.tmp 155,(Q1v x104))],[(4,.tok),(5,.unused)],(Q1u y110 x104),[(4,.dead),(5,.tok)],false⟩)] ⟨Qbo (vs:=[(Q1w x104)]) rfl Tryz.underlying24 ti59 tz59 rfl (by decide) rfl (by decide) (by rfl) (by rfl) (by rfl) rfl,Qer rfl Tryz.underlying24 te59 (Base.acc _ _) rfl rfl (by rfl) (Qg0 Qab ha112) (Qgz Qab ha112 (by decide)) (Qgy Qab) rfl rfl,tv⟩<|bln<|thn ?_
           exact ⟨(y110++([(⟨x104.Kind,[],x104.Level,x104.Amount,x104.Wide,x104.Narrow,x104.Weights⟩:GElement)])),h,(mto (n:=286) [(1,(Qd9 p1)),(2,(Qej p2)),(5,.ref 0 2 0 0),(11,I x3),(13,.ref 1 7 0 0),(14,.ref 2 2 0 0),(15,I y94)] [0,1,2,5] [(Qe5 p0),(Qel y20 x12 x16),(.own 2 [[(Qem p0),(Q1u y110 x104)]]),.tok] hφ0 (pc (rnd Qaf) (pc (rnd Qad) (prr (pw (prr (prr (pw pn))))))) (qb (lc (rnd Qai) (lc (rnd Qaa) ln)) (qb (lc rwl (lc (rnd Qav) (lcc (lcc (lc rwl ln))))) (qb (lc (rnd Qai) (lc (.rn (Qbw rfl (Qbk Qaa _))) ln)) (qc .tok qn)))))⟩
          ·skip
           refine wxz<|Qaj<|Qv0 17<|Qso<|wsq ?_
           exact wx tbk [(3,rp [(.tmp 117,Qux)] (I 0))] ⟨aln rfl Tryz.underlying57 rfl,tv⟩<|wfa<|Qbi<|Qax<|Qax<|Qbh rfl<|thn<|⟨(y102),h,(mto (n:=286) [(1,(Qd9 p1)),(2,(Qej p2)),(5,.ref 0 2 0 0),(11,I x3),(13,.ref 1 7 0 0),(14,.ref 2 2 0 0),(15,I y94),(16,.ref 4 7 0 0)] [0,1,2,4,3] [(Qe5 p0),(Qel y20 x12 x16),(.own 2 [[(Qem p0),(Qun y102)]]),(Q1x x104),.tok] hφ0 (pc (rnd Qaf) (pc (rnd Qad) (prr (pw (prr (prr (pw (prr pn)))))))) (qb (lc (rnd Qai) (lc (rnd Qaa) ln)) (qb (lc rwl (lc (rnd Qav) (lcc (lcc (lc rwl ln))))) (qb (lc (rnd Qai) (lc (.rn (Qbw rfl (Qbk Qaa _))) ln)) (qb (lc rwl (lc (rnd Qav) (lcc (lcc (lc (rnd Qaf) ln))))) (qc .tok qn))))))⟩
         ·obtain ⟨ha108,h⟩:=cko h
          refine wx tbk [(0,⟨[],[(5,.unused)],Quy,[(5,.tok)],false⟩),(3,⟨[(.tmp 110,Quy),(.tmp 112,(Q1y x104))],[(5,.tok),(6,.unused)],(.own 6 2 (0) (x104.From.length)),[(5,.dead),(6,(Qum x104))],false⟩)] ⟨Qh6 rfl Tryz.underlying57 ti61 tz61,Qt7 rfl Tryz.underlying57 te61 (Base.acc _ _) rfl rfl (Qj2 (emf ha109)) (Ql9 Qar Qxh _) (Q3b Qar ha108) (Q3a Qar ha108 (by decide)) (List.length_map _),tv⟩ ?_
          obtain ⟨k115,hk_k115,h⟩:=jko h
          refine wjn (τ:=(List GElement)×(List GPort)) (fun t=>k115 t=some r) (fun ⟨y113,y114⟩=>⟨mk 286 [(1,(Qd9 p1)),(2,(Qej p2)),(5,.ref 0 2 0 0),(11,I x3),(13,.ref 1 7 0 0),(14,.ref 2 2 0 0),(15,I y94),(16,.ref 3 7 0 0)],[(Qe5 p0),(Qel y20 x12 x16),(.own 2 [[(Qem p0),(Qqf y113)]]),(Qhm x104),.tok,(.own 2 ((y114:List GPort).map Qar))]⟩) (fun t h=>?_) ?_
          ·subst hk_k115
           obtain ⟨y113,y114⟩:=t
           obtain ⟨hz116,h⟩:=cko h
           refine wmr (Zi9 [(Qe5 p0),(Qel y20 x12 x16),(.own 2 [[(Qem p0),(Qqf y113)]]),(Qhm x104),.tok,(.own 2 ((y114:List GPort).map Qar))] (Zja (n:=286) (m:=2) (xs:=(y114:List GPort).map Qar) (l':=[(1,(Qd9 p1)),(2,(Qej p2)),(5,.ref 0 2 0 0),(11,I x3),(13,.ref 1 7 0 0),(14,.ref 2 2 0 0),(15,I y94),(16,.ref 3 7 0 0)]) (own':=[(Qe5 p0),(Qel y20 x12 x16),(.own 2 [[(Qem p0),(Qqf y113)]]),(.own 7 [[(K .u8 (x104.Kind)),(.dat 2 ((y114.take x104.From.length:List GPort).map Qar)),I x104.Level,I x104.Amount,I x104.Wide,I x104.Narrow,(Ql4 x104)]]),.tok,.dead]) 5 [(1,(Qd9 p1)),(2,(Qej p2)),(5,.ref 0 2 0 0),(11,I x3),(13,.ref 1 7 0 0),(14,.ref 2 2 0 0),(15,I y94),(16,.ref 3 7 0 0)] (by kernel_rfl) (by kernel_rfl) (by kernel_rfl) ⟨rfl,(.same _),rfl,(.same _),rfl,(.same _),rfl,(.same _),rfl,(.same _),rfl,(.same _),rfl,(.same _),rfl,(.same _),tv⟩ (qc Qnx (qc Qnx (qc Qnx (qc (Zb3 (lc (.same _) (lc (Qpf hz116) (lc (.same _) (lc (.same _) (lc (.same _) (lc (.same _) (lc (.same _) ln)))))))) (qc Qnx (qc .dead qn)))))))) ?_
           obtain ⟨ha117,h⟩:=cko h
           refine wx1 tbk [(3,rp [(.tmp 154,(Q1t x104 y114))] (Q1s x104 y114)),(4,⟨[(.tmp 153,(Qqf y113)),(.tmp 155,(Q1s x104 y114))],[(4,.tok),(6,.unused)],(Q1r y113 x104 y114),[(4,.dead),(6,.tok)],false⟩)] ⟨Qbo (vs:=[(Q1t x104 y114)]) rfl Tryz.underlying24 ti59 tz59 rfl (by decide) rfl (by decide) (by rfl) (by rfl) (by rfl) rfl,Qer rfl Tryz.underlying24 te59 (Base.acc _ _) rfl rfl (by rfl) (Qg0 Qab ha117) (Qgz Qab ha117 (by decide)) (Qgy Qab) rfl rfl,tv⟩<|bln<|thn ?_
           exact ⟨(y113++([(⟨x104.Kind,y114.take x104.From.length,x104.Level,x104.Amount,x104.Wide,x104.Narrow,x104.Weights⟩:GElement)])),h,(mto (n:=286) [(1,(Qd9 p1)),(2,(Qej p2)),(5,.ref 0 2 0 0),(11,I x3),(13,.ref 1 7 0 0),(14,.ref 2 2 0 0),(15,I y94)] [0,1,2,6] [(Qe5 p0),(Qel y20 x12 x16),(.own 2 [[(Qem p0),(Q1r y113 x104 y114)]]),.tok] hφ0 (pc (rnd Qaf) (pc (rnd Qad) (prr (pw (prr (prr (pw pn))))))) (qb (lc (rnd Qai) (lc (rnd Qaa) ln)) (qb (lc rwl (lc (rnd Qav) (lcc (lcc (lc rwl ln))))) (qb (lc (rnd Qai) (lc (.rn (Qbw rfl (Qbk Qaa _))) ln)) (qc .tok qn)))))⟩
          ·skip
           refine wxz<|Qaj ?_
           refine wmr (mto (n:=286) (l':=[(1,(Qd9 p1)),(2,(Qej p2)),(5,.ref 0 2 0 0),(11,I x3),(13,.ref 1 7 0 0),(14,.ref 2 2 0 0),(15,I y94),(16,.ref 3 7 0 0),(17,I 0)]) (own':=[(Qe5 p0),(Qel y20 x12 x16),(.own 2 [[(Qem p0),(.acc 4 59 7 ((y102:List GElement).map Qab))]]),(Qhm x104),.tok,(Qum x104)]) [(1,(Qd9 p1)),(2,(Qej p2)),(5,.ref 0 2 0 0),(11,I x3),(13,.ref 1 7 0 0),(14,.ref 2 2 0 0),(15,I y94),(16,.ref 4 7 0 0),(17,I 0)] [0,1,2,4,3,6] [(Qe5 p0),(Qel y20 x12 x16),(.own 2 [[(Qem p0),(Qun y102)]]),(.own 7 [[(K .u8 (x104.Kind)),(.own 6 2 (0) (x104.From.length)),I x104.Level,I x104.Amount,I x104.Wide,I x104.Narrow,(Ql4 x104)]]),.tok,(Qum x104)] hφ0 (pc (rnd Qaf) (pc (rnd Qad) (prr (pw (prr (prr (pw (prr (pw pn))))))))) (qb (lc (rnd Qai) (lc (rnd Qaa) ln)) (qb (lc rwl (lc (rnd Qav) (lcc (lcc (lc rwl ln))))) (qb (lc (rnd Qai) (lc (.rn (Qbw rfl (Qbk Qaa _))) ln)) (qb (lc rwl (lc (.rn (Qa5 rfl)) (lcc (lcc (lc (rnd Qaf) ln))))) (qc .tok (qc (spr Qav) qn))))))) ?_
           refine Qcb (τ:=Int×(List GElement)×(List GPort)) (fun n t=>Qa9 N x3 y94 x104 k115 n t.1 t.2.1 t.2.2=some r) (fun ⟨y118,y119,y120⟩=>⟨mk 286 [(1,(Qd9 p1)),(2,(Qej p2)),(5,.ref 0 2 0 0),(11,I x3),(13,.ref 1 7 0 0),(14,.ref 2 2 0 0),(15,I y94),(16,.ref 3 7 0 0),(17,I y118)],[(Qe5 p0),(Qel y20 x12 x16),(.own 2 [[(Qem p0),(Qqe y119)]]),(Qhm x104),.tok,(Qjh y120)]⟩) (fun t h=>by rw [Qa9] at h; cases h) (fun n124 ih t h=>?_) N (0,y102,x104.From) h
           obtain ⟨y118,y119,y120⟩:=t
           rw [Qa9] at h
           skip
           refine wsq<|wx tbk [(3,rp [(.tmp 117,(.own 5 2 (0) (x104.From.length)))] (I (((x104.From.length:Nat):Int))))] ⟨aln rfl Tryz.underlying57 rfl,tv⟩ ?_
           refine bfe h (fun hc125 h=>?_) fun hc125 h=>?_
           ·refine wft hc125<|Qan<|thn<|wsq<|Qaj ?_
            obtain ⟨k128,hk_k128,h⟩:=jko h
            refine wjn (τ:=(List GElement)×(List GPort)) (fun t=>k128 t=some r) (fun ⟨y126,y127⟩=>⟨mk 286 [(1,(Qd9 p1)),(2,(Qej p2)),(5,.ref 0 2 0 0),(11,I x3),(13,.ref 1 7 0 0),(14,.ref 2 2 0 0),(15,I y94),(16,.ref 3 7 0 0),(17,I y118)],[(Qe5 p0),(Qel y20 x12 x16),(.own 2 [[(Qem p0),(Qqd y126)]]),(Qhm x104),.tok,(Qnn y127)]⟩) (fun t h=>?_) ?_
            ·subst hk_k128
             obtain ⟨y126,y127⟩:=t
             refine bfe h (fun hb129 h=>?_) fun hb129 h=>?_
             ·refine wx tbk [(3,rp [(.tmp 141,(B ((y94==x3))))] (B true))] ⟨asb hb129 (amv rfl),tv⟩ ?_
              refine bfe h (fun hc130 h=>?_) fun hc130 h=>?_
              ·refine wft hc130 ?_
               obtain ⟨hi131,h⟩:=cko h
               obtain ⟨hi131a,hi131b⟩:=Qei hi131
               obtain ⟨x132,hg133,h⟩:=bno h
               refine wx1 tbk [(4,rp [(.tmp 149,I x3)] (.agg [I x3,I 0])),(5,rb [(.tmp 147,(.own 5 2 (0) (x104.From.length))),(.tmp 148,I y118)] [(5,(Qnn y127))] (.ref 5 2 (y118.toNat) 0)),(6,⟨[(.tmp 151,(.ref 5 2 (y118.toNat) 0)),(.tmp 150,(.agg [I x3,I 0]))],[(5,(Qnn y127))],.any,[(5,(.own 2 ((y127.set y118.toNat (⟨x3,0⟩:GPort):List GPort).map Qar)))],false⟩)] ⟨Qa2 (vs:=[I x3]) rfl ts61 tz61 rfl (by rfl) rfl,aio rfl Tryz.underlying57 ti61 (odt hi131a) (odt hi131b) (Nat.zero_add _),ast rfl ti61 (by rfl) (mgt Qar hg133) (nle rfl) (Qgr Qar rfl),tv⟩<|bln<|thn<|wxz1<|thn ?_
               exact arm (mto (n:=286) [(1,(Qd9 p1)),(2,(Qej p2)),(5,.ref 0 2 0 0),(11,I x3),(13,.ref 1 7 0 0),(14,.ref 2 2 0 0),(15,I y94),(16,.ref 3 7 0 0),(17,(I (w64 (y118+1))))] [0,1,2,3,4,5] [(Qe5 p0),(Qel y20 x12 x16),(.own 2 [[(Qem p0),(Qqd y126)]]),(Qhm x104),.tok,(.own 2 ((y127.set y118.toNat (⟨x3,0⟩:GPort):List GPort).map Qar))] hφ0 (pc (rnd Qaf) (pc (rnd Qad) (prr (pw (prr (prr (pw (prr (pw pn))))))))) (qb (lc (rnd Qai) (lc (rnd Qaa) ln)) (qb (lc rwl (lc (rnd Qav) (lcc (lcc (lc rwl ln))))) (qb (lc (rnd Qai) (lc (.rn (Qbw rfl (Qbk Qaa _))) ln)) (qb (lc rwl (lc (.rn (Qa5 rfl)) (lcc (lcc (lc (rnd Qaf) ln))))) (qc .tok (qc (spr Qav) qn))))))) (ih (w64 (y118+1),y126,y127.set y118.toNat (⟨x3,0⟩:GPort)) h)
              ·exact wfn hc130<|Qan<|bln<|thn<|wxz1<|thn<|arm (mto (n:=286) [(1,(Qd9 p1)),(2,(Qej p2)),(5,.ref 0 2 0 0),(11,I x3),(13,.ref 1 7 0 0),(14,.ref 2 2 0 0),(15,I y94),(16,.ref 3 7 0 0),(17,(I (w64 (y118+1))))] [0,1,2,3,4,5] [(Qe5 p0),(Qel y20 x12 x16),(.own 2 [[(Qem p0),(Qqd y126)]]),(Qhm x104),.tok,(Qnn y127)] hφ0 (pc (rnd Qaf) (pc (rnd Qad) (prr (pw (prr (prr (pw (prr (pw pn))))))))) (qb (lc (rnd Qai) (lc (rnd Qaa) ln)) (qb (lc rwl (lc (rnd Qav) (lcc (lcc (lc rwl ln))))) (qb (lc (rnd Qai) (lc (.rn (Qbw rfl (Qbk Qaa _))) ln)) (qb (lc rwl (lc (.rn (Qa5 rfl)) (lcc (lcc (lc (rnd Qaf) ln))))) (qc .tok (qc (spr Qav) qn))))))) (ih (w64 (y118+1),y126,y127) h)
             ·exact wx tbk [(3,rp [(.tmp 141,(B ((y94==x3))))] (B false))] ⟨asb hb129 (amv rfl),tv⟩<|wfa<|Qan<|bln<|thn<|wxz1<|thn<|arm (mto (n:=286) [(1,(Qd9 p1)),(2,(Qej p2)),(5,.ref 0 2 0 0),(11,I x3),(13,.ref 1 7 0 0),(14,.ref 2 2 0 0),(15,I y94),(16,.ref 3 7 0 0),(17,(I (w64 (y118+1))))] [0,1,2,3,4,5] [(Qe5 p0),(Qel y20 x12 x16),(.own 2 [[(Qem p0),(Qqd y126)]]),(Qhm x104),.tok,(Qnn y127)] hφ0 (pc (rnd Qaf) (pc (rnd Qad) (prr (pw (prr (prr (pw (prr (pw pn))))))))) (qb (lc (rnd Qai) (lc (rnd Qaa) ln)) (qb (lc rwl (lc (rnd Qav) (lcc (lcc (lc rwl ln))))) (qb (lc (rnd Qai) (lc (.rn (Qbw rfl (Qbk Qaa _))) ln)) (qb (lc rwl (lc (.rn (Qa5 rfl)) (lcc (lcc (lc (rnd Qaf) ln))))) (qc .tok (qc (spr Qav) qn))))))) (ih (w64 (y118+1),y126,y127) h)
            ·skip
             obtain ⟨hi134,h⟩:=cko h
             obtain ⟨hi134a,hi134b⟩:=Qei hi134
             obtain ⟨x135,hg136,h⟩:=bno h
             refine wx tbk [(3,rb [(.tmp 123,(.own 5 2 (0) (x104.From.length))),(.tmp 124,I y118)] [(5,(Qjh y120))] (.ref 5 2 (y118.toNat) 0)),(5,rb [(.tmp 126,(.ref 5 2 (y118.toNat) 0))] [(5,(Qjh y120))] (I x135.Element))] ⟨aio rfl Tryz.underlying57 ti61 (odt hi134a) (odt hi134b) (Nat.zero_add _),ald rfl ti3 (by decide) (mgt Qar hg136) (nle rfl) rfl,tv⟩ ?_
             refine bfe h (fun hc137 h=>?_) fun hc137 h=>?_
             ·refine wft hc137 ?_
              obtain ⟨hi138,h⟩:=cko h
              obtain ⟨hi138a,hi138b⟩:=Qei hi138
              obtain ⟨x139,hg140,h⟩:=bno h
              obtain ⟨hi141,h⟩:=cko h
              obtain ⟨hi141a,hi141b⟩:=Qei hi141
              obtain ⟨x142,hg143,h⟩:=bno h
              refine wx1 tbk [(3,rb [(.tmp 131,(.own 5 2 (0) (x104.From.length))),(.tmp 132,I y118)] [(5,(Qjh y120))] (.ref 5 2 (y118.toNat) 0)),(5,rb [(.tmp 134,(.ref 5 2 (y118.toNat) 0))] [(5,(Qjh y120))] (I x139.Element)),(7,rb [(.tmp 131,(.own 5 2 (0) (x104.From.length))),(.tmp 132,I y118)] [(5,(Qjh y120))] (.ref 5 2 (y118.toNat) 0)),(9,⟨[(.tmp 138,(.ref 5 2 (y118.toNat) 0)),(.tmp 136,(I (w64 (x139.Element+1))))],[(5,(Qjh y120))],.any,[(5,(.own 2 ((y120.set y118.toNat (⟨w64 (x139.Element+1),x142.Outlet⟩:GPort):List GPort).map Qar)))],false⟩)] ⟨aio rfl Tryz.underlying57 ti61 (odt hi138a) (odt hi138b) (Nat.zero_add _),ald rfl ti3 (by decide) (mgt Qar hg140) (nle rfl) rfl,aio rfl Tryz.underlying57 ti61 (odt hi141a) (odt hi141b) (Nat.zero_add _),ast rfl ti3 (by rfl) (mgt Qar hg143) (nle rfl) (Qgr Qar rfl),tv⟩<|thn ?_
              exact ⟨(y119,y120.set y118.toNat (⟨w64 (x139.Element+1),x142.Outlet⟩:GPort)),h,(mto (n:=286) [(1,(Qd9 p1)),(2,(Qej p2)),(5,.ref 0 2 0 0),(11,I x3),(13,.ref 1 7 0 0),(14,.ref 2 2 0 0),(15,I y94),(16,.ref 3 7 0 0),(17,I y118)] [0,1,2,3,4,5] [(Qe5 p0),(Qel y20 x12 x16),(.own 2 [[(Qem p0),(Qqe y119)]]),(Qhm x104),.tok,(.own 2 ((y120.set y118.toNat (⟨w64 (x139.Element+1),x142.Outlet⟩:GPort):List GPort).map Qar))] hφ0 (pc (rnd Qaf) (pc (rnd Qad) (prr (pw (prr (prr (pw (prr (pw pn))))))))) (qb (lc (rnd Qai) (lc (rnd Qaa) ln)) (qb (lc rwl (lc (rnd Qav) (lcc (lcc (lc rwl ln))))) (qb (lc (rnd Qai) (lc (.rn (Qbw rfl (Qbk Qaa _))) ln)) (qb (lc rwl (lc (.rn (Qa5 rfl)) (lcc (lcc (lc (rnd Qaf) ln))))) (qc .tok (qc (spr Qav) qn)))))))⟩
             ·exact wfn hc137<|Qan<|thn<|⟨(y119,y120),h,(mto (n:=286) [(1,(Qd9 p1)),(2,(Qej p2)),(5,.ref 0 2 0 0),(11,I x3),(13,.ref 1 7 0 0),(14,.ref 2 2 0 0),(15,I y94),(16,.ref 3 7 0 0),(17,I y118)] [0,1,2,3,4,5] [(Qe5 p0),(Qel y20 x12 x16),(.own 2 [[(Qem p0),(Qqe y119)]]),(Qhm x104),.tok,(Qjh y120)] hφ0 (pc (rnd Qaf) (pc (rnd Qad) (prr (pw (prr (prr (pw (prr (pw pn))))))))) (qb (lc (rnd Qai) (lc (rnd Qaa) ln)) (qb (lc rwl (lc (rnd Qav) (lcc (lcc (lc rwl ln))))) (qb (lc (rnd Qai) (lc (.rn (Qbw rfl (Qbk Qaa _))) ln)) (qb (lc rwl (lc (.rn (Qa5 rfl)) (lcc (lcc (lc (rnd Qaf) ln))))) (qc .tok (qc (spr Qav) qn)))))))⟩
           ·exact wfn hc125<|Qbi<|Qax<|Qax<|Qbh rfl<|thn<|⟨(y119,y120),h,(mto (n:=286) [(1,(Qd9 p1)),(2,(Qej p2)),(5,.ref 0 2 0 0),(11,I x3),(13,.ref 1 7 0 0),(14,.ref 2 2 0 0),(15,I y94),(16,.ref 3 7 0 0)] [0,1,2,3,4,5] [(Qe5 p0),(Qel y20 x12 x16),(.own 2 [[(Qem p0),(Qqe y119)]]),(Qhm x104),.tok,(Qjh y120)] hφ0 (pc (rnd Qaf) (pc (rnd Qad) (prr (pw (prr (prr (pw (prr pn)))))))) (qb (lc (rnd Qai) (lc (rnd Qaa) ln)) (qb (lc rwl (lc (rnd Qav) (lcc (lcc (lc rwl ln))))) (qb (lc (rnd Qai) (lc (.rn (Qbw rfl (Qbk Qaa _))) ln)) (qb (lc rwl (lc (.rn (Qa5 rfl)) (lcc (lcc (lc (rnd Qaf) ln))))) (qc .tok (qc (spr Qav) qn)))))))⟩
        ·skip
         refine wxz ?_
         refine bfe h (fun hc144 h=>?_) fun hc144 h=>?_
         ·refine wft hc144 ?_
          obtain ⟨ha145,h⟩:=cko h
          refine wx1 tbk [(3,rp [(.tmp 101,(.agg [(K .u8 (y20)),(Qk4 x12),I x16.Level,I 0,I 1000000,I 1000000000,nilS]))] (Q7k y20 x12 x16)),(4,⟨[(.tmp 100,(Qqg y95)),(.tmp 102,(Q7k y20 x12 x16))],[(3,.tok),(4,.unused)],(.acc 4 59 7 ((y95++([(⟨y20,[x12],x16.Level,0,1000000,1000000000,[]⟩:GElement)]):List GElement).map Qab)),[(3,.dead),(4,.tok)],false⟩)] ⟨awk (rd':=[(.tmp 101,(Q7l y20 x12 x16))]) ⟨rfl,(Less.agg ⟨lrf,lrf,lrf,lrf,lrf,lrf,Less.nil,tv⟩),tv⟩ (Qbo (vs:=[(Q7l y20 x12 x16)]) rfl Tryz.underlying24 ti59 tz59 rfl (by decide) rfl (by decide) (by rfl) (by rfl) (by rfl) rfl),Qer rfl Tryz.underlying24 te59 (Base.acc _ _) rfl rfl (by rfl) (Qg0 Qab ha145) (Qgz Qab ha145 (by decide)) (Qgy Qab) rfl rfl,tv⟩<|thn ?_
          exact ⟨(y95++([(⟨y20,[x12],x16.Level,0,1000000,1000000000,[]⟩:GElement)])),h,(mto (n:=286) [(1,(Qd9 p1)),(2,(Qej p2)),(5,.ref 0 2 0 0),(11,I x3),(13,.ref 1 7 0 0),(14,.ref 2 2 0 0),(15,I y94)] [0,1,2,4] [(Qe5 p0),(Qel y20 x12 x16),(.own 2 [[(Qem p0),(.acc 4 59 7 ((y95++([(⟨y20,[x12],x16.Level,0,1000000,1000000000,[]⟩:GElement)]):List GElement).map Qab))]]),.tok] hφ0 (pc (rnd Qaf) (pc (rnd Qad) (prr (pw (prr (prr (pw pn))))))) (qb (lc (rnd Qai) (lc (rnd Qaa) ln)) (qb (lc rwl (lc (rnd Qav) (lcc (lcc (lc rwl ln))))) (qb (lc (rnd Qai) (lc (.rn (Qbw rfl (Qbk Qaa _))) ln)) (qc .tok qn)))))⟩
         ·exact wfn hc144<|Qan<|thn<|⟨(y95),h,(mto (n:=286) [(1,(Qd9 p1)),(2,(Qej p2)),(5,.ref 0 2 0 0),(11,I x3),(13,.ref 1 7 0 0),(14,.ref 2 2 0 0),(15,I y94)] [0,1,2,3] [(Qe5 p0),(Qel y20 x12 x16),(.own 2 [[(Qem p0),(Qqg y95)]]),.tok] hφ0 (pc (rnd Qaf) (pc (rnd Qad) (prr (pw (prr (prr (pw pn))))))) (qb (lc (rnd Qai) (lc (rnd Qaa) ln)) (qb (lc rwl (lc (rnd Qav) (lcc (lcc (lc rwl ln))))) (qb (lc (rnd Qai) (lc (.rn (Qbw rfl (Qbk Qaa _))) ln)) (qc .tok qn)))))⟩
      ·exact wfn hc99<|Qbi<|Qax<|Qax<|Qbh rfl<|thn<|⟨(y95),h,(mto (n:=286) [(1,(Qd9 p1)),(2,(Qej p2)),(5,.ref 0 2 0 0),(11,I x3),(14,.ref 2 2 0 0)] [0,2,3] [(Qe5 p0),(.own 2 [[(Qem p0),(Qqg y95)]]),.tok] hφ0 (pc (rnd Qaf) (pc (rnd Qad) (prr (pw (prr pn))))) (qb (lc (rnd Qai) (lc (rnd Qaa) ln)) (qb (lc (rnd Qai) (lc (.rn (Qbw rfl (Qbk Qaa _))) ln)) (qc .tok qn))))⟩
    ·skip
     refine wxz ?_
     refine bfe h (fun hc146 h=>?_) fun hc146 h=>?_
     ·exact wft hc146<|wxz1<|thn<|⟨(3),h,(mto (n:=286) [(1,(Qd9 p1)),(2,(Qej p2)),(5,.ref 0 2 0 0),(11,I x3),(13,.ref 2 7 0 0)] [0,2] [(Qe5 p0),(.own 7 [[(K .u8 (3)),(Qk4 x12),I x16.Level,I 0,I 1000000,I 1000000000,nilS]])] hφ0 (pc (rnd Qaf) (pc (rnd Qad) (prr (pw (prr pn))))) (qb (lc (rnd Qai) (lc (rnd Qaa) ln)) (qb (lc rwl (lc (rnd Qav) (lcc (lcc (lc rwl ln))))) qn)))⟩
     ·exact wfn hc146<|Qan<|thn<|⟨(6),h,(mto (n:=286) [(1,(Qd9 p1)),(2,(Qej p2)),(5,.ref 0 2 0 0),(11,I x3),(13,.ref 2 7 0 0)] [0,2] [(Qe5 p0),(.own 7 [[(K .u8 (6)),(Qk4 x12),I x16.Level,I 0,I 1000000,I 1000000000,nilS]])] hφ0 (pc (rnd Qaf) (pc (rnd Qad) (prr (pw (prr pn))))) (qb (lc (rnd Qai) (lc (rnd Qaa) ln)) (qb (lc rwl (lc (rnd Qav) (lcc (lcc (lc rwl ln))))) qn)))⟩
  ·skip
   obtain ⟨x148,hf147,h⟩:=bno h
   refine hpre (A:=(Quj p0 p2 x148)) ⟨apv Zj7 (Qvm N p0 p2 _ hf147) (nlc (NLt.agg _ (nlc (nld Qai _) (nlc (nld Qaa _) nl0))) (nlc (nld Qad _) nl0)) nll,tv⟩ fun q5_=>?_
   refine bfe h (fun hb149 h=>?_) fun hb149 h=>?_
   ·refine wx tbk (hcat (Quj p0 p2 x148) [(4,rp [(.tmp 31,(B ((!x148))))] (B true))]) (hap q5_ ⟨asb hb149 (amv rfl),tv⟩)<|wtr ?_
    obtain ⟨x151,hf150,h⟩:=bno h
    exact wx tbk [(0,rp [fu 15] (B x151))] ⟨apv Qlc (Qd7 2000  _ hf150) nl0 nll,tv⟩<|Qae<|Qag<|frb h
   ·refine hpre (A:=(Qui p0 p2 x148 p1)) (hap q5_ ⟨asb hb149 (amv rfl),ag_ (alm (c:=Qak) (l:=p1) (aln rfl Tryz.underlying27 rfl)),tv⟩) fun q6_=>?_
    refine bfe h (fun hb152 h=>?_) fun hb152 h=>?_
    ·refine wx tbk (hcat (Qui p0 p2 x148 p1) [(9,rp [(.tmp 36,(B ((decide ((p1.length:Int)>25)))))] (B true))]) (hap q6_ ⟨asb hb152 (amv rfl),tv⟩)<|wtr ?_
     obtain ⟨x154,hf153,h⟩:=bno h
     exact wx tbk [(0,rp [fu 15] (B x154))] ⟨apv Qlc (Qd7 2000  _ hf153) nl0 nll,tv⟩<|Qae<|Qag<|frb h
    ·refine hpre (A:=(Quh p0 p2 x148 p1)) (hap q6_ ⟨asb hb152 (amv rfl),ag_ (alm (c:=Qab) (l:=p0.Elements) (aln rfl Tryz.underlying24 rfl)),tv⟩) fun q7_=>?_
     refine bfe h (fun hb155 h=>?_) fun hb155 h=>?_
     ·refine wx tbk (hcat (Quh p0 p2 x148 p1) [(15,rp [(.tmp 42,(B ((decide ((p0.Elements.length:Int)>15)))))] (B true))]) (hap q7_ ⟨asb hb155 (amv rfl),tv⟩)<|wtr ?_
      obtain ⟨x157,hf156,h⟩:=bno h
      exact wx tbk [(0,rp [fu 15] (B x157))] ⟨apv Qlc (Qd7 2000  _ hf156) nl0 nll,tv⟩<|Qae<|Qag<|frb h
     ·obtain ⟨x159,hf158,h⟩:=bno h
      refine wx tbk (hcat (Quh p0 p2 x148 p1) [(15,rp [(.tmp 42,(B ((decide ((p0.Elements.length:Int)>15)))))] (B false)),(19,rp [(.tmp 43,B false),fu 20,(.tmp 44,(Q7j p0)),(.tmp 45,(Qd9 p1)),(.tmp 46,(Qej p2))] (I x159))]) (hap q7_ ⟨asb hb155 (amv rfl),ag_ (apv Zj6 (Qrt N p0 p1 p2 _ hf158) (nlc (NLt.agg _ (nlc (nld Qai _) (nlc (nld Qaa _) nl0))) (nlc (nld Qaf _) (nlc (nld Qad _) nl0))) nll),tv⟩) ?_
      refine bfe h (fun hc160 h=>?_) fun hc160 h=>?_
      ·refine wft hc160 ?_
       obtain ⟨x162,hf161,h⟩:=bno h
       exact wx tbk [(0,rp [fu 15] (B x162))] ⟨apv Qlc (Qd7 2000  _ hf161) nl0 nll,tv⟩<|Qae<|Qag<|frb h
      ·exact wfn hc160<|Qan<|thn<|⟨(),h,(mto (n:=286) [(1,(Qd9 p1)),(2,(Qej p2)),(3,(K .u8 (p3))),(4,B p4),(5,.ref 0 2 0 0)] [0] [(Qe5 p0)] hφ0 (pc (rnd Qaf) (pc (rnd Qad) (pw (pw (prr pn))))) (qb (lc (rnd Qai) (lc (rnd Qaa) ln)) qn))⟩
end Go.Proofs.YtmbhnllcfmiajaaGreat
