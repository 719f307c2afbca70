/-
  Functions of the program: what they compute, as plain functions, and that they do. No conditions.
-/
import Derived.Test.YtmbhnllcfmiajaaGreatX7
namespace Go.Proofs.YtmbhnllcfmiajaaGreat
set_option maxRecDepth 100000
set_option maxHeartbeats 4000000
open Go.RowKit
def Qcd (N:Nat) (x17:((List GFall)×Int)) (y22:(List GLost)) (k44:(List GStream)×Int×Int×Int×Int×Int→Option Bool):Nat→(List GStream)→Int→Int→Int→Int→Int→Int→Option Bool
  | 0,_,_,_,_,_,_,_=>none
  | n78+1,y64,y65,y66,y67,y68,y69,y70=>
    bif (decide (y66<(y22.length:Int))) then
     (getI y22 y66).bind fun x80=>
     bif (decide (x80.Scale>0)) then
      bif (decide (y65≥(x17.1.length:Int))) then
       some false
      else
       (getI x17.1 y65).bind fun x86=>
       bif (x86.Element != y66) then
        some false
       else
        bif (x86.Scale != x80.Scale) then
         some false
        else
         Qcd N x17 y22 k44 n78 y64 (w64 (y65+1)) (w64 (y66+1)) (w64 (y67+x80.Heat)) (w64 (y68+x80.Silica)) (w64 (y69+x80.Gas)) (w64 (y70+x80.Scale))
     else
      Qcd N x17 y22 k44 n78 y64 y65 (w64 (y66+1)) (w64 (y67+x80.Heat)) (w64 (y68+x80.Silica)) (w64 (y69+x80.Gas)) (w64 (y70+x80.Scale))
    else
     k44 (y64,y65,y67,y68,y69,y70)
def Qcp (N:Nat) (y21:(List (List GStream))) (x35:(List GPort)) (k37:(List GStream)→Option Bool):Nat→(List GStream)→Int→Option Bool
  | 0,_,_=>none
  | n96+1,y92,y93=>
    bif (decide (y93<(x35.length:Int))) then
     (getI x35 y93).bind fun x98=>
     (getI y21 x98.Element).bind fun x102=>
     (getI x102 x98.Outlet).bind fun x106=>
     chk (decide ((y92.length+([x106]).length) * 32≤140737488355328))<|
     Qcp N y21 x35 k37 n96 (y92++([x106])) (w64 (y93+1))
    else
     k37 (y92)
def Qg6 (N:Nat) (p0:GNet) (p1:(List Int)) (p2:(List GStream)):Option Bool:=
  Qbb (fun _=>
    (Qks N p0).bind fun x3=>
    (Qjg N p1).bind fun x5=>
    (Qhf N p2).bind fun x7=>
    (Qi3 N x3 x5 x7).bind fun x9=>
    (Qks N p0).bind fun x11=>
    (Qjg N p1).bind fun x13=>
    (Qhf N p2).bind fun x15=>
    (Qlc N x11 x13 x15).bind fun x17=>
    (Qka N p0 p1 p2).bind fun x19=>
    Qbb (fun ⟨y20,y21,y22,_⟩=>
      bif (y20 != 0) then
       bif (x9.2.2.2==y20) then
        bif (x17.2==y20) then
         bif ((x17.1.length:Int)==0) then
          bif (([x9.1.Mass,x9.1.Heat,x9.1.Silica,x9.1.Gas]:List Int)==[0,0,0,0]) then
           bif (([x9.2.1.Mass,x9.2.1.Heat,x9.2.1.Silica,x9.2.1.Gas]:List Int)==[x9.1.Mass,x9.1.Heat,x9.1.Silica,x9.1.Gas]) then
            bif (([x9.2.2.1.Heat,x9.2.2.1.Silica,x9.2.2.1.Gas,x9.2.2.1.Scale]:List Int)==[0,0,0,0]) then
             (Qhr 2000 ).bind fun x33=>
             some x33
            else
             some false
           else
            some false
          else
           some false
         else
          some false
        else
         some false
       else
        some false
      else
       (Qk3 N p0).bind fun x35=>
       Qbb (fun y36=>
         Qbb (fun ⟨y38,y39,y40,y41,y42,y43⟩=>
           bif (x9.2.2.2==0) then
            bif (x17.2==0) then
             bif (y39==(x17.1.length:Int)) then
              (Qld N (⟨x9.1.Mass,x9.1.Heat,x9.1.Silica,x9.1.Gas⟩:GStream)).bind fun x49=>
              (Qgx N p2).bind fun x51=>
              bif (([x49.Mass,x49.Heat,x49.Silica,x49.Gas]:List Int)==[x51.Mass,x51.Heat,x51.Silica,x51.Gas]) then
               (Qld N (⟨x9.2.1.Mass,x9.2.1.Heat,x9.2.1.Silica,x9.2.1.Gas⟩:GStream)).bind fun x54=>
               (Qgx N y38).bind fun x56=>
               bif (([x54.Mass,x54.Heat,x54.Silica,x54.Gas]:List Int)==[x56.Mass,x56.Heat,x56.Silica,x56.Gas]) then
                bif (x9.2.2.1.Heat==y40) then
                 bif (x9.2.2.1.Silica==y41) then
                  bif (x9.2.2.1.Gas==y42) then
                   bif (x9.2.2.1.Scale==y43) then
                    (Qhr 2000 ).bind fun x63=>
                    some x63
                   else
                    some false
                  else
                   some false
                 else
                  some false
                else
                 some false
               else
                some false
              else
               some false
             else
              some false
            else
             some false
           else
            some false) fun k44:(List GStream)×Int×Int×Int×Int×Int→Option Bool=>
         Qcd N x17 y22 k44 N y36 0 0 0 0 0 0) fun k37:(List GStream)→Option Bool=>
       Qcp N y21 x35 k37 N ([]) 0) fun k24:Int×(List (List GStream))×(List GLost)×(List Int)→Option Bool=>
    bif (x19==0) then
     (Qnl N p0 p1 p2).bind fun x113=>
     bif (decide (x113.2.2≥0)) then
      k24 (11,x113.1.Out,x113.1.Lost,x113.1.State)
     else
      k24 (x19,x113.1.Out,x113.1.Lost,x113.1.State)
    else
     k24 (x19,[],[],[])) fun k1:Unit→Option Bool=>
  (Qkt N p0 p2).bind fun x116=>
  bif (!x116) then
   (Qhr 2000 ).bind fun x119=>
   some x119
  else
   bif (decide ((p1.length:Int)>25)) then
    (Qhr 2000 ).bind fun x122=>
    some x122
   else
    k1 ()
def Qsy (p1:(List Int)):AV:=.dat 1 ((p1:List Int).map Qal)
def Qg7 (p2:(List GStream)):AV:=.dat 4 ((p2:List GStream).map Qaa)
def Zjm (p0:GNet):AV:=.dat 7 ((p0.Elements:List GElement).map Qad)
def Qvp (p0:GNet):Slot:=.own 2 [[(.dat 5 ((p0.Table:List GRow).map Qa4)),(Zjm p0)]]
def Qvo (p0:GNet):AV:=.agg [(.dat 5 ((p0.Table:List GRow).map Qa4)),(Zjm p0)]
def Zjl (x3:GNet):AV:=.agg [(.dat 5 ((x3.Table:List GRow).map Qa4)),(.dat 7 ((x3.Elements:List GElement).map Qad))]
def Zjk (x5:(List Int)):AV:=.dat 1 ((x5:List Int).map Qal)
def Zbb (x7:(List GStream)):AV:=.dat 4 ((x7:List GStream).map Qaa)
def Qxe (x9:(GStream×GStream×GLost×Int)):AV:=.agg [(I (x9.1.Mass)),(I (x9.1.Heat)),(I (x9.1.Silica)),(I (x9.1.Gas))]
def Q2o (x9:(GStream×GStream×GLost×Int)):AV:=.agg [(I (x9.2.1.Mass)),(I (x9.2.1.Heat)),(I (x9.2.1.Silica)),(I (x9.2.1.Gas))]
def Zba (x9:(GStream×GStream×GLost×Int)):AV:=.agg [(I (x9.2.2.1.Heat)),(I (x9.2.2.1.Silica)),(I (x9.2.2.1.Gas)),(I (x9.2.2.1.Scale))]
def Za8 (x11:GNet):AV:=.agg [(.dat 5 ((x11.Table:List GRow).map Qa4)),(.dat 7 ((x11.Elements:List GElement).map Qad))]
def Za7 (x15:(List GStream)):AV:=.dat 4 ((x15:List GStream).map Qaa)
def Qfl (x17:((List GFall)×Int)):AV:=.dat 2 ((x17.1:List GFall).map Qfg)
def Qho (x9:(GStream×GStream×GLost×Int)):Slot:=.own 4 [[(I (x9.1.Mass)),(I (x9.1.Heat)),(I (x9.1.Silica)),(I (x9.1.Gas))]]
def Qhn (x9:(GStream×GStream×GLost×Int)):Slot:=.own 4 [[(I (x9.2.1.Mass)),(I (x9.2.1.Heat)),(I (x9.2.1.Silica)),(I (x9.2.1.Gas))]]
def Qhm (x9:(GStream×GStream×GLost×Int)):Slot:=.own 4 [[(I (x9.2.2.1.Heat)),(I (x9.2.2.1.Silica)),(I (x9.2.2.1.Gas)),(I (x9.2.2.1.Scale))]]
def Q2n (y22:(List GLost)):AV:=.dat 4 ((y22:List GLost).map Qa0)
def Qkg (y21:(List (List GStream))) (y22:(List GLost)) (y23:(List Int)):Slot:=.own 3 [[(.dat 1 ((y21:List (List GStream)).map Qak)),(Q2n y22),(.dat 1 ((y23:List Int).map Qal))]]
def Qxd (x9:(GStream×GStream×GLost×Int)) (y20:Int):List (Nat×Rec):=[(3,rp [((.tmp 75),(B ((x9.2.2.2==y20))))] (B (true)))]
def Qxc (x9) (y20) (x17:((List GFall)×Int)):=hcat (Qxd x9 y20) [(8,rp [((.tmp 80),(B ((x17.2==y20))))] (B (true))),(10,rp [((.tmp 81),(B (true))),((.tmp 82),(Qfl x17))] (I ((x17.1.length:Int))))]
def Qwz:AV:=.agg [(I (0)),(I (0)),(I (0)),(I (0))]
def Qxb (x9) (y20) (x17):=hcat (Qxc x9 y20 x17) [(13,rp [((.tmp 85),(B (((x17.1.length:Int)==0))))] (B (true))),(15,rp [((.tmp 86),(B (true)))] Qwz),(16,rp [((.tmp 86),(B (true))),((.tmp 87),(Qxe x9)),((.tmp 88),Qwz)] (B ((([x9.1.Mass,x9.1.Heat,x9.1.Silica,x9.1.Gas]:List Int)==[0,0,0,0]))))]
def Qxa (x9) (y20) (x17):=hcat (Qxb x9 y20 x17) [(18,rp [((.tmp 90),(B ((([x9.1.Mass,x9.1.Heat,x9.1.Silica,x9.1.Gas]:List Int)==[0,0,0,0]))))] (B (true))),(21,rp [((.tmp 91),(B (true))),((.tmp 92),(Q2o x9)),((.tmp 93),(Qxe x9))] (B ((([x9.2.1.Mass,x9.2.1.Heat,x9.2.1.Silica,x9.2.1.Gas]:List Int)==[x9.1.Mass,x9.1.Heat,x9.1.Silica,x9.1.Gas]))))]
def Qw9 (x9) (y20) (x17):=hcat (Qxa x9 y20 x17) [(23,rp [((.tmp 95),(B ((([x9.2.1.Mass,x9.2.1.Heat,x9.2.1.Silica,x9.2.1.Gas]:List Int)==[x9.1.Mass,x9.1.Heat,x9.1.Silica,x9.1.Gas]))))] (B (true))),(25,rp [((.tmp 96),(B (true)))] Qwz),(26,rp [((.tmp 96),(B (true))),((.tmp 97),(Zba x9)),((.tmp 98),Qwz)] (B ((([x9.2.2.1.Heat,x9.2.2.1.Silica,x9.2.2.1.Gas,x9.2.2.1.Scale]:List Int)==[0,0,0,0]))))]
def Qnb (x35:(List GPort)):AV:=.dat 2 ((x35:List GPort).map Qap)
def Q2m (y36:(List GStream)):AV:=.acc 4 89 4 ((y36:List GStream).map Qaa)
def Qw8 (x9:(GStream×GStream×GLost×Int)):List (Nat×Rec):=[(2,rp [((.tmp 193),(B ((x9.2.2.2==0))))] (B (true)))]
def Qw7 (x9) (x17:((List GFall)×Int)):=hcat (Qw8 x9) [(6,rp [((.tmp 197),(B ((x17.2==0))))] (B (true))),(9,rp [((.tmp 198),(B (true))),((.tmp 200),(Qfl x17))] (I ((x17.1.length:Int))))]
def Za6 (x49:GStream):AV:=.agg [(I (x49.Mass)),(I (x49.Heat)),(I (x49.Silica)),(I (x49.Gas))]
def Za5 (x51:GStream):AV:=.agg [(I (x51.Mass)),(I (x51.Heat)),(I (x51.Silica)),(I (x51.Gas))]
def Qw6 (x9) (x17) (y39:Int) (x49:GStream) (p2:(List GStream)) (x51:GStream):=hcat (Qw7 x9 x17) [(12,rp [((.tmp 203),(B ((y39==(x17.1.length:Int)))))] (B (true))),(14,rp [((.tmp 204),(B (true))),fu 37,((.tmp 205),(Qxe x9))] (Za6 x49)),(16,rp [((.tmp 204),(B (true))),fu 38,((.tmp 207),(Qg7 p2))] (Za5 x51)),(17,rp [((.tmp 204),(B (true))),((.tmp 206),(Za6 x49)),((.tmp 208),(Za5 x51))] (B ((([x49.Mass,x49.Heat,x49.Silica,x49.Gas]:List Int)==[x51.Mass,x51.Heat,x51.Silica,x51.Gas]))))]
def Za4 (x54:GStream):AV:=.agg [(I (x54.Mass)),(I (x54.Heat)),(I (x54.Silica)),(I (x54.Gas))]
def Za3 (x56:GStream):AV:=.agg [(I (x56.Mass)),(I (x56.Heat)),(I (x56.Silica)),(I (x56.Gas))]
def Qw5 (x9) (x17) (y39) (x49) (p2) (x51) (x54:GStream) (y38:(List GStream)) (x56:GStream):=hcat (Qw6 x9 x17 y39 x49 p2 x51) [(19,rp [((.tmp 210),(B ((([x49.Mass,x49.Heat,x49.Silica,x49.Gas]:List Int)==[x51.Mass,x51.Heat,x51.Silica,x51.Gas]))))] (B (true))),(21,rp [((.tmp 211),(B (true))),fu 37,((.tmp 212),(Q2o x9))] (Za4 x54)),(23,rp [((.tmp 211),(B (true))),fu 38,((.tmp 214),(.acc 3 89 4 ((y38:List GStream).map Qaa)))] (Za3 x56)),(24,rp [((.tmp 211),(B (true))),((.tmp 213),(Za4 x54)),((.tmp 215),(Za3 x56))] (B ((([x54.Mass,x54.Heat,x54.Silica,x54.Gas]:List Int)==[x56.Mass,x56.Heat,x56.Silica,x56.Gas]))))]
def Qw4 (x9) (x17) (y39) (x49) (p2) (x51) (x54) (y38) (x56):=hcat (Qw5 x9 x17 y39 x49 p2 x51 x54 y38 x56) [(26,rp [((.tmp 217),(B ((([x54.Mass,x54.Heat,x54.Silica,x54.Gas]:List Int)==[x56.Mass,x56.Heat,x56.Silica,x56.Gas]))))] (B (true)))]
def Qw3 (x9) (x17) (y39) (x49) (p2) (x51) (x54) (y38) (x56) (y40:Int):=hcat (Qw4 x9 x17 y39 x49 p2 x51 x54 y38 x56) [(33,rp [((.tmp 224),(B ((x9.2.2.1.Heat==y40))))] (B (true)))]
def Qsg (x9) (x17) (y39) (x49) (p2) (x51) (x54) (y38) (x56) (y40) (y41:Int):=hcat (Qw3 x9 x17 y39 x49 p2 x51 x54 y38 x56 y40) [(40,rp [((.tmp 231),(B ((x9.2.2.1.Silica==y41))))] (B (true)))]
def Za9:Slot:=.own 4 [[(I (0)),(I (0)),(I (0)),(I (0))]]
def Qwy (y64:(List GStream)):AV:=.acc 4 89 4 ((y64:List GStream).map Qaa)
def Qw2 (x17:((List GFall)×Int)):List (Nat×Rec):=[(2,rp [((.tmp 168),(Qfl x17))] (I ((x17.1.length:Int))))]
def Qw1 (x17) (y65:Int) (x86:GFall):=hcat (Qw2 x17) [(4,rp [((.tmp 170),(B ((decide (y65≥(x17.1.length:Int))))))] (B (false))),(7,rp [((.tmp 171),(B (false))),((.tmp 172),(Qfl x17)),((.tmp 173),(I (y65)))] (.dptr (Qfg (x86)) 0))]
def Q2l (y92:(List GStream)):AV:=.acc 4 89 4 ((y92:List GStream).map Qaa)
def Q5c (x106:GStream):AV:=.agg [(I (x106.Mass)),(I (x106.Heat)),(I (x106.Silica)),(I (x106.Gas))]
def Qxg (x113:(GTick×Int×Int)):AV:=.dat 1 ((x113.1.Out:List (List GStream)).map Qak)
def Qxf (x113:(GTick×Int×Int)):AV:=.dat 4 ((x113.1.Lost:List GLost).map Qa0)
def Qw0 (p0:GNet) (p2:(List GStream)) (x116:Bool):List (Nat×Rec):=[(2,rp [fu 14,((.tmp 23),(Qvo p0)),((.tmp 24),(Qg7 p2))] (B (x116)))]
theorem Qm8 (N:Nat) (p0:GNet) (p1:(List Int)) (p2:(List GStream)) (r:Bool) (h:Qg6 N p0 p1 p2=some r):Spec Tryz.prog 8 [(.agg (Qhz p0)),(.dat 1 (p1.map Qal)),(.dat 4 (p2.map Qaa))] [] (B r) []:=by
  refine Qah Tryz.func8 rfl 0 (nle rfl) (fun X φ0 w0 hφ0 hd0=>?_)
  unfold Qg6 at h
  refine wxz ?_
  obtain ⟨k1,hk_k1,h⟩:=jko h
  refine wjn (τ:=Unit) (fun t=>k1 t=some r) (fun _=>⟨mk 249 [(1,(Qsy p1)),(2,(Qg7 p2)),(3,.ref 0 2 0 0)],[(Qvp p0)]⟩) (fun t h=>?_) ?_
  ·subst hk_k1
   obtain ⟨x3,hf2,h⟩:=bno h
   obtain ⟨x5,hf4,h⟩:=bno h
   obtain ⟨x7,hf6,h⟩:=bno h
   obtain ⟨x9,hf8,h⟩:=bno h
   refine wx tbk [(1,rp [fu 17,(.tmp 34,(Qvo p0))] (Zjl x3)),(3,rp [fu 18,(.tmp 36,(Qsy p1))] (Zjk x5)),(5,rp [fu 19,(.tmp 38,(Qg7 p2))] (Zbb x7)),(6,rp [fu 34,(.tmp 35,(Zjl x3)),(.tmp 37,(Zjk x5)),(.tmp 39,(Zbb x7))] (.tup [(Qxe x9),(Q2o x9),(Zba x9),I x9.2.2.2]))] ⟨apv Zd5 (Qqe N p0 _ hf2) (nlc (NLt.agg _ (nlc (nld Qai _) (nlc (nld Qab _) nl0))) nl0) (NLt.agg _ (nlc (nld Qai _) (nlc (nld Qab _) nl0))),apv Zd4 (Qoq N p1 _ hf4) (nlc (nld Qae _) nl0) (nld Qae _),apv Zd3 (Qma N p2 _ hf6) (nlc (nld Qac _) nl0) (nld Qac _),apv Znw (Qse N x3 x5 x7 _ hf8) (nlc (NLt.agg _ (nlc (nld Qai _) (nlc (nld Qab _) nl0))) (nlc (nld Qae _) (nlc (nld Qac _) nl0))) (NLt.tup _ (nlc (NLt.agg _ (nlcc (nlcc nl0))) (nlc (NLt.agg _ (nlcc (nlcc nl0))) (nlc (NLt.agg _ (nlcc (nlcc nl0))) (nlc nll nl0))))),tv⟩ ?_
   obtain ⟨x11,hf10,h⟩:=bno h
   obtain ⟨x13,hf12,h⟩:=bno h
   obtain ⟨x15,hf14,h⟩:=bno h
   obtain ⟨x17,hf16,h⟩:=bno h
   refine wx tbk [(1,rp [fu 17,(.tmp 46,(Qvo p0))] (Za8 x11)),(3,rp [fu 18,(.tmp 48,(Qsy p1))] (.dat 1 ((x13:List Int).map Qal))),(5,rp [fu 19,(.tmp 50,(Qg7 p2))] (Za7 x15)),(6,rp [fu 35,(.tmp 47,(Za8 x11)),(.tmp 49,(.dat 1 ((x13:List Int).map Qal))),(.tmp 51,(Za7 x15))] (.tup [(Qfl x17),I x17.2]))] ⟨apv Zd5 (Qqe N p0 _ hf10) (nlc (NLt.agg _ (nlc (nld Qai _) (nlc (nld Qab _) nl0))) nl0) (NLt.agg _ (nlc (nld Qai _) (nlc (nld Qab _) nl0))),apv Zd4 (Qoq N p1 _ hf12) (nlc (nld Qae _) nl0) (nld Qae _),apv Zd3 (Qma N p2 _ hf14) (nlc (nld Qac _) nl0) (nld Qac _),apv Znv (Qvf N x11 x13 x15 _ hf16) (nlc (NLt.agg _ (nlc (nld Qai _) (nlc (nld Qab _) nl0))) (nlc (nld Qae _) (nlc (nld Qac _) nl0))) (NLt.tup _ (nlc (nld Qgi _) (nlc nll nl0))),tv⟩ ?_
   obtain ⟨x19,hf18,h⟩:=bno h
   refine wx tbk [(3,rp [fu 20,(.tmp 55,(Qvo p0)),(.tmp 56,(Qsy p1)),(.tmp 57,(Qg7 p2))] (I x19))] ⟨apv Zn1 (Qua N p0 p1 p2 _ hf18) (nlc (NLt.agg _ (nlc (nld Qai _) (nlc (nld Qab _) nl0))) (nlc (nld Qae _) (nlc (nld Qac _) nl0))) nll,tv⟩<|wxz ?_
   obtain ⟨k24,hk_k24,h⟩:=jko h
   refine wjn (τ:=Int×(List (List GStream))×(List GLost)×(List Int)) (fun t=>k24 t=some r) (fun ⟨y20,y21,y22,y23⟩=>⟨mk 249 [(2,(Qg7 p2)),(3,.ref 0 2 0 0),(7,.ref 1 4 0 0),(8,.ref 2 4 0 0),(9,.ref 3 4 0 0),(10,I x9.2.2.2),(11,(Qfl x17)),(12,I x17.2),(13,I y20),(14,.ref 4 3 0 0)],[(Qvp p0),(Qho x9),(Qhn x9),(Qhm x9),(Qkg y21 y22 y23)]⟩) (fun t h=>?_) ?_
   ·subst hk_k24
    obtain ⟨y20,y21,y22,y23⟩:=t
    refine wsq<|wxz ?_
    refine bfe h (fun hc25 h=>?_) fun hc25 h=>?_
    ·refine wft hc25 ?_
     refine bfe h (fun hb26 h=>?_) fun hb26 h=>?_
     ·refine hpre (A:=(Qxd x9 y20)) ⟨asb hb26 (amv rfl),tv⟩ fun q1_=>?_
      refine bfe h (fun hb27 h=>?_) fun hb27 h=>?_
      ·refine hpre (A:=(Qxc x9 y20 x17)) (hap q1_ ⟨asb hb27 (amv rfl),ag_ (alm (c:=Qfg) (l:=x17.1) (aln rfl Tryz.underlying85 rfl)),tv⟩) fun q2_=>?_
       refine bfe h (fun hb28 h=>?_) fun hb28 h=>?_
       ·refine hpre (A:=(Qxb x9 y20 x17)) (hap q2_ ⟨asb hb28 (amv rfl),ag_ (Qaz (vs:=[]) rfl ts63 tz63 rfl (by rfl) rfl),ag_ (Qjb (ls:=[x9.1.Mass,x9.1.Heat,x9.1.Silica,x9.1.Gas]) (ks:=[0,0,0,0]) rfl rfl Zgz (by kernel_rfl) rfl rfl),tv⟩) fun q3_=>?_
        refine bfe h (fun hb29 h=>?_) fun hb29 h=>?_
        ·refine hpre (A:=(Qxa x9 y20 x17)) (hap q3_ ⟨asb hb29 (amv rfl),ag_ (Qjb (ls:=[x9.2.1.Mass,x9.2.1.Heat,x9.2.1.Silica,x9.2.1.Gas]) (ks:=[x9.1.Mass,x9.1.Heat,x9.1.Silica,x9.1.Gas]) rfl rfl Zgz (by kernel_rfl) rfl rfl),tv⟩) fun q4_=>?_
         refine bfe h (fun hb30 h=>?_) fun hb30 h=>?_
         ·refine hpre (A:=(Qw9 x9 y20 x17)) (hap q4_ ⟨asb hb30 (amv rfl),ag_ (Qaz (vs:=[]) rfl ts82 tz82 rfl (by rfl) rfl),ag_ (Qjb (ls:=[x9.2.2.1.Heat,x9.2.2.1.Silica,x9.2.2.1.Gas,x9.2.2.1.Scale]) (ks:=[0,0,0,0]) rfl rfl Zrq (by kernel_rfl) rfl rfl),tv⟩) fun q5_=>?_
          refine bfe h (fun hb31 h=>?_) fun hb31 h=>?_
          ·obtain ⟨x33,hf32,h⟩:=bno h
           exact wx tbk (hcat (Qw9 x9 y20 x17) [(28,rp [(.tmp 100,(B ((([x9.2.2.1.Heat,x9.2.2.1.Silica,x9.2.2.1.Gas,x9.2.2.1.Scale]:List Int)==[0,0,0,0]))))] (B true)),(29,rp [(.tmp 101,B true),fu 15] (B x33))]) (hap q5_ ⟨asb hb31 (amv rfl),ag_ (apv Qyp (Qi6 2000  _ hf32) nl0 nll),tv⟩)<|Qaf<|Qag<|frb h
          ·exact wx tbk (hcat (Qw9 x9 y20 x17) [(28,rp [(.tmp 100,(B ((([x9.2.2.1.Heat,x9.2.2.1.Silica,x9.2.2.1.Gas,x9.2.2.1.Scale]:List Int)==[0,0,0,0]))))] (B false))]) (hap q5_ ⟨asb hb31 (amv rfl),tv⟩)<|Qaf<|Qag<|frb h
         ·exact wx tbk (hcat (Qxa x9 y20 x17) [(23,rp [(.tmp 95,(B ((([x9.2.1.Mass,x9.2.1.Heat,x9.2.1.Silica,x9.2.1.Gas]:List Int)==[x9.1.Mass,x9.1.Heat,x9.1.Silica,x9.1.Gas]))))] (B false))]) (hap q4_ ⟨asb hb30 (amv rfl),tv⟩)<|Qaf<|Qag<|frb h
        ·exact wx tbk (hcat (Qxb x9 y20 x17) [(18,rp [(.tmp 90,(B ((([x9.1.Mass,x9.1.Heat,x9.1.Silica,x9.1.Gas]:List Int)==[0,0,0,0]))))] (B false))]) (hap q3_ ⟨asb hb29 (amv rfl),tv⟩)<|Qaf<|Qag<|frb h
       ·exact wx tbk (hcat (Qxc x9 y20 x17) [(13,rp [(.tmp 85,(B (((x17.1.length:Int)==0))))] (B false))]) (hap q2_ ⟨asb hb28 (amv rfl),tv⟩)<|Qaf<|Qag<|frb h
      ·exact wx tbk (hcat (Qxd x9 y20) [(8,rp [(.tmp 80,(B ((x17.2==y20))))] (B false))]) (hap q1_ ⟨asb hb27 (amv rfl),tv⟩)<|Qaf<|Qag<|frb h
     ·exact wx tbk [(3,rp [(.tmp 75,(B ((x9.2.2.2==y20))))] (B false))] ⟨asb hb26 (amv rfl),tv⟩<|Qaf<|Qag<|frb h
    ·refine wfn hc25<|Qan<|thn<|wxz ?_
     obtain ⟨x35,hf34,h⟩:=bno h
     refine wx tbk [(1,rp [fu 36,(.tmp 104,(Qvo p0))] (Qnb x35))] ⟨apv Znu (Qvd N p0 _ hf34) (nlc (NLt.agg _ (nlc (nld Qai _) (nlc (nld Qab _) nl0))) nl0) (nld Qay _),tv⟩ ?_
     obtain ⟨k37,hk_k37,h⟩:=jko h
     refine wjn (τ:=(List GStream)) (fun t=>k37 t=some r) (fun y36=>⟨mk 249 [(2,(Qg7 p2)),(7,.ref 0 4 0 0),(8,.ref 1 4 0 0),(9,.ref 2 4 0 0),(10,I x9.2.2.2),(11,(Qfl x17)),(12,I x17.2),(14,.ref 3 3 0 0),(16,(Q2m y36))],[(Qho x9),(Qhn x9),(Qhm x9),(Qkg y21 y22 y23),.tok]⟩) (fun y36 h=>?_) ?_
     ·subst hk_k37
      refine wxz<|wxz ?_
      obtain ⟨k44,hk_k44,h⟩:=jko h
      refine wjn (τ:=(List GStream)×Int×Int×Int×Int×Int) (fun t=>k44 t=some r) (fun ⟨y38,y39,y40,y41,y42,y43⟩=>⟨mk 249 [(2,(Qg7 p2)),(7,.ref 0 4 0 0),(8,.ref 1 4 0 0),(9,.ref 2 4 0 0),(10,I x9.2.2.2),(11,(Qfl x17)),(12,I x17.2),(16,(.acc 3 89 4 ((y38:List GStream).map Qaa))),(19,.ref 4 4 0 0),(20,I y39)],[(Qho x9),(Qhn x9),(Qhm x9),.tok,(.own 4 [[I y40,I y41,I y42,I y43]])]⟩) (fun t h=>?_) ?_
      ·subst hk_k44
       obtain ⟨y38,y39,y40,y41,y42,y43⟩:=t
       refine bfe h (fun hb45 h=>?_) fun hb45 h=>?_
       ·refine hpre (A:=(Qw8 x9)) ⟨asb hb45 (amv rfl),tv⟩ fun q6_=>?_
        refine bfe h (fun hb46 h=>?_) fun hb46 h=>?_
        ·refine hpre (A:=(Qw7 x9 x17)) (hap q6_ ⟨asb hb46 (amv rfl),ag_ (alm (c:=Qfg) (l:=x17.1) (aln rfl Tryz.underlying85 rfl)),tv⟩) fun q7_=>?_
         refine bfe h (fun hb47 h=>?_) fun hb47 h=>?_
         ·obtain ⟨x49,hf48,h⟩:=bno h
          obtain ⟨x51,hf50,h⟩:=bno h
          refine hpre (A:=(Qw6 x9 x17 y39 x49 p2 x51)) (hap q7_ ⟨asb hb47 (amv rfl),ag_ (apv Zd2 (Qor N (⟨x9.1.Mass,x9.1.Heat,x9.1.Silica,x9.1.Gas⟩:GStream) _ hf48) (nlc (NLt.agg _ (nlcc (nlcc nl0))) nl0) (NLt.agg _ (nlcc (nlcc nl0)))),ag_ (apv Qul (Qix N p2 _ hf50) (nlc (nld Qac _) nl0) (NLt.agg _ (nlcc (nlcc nl0)))),ag_ (Qjb (ls:=[x49.Mass,x49.Heat,x49.Silica,x49.Gas]) (ks:=[x51.Mass,x51.Heat,x51.Silica,x51.Gas]) rfl rfl Zqc (by kernel_rfl) rfl rfl),tv⟩) fun q8_=>?_
          refine bfe h (fun hb52 h=>?_) fun hb52 h=>?_
          ·obtain ⟨x54,hf53,h⟩:=bno h
           obtain ⟨x56,hf55,h⟩:=bno h
           refine hpre (A:=(Qw5 x9 x17 y39 x49 p2 x51 x54 y38 x56)) (hap q8_ ⟨asb hb52 (amv rfl),ag_ (apv Zd2 (Qor N (⟨x9.2.1.Mass,x9.2.1.Heat,x9.2.1.Silica,x9.2.1.Gas⟩:GStream) _ hf53) (nlc (NLt.agg _ (nlcc (nlcc nl0))) nl0) (NLt.agg _ (nlcc (nlcc nl0)))),ag_ (awk (rd':=(.func 38,(.fn (.func 38) [] []))::[(.tmp 214,(.dat 4 ((y38:List GStream).map Qaa)))]) ⟨rfl,lrf,rfl,Less.acc,tv⟩ (apv Qul (Qix N y38 _ hf55) (nlc (nld Qac _) nl0) (NLt.agg _ (nlcc (nlcc nl0))))),ag_ (Qjb (ls:=[x54.Mass,x54.Heat,x54.Silica,x54.Gas]) (ks:=[x56.Mass,x56.Heat,x56.Silica,x56.Gas]) rfl rfl Zqc (by kernel_rfl) rfl rfl),tv⟩) fun q9_=>?_
           refine bfe h (fun hb57 h=>?_) fun hb57 h=>?_
           ·refine hpre (A:=(Qw4 x9 x17 y39 x49 p2 x51 x54 y38 x56)) (hap q9_ ⟨asb hb57 (amv rfl),tv⟩) fun q10_=>?_
            refine bfe h (fun hb58 h=>?_) fun hb58 h=>?_
            ·refine hpre (A:=(Qw3 x9 x17 y39 x49 p2 x51 x54 y38 x56 y40)) (hap q10_ ⟨asb hb58 (amv rfl),tv⟩) fun q11_=>?_
             refine bfe h (fun hb59 h=>?_) fun hb59 h=>?_
             ·refine hpre (A:=(Qsg x9 x17 y39 x49 p2 x51 x54 y38 x56 y40 y41)) (hap q11_ ⟨asb hb59 (amv rfl),tv⟩) fun q12_=>?_
              refine bfe h (fun hb60 h=>?_) fun hb60 h=>?_
              ·refine bfe h (fun hb61 h=>?_) fun hb61 h=>?_
               ·obtain ⟨x63,hf62,h⟩:=bno h
                exact wx tbk (hcat (Qsg x9 x17 y39 x49 p2 x51 x54 y38 x56 y40 y41) [(47,rp [(.tmp 238,(B ((x9.2.2.1.Gas==y42))))] (B true)),(54,rp [(.tmp 245,(B ((x9.2.2.1.Scale==y43))))] (B true)),(55,rp [(.tmp 246,B true),fu 15] (B x63))]) (hap q12_ ⟨asb hb60 (amv rfl),asb hb61 (amv rfl),ag_ (apv Qyp (Qi6 2000  _ hf62) nl0 nll),tv⟩)<|Qaf<|frb h
               ·exact wx tbk (hcat (Qsg x9 x17 y39 x49 p2 x51 x54 y38 x56 y40 y41) [(47,rp [(.tmp 238,(B ((x9.2.2.1.Gas==y42))))] (B true)),(54,rp [(.tmp 245,(B ((x9.2.2.1.Scale==y43))))] (B false))]) (hap q12_ ⟨asb hb60 (amv rfl),asb hb61 (amv rfl),tv⟩)<|Qaf<|frb h
              ·exact wx tbk (hcat (Qsg x9 x17 y39 x49 p2 x51 x54 y38 x56 y40 y41) [(47,rp [(.tmp 238,(B ((x9.2.2.1.Gas==y42))))] (B false))]) (hap q12_ ⟨asb hb60 (amv rfl),tv⟩)<|Qaf<|frb h
             ·exact wx tbk (hcat (Qw3 x9 x17 y39 x49 p2 x51 x54 y38 x56 y40) [(40,rp [(.tmp 231,(B ((x9.2.2.1.Silica==y41))))] (B false))]) (hap q11_ ⟨asb hb59 (amv rfl),tv⟩)<|Qaf<|frb h
            ·exact wx tbk (hcat (Qw4 x9 x17 y39 x49 p2 x51 x54 y38 x56) [(33,rp [(.tmp 224,(B ((x9.2.2.1.Heat==y40))))] (B false))]) (hap q10_ ⟨asb hb58 (amv rfl),tv⟩)<|Qaf<|frb h
           ·exact wx tbk (hcat (Qw5 x9 x17 y39 x49 p2 x51 x54 y38 x56) [(26,rp [(.tmp 217,(B ((([x54.Mass,x54.Heat,x54.Silica,x54.Gas]:List Int)==[x56.Mass,x56.Heat,x56.Silica,x56.Gas]))))] (B false))]) (hap q9_ ⟨asb hb57 (amv rfl),tv⟩)<|Qaf<|frb h
          ·exact wx tbk (hcat (Qw6 x9 x17 y39 x49 p2 x51) [(19,rp [(.tmp 210,(B ((([x49.Mass,x49.Heat,x49.Silica,x49.Gas]:List Int)==[x51.Mass,x51.Heat,x51.Silica,x51.Gas]))))] (B false))]) (hap q8_ ⟨asb hb52 (amv rfl),tv⟩)<|Qaf<|frb h
         ·exact wx tbk (hcat (Qw7 x9 x17) [(12,rp [(.tmp 203,(B ((y39==(x17.1.length:Int)))))] (B false))]) (hap q7_ ⟨asb hb47 (amv rfl),tv⟩)<|Qaf<|frb h
        ·exact wx tbk (hcat (Qw8 x9) [(6,rp [(.tmp 197,(B ((x17.2==0))))] (B false))]) (hap q6_ ⟨asb hb46 (amv rfl),tv⟩)<|Qaf<|frb h
       ·exact wx tbk [(2,rp [(.tmp 193,(B ((x9.2.2.2==0))))] (B false))] ⟨asb hb45 (amv rfl),tv⟩<|Qaf<|frb h
      ·skip
       refine wxz<|Qaj ?_
       refine wmr (mto (n:=249) (l':=[(2,(Qg7 p2)),(7,.ref 0 4 0 0),(8,.ref 1 4 0 0),(9,.ref 2 4 0 0),(10,I x9.2.2.2),(11,(Qfl x17)),(12,I x17.2),(14,.ref 3 3 0 0),(16,(Q2m y36)),(19,.ref 5 4 0 0),(20,I 0),(21,I 0)]) (own':=[(Qho x9),(Qhn x9),(Qhm x9),(Qkg y21 y22 y23),.tok,Za9]) [(2,(Qg7 p2)),(7,.ref 0 4 0 0),(8,.ref 1 4 0 0),(9,.ref 2 4 0 0),(10,I x9.2.2.2),(11,(Qfl x17)),(12,I x17.2),(14,.ref 3 3 0 0),(16,(Q2m y36)),(19,.ref 5 4 0 0),(20,I 0),(21,I 0)] [0,1,2,3,4,5] [(Qho x9),(Qhn x9),(Qhm x9),(Qkg y21 y22 y23),.tok,Za9] hφ0 (pc (rnd Qac) (prr (prr (prr (pw (pc (rnd Qgi) (pw (prr (pc (.rn (Qaw rfl (Qas Qac _))) (prr (pw (pw pn)))))))))))) (qb (lcc (lcc ln)) (qb (lcc (lcc ln)) (qb (lcc (lcc ln)) (qb (lc (rnd Qam) (lc (rnd Qau) (lc (rnd Qae) ln))) (qc .tok (qb (lcc (lcc ln)) qn))))))) ?_
       refine Qbt (τ:=(List GStream)×Int×Int×Int×Int×Int×Int) (fun n t=>Qcd N x17 y22 k44 n t.1 t.2.1 t.2.2.1 t.2.2.2.1 t.2.2.2.2.1 t.2.2.2.2.2.1 t.2.2.2.2.2.2=some r) (fun ⟨y64,y65,y66,y67,y68,y69,y70⟩=>⟨mk 249 [(2,(Qg7 p2)),(7,.ref 0 4 0 0),(8,.ref 1 4 0 0),(9,.ref 2 4 0 0),(10,I x9.2.2.2),(11,(Qfl x17)),(12,I x17.2),(14,.ref 3 3 0 0),(16,(Qwy y64)),(19,.ref 5 4 0 0),(20,I y65),(21,I y66)],[(Qho x9),(Qhn x9),(Qhm x9),(Qkg y21 y22 y23),.tok,(.own 4 [[I y67,I y68,I y69,I y70]])]⟩) (fun t h=>by rw [Qcd] at h; cases h) (fun n78 ih t h=>?_) N (y36,0,0,0,0,0,0) h
       obtain ⟨y64,y65,y66,y67,y68,y69,y70⟩:=t
       rw [Qcd] at h
       skip
       refine wsq<|wx tbk [(3,rp [(.tmp 133,(Q2n y22))] (I ((y22.length:Int))))] ⟨alm (c:=Qa0) (l:=y22) (aln rfl Tryz.underlying50 rfl),tv⟩ ?_
       refine bfe h (fun hc79 h=>?_) fun hc79 h=>?_
       ·refine wft hc79<|Qan<|thn<|wsq<|Qaj ?_
        obtain ⟨x80,hg81,h⟩:=bno h
        obtain ⟨hi82,hj83⟩:=gsm hg81
        refine wx tbk [(3,rp [(.tmp 139,(Q2n y22)),(.tmp 140,I y66)] (.dptr (Qa0 (x80)) 0))] ⟨aid rfl Tryz.underlying50 ti90 rfl rfl hi82 (mgt Qa0 hj83) rfl,tv⟩ ?_
        refine wx tbk [(20,rp [(.tmp 147,(I (w64 (y67+x80.Heat)))),(.tmp 152,(I (w64 (y68+x80.Silica)))),(.tmp 157,(I (w64 (y69+x80.Gas)))),(.tmp 162,(I (w64 (y70+x80.Scale))))] (.agg [(I (w64 (y67+x80.Heat))),(I (w64 (y68+x80.Silica))),(I (w64 (y69+x80.Gas))),(I (w64 (y70+x80.Scale)))]))] ⟨Qaz (vs:=[(I (w64 (y67+x80.Heat))),(I (w64 (y68+x80.Silica))),(I (w64 (y69+x80.Gas))),(I (w64 (y70+x80.Scale)))]) rfl ts90 tz90 rfl (by rfl) rfl,tv⟩<|wxz ?_
        refine bfe h (fun hc84 h=>?_) fun hc84 h=>?_
        ·refine wft hc84<|wsq ?_
         refine hpre (A:=(Qw2 x17)) ⟨alm (c:=Qfg) (l:=x17.1) (aln rfl Tryz.underlying85 rfl),tv⟩ fun q13_=>?_
         refine bfe h (fun hb85 h=>?_) fun hb85 h=>?_
         ·refine wxd tbk (hcat (Qw2 x17) [(4,rp [(.tmp 170,(B ((decide (y65≥(x17.1.length:Int))))))] (B true))]) (hap q13_ ⟨asb hb85 (amv rfl),tv⟩)<|wtr<|wxz<|Qaf<|Qag<|Qaq<|Qag<|Qag<|Qaq<|Qag ?_
          exact frb h
         ·obtain ⟨x86,hg87,h⟩:=bno h
          obtain ⟨hi88,hj89⟩:=gsm hg87
          refine hpre (A:=(Qw1 x17 y65 x86)) (hap q13_ ⟨asb hb85 (amv rfl),ag_ (aid rfl Tryz.underlying85 ti92 rfl rfl hi88 (mgt Qfg hj89) rfl),tv⟩) fun q14_=>?_
          refine bfe h (fun hb90 h=>?_) fun hb90 h=>?_
          ·refine wxd tbk (hcat (Qw1 x17 y65 x86) [(13,rp [(.tmp 179,(B ((x86.Element != y66))))] (B true))]) (hap q14_ ⟨asb hb90 (amv rfl),tv⟩)<|wtr<|wxz<|Qaf<|Qag<|Qaq<|Qag<|Qag<|Qaq<|Qag ?_
           exact frb h
          ·refine wxd tbk (hcat (Qw1 x17 y65 x86) [(13,rp [(.tmp 179,(B ((x86.Element != y66))))] (B false)),(16,rp [(.tmp 180,B false),(.tmp 181,(Qfl x17)),(.tmp 182,I y65)] (.dptr (Qfg (x86)) 0))]) (hap q14_ ⟨asb hb90 (amv rfl),ag_ (aid rfl Tryz.underlying85 ti92 rfl rfl hi88 (mgt Qfg hj89) rfl),tv⟩) ?_
           refine bfe h (fun hc91 h=>?_) fun hc91 h=>?_
           ·exact wft hc91<|wxz<|Qaf<|Qag<|Qaq<|Qag<|Qag<|Qaq<|Qag<|frb h
           ·exact wfn hc91<|Qan<|thn<|wxz1<|bln<|thn<|wxz1<|thn<|arm (mto (n:=249) [(2,(Qg7 p2)),(7,.ref 0 4 0 0),(8,.ref 1 4 0 0),(9,.ref 2 4 0 0),(10,I x9.2.2.2),(11,(Qfl x17)),(12,I x17.2),(14,.ref 3 3 0 0),(16,(Qwy y64)),(19,.ref 5 4 0 0),(20,(I (w64 (y65+1)))),(21,(I (w64 (y66+1))))] [0,1,2,3,4,5] [(Qho x9),(Qhn x9),(Qhm x9),(Qkg y21 y22 y23),.tok,(.own 4 [[(I (w64 (y67+x80.Heat))),(I (w64 (y68+x80.Silica))),(I (w64 (y69+x80.Gas))),(I (w64 (y70+x80.Scale)))]])] hφ0 (pc (rnd Qac) (prr (prr (prr (pw (pc (rnd Qgi) (pw (prr (pc (.rn (Qaw rfl (Qas Qac _))) (prr (pw (pw pn)))))))))))) (qb (lcc (lcc ln)) (qb (lcc (lcc ln)) (qb (lcc (lcc ln)) (qb (lc (rnd Qam) (lc (rnd Qau) (lc (rnd Qae) ln))) (qc .tok (qb (lcc (lcc ln)) qn))))))) (ih (y64,w64 (y65+1),w64 (y66+1),w64 (y67+x80.Heat),w64 (y68+x80.Silica),w64 (y69+x80.Gas),w64 (y70+x80.Scale)) h)
        ·exact wfn hc84<|Qan<|bln<|thn<|wxz1<|thn<|arm (mto (n:=249) [(2,(Qg7 p2)),(7,.ref 0 4 0 0),(8,.ref 1 4 0 0),(9,.ref 2 4 0 0),(10,I x9.2.2.2),(11,(Qfl x17)),(12,I x17.2),(14,.ref 3 3 0 0),(16,(Qwy y64)),(19,.ref 5 4 0 0),(20,I y65),(21,(I (w64 (y66+1))))] [0,1,2,3,4,5] [(Qho x9),(Qhn x9),(Qhm x9),(Qkg y21 y22 y23),.tok,(.own 4 [[(I (w64 (y67+x80.Heat))),(I (w64 (y68+x80.Silica))),(I (w64 (y69+x80.Gas))),(I (w64 (y70+x80.Scale)))]])] hφ0 (pc (rnd Qac) (prr (prr (prr (pw (pc (rnd Qgi) (pw (prr (pc (.rn (Qaw rfl (Qas Qac _))) (prr (pw (pw pn)))))))))))) (qb (lcc (lcc ln)) (qb (lcc (lcc ln)) (qb (lcc (lcc ln)) (qb (lc (rnd Qam) (lc (rnd Qau) (lc (rnd Qae) ln))) (qc .tok (qb (lcc (lcc ln)) qn))))))) (ih (y64,y65,w64 (y66+1),w64 (y67+x80.Heat),w64 (y68+x80.Silica),w64 (y69+x80.Gas),w64 (y70+x80.Scale)) h)
       ·exact wfn hc79<|Qbd<|Qax<|Qax<|Qbc rfl<|thn<|⟨(y64,y65,y67,y68,y69,y70),h,(mto (n:=249) [(2,(Qg7 p2)),(7,.ref 0 4 0 0),(8,.ref 1 4 0 0),(9,.ref 2 4 0 0),(10,I x9.2.2.2),(11,(Qfl x17)),(12,I x17.2),(16,(Qwy y64)),(19,.ref 5 4 0 0),(20,I y65)] [0,1,2,4,5] [(Qho x9),(Qhn x9),(Qhm x9),.tok,(.own 4 [[I y67,I y68,I y69,I y70]])] hφ0 (pc (rnd Qac) (prr (prr (prr (pw (pc (rnd Qgi) (pw (pc (.rn (Qaw rfl (Qas Qac _))) (prr (pw pn)))))))))) (qb (lcc (lcc ln)) (qb (lcc (lcc ln)) (qb (lcc (lcc ln)) (qc .tok (qb (lcc (lcc ln)) qn))))))⟩
     ·skip
      refine wxz<|Qaj ?_
      refine wmr (Mor.trans (Qlu 5 89 4 16 (by kernel_rfl) (by kernel_rfl)) (mto (n:=249) (l':=[(2,(Qg7 p2)),(7,.ref 0 4 0 0),(8,.ref 1 4 0 0),(9,.ref 2 4 0 0),(10,I x9.2.2.2),(11,(Qfl x17)),(12,I x17.2),(14,.ref 3 3 0 0),(16,(.acc 4 89 4 ((([]):List GStream).map Qaa))),(17,(Qnb x35)),(18,I 0)]) (own':=[(Qho x9),(Qhn x9),(Qhm x9),(Qkg y21 y22 y23),.tok]) [(2,(Qg7 p2)),(7,.ref 1 4 0 0),(8,.ref 2 4 0 0),(9,.ref 3 4 0 0),(10,I x9.2.2.2),(11,(Qfl x17)),(12,I x17.2),(14,.ref 4 3 0 0),(16,(.acc 5 89 4 (([]:List GStream).map Qaa))),(17,(Qnb x35)),(18,I 0)] [1,2,3,4,5] [(Qho x9),(Qhn x9),(Qhm x9),(Qkg y21 y22 y23),.tok] hφ0 (pc (rnd Qac) (prr (prr (prr (pw (pc (rnd Qgi) (pw (prr (pc (.rn (Qaw rfl (Qas Qac _))) (pc (rnd Qay) (pw pn))))))))))) (qb (lcc (lcc ln)) (qb (lcc (lcc ln)) (qb (lcc (lcc ln)) (qb (lc (rnd Qam) (lc (rnd Qau) (lc (rnd Qae) ln))) (qc .tok qn))))))) ?_
      refine Qbt (τ:=(List GStream)×Int) (fun n t=>Qcp N y21 x35 k37 n t.1 t.2=some r) (fun ⟨y92,y93⟩=>⟨mk 249 [(2,(Qg7 p2)),(7,.ref 0 4 0 0),(8,.ref 1 4 0 0),(9,.ref 2 4 0 0),(10,I x9.2.2.2),(11,(Qfl x17)),(12,I x17.2),(14,.ref 3 3 0 0),(16,(Q2l y92)),(17,(Qnb x35)),(18,I y93)],[(Qho x9),(Qhn x9),(Qhm x9),(Qkg y21 y22 y23),.tok]⟩) (fun t h=>by rw [Qcp] at h; cases h) (fun n96 ih t h=>?_) N ([],0) h
      obtain ⟨y92,y93⟩:=t
      rw [Qcp] at h
      skip
      refine wsq<|wx tbk [(2,rp [(.tmp 107,(Qnb x35))] (I ((x35.length:Int))))] ⟨alm (c:=Qap) (l:=x35) (aln rfl Tryz.underlying57 rfl),tv⟩ ?_
      refine bfe h (fun hc97 h=>?_) fun hc97 h=>?_
      ·refine wft hc97<|Qan<|thn<|wsq<|Qaj ?_
       obtain ⟨x98,hg99,h⟩:=bno h
       obtain ⟨hi100,hj101⟩:=gsm hg99
       obtain ⟨x102,hg103,h⟩:=bno h
       obtain ⟨hi104,hj105⟩:=gsm hg103
       obtain ⟨x106,hg107,h⟩:=bno h
       obtain ⟨hi108,hj109⟩:=gsm hg107
       obtain ⟨ha110,h⟩:=cko h
       refine wy1 tbk [(5,rp [(.tmp 115,(Qnb x35)),(.tmp 116,I y93)] (.dptr (Qap (x98)) 0)),(8,rp [(.tmp 114,(.dat 1 ((y21:List (List GStream)).map Qak))),(.tmp 119,I x98.Element)] (.dptr (Qak (x102)) 0)),(12,rp [(.tmp 122,(Qnb x35)),(.tmp 123,I y93)] (.dptr (Qap (x98)) 0)),(15,rp [(.tmp 121,(.dat 4 ((x102:List GStream).map Qaa))),(.tmp 126,I x98.Outlet)] (.dptr (Qaa (x106)) 0)),(17,rp [(.tmp 128,(Q5c x106))] (.dat 4 (([x106]:List GStream).map Qaa))),(18,⟨[(.tmp 112,(Q2l y92)),(.tmp 129,(.dat 4 (([x106]:List GStream).map Qaa)))],[(4,.tok),(5,.unused)],(.acc 5 89 4 ((y92++([x106]):List GStream).map Qaa)),[(4,.dead),(5,.tok)],false⟩)] ⟨aid rfl Tryz.underlying57 ti61 rfl rfl hi100 (mgt Qap hj101) rfl,aid rfl Tryz.underlying49 ti28 rfl rfl hi104 (mgt Qak hj105) rfl,aid rfl Tryz.underlying57 ti61 rfl rfl hi100 (mgt Qap hj101) rfl,aid rfl Tryz.underlying28 ti89 rfl rfl hi108 (mgt Qaa hj109) rfl,Qbe (vs:=[(Q5c x106)]) rfl Tryz.underlying28 ti89 tz89 rfl (by decide) rfl (by decide) (by rfl) (by rfl) (by rfl) rfl,Qdj rfl Tryz.underlying28 te89 (Base.acc _ _) rfl rfl (by rfl) (Qf4 Qaa ha110) (Qf3 Qaa ha110 (by decide)) (Qf2 Qaa) rfl rfl,tv⟩<|bln<|thn<|wxz1<|thn ?_
       exact arm (mto (n:=249) [(2,(Qg7 p2)),(7,.ref 0 4 0 0),(8,.ref 1 4 0 0),(9,.ref 2 4 0 0),(10,I x9.2.2.2),(11,(Qfl x17)),(12,I x17.2),(14,.ref 3 3 0 0),(16,(.acc 5 89 4 ((y92++([x106]):List GStream).map Qaa))),(17,(Qnb x35)),(18,(I (w64 (y93+1))))] [0,1,2,3,5] [(Qho x9),(Qhn x9),(Qhm x9),(Qkg y21 y22 y23),.tok] hφ0 (pc (rnd Qac) (prr (prr (prr (pw (pc (rnd Qgi) (pw (prr (pc (.rn (Qaw rfl (Qas Qac _))) (pc (rnd Qay) (pw pn))))))))))) (qb (lcc (lcc ln)) (qb (lcc (lcc ln)) (qb (lcc (lcc ln)) (qb (lc (rnd Qam) (lc (rnd Qau) (lc (rnd Qae) ln))) (qc .tok qn)))))) (ih (y92++([x106]),w64 (y93+1)) h)
      ·exact wfn hc97<|Qbd<|Qax<|Qax<|Qbc rfl<|thn<|⟨(y92),h,(mto (n:=249) [(2,(Qg7 p2)),(7,.ref 0 4 0 0),(8,.ref 1 4 0 0),(9,.ref 2 4 0 0),(10,I x9.2.2.2),(11,(Qfl x17)),(12,I x17.2),(14,.ref 3 3 0 0),(16,(Q2l y92))] [0,1,2,3,4] [(Qho x9),(Qhn x9),(Qhm x9),(Qkg y21 y22 y23),.tok] hφ0 (pc (rnd Qac) (prr (prr (prr (pw (pc (rnd Qgi) (pw (prr (pc (.rn (Qaw rfl (Qas Qac _))) pn))))))))) (qb (lcc (lcc ln)) (qb (lcc (lcc ln)) (qb (lcc (lcc ln)) (qb (lc (rnd Qam) (lc (rnd Qau) (lc (rnd Qae) ln))) (qc .tok qn))))))⟩
   ·skip
    refine wxz ?_
    refine bfe h (fun hc111 h=>?_) fun hc111 h=>?_
    ·refine wft hc111<|wxz ?_
     obtain ⟨x113,hf112,h⟩:=bno h
     refine wx tbk [(3,rp [fu 22,(.tmp 62,(Qvo p0)),(.tmp 63,(Qsy p1)),(.tmp 64,(Qg7 p2))] (.tup [(.agg [(Qxg x113),(Qxf x113),(.dat 1 ((x113.1.State:List Int).map Qal))]),I x113.2.1,I x113.2.2]))] ⟨apv Zn0 (Q0e N p0 p1 p2 _ hf112) (nlc (NLt.agg _ (nlc (nld Qai _) (nlc (nld Qab _) nl0))) (nlc (nld Qae _) (nlc (nld Qac _) nl0))) (NLt.tup _ (nlc (NLt.agg _ (nlc (nld Qam _) (nlc (nld Qau _) (nlc (nld Qae _) nl0)))) (nlcc nl0))),tv⟩<|wxz ?_
     refine bfe h (fun hc114 h=>?_) fun hc114 h=>?_
     ·exact wft hc114<|wxz1<|thn<|⟨(11,x113.1.Out,x113.1.Lost,x113.1.State),h,(mto (n:=249) [(2,(Qg7 p2)),(3,.ref 0 2 0 0),(7,.ref 1 4 0 0),(8,.ref 2 4 0 0),(9,.ref 3 4 0 0),(10,I x9.2.2.2),(11,(Qfl x17)),(12,I x17.2),(13,I 11),(14,.ref 4 3 0 0)] [0,1,2,3,4] [(Qvp p0),(Qho x9),(Qhn x9),(Qhm x9),(.own 3 [[(Qxg x113),(Qxf x113),(.dat 1 ((x113.1.State:List Int).map Qal))]])] hφ0 (pc (rnd Qac) (prr (prr (prr (prr (pw (pc (rnd Qgi) (pw (pw (prr pn)))))))))) (qb (lc (rnd Qai) (lc (rnd Qab) ln)) (qb (lcc (lcc ln)) (qb (lcc (lcc ln)) (qb (lcc (lcc ln)) (qb (lc (rnd Qam) (lc (rnd Qau) (lc (rnd Qae) ln))) qn))))))⟩
     ·exact wfn hc114<|Qan<|thn<|⟨(x19,x113.1.Out,x113.1.Lost,x113.1.State),h,(mto (n:=249) [(2,(Qg7 p2)),(3,.ref 0 2 0 0),(7,.ref 1 4 0 0),(8,.ref 2 4 0 0),(9,.ref 3 4 0 0),(10,I x9.2.2.2),(11,(Qfl x17)),(12,I x17.2),(13,I x19),(14,.ref 4 3 0 0)] [0,1,2,3,4] [(Qvp p0),(Qho x9),(Qhn x9),(Qhm x9),(.own 3 [[(Qxg x113),(Qxf x113),(.dat 1 ((x113.1.State:List Int).map Qal))]])] hφ0 (pc (rnd Qac) (prr (prr (prr (prr (pw (pc (rnd Qgi) (pw (pw (prr pn)))))))))) (qb (lc (rnd Qai) (lc (rnd Qab) ln)) (qb (lcc (lcc ln)) (qb (lcc (lcc ln)) (qb (lcc (lcc ln)) (qb (lc (rnd Qam) (lc (rnd Qau) (lc (rnd Qae) ln))) qn))))))⟩
    ·exact wfn hc111<|Qan<|thn<|⟨(x19,[],[],[]),h,(mto (n:=249) [(2,(Qg7 p2)),(3,.ref 0 2 0 0),(7,.ref 1 4 0 0),(8,.ref 2 4 0 0),(9,.ref 3 4 0 0),(10,I x9.2.2.2),(11,(Qfl x17)),(12,I x17.2),(13,I x19),(14,.ref 4 3 0 0)] [0,1,2,3,4] [(Qvp p0),(Qho x9),(Qhn x9),(Qhm x9),(.own 3 [[nilS,nilS,nilS]])] hφ0 (pc (rnd Qac) (prr (prr (prr (prr (pw (pc (rnd Qgi) (pw (pw (prr pn)))))))))) (qb (lc (rnd Qai) (lc (rnd Qab) ln)) (qb (lcc (lcc ln)) (qb (lcc (lcc ln)) (qb (lcc (lcc ln)) (qb (lc (.nil _) (lc (.nil _) (lc (.nil _) ln))) qn))))))⟩
  ·skip
   obtain ⟨x116,hf115,h⟩:=bno h
   refine hpre (A:=(Qw0 p0 p2 x116)) ⟨apv Zn2 (Qyg N p0 p2 _ hf115) (nlc (NLt.agg _ (nlc (nld Qai _) (nlc (nld Qab _) nl0))) (nlc (nld Qac _) nl0)) nll,tv⟩ fun q15_=>?_
   refine bfe h (fun hb117 h=>?_) fun hb117 h=>?_
   ·refine wx tbk (hcat (Qw0 p0 p2 x116) [(4,rp [(.tmp 26,(B ((!x116))))] (B true))]) (hap q15_ ⟨asb hb117 (amv rfl),tv⟩)<|wtr ?_
    obtain ⟨x119,hf118,h⟩:=bno h
    exact wx tbk [(0,rp [fu 15] (B x119))] ⟨apv Qyp (Qi6 2000  _ hf118) nl0 nll,tv⟩<|Qaf<|Qag<|frb h
   ·refine wx tbk (hcat (Qw0 p0 p2 x116) [(4,rp [(.tmp 26,(B ((!x116))))] (B false)),(6,rp [(.tmp 27,B false),(.tmp 28,(Qsy p1))] (I ((p1.length:Int))))]) (hap q15_ ⟨asb hb117 (amv rfl),ag_ (alm (c:=Qal) (l:=p1) (aln rfl Tryz.underlying27 rfl)),tv⟩) ?_
    refine bfe h (fun hc120 h=>?_) fun hc120 h=>?_
    ·refine wft hc120 ?_
     obtain ⟨x122,hf121,h⟩:=bno h
     exact wx tbk [(0,rp [fu 15] (B x122))] ⟨apv Qyp (Qi6 2000  _ hf121) nl0 nll,tv⟩<|Qaf<|Qag<|frb h
    ·exact wfn hc120<|Qan<|thn<|⟨(),h,(mto (n:=249) [(1,(Qsy p1)),(2,(Qg7 p2)),(3,.ref 0 2 0 0)] [0] [(Qvp p0)] hφ0 (pc (rnd Qae) (pc (rnd Qac) (prr pn))) (qb (lc (rnd Qai) (lc (rnd Qab) ln)) qn))⟩
end Go.Proofs.YtmbhnllcfmiajaaGreat
