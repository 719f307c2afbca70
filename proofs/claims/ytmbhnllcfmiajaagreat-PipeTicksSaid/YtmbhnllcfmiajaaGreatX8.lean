/-
  Functions of the program: what they compute, as plain functions, and that they do. No conditions.
-/
import Derived.Test.YtmbhnllcfmiajaaGreatX7
namespace Go.Proofs.YtmbhnllcfmiajaaGreat
set_option maxRecDepth 100000
set_option maxHeartbeats 4000000
open Go.RowKit
def Qgw (_N:Nat) (p0:GTick):Option Bool:=
  (some (w64 ((w64 ((p0.Out.length:Int)+(p0.Lost.length:Int)))+(p0.State.length:Int)))).bind fun x1=>
  some (x1==0)
def Zlz (p0:GTick):AV:=.dat 1 ((p0.Out:List (List GStream)).map Qaf)
def Zly (p0:GTick):AV:=.dat 4 ((p0.Lost:List GLost).map Qaw)
def Zlx (p0:GTick):AV:=.dat 1 ((p0.State:List Int).map Qak)
theorem Qiq (N:Nat) (p0:GTick) (r:Bool) (h:Qgw N p0=some r):Spec Tryz.prog 21 [(.agg (Qxz p0))] [] (B r) []:=by
  refine Qai Tryz.func21 rfl 0 (nle rfl) (fun X φ0 w0 hφ0 hd0=>?_)
  unfold Qgw at h
  refine wxz ?_
  obtain ⟨x1,hl2,h⟩:=bno h
  refine wx tbk [(2,rp [(.tmp 4,(Zlz p0))] (I ((p0.Out.length:Int)))),(5,rp [(.tmp 7,(Zly p0))] (I ((p0.Lost.length:Int)))),(9,rp [(.tmp 11,(Zlx p0))] (I ((p0.State.length:Int)))),(10,rp [(.tmp 9,(I (w64 ((p0.Out.length:Int)+(p0.Lost.length:Int))))),(.tmp 12,(I ((p0.State.length:Int))))] (I x1))] ⟨alm (c:=Qaf) (l:=p0.Out) (aln rfl Tryz.underlying31 rfl),alm (c:=Qaw) (l:=p0.Lost) (aln rfl Tryz.underlying32 rfl),alm (c:=Qak) (l:=p0.State) (aln rfl Tryz.underlying27 rfl),Qgy hl2 (abn rfl rfl),trivial⟩ ?_
  refine Qag ?_
  obtain rfl:=osi h
  exact fend ⟨[(B ((x1==0)))],⟨rot,trivial⟩,rfl⟩ nll
def Qhu (N:Nat) (p0:GNet) (p1:(List Int)) (p2:(List GStream)):Option Bool:=
  Qbf (fun _=>
    (Qlv N p0).bind fun x3=>
    (Qkw N p1).bind fun x5=>
    (Qhs N p2).bind fun x7=>
    (Qnr N x3 x5 x7).bind fun x9=>
    (Qju N p0 p1 p2).bind fun x11=>
    bif (x11 != 0) then
     bif (x9.2.2==x11) then
      bif (x9.2.1==0) then
       (Qgw N (⟨x9.1.Out,x9.1.Lost,x9.1.State⟩:GTick)).bind fun x16=>
       bif x16 then
        (Qgv 2000 ).bind fun x19=>
        some x19
       else
        some false
      else
       some false
     else
      some false
    else
     (Qna N p0 p1 p2).bind fun x21=>
     bif (decide (x21.2.2≥0)) then
      bif (x9.2.2==11) then
       bif (x9.2.1==x21.2.2) then
        (Qgw N (⟨x9.1.Out,x9.1.Lost,x9.1.State⟩:GTick)).bind fun x26=>
        bif x26 then
         (Qgv 2000 ).bind fun x29=>
         some x29
        else
         some false
       else
        some false
      else
       some false
     else
      bif (x9.2.2==0) then
       bif (x9.2.1==0) then
        (Qkv N (⟨x9.1.Out,x9.1.Lost,x9.1.State⟩:GTick) (⟨x21.1.Out,x21.1.Lost,x21.1.State⟩:GTick)).bind fun x33=>
        bif x33 then
         (Qgv 2000 ).bind fun x36=>
         some x36
        else
         some false
       else
        some false
      else
       some false) fun k1:Unit→Option Bool=>
  (Qkg N p0 p2).bind fun x38=>
  bif (!x38) then
   (Qgv 2000 ).bind fun x41=>
   some x41
  else
   bif (decide ((p1.length:Int)>25)) then
    (Qgv 2000 ).bind fun x44=>
    some x44
   else
    k1 ()
def Qpa (p1:(List Int)):AV:=.dat 1 ((p1:List Int).map Qak)
def Qml (p2:(List GStream)):AV:=.dat 4 ((p2:List GStream).map Qaa)
def Q85 (p0:GNet):AV:=.dat 5 ((p0.Table:List GRow).map Qa0)
def Q84 (p0:GNet):AV:=.dat 7 ((p0.Elements:List GElement).map Qad)
def Qod (p0:GNet):AV:=.agg [(Q85 p0),(Q84 p0)]
def Q83 (x3:GNet):AV:=.agg [(.dat 5 ((x3.Table:List GRow).map Qa0)),(.dat 7 ((x3.Elements:List GElement).map Qad))]
def Q82 (x5:(List Int)):AV:=.dat 1 ((x5:List Int).map Qak)
def Q1i (x7:(List GStream)):AV:=.dat 4 ((x7:List GStream).map Qaa)
def Qiz (x9:(GTick×Int×Int)):AV:=.agg [(.dat 1 ((x9.1.Out:List (List GStream)).map Qaf)),(.dat 4 ((x9.1.Lost:List GLost).map Qaw)),(.dat 1 ((x9.1.State:List Int).map Qak))]
def Qsu (x21:(GTick×Int×Int)):AV:=.agg [(.dat 1 ((x21.1.Out:List (List GStream)).map Qaf)),(.dat 4 ((x21.1.Lost:List GLost).map Qaw)),(.dat 1 ((x21.1.State:List Int).map Qak))]
theorem Qoy (N:Nat) (p0:GNet) (p1:(List Int)) (p2:(List GStream)) (r:Bool) (h:Qhu N p0 p1 p2=some r):Spec Tryz.prog 3 [(.agg (Qis p0)),(.dat 1 (p1.map Qak)),(.dat 4 (p2.map Qaa))] [] (B r) []:=by
  refine Qai Tryz.func3 rfl 0 (nle rfl) (fun X φ0 w0 hφ0 hd0=>?_)
  unfold Qhu at h
  refine wxz ?_
  obtain ⟨k1,hk_k1,h⟩:=jko h
  refine wjn (τ:=Unit) (fun t=>k1 t=some r) (fun _=>⟨mk 93 [(1,(Qpa p1)),(2,(Qml p2)),(3,.ref 0 2 0 0)],[(.own 2 [[(Q85 p0),(Q84 p0)]])]⟩) (fun t h=>?_) ?_
  ·subst hk_k1
   obtain ⟨x3,hf2,h⟩:=bno h
   obtain ⟨x5,hf4,h⟩:=bno h
   obtain ⟨x7,hf6,h⟩:=bno h
   obtain ⟨x9,hf8,h⟩:=bno h
   refine wx tbk [(1,rp [fu 17,(.tmp 25,(Qod p0))] (Q83 x3)),(3,rp [fu 18,(.tmp 27,(Qpa p1))] (Q82 x5)),(5,rp [fu 19,(.tmp 29,(Qml p2))] (Q1i x7)),(6,rp [fu 16,(.tmp 26,(Q83 x3)),(.tmp 28,(Q82 x5)),(.tmp 30,(Q1i x7))] (.tup [(Qiz x9),I x9.2.1,I x9.2.2]))] ⟨apc (first:=[]) (cap:=[]) (vs:=[(Qod p0)]) rfl Zkx (Qxi N p0 _ hf2) rfl rfl (nlc (NLt.agg _ (nlc (nld Qal _) (nlc (nld Qab _) nl0))) nl0) (NLt.agg _ (nlc (nld Qal _) (nlc (nld Qab _) nl0))) rfl,apc (first:=[]) (cap:=[]) (vs:=[(Qpa p1)]) rfl Zkw (Qu6 N p1 _ hf4) rfl rfl (nlc (nld Qae _) nl0) (nld Qae _) rfl,apc (first:=[]) (cap:=[]) (vs:=[(Qml p2)]) rfl Zkv (Qq9 N p2 _ hf6) rfl rfl (nlc (nld Qac _) nl0) (nld Qac _) rfl,apc (first:=[]) (cap:=[]) (vs:=[(Q83 x3),(Q82 x5),(Q1i x7)]) rfl Zbb (Qtq N x3 x5 x7 _ hf8) rfl rfl (nlc (NLt.agg _ (nlc (nld Qal _) (nlc (nld Qab _) nl0))) (nlc (nld Qae _) (nlc (nld Qac _) nl0))) (NLt.tup _ (nlc (NLt.agg _ (nlc (nld Qaj _) (nlc (nld Qaq _) (nlc (nld Qae _) nl0)))) (nlcc nl0))) rfl,trivial⟩ ?_
   refine wsq ?_
   obtain ⟨x11,hf10,h⟩:=bno h
   refine wx tbk [(3,rp [fu 20,(.tmp 35,(Qod p0)),(.tmp 36,(Qpa p1)),(.tmp 37,(Qml p2))] (I x11))] ⟨apc (first:=[]) (cap:=[]) (vs:=[(Qod p0),(Qpa p1),(Qml p2)]) rfl Zku (Qt3 N p0 p1 p2 _ hf10) rfl rfl (nlc (NLt.agg _ (nlc (nld Qal _) (nlc (nld Qab _) nl0))) (nlc (nld Qae _) (nlc (nld Qac _) nl0))) nll rfl,trivial⟩ ?_
   refine wxz ?_
   refine bfe h (fun hc12 h=>?_) fun hc12 h=>?_
   ·refine wft hc12 ?_
    refine bfe h (fun hb13 h=>?_) fun hb13 h=>?_
    ·refine bfe h (fun hb14 h=>?_) fun hb14 h=>?_
     ·obtain ⟨x16,hf15,h⟩:=bno h
      refine bfe h (fun hb17 h=>?_) fun hb17 h=>?_
      ·obtain ⟨x19,hf18,h⟩:=bno h
       refine wx tbk [(3,rp [(.tmp 43,(B ((x9.2.2==x11))))] (B true)),(7,rp [(.tmp 47,(B ((x9.2.1==0))))] (B true)),(9,rp [(.tmp 48,B true),fu 21,(.tmp 49,(Qiz x9))] (B x16)),(11,rp [(.tmp 51,B x16)] (B true)),(12,rp [(.tmp 52,B true),fu 15] (B x19))] ⟨asb hb13 (amv rfl),asb hb14 (amv rfl),ag_ (apc (first:=[]) (cap:=[]) (vs:=[(Qiz x9)]) rfl Qxs (Qiq N (⟨x9.1.Out,x9.1.Lost,x9.1.State⟩:GTick) _ hf15) rfl rfl (nlc (NLt.agg _ (nlc (nld Qaj _) (nlc (nld Qaq _) (nlc (nld Qae _) nl0)))) nl0) nll rfl),asb hb17 (amv rfl),ag_ (apc (first:=[]) (cap:=[]) (vs:=[]) rfl Quc (Qhb 2000  _ hf18) rfl rfl nl0 nll rfl),trivial⟩ ?_
       refine Qag ?_
       refine Qah ?_
       obtain rfl:=osi h
       exact fend ⟨[B x19],⟨rot,trivial⟩,rfl⟩ nll
      ·refine wx tbk [(3,rp [(.tmp 43,(B ((x9.2.2==x11))))] (B true)),(7,rp [(.tmp 47,(B ((x9.2.1==0))))] (B true)),(9,rp [(.tmp 48,B true),fu 21,(.tmp 49,(Qiz x9))] (B x16)),(11,rp [(.tmp 51,B x16)] (B false))] ⟨asb hb13 (amv rfl),asb hb14 (amv rfl),ag_ (apc (first:=[]) (cap:=[]) (vs:=[(Qiz x9)]) rfl Qxs (Qiq N (⟨x9.1.Out,x9.1.Lost,x9.1.State⟩:GTick) _ hf15) rfl rfl (nlc (NLt.agg _ (nlc (nld Qaj _) (nlc (nld Qaq _) (nlc (nld Qae _) nl0)))) nl0) nll rfl),asb hb17 (amv rfl),trivial⟩ ?_
       refine Qag ?_
       refine Qah ?_
       obtain rfl:=osi h
       exact fend ⟨[B false],⟨rot,trivial⟩,rfl⟩ nll
     ·refine wx tbk [(3,rp [(.tmp 43,(B ((x9.2.2==x11))))] (B true)),(7,rp [(.tmp 47,(B ((x9.2.1==0))))] (B false))] ⟨asb hb13 (amv rfl),asb hb14 (amv rfl),trivial⟩ ?_
      refine Qag ?_
      refine Qah ?_
      obtain rfl:=osi h
      exact fend ⟨[B false],⟨rot,trivial⟩,rfl⟩ nll
    ·refine wx tbk [(3,rp [(.tmp 43,(B ((x9.2.2==x11))))] (B false))] ⟨asb hb13 (amv rfl),trivial⟩ ?_
     refine Qag ?_
     refine Qah ?_
     obtain rfl:=osi h
     exact fend ⟨[B false],⟨rot,trivial⟩,rfl⟩ nll
   ·refine wfn hc12 ?_
    refine Qan ?_
    refine thn ?_
    obtain ⟨x21,hf20,h⟩:=bno h
    refine wx tbk [(3,rp [fu 22,(.tmp 56,(Qod p0)),(.tmp 57,(Qpa p1)),(.tmp 58,(Qml p2))] (.tup [(Qsu x21),I x21.2.1,I x21.2.2]))] ⟨apc (first:=[]) (cap:=[]) (vs:=[(Qod p0),(Qpa p1),(Qml p2)]) rfl Zkt (Qzj N p0 p1 p2 _ hf20) rfl rfl (nlc (NLt.agg _ (nlc (nld Qal _) (nlc (nld Qab _) nl0))) (nlc (nld Qae _) (nlc (nld Qac _) nl0))) (NLt.tup _ (nlc (NLt.agg _ (nlc (nld Qaj _) (nlc (nld Qaq _) (nlc (nld Qae _) nl0)))) (nlcc nl0))) rfl,trivial⟩ ?_
    refine wsq ?_
    refine wxz ?_
    refine bfe h (fun hc22 h=>?_) fun hc22 h=>?_
    ·refine wft hc22 ?_
     refine bfe h (fun hb23 h=>?_) fun hb23 h=>?_
     ·refine bfe h (fun hb24 h=>?_) fun hb24 h=>?_
      ·obtain ⟨x26,hf25,h⟩:=bno h
       refine bfe h (fun hb27 h=>?_) fun hb27 h=>?_
       ·obtain ⟨x29,hf28,h⟩:=bno h
        refine wx tbk [(2,rp [(.tmp 66,(B ((x9.2.2==11))))] (B true)),(7,rp [(.tmp 71,(B ((x9.2.1==x21.2.2))))] (B true)),(9,rp [(.tmp 72,B true),fu 21,(.tmp 73,(Qiz x9))] (B x26)),(11,rp [(.tmp 75,B x26)] (B true)),(12,rp [(.tmp 76,B true),fu 15] (B x29))] ⟨asb hb23 (amv rfl),asb hb24 (amv rfl),ag_ (apc (first:=[]) (cap:=[]) (vs:=[(Qiz x9)]) rfl Qxs (Qiq N (⟨x9.1.Out,x9.1.Lost,x9.1.State⟩:GTick) _ hf25) rfl rfl (nlc (NLt.agg _ (nlc (nld Qaj _) (nlc (nld Qaq _) (nlc (nld Qae _) nl0)))) nl0) nll rfl),asb hb27 (amv rfl),ag_ (apc (first:=[]) (cap:=[]) (vs:=[]) rfl Quc (Qhb 2000  _ hf28) rfl rfl nl0 nll rfl),trivial⟩ ?_
        refine Qag ?_
        refine Qah ?_
        obtain rfl:=osi h
        exact fend ⟨[B x29],⟨rot,trivial⟩,rfl⟩ nll
       ·refine wx tbk [(2,rp [(.tmp 66,(B ((x9.2.2==11))))] (B true)),(7,rp [(.tmp 71,(B ((x9.2.1==x21.2.2))))] (B true)),(9,rp [(.tmp 72,B true),fu 21,(.tmp 73,(Qiz x9))] (B x26)),(11,rp [(.tmp 75,B x26)] (B false))] ⟨asb hb23 (amv rfl),asb hb24 (amv rfl),ag_ (apc (first:=[]) (cap:=[]) (vs:=[(Qiz x9)]) rfl Qxs (Qiq N (⟨x9.1.Out,x9.1.Lost,x9.1.State⟩:GTick) _ hf25) rfl rfl (nlc (NLt.agg _ (nlc (nld Qaj _) (nlc (nld Qaq _) (nlc (nld Qae _) nl0)))) nl0) nll rfl),asb hb27 (amv rfl),trivial⟩ ?_
        refine Qag ?_
        refine Qah ?_
        obtain rfl:=osi h
        exact fend ⟨[B false],⟨rot,trivial⟩,rfl⟩ nll
      ·refine wx tbk [(2,rp [(.tmp 66,(B ((x9.2.2==11))))] (B true)),(7,rp [(.tmp 71,(B ((x9.2.1==x21.2.2))))] (B false))] ⟨asb hb23 (amv rfl),asb hb24 (amv rfl),trivial⟩ ?_
       refine Qag ?_
       refine Qah ?_
       obtain rfl:=osi h
       exact fend ⟨[B false],⟨rot,trivial⟩,rfl⟩ nll
     ·refine wx tbk [(2,rp [(.tmp 66,(B ((x9.2.2==11))))] (B false))] ⟨asb hb23 (amv rfl),trivial⟩ ?_
      refine Qag ?_
      refine Qah ?_
      obtain rfl:=osi h
      exact fend ⟨[B false],⟨rot,trivial⟩,rfl⟩ nll
    ·refine wfn hc22 ?_
     refine Qan ?_
     refine thn ?_
     refine bfe h (fun hb30 h=>?_) fun hb30 h=>?_
     ·refine bfe h (fun hb31 h=>?_) fun hb31 h=>?_
      ·obtain ⟨x33,hf32,h⟩:=bno h
       refine bfe h (fun hb34 h=>?_) fun hb34 h=>?_
       ·obtain ⟨x36,hf35,h⟩:=bno h
        refine wx tbk [(2,rp [(.tmp 80,(B ((x9.2.2==0))))] (B true)),(6,rp [(.tmp 84,(B ((x9.2.1==0))))] (B true)),(9,rp [(.tmp 85,B true),fu 23,(.tmp 86,(Qiz x9)),(.tmp 87,(Qsu x21))] (B x33)),(11,rp [(.tmp 89,B x33)] (B true)),(12,rp [(.tmp 90,B true),fu 15] (B x36))] ⟨asb hb30 (amv rfl),asb hb31 (amv rfl),ag_ (apc (first:=[]) (cap:=[]) (vs:=[(Qiz x9),(Qsu x21)]) rfl Zba (Qof N (⟨x9.1.Out,x9.1.Lost,x9.1.State⟩:GTick) (⟨x21.1.Out,x21.1.Lost,x21.1.State⟩:GTick) _ hf32) rfl rfl (nlc (NLt.agg _ (nlc (nld Qaj _) (nlc (nld Qaq _) (nlc (nld Qae _) nl0)))) (nlc (NLt.agg _ (nlc (nld Qaj _) (nlc (nld Qaq _) (nlc (nld Qae _) nl0)))) nl0)) nll rfl),asb hb34 (amv rfl),ag_ (apc (first:=[]) (cap:=[]) (vs:=[]) rfl Quc (Qhb 2000  _ hf35) rfl rfl nl0 nll rfl),trivial⟩ ?_
        refine Qag ?_
        obtain rfl:=osi h
        exact fend ⟨[B x36],⟨rot,trivial⟩,rfl⟩ nll
       ·refine wx tbk [(2,rp [(.tmp 80,(B ((x9.2.2==0))))] (B true)),(6,rp [(.tmp 84,(B ((x9.2.1==0))))] (B true)),(9,rp [(.tmp 85,B true),fu 23,(.tmp 86,(Qiz x9)),(.tmp 87,(Qsu x21))] (B x33)),(11,rp [(.tmp 89,B x33)] (B false))] ⟨asb hb30 (amv rfl),asb hb31 (amv rfl),ag_ (apc (first:=[]) (cap:=[]) (vs:=[(Qiz x9),(Qsu x21)]) rfl Zba (Qof N (⟨x9.1.Out,x9.1.Lost,x9.1.State⟩:GTick) (⟨x21.1.Out,x21.1.Lost,x21.1.State⟩:GTick) _ hf32) rfl rfl (nlc (NLt.agg _ (nlc (nld Qaj _) (nlc (nld Qaq _) (nlc (nld Qae _) nl0)))) (nlc (NLt.agg _ (nlc (nld Qaj _) (nlc (nld Qaq _) (nlc (nld Qae _) nl0)))) nl0)) nll rfl),asb hb34 (amv rfl),trivial⟩ ?_
        refine Qag ?_
        obtain rfl:=osi h
        exact fend ⟨[B false],⟨rot,trivial⟩,rfl⟩ nll
      ·refine wx tbk [(2,rp [(.tmp 80,(B ((x9.2.2==0))))] (B true)),(6,rp [(.tmp 84,(B ((x9.2.1==0))))] (B false))] ⟨asb hb30 (amv rfl),asb hb31 (amv rfl),trivial⟩ ?_
       refine Qag ?_
       obtain rfl:=osi h
       exact fend ⟨[B false],⟨rot,trivial⟩,rfl⟩ nll
     ·refine wx tbk [(2,rp [(.tmp 80,(B ((x9.2.2==0))))] (B false))] ⟨asb hb30 (amv rfl),trivial⟩ ?_
      refine Qag ?_
      obtain rfl:=osi h
      exact fend ⟨[B false],⟨rot,trivial⟩,rfl⟩ nll
  ·skip
   obtain ⟨x38,hf37,h⟩:=bno h
   refine bfe h (fun hb39 h=>?_) fun hb39 h=>?_
   ·refine wx tbk [(2,rp [fu 14,(.tmp 14,(Qod p0)),(.tmp 15,(Qml p2))] (B x38)),(4,rp [(.tmp 17,(B ((!x38))))] (B true))] ⟨apc (first:=[]) (cap:=[]) (vs:=[(Qod p0),(Qml p2)]) rfl Zbc (Qp2 N p0 p2 _ hf37) rfl rfl (nlc (NLt.agg _ (nlc (nld Qal _) (nlc (nld Qab _) nl0))) (nlc (nld Qac _) nl0)) nll rfl,asb hb39 (amv rfl),trivial⟩ ?_
    refine wtr ?_
    obtain ⟨x41,hf40,h⟩:=bno h
    refine wx tbk [(0,rp [fu 15] (B x41))] ⟨apc (first:=[]) (cap:=[]) (vs:=[]) rfl Quc (Qhb 2000  _ hf40) rfl rfl nl0 nll rfl,trivial⟩ ?_
    refine Qag ?_
    refine Qah ?_
    obtain rfl:=osi h
    exact fend ⟨[B x41],⟨rot,trivial⟩,rfl⟩ nll
   ·refine wx tbk [(2,rp [fu 14,(.tmp 14,(Qod p0)),(.tmp 15,(Qml p2))] (B x38)),(4,rp [(.tmp 17,(B ((!x38))))] (B false)),(6,rp [(.tmp 18,B false),(.tmp 19,(Qpa p1))] (I ((p1.length:Int))))] ⟨apc (first:=[]) (cap:=[]) (vs:=[(Qod p0),(Qml p2)]) rfl Zbc (Qp2 N p0 p2 _ hf37) rfl rfl (nlc (NLt.agg _ (nlc (nld Qal _) (nlc (nld Qab _) nl0))) (nlc (nld Qac _) nl0)) nll rfl,asb hb39 (amv rfl),ag_ (alm (c:=Qak) (l:=p1) (aln rfl Tryz.underlying27 rfl)),trivial⟩ ?_
    refine bfe h (fun hc42 h=>?_) fun hc42 h=>?_
    ·refine wft hc42 ?_
     obtain ⟨x44,hf43,h⟩:=bno h
     refine wx tbk [(0,rp [fu 15] (B x44))] ⟨apc (first:=[]) (cap:=[]) (vs:=[]) rfl Quc (Qhb 2000  _ hf43) rfl rfl nl0 nll rfl,trivial⟩ ?_
     refine Qag ?_
     refine Qah ?_
     obtain rfl:=osi h
     exact fend ⟨[B x44],⟨rot,trivial⟩,rfl⟩ nll
    ·refine wfn hc42 ?_
     refine Qan ?_
     refine thn ?_
     exact ⟨(),h,(mto (n:=93) [(1,(Qpa p1)),(2,(Qml p2)),(3,.ref 0 2 0 0)] [0] [(.own 2 [[(Q85 p0),(Q84 p0)]])] hφ0 (pc (rnd Qae) (pc (rnd Qac) (pc (.rn (rqr rfl)) pn))) (qc (spb (lc (rnd Qal) (lc (rnd Qab) ln))) qn))⟩
end Go.Proofs.YtmbhnllcfmiajaaGreat
