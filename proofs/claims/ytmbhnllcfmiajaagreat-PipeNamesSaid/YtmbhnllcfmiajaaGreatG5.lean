/-
  The texts X19, PNm6 of the proof, one behind the other. No conditions.
-/
import Derived.Test.YtmbhnllcfmiajaaGreatG4
namespace Go.Proofs.YtmbhnllcfmiajaaGreat
open _root_.Go.Proofs.Tryz
section
set_option maxRecDepth 100000
set_option maxHeartbeats 4000000
open Go.RowKit
def Qie (_N:Nat):Option Unit:=
  some ()
def Qq8:AV:=.dat 5 (([(⟨100,101,419,2676,150⟩:GRow),(⟨150,476,632,2746,300⟩:GRow),(⟨200,1555,852,2793,600⟩:GRow)]:List GRow).map Qau)
def Q0s:AV:=.agg [Qq8,(.own 1 7 (0) (3))]
def Qpq:AV:=.dat 4 (([(⟨1000,852000,250000,50⟩:Qab)]:List Qab).map Qag)
def Q0u:Slot:=.own 2 [[Qq8,(.own 1 7 (0) (3))]]
def Qr2:AV:=.dat 2 (([]:List Qby).map Qbc)
def Qhv:AV:=.dat 1 (([]:List Int).map Qac)
def Q0t:Slot:=.own 21 [[(K .u8 (1)),Qr2,(I (2)),(I (0)),(I (1000)),(I (1000000)),Qhv,(K .u8 (3)),(.own 2 2 (0) (1)),(I (2)),(I (2000)),(I (1000)),(I (1000000)),Qhv,(K .u8 (4)),(.own 3 2 (0) (1)),(I (0)),(I (100)),(I (1000)),(I (1000000)),Qhv]]
def Qw4:Slot:=.own 2 [[(I (0)),(I (0))]]
def Qw3:Slot:=.own 2 [[(I (1)),(I (0))]]
def Q7e:AV:=.agg [(I (100)),(I (101)),(I (419)),(I (2676)),(I (150))]
def Q7d:AV:=.agg [(I (150)),(I (476)),(I (632)),(I (2746)),(I (300))]
def Q7c:AV:=.agg [(I (200)),(I (1555)),(I (852)),(I (2793)),(I (600))]
def Zbb:AV:=.agg [(K .u8 (1)),nilS,(I (2)),(I (0)),(I (1000)),(I (1000000)),nilS]
def Q7b:AV:=.agg [(I (0)),(I (0))]
def Zba:AV:=.agg [(K .u8 (3)),(.own 1 2 (0) (1)),(I (2)),(I (2000)),(I (1000)),(I (1000000)),nilS]
def Q7a:AV:=.agg [(I (1)),(I (0))]
def Q8q:AV:=.agg [(K .u8 (4)),(.own 2 2 (0) (1)),(I (0)),(I (100)),(I (1000)),(I (1000000)),nilS]
def Q0w:Slot:=.own 21 [[(K .u8 (1)),Qr2,(I (2)),(I (0)),(I (1000)),(I (1000000)),Qhv,(K .u8 (3)),(.own 1 2 (0) (1)),(I (2)),(I (2000)),(I (1000)),(I (1000000)),Qhv,(K .u8 (4)),(.own 2 2 (0) (1)),(I (0)),(I (100)),(I (1000)),(I (1000000)),Qhv]]
def Q0z:AV:=.agg [(K .u8 (1)),Qr2,(I (2)),(I (0)),(I (1000)),(I (1000000)),Qhv]
def Q0y:AV:=.agg [(K .u8 (3)),(.own 1 2 (0) (1)),(I (2)),(I (2000)),(I (1000)),(I (1000000)),Qhv]
def Q0x:AV:=.agg [(K .u8 (4)),(.own 2 2 (0) (1)),(I (0)),(I (100)),(I (1000)),(I (1000000)),Qhv]
def Q0v:AV:=.agg [(I (1000)),(I (852000)),(I (250000)),(I (50))]
theorem Qkx (N:Nat) (r:Unit) (h:Qie N=some r):Spec prog 55 [] [] (.tup [Q0s,Qpq]) [Q0u,Q0t,Qw4,Qw3]:=by
  refine Qam func55 rfl 4 (nle rfl) (fun X φ0 w0 hφ0 hd0=>?_)
  unfold Qie at h
  refine Qbj<|wxz ?_
  refine wx tbk [(0,rp _ _),(1,rp _ _),(2,rp _ _),(3,rp [(.tmp 4,Q7e),(.tmp 5,Q7d),(.tmp 6,Q7c)] Qq8)] ⟨Qay (vs:=[I 100,I 101,I 419,I 2676,I 150]) rfl Qyy Qpx rfl (by rfl) rfl,Qay (vs:=[I 150,I 476,I 632,I 2746,I 300]) rfl Qyy Qpx rfl (by rfl) rfl,Qay (vs:=[I 200,I 1555,I 852,I 2793,I 600]) rfl Qyy Qpx rfl (by rfl) rfl,Qbi (vs:=[Q7e,Q7d,Q7c]) rfl underlying39 Qpa Qpx rfl (by decide) rfl (by decide) (by rfl) (by rfl) (by rfl) rfl,tv⟩ ?_
  refine wx tbk [(0,rp _ _),(1,rp _ _),(2,⟨[(.tmp 9,Q7b)],[(1,.unused)],(.own 1 2 (0) (1)),[(1,Qw4)],false⟩),(3,rp _ _),(4,rp _ _),(5,⟨[(.tmp 12,Q7a)],[(2,.unused)],(.own 2 2 (0) (1)),[(2,Qw3)],false⟩),(6,rp _ _),(7,⟨[(.tmp 8,Zbb),(.tmp 11,Zba),(.tmp 14,Q8q)],[(3,.unused)],(.own 3 7 (0) (3)),[(3,Q0w)],false⟩)] ⟨Qay (vs:=[(K .u8 (1)),I 2,I 1000,I 1000000]) rfl Qyz Qq3 rfl (by rfl) rfl,Qay (vs:=[]) rfl Qy0 Qnb rfl (by rfl) rfl,Qhh (Qp1 (xs:=[[I 0,I 0]]) (by kernel_rfl) rfl rfl) (Qkm (vs:=[Q7b]) rfl underlying116 Qk3 Qnb rfl (by decide) rfl (by decide) (by rfl) (by rfl) (by rfl) rfl),Qay (vs:=[(K .u8 (3)),(.own 1 2 (0) (1)),I 2,I 2000,I 1000,I 1000000]) rfl Qyz Qq3 rfl (by rfl) rfl,Qay (vs:=[I 1]) rfl Qy0 Qnb rfl (by rfl) rfl,Qhh (Qp1 (xs:=[[I 1,I 0]]) (by kernel_rfl) rfl rfl) (Qkm (vs:=[Q7a]) rfl underlying116 Qk3 Qnb rfl (by decide) rfl (by decide) (by rfl) (by rfl) (by rfl) rfl),Qay (vs:=[(K .u8 (4)),(.own 2 2 (0) (1)),I 100,I 1000,I 1000000]) rfl Qyz Qq3 rfl (by rfl) rfl,awk (rd':=[(.tmp 8,Q0z),(.tmp 11,Q0y),(.tmp 14,Q0x)]) ⟨rfl,(Less.agg ⟨lrf,Less.nil,lrf,lrf,lrf,lrf,Less.nil,tv⟩),rfl,(Less.agg ⟨lrf,lrf,lrf,lrf,lrf,lrf,Less.nil,tv⟩),rfl,(Less.agg ⟨lrf,lrf,lrf,lrf,lrf,lrf,Less.nil,tv⟩),tv⟩ (Qhh (Qp1 (xs:=[[(K .u8 (1)),Qr2,I 2,I 0,I 1000,I 1000000,Qhv],[(K .u8 (3)),(.own 1 2 (0) (1)),I 2,I 2000,I 1000,I 1000000,Qhv],[(K .u8 (4)),(.own 2 2 (0) (1)),I 0,I 100,I 1000,I 1000000,Qhv]]) (by kernel_rfl) rfl rfl) (Qkm (vs:=[Q0z,Q0y,Q0x]) rfl underlying40 Qfz Qq3 rfl (by decide) rfl (by decide) (by rfl) (by rfl) (by rfl) rfl)),tv⟩ ?_
  refine wx tbk [(2,rp _ _),(3,rp _ _),(4,rp [(.tmp 19,Q0v)] Qpq)] ⟨Qay (vs:=[Qq8,(.own 3 7 (0) (3))]) rfl ts42 tz42 rfl (by rfl) rfl,Qay (vs:=[I 1000,I 852000,I 250000,I 50]) rfl ts63 tz63 rfl (by rfl) rfl,Qbi (vs:=[Q0v]) rfl underlying45 ti63 tz63 rfl (by decide) rfl (by decide) (by rfl) (by rfl) (by rfl) rfl,tv⟩ ?_
  refine wmr (mto (n:=21) (l':=[(0,.ref 0 2 0 0),(1,Qpq)]) (own':=[Q0u,Q0t,Qw4,Qw3]) [(0,.ref 0 2 0 0),(1,Qpq)] [0,3,1,2] [(.own 2 [[Qq8,(.own 3 7 (0) (3))]]),Q0w,Qw4,Qw3] hφ0 (prr (pc (rnd Qah) pn)) (qb (lc (rnd Qak) (lc (.rn (Qaz rfl)) ln)) (qb (lc rwl (lc (rnd Qbo) (lcc (lcc (lc (rnd Qae) (lc rwl (lc (.rn (Qaz rfl)) (lcc (lcc (lc (rnd Qae) (lc rwl (lc (.rn (Qaz rfl)) (lcc (lcc (lc (rnd Qae) ln))))))))))))))) (qb (lcc ln) (qb (lcc ln) qn)))))<|Qaj ?_
  obtain rfl:=osi h
  exact⟨_,Mor.rfl,Qca (vs:=[Q0s,Qpq]) ⟨Qbk (n:=0) (m:=2) (j:=0) (i:=0) (xs:=[[Qq8,(.own 1 7 (0) (3))]]) (by kernel_rfl) (by kernel_rfl) ti42 (by decide) rfl (nle rfl) rfl,rot,tv⟩ rfl (NLt.tup _ (nlc (NLt.agg _ (nlc (NLt.of0 (nld Qak _)) (nlc (NLt.own _ _ _ _ (by decide)) nl0))) (nlc (NLt.of0 (nld Qah _)) nl0))) (by kernel_rfl) (Qai (Qav (nlc (NLt.of0 (nld Qak _)) (nlc (NLt.own _ _ _ _ (by decide)) nl0))) (Qai (Qav (nlc (NLt.of0 nll) (nlc (NLt.of0 (nld Qbo _)) (nlc (NLt.of0 nll) (nlc (NLt.of0 nll) (nlc (NLt.of0 nll) (nlc (NLt.of0 nll) (nlc (NLt.of0 (nld Qae _)) (nlc (NLt.of0 nll) (nlc (NLt.own _ _ _ _ (by decide)) (nlc (NLt.of0 nll) (nlc (NLt.of0 nll) (nlc (NLt.of0 nll) (nlc (NLt.of0 nll) (nlc (NLt.of0 (nld Qae _)) (nlc (NLt.of0 nll) (nlc (NLt.own _ _ _ _ (by decide)) (nlc (NLt.of0 nll) (nlc (NLt.of0 nll) (nlc (NLt.of0 nll) (nlc (NLt.of0 nll) (nlc (NLt.of0 (nld Qae _)) nl0)))))))))))))))))))))) (Qai (Qav (nlc (NLt.of0 nll) (nlc (NLt.of0 nll) nl0))) (Qai (Qav (nlc (NLt.of0 nll) (nlc (NLt.of0 nll) nl0))) Qbe))))⟩
def Qh7 (N:Nat):Option Bool:=
  (Qki 2000 ).bind fun x2=>
  (Qlr N (⟨x2.1.Table,x2.1.Elements⟩:GNet) ([0,0,0]) x2.2 20).bind fun x4=>
  (Qle N (⟨x2.1.Table,x2.1.Elements⟩:GNet) ([0,0,0]) ([x2.2])).bind fun x6=>
  (Qls N (⟨x2.1.Table,x2.1.Elements⟩:GNet) ([0,0,0]) ([x2.2])).bind fun x8=>
  (Qnk N (⟨x2.1.Table,x2.1.Elements⟩:GNet) ([2])).bind fun x10=>
  (Qnp N (⟨x10.1.Table,x10.1.Elements⟩:GNet) ([0,0,0]) x2.2).bind fun x12=>
  Qdr (fun _=>
    (Qnp N (⟨x2.1.Table,x2.1.Elements⟩:GNet) ([0,0,1028000]) x2.2).bind fun x15=>
    (Qnk N (⟨x2.1.Table,x2.1.Elements⟩:GNet) ([3])).bind fun x17=>
    (Qls N (⟨x2.1.Table,x2.1.Elements⟩:GNet) ([0,0,0]) ([])).bind fun x19=>
    (Qlr N (⟨x2.1.Table,x2.1.Elements⟩:GNet) ([0,0,0]) x2.2 1001).bind fun x21=>
    (Qie N).bind fun _=>
    (Qie N).bind fun _=>
    bif (x15.2.2==11) then
     bif (x15.2.1==2) then
      (Qli N (⟨x15.1.Out,x15.1.Lost,x15.1.State⟩:Qfg)).bind fun x29=>
      bif x29 then
       bif (x17.2==1) then
        bif (x19.2.2==3) then
         bif (x21.2.2==2) then
          (Qhj N (⟨[(⟨100,101,419,2676,150⟩:GRow),(⟨150,476,632,2746,300⟩:GRow),(⟨200,1555,852,2793,600⟩:GRow)],[(⟨1,[],2,0,1000,1000000,[]⟩:Qaf),(⟨3,[(⟨0,0⟩:Qby)],1,2000,1000,1000000,[]⟩:Qaf),(⟨4,[(⟨1,0⟩:Qby)],2,100,1000,1000000,[]⟩:Qaf)]⟩:GNet)).bind fun x35=>
          bif (x35==1) then
           (Qhj N (⟨[(⟨100,101,419,2676,150⟩:GRow),(⟨150,476,632,2746,300⟩:GRow),(⟨200,1555,852,2793,600⟩:GRow)],[(⟨1,[],2,0,1000,1000000,[]⟩:Qaf),(⟨3,[(⟨0,0⟩:Qby)],2,2000,1000,1000000,[]⟩:Qaf),(⟨4,[(⟨0,0⟩:Qby)],0,100,1000,1000000,[]⟩:Qaf)]⟩:GNet)).bind fun x38=>
           bif (x38==1) then
            (Qlh 2000 ).bind fun x41=>
            some x41
           else
            some false
          else
           some false
         else
          some false
        else
         some false
       else
        some false
      else
       some false
     else
      some false
    else
     some false) fun k13:Unit→Option Bool=>
  bif (x4.2.2 != 0) then
   some false
  else
   bif (x6.2.2 != 0) then
    some false
   else
    bif (x8.2.2 != 0) then
     some false
    else
     bif (x10.2 != 0) then
      some false
     else
      bif (x12.2.2 != 0) then
       some false
      else
       bif (x4.1 != 8) then
        some false
       else
        bif (x4.2.1 != 2) then
         some false
        else
         bif (x6.1 != 0) then
          some false
         else
          bif (x6.2.1 != 2) then
           some false
          else
           (Qmt N x8.1 ([1])).bind fun x52=>
           bif (!x52) then
            some false
           else
            bif (x8.2.1 != 103) then
             some false
            else
             bif ((x12.1.Out.length:Int) != 3) then
              some false
             else
              (getI x12.1.Out 2).bind fun x56=>
              bif ((x56.length:Int) != 2) then
               some false
              else
               (getI x56 0).bind fun x61=>
               bif (!(([x61.Mass,x61.Heat,x61.Silica,x61.Gas]:List Int)==[100,85000,25000,5])) then
                some false
               else
                k13 ()
def Q7g (x2:(GNet×(List Qab))):AV:=.agg [(.dat 5 (x2.1.Table.map Qau)),(.dat 7 (x2.1.Elements.map Qad))]
def Qq9 (x2:(GNet×(List Qab))):AV:=.dat 4 (x2.2.map Qag)
def Qtl:AV:=.dat 1 (([0,0,0]:List Int).map Qac)
def Q7f (x2:(GNet×(List Qab))):AV:=.dat 1 (([x2.2]:List (List Qab)).map Qal)
def Zbc:AV:=.dat 1 (([2]:List Int).map Qac)
def Qvi (x12:(Qfg×Int×Int)):AV:=.dat 1 (x12.1.Out.map Qal)
def Q8y:AV:=.dat 1 (([0,0,1028000]:List Int).map Qac)
def Q8x (x15:(Qfg×Int×Int)):AV:=.agg [(.dat 1 (x15.1.Out.map Qal)),(.dat 4 (x15.1.Lost.map Qaw)),(.dat 1 (x15.1.State.map Qac))]
def Q8w:AV:=.dat 1 (([3]:List Int).map Qac)
def Q8v:AV:=.dat 1 (([]:List (List Qab)).map Qal)
def Qn8:AV:=.dat 5 (([(⟨100,101,419,2676,150⟩:GRow),(⟨150,476,632,2746,300⟩:GRow),(⟨200,1555,852,2793,600⟩:GRow)]:List GRow).map Qau)
def Q03:AV:=.agg [Qn8,(.own 3 7 (0) (3))]
def Q02:AV:=.dat 4 (([(⟨1000,852000,250000,50⟩:Qab)]:List Qab).map Qag)
def Q8u:Slot:=.own 2 [[Qn8,(.own 3 7 (0) (3))]]
def Qjj:AV:=.dat 2 (([]:List Qby).map Qbc)
def Qc6:AV:=.dat 1 (([]:List Int).map Qac)
def Q04:Slot:=.own 21 [[(K .u8 (1)),Qjj,(I (2)),(I (0)),(I (1000)),(I (1000000)),Qc6,(K .u8 (3)),(.own 4 2 (0) (1)),(I (2)),(I (2000)),(I (1000)),(I (1000000)),Qc6,(K .u8 (4)),(.own 5 2 (0) (1)),(I (0)),(I (100)),(I (1000)),(I (1000000)),Qc6]]
def Qpr:Slot:=.own 2 [[(I (0)),(I (0))]]
def Qr3:Slot:=.own 2 [[(I (1)),(I (0))]]
def Q01:AV:=.agg [Qn8,(.own 8 7 (0) (3))]
def Q8t:Slot:=.own 2 [[Qn8,(.own 8 7 (0) (3))]]
def Qvh:Slot:=.own 21 [[(K .u8 (1)),Qjj,(I (2)),(I (0)),(I (1000)),(I (1000000)),Qc6,(K .u8 (3)),(.own 9 2 (0) (1)),(I (2)),(I (2000)),(I (1000)),(I (1000000)),Qc6,(K .u8 (4)),(.own 10 2 (0) (1)),(I (0)),(I (100)),(I (1000)),(I (1000000)),Qc6]]
def Qvf (x15:(Qfg×Int×Int)):List (Nat×Rec):=[(2,rp [((.tmp 189),(B ((x15.2.2==11))))] (B true))]
def Qve x15 (x29:Bool):=hcat (Qvf x15) [(6,rp [((.tmp 193),(B ((x15.2.1==2))))] (B true)),(8,rp [((.tmp 194),(B true)),fu 21,((.tmp 195),(Q8x x15))] (B x29))]
def Qvd x15 x29:=hcat (Qve x15 x29) [(10,rp [((.tmp 197),(B x29))] (B true))]
def Qvc x15 x29 (x17:(GNet×Int)):=hcat (Qvd x15 x29) [(14,rp [((.tmp 201),(B ((x17.2==1))))] (B true))]
def Qvb x15 x29 x17 (x19:((List Int)×Int×Int)):=hcat (Qvc x15 x29 x17) [(18,rp [((.tmp 205),(B ((x19.2.2==3))))] (B true))]
def Qva x15 x29 x17 x19 (x21:(Int×Int×Int)) (x35:Int):=hcat (Qvb x15 x29 x17 x19) [(22,rp [((.tmp 209),(B ((x21.2.2==2))))] (B true)),(24,rb [((.tmp 210),(B true)),fu 56,((.tmp 211),Q03)] [(4,Qpr),(5,Qr3),(3,(.own 21 [[(K .u8 (1)),Qjj,(I (2)),(I (0)),(I (1000)),(I (1000000)),Qc6,(K .u8 (3)),(.own 4 2 (0) (1)),(I (1)),(I (2000)),(I (1000)),(I (1000000)),Qc6,(K .u8 (4)),(.own 5 2 (0) (1)),(I (2)),(I (100)),(I (1000)),(I (1000000)),Qc6]]))] (I x35))]
def Q8s:AV:=.dat 7 (([(⟨1,[],2,0,1000,1000000,[]⟩:Qaf),(⟨3,[(⟨0,0⟩:Qby)],1,2000,1000,1000000,[]⟩:Qaf),(⟨4,[(⟨1,0⟩:Qby)],2,100,1000,1000000,[]⟩:Qaf)]:List Qaf).map Qad)
def Qvg:AV:=.dat 2 (([(⟨0,0⟩:Qby)]:List Qby).map Qbc)
def Qu9 x15 x29 x17 x19 x21 x35 (x38:Int):=hcat (Qva x15 x29 x17 x19 x21 x35) [(27,rp [((.tmp 214),(B ((x35==1))))] (B true)),(29,rb [((.tmp 215),(B true)),fu 56,((.tmp 216),Q01)] [(9,Qpr),(10,Qpr),(8,Qvh)] (I x38))]
def Q8r:AV:=.dat 7 (([(⟨1,[],2,0,1000,1000000,[]⟩:Qaf),(⟨3,[(⟨0,0⟩:Qby)],2,2000,1000,1000000,[]⟩:Qaf),(⟨4,[(⟨0,0⟩:Qby)],0,100,1000,1000000,[]⟩:Qaf)]:List Qaf).map Qad)
def Qu8 (x4:(Int×Int×Int)):List (Nat×Rec):=[(2,rp [((.tmp 69),(B ((x4.2.2 != 0))))] (B false))]
def Qu7 x4 (x6:(Int×Int×Int)):=hcat (Qu8 x4) [(6,rp [((.tmp 73),(B ((x6.2.2 != 0))))] (B false))]
def Qu6 x4 x6 (x8:((List Int)×Int×Int)):=hcat (Qu7 x4 x6) [(10,rp [((.tmp 77),(B ((x8.2.2 != 0))))] (B false))]
def Qu5 x4 x6 x8 (x10:(GNet×Int)):=hcat (Qu6 x4 x6 x8) [(14,rp [((.tmp 81),(B ((x10.2 != 0))))] (B false))]
def Qu4 x4 x6 x8 x10 (x12:(Qfg×Int×Int)):=hcat (Qu5 x4 x6 x8 x10) [(18,rp [((.tmp 85),(B ((x12.2.2 != 0))))] (B false))]
def Qu3 x4 x6 x8 x10 x12:=hcat (Qu4 x4 x6 x8 x10 x12) [(22,rp [((.tmp 89),(B ((x4.1 != 8))))] (B false))]
def Qu2 x4 x6 x8 x10 x12:=hcat (Qu3 x4 x6 x8 x10 x12) [(26,rp [((.tmp 93),(B ((x4.2.1 != 2))))] (B false))]
def Qu1 x4 x6 x8 x10 x12:=hcat (Qu2 x4 x6 x8 x10 x12) [(30,rp [((.tmp 97),(B ((x6.1 != 0))))] (B false))]
def Q06:AV:=.dat 1 (([1]:List Int).map Qac)
def Qu0 x4 x6 x8 x10 x12 (x52:Bool):=hcat (Qu1 x4 x6 x8 x10 x12) [(34,rp [((.tmp 101),(B ((x6.2.1 != 2))))] (B false)),(36,rp [((.tmp 102),(B false)),ci 1] Q06),(37,rp [((.tmp 102),(B false)),fu 49,((.tmp 103),(.dat 1 (x8.1.map Qac))),((.tmp 104),Q06)] (B x52))]
def Quz x4 x6 x8 x10 x12 x52:=hcat (Qu0 x4 x6 x8 x10 x12 x52) [(40,rp [((.tmp 107),(B ((!x52))))] (B false))]
def Quy x4 x6 x8 x10 x12 x52:=hcat (Quz x4 x6 x8 x10 x12 x52) [(44,rp [((.tmp 111),(B ((x8.2.1 != 103))))] (B false)),(47,rp [((.tmp 112),(B false)),((.tmp 114),(Qvi x12))] (I ((x12.1.Out.length:Int))))]
def Qux x4 x6 x8 x10 x12 x52 (x56:List Qab):=hcat (Quy x4 x6 x8 x10 x12 x52) [(50,rp [((.tmp 117),(B (((x12.1.Out.length:Int) != 3))))] (B false)),(53,rp [((.tmp 118),(B false)),((.tmp 120),(Qvi x12)),ci 2] (.dptr (Qal x56) 0)),(55,rp [((.tmp 118),(B false)),((.tmp 122),(.dat 4 (x56.map Qag)))] (I ((x56.length:Int))))]
def Q05:AV:=.agg [(I (100)),(I (85000)),(I (25000)),(I (5))]
theorem Qmu (N:Nat) (r:Bool) (h:Qh7 N=some r):Spec prog 13 [] [] (B r) []:=by
  refine Qam func13 rfl 0 (nle rfl) (fun X φ0 w0 hφ0 hd0=>?_)
  unfold Qh7 at h
  refine wxz ?_
  obtain⟨x2,hf1,h⟩:=bno h
  refine wx tbk [(0,rp _ _)] ⟨apv Qsx (Qmc 2000  _ hf1) nl0 (NLt.tup _ (nlc (NLt.agg _ (nlc (nld Qak _) (nlc (nld Qaa _) nl0))) (nlc (nld Qah _) nl0))),tv⟩ ?_
  refine wx tbk [(0,rp [ci 0,ci 0,ci 0] Qtl)] ⟨Qbi (vs:=[I 0,I 0,I 0]) rfl underlying27 ti3 tz3 rfl (by decide) rfl (by decide) (by rfl) (by rfl) (by rfl) rfl,tv⟩ ?_
  obtain⟨x4,hf3,h⟩:=bno h
  refine wx tbk [(3,rp _ _)] ⟨apv Q2y (Qno N (⟨x2.1.Table,x2.1.Elements⟩:GNet) ([0,0,0]) x2.2 20 _ hf3) (nlc (NLt.agg _ (nlc (nld Qak _) (nlc (nld Qaa _) nl0))) (nlc (nld Qae _) (nlc (nld Qah _) (nlc nll nl0)))) (NLt.tup _ (nlcc (nlc nll nl0))),tv⟩ ?_
  obtain⟨x6,hf5,h⟩:=bno h
  refine wx tbk [(3,rp [(.tmp 39,(Qq9 x2))] (Q7f x2)),(4,rp _ _)] ⟨Qbi (vs:=[(Qq9 x2)]) rfl underlying31 ti45 tz45 rfl (by decide) rfl (by decide) (by rfl) (by rfl) (by rfl) rfl,apv Q9w (Qp5 N (⟨x2.1.Table,x2.1.Elements⟩:GNet) ([0,0,0]) ([x2.2]) _ hf5) (nlc (NLt.agg _ (nlc (nld Qak _) (nlc (nld Qaa _) nl0))) (nlc (nld Qae _) (nlc (nld Qan _) nl0))) (NLt.tup _ (nlcc (nlc nll nl0))),tv⟩ ?_
  obtain⟨x8,hf7,h⟩:=bno h
  refine wx tbk [(3,rp [(.tmp 48,(Qq9 x2))] (Q7f x2)),(4,rp _ _)] ⟨Qbi (vs:=[(Qq9 x2)]) rfl underlying31 ti45 tz45 rfl (by decide) rfl (by decide) (by rfl) (by rfl) (by rfl) rfl,apv Q2w (Qnq N (⟨x2.1.Table,x2.1.Elements⟩:GNet) ([0,0,0]) ([x2.2]) _ hf7) (nlc (NLt.agg _ (nlc (nld Qak _) (nlc (nld Qaa _) nl0))) (nlc (nld Qae _) (nlc (nld Qan _) nl0))) (NLt.tup _ (nlc (nld Qae _) (nlcc nl0))),tv⟩ ?_
  obtain⟨x10,hf9,h⟩:=bno h
  refine wx tbk [(1,rp [ci 2] Zbc),(2,rp _ _)] ⟨Qbi (vs:=[I 2]) rfl underlying27 ti3 tz3 rfl (by decide) rfl (by decide) (by rfl) (by rfl) (by rfl) rfl,apv Q2x (Qo0 N (⟨x2.1.Table,x2.1.Elements⟩:GNet) ([2]) _ hf9) (nlc (NLt.agg _ (nlc (nld Qak _) (nlc (nld Qaa _) nl0))) (nlc (nld Qae _) nl0)) (NLt.tup _ (nlc (NLt.agg _ (nlc (nld Qak _) (nlc (nld Qaa _) nl0))) (nlc nll nl0))),tv⟩ ?_
  obtain⟨x12,hf11,h⟩:=bno h
  refine wx tbk [(3,rp _ _)] ⟨apv Qv2 (Qms N (⟨x10.1.Table,x10.1.Elements⟩:GNet) ([0,0,0]) x2.2 _ hf11) (nlc (NLt.agg _ (nlc (nld Qak _) (nlc (nld Qaa _) nl0))) (nlc (nld Qae _) (nlc (nld Qah _) nl0))) (NLt.tup _ (nlc (NLt.agg _ (nlc (nld Qan _) (nlc (nld Qa0 _) (nlc (nld Qae _) nl0)))) (nlcc nl0))),tv⟩ ?_
  obtain⟨k13,hk_k13,h⟩:=jko h
  refine wjn (τ:=Unit) (fun t=>k13 t=some r) (fun _=>⟨mk 223 [(1,.ref 0 2 0 0),(2,(Qq9 x2)),(3,Qtl)],[(.own 2 [[(.dat 5 (x2.1.Table.map Qau)),(.dat 7 (x2.1.Elements.map Qad))]])]⟩) (fun t h=>?_) ?_
  ·subst hk_k13
   obtain⟨x15,hf14,h⟩:=bno h
   refine wx tbk [(1,rp [ci 0,ci 0,ci 1028000] Q8y),(3,rp _ _)] ⟨Qbi (vs:=[I 0,I 0,I 1028000]) rfl underlying27 ti3 tz3 rfl (by decide) rfl (by decide) (by rfl) (by rfl) (by rfl) rfl,apv Qv2 (Qms N (⟨x2.1.Table,x2.1.Elements⟩:GNet) ([0,0,1028000]) x2.2 _ hf14) (nlc (NLt.agg _ (nlc (nld Qak _) (nlc (nld Qaa _) nl0))) (nlc (nld Qae _) (nlc (nld Qah _) nl0))) (NLt.tup _ (nlc (NLt.agg _ (nlc (nld Qan _) (nlc (nld Qa0 _) (nlc (nld Qae _) nl0)))) (nlcc nl0))),tv⟩ ?_
   obtain⟨x17,hf16,h⟩:=bno h
   refine wx tbk [(1,rp [ci 3] Q8w),(2,rp _ _)] ⟨Qbi (vs:=[I 3]) rfl underlying27 ti3 tz3 rfl (by decide) rfl (by decide) (by rfl) (by rfl) (by rfl) rfl,apv Q2x (Qo0 N (⟨x2.1.Table,x2.1.Elements⟩:GNet) ([3]) _ hf16) (nlc (NLt.agg _ (nlc (nld Qak _) (nlc (nld Qaa _) nl0))) (nlc (nld Qae _) nl0)) (NLt.tup _ (nlc (NLt.agg _ (nlc (nld Qak _) (nlc (nld Qaa _) nl0))) (nlc nll nl0))),tv⟩ ?_
   obtain⟨x19,hf18,h⟩:=bno h
   refine wx tbk [(2,rp [fu 51,(.tmp 151,(Q7g x2)),(.tmp 152,Qtl),((.const (.slice none 0 0)),nilS)] (.tup [(.dat 1 (x19.1.map Qac)),I x19.2.1,I x19.2.2]))] ⟨awk (rd':=(.func 51,(.fn (.func 51) [] []))::[(.tmp 151,(Q7g x2)),(.tmp 152,Qtl),((.const (.slice none 0 0)),Q8v)]) ⟨rfl,lrf,rfl,lrf,rfl,lrf,rfl,Less.nil,tv⟩ (apv Q2w (Qnq N (⟨x2.1.Table,x2.1.Elements⟩:GNet) ([0,0,0]) ([]) _ hf18) (nlc (NLt.agg _ (nlc (nld Qak _) (nlc (nld Qaa _) nl0))) (nlc (nld Qae _) (nlc (nld Qan _) nl0))) (NLt.tup _ (nlc (nld Qae _) (nlcc nl0)))),tv⟩ ?_
   obtain⟨x21,hf20,h⟩:=bno h
   refine wx tbk [(3,rp _ _)] ⟨apv Q2y (Qno N (⟨x2.1.Table,x2.1.Elements⟩:GNet) ([0,0,0]) x2.2 1001 _ hf20) (nlc (NLt.agg _ (nlc (nld Qak _) (nlc (nld Qaa _) nl0))) (nlc (nld Qae _) (nlc (nld Qah _) (nlc nll nl0)))) (NLt.tup _ (nlcc (nlc nll nl0))),tv⟩ ?_
   obtain⟨x23,hf22,h⟩:=bno h
   refine wx tbk [(0,⟨_,_,_,_,false⟩)] ⟨Qar (first:=[]) (cap:=[]) (vs:=[]) (σr:=[]) (σr':=[Q8u,Q04,Qpr,Qr3]) (res':=(.tup [Q03,Q02])) [2,3,4,5] rfl Qsx (Qkx N _ hf22) rfl (Qbd rn0) Qaq (slc (Qao (rnc (pld Qak) (rnc (Qbt rfl) rn0))) (slc (Qao (rnc (.plain _ nll) (rnc (pld Qbo) (rncc (rncc (rnc (pld Qae) (rnc (.plain _ nll) (rnc (Qbt rfl) (rncc (rncc (rnc (pld Qae) (rnc (.plain _ nll) (rnc (Qbt rfl) (rncc (rncc (rnc (pld Qae) rn0)))))))))))))))) (slc (Qao (rncc rn0)) (slc (Qao (rncc rn0)) Qaq)))) (Qtv (rnc (Qbd (rnc (pld Qak) (rnc (Qbt rfl) rn0))) (rnc (pld Qah) rn0))) rfl rfl rfl,tv⟩ ?_
   refine wx tbk [(2,rb [(.tmp 170,(.own 3 7 (0) (3))),ci 1] [(3,Q04)] (.ref 3 21 0 7))] ⟨Qlx rfl underlying40 Qfz (by decide) (by decide) rfl,tv⟩ ?_
   refine wx tbk [(2,rb [(.tmp 174,(.own 3 7 (0) (3))),ci 2] [(3,(.own 21 [[(K .u8 (1)),Qjj,I 2,I 0,I 1000,I 1000000,Qc6,(K .u8 (3)),(.own 4 2 (0) (1)),I 1,I 2000,I 1000,I 1000000,Qc6,(K .u8 (4)),(.own 5 2 (0) (1)),I 0,I 100,I 1000,I 1000000,Qc6]]))] (.ref 3 21 0 14))] ⟨Qlx rfl underlying40 Qfz (by decide) (by decide) rfl,tv⟩ ?_
   obtain⟨x25,hf24,h⟩:=bno h
   refine wx tbk [(0,⟨_,_,_,_,false⟩)] ⟨Qar (first:=[]) (cap:=[]) (vs:=[]) (σr:=[]) (σr':=[Q8t,Qvh,Qpr,Qr3]) (res':=(.tup [Q01,Q02])) [7,8,9,10] rfl Qsx (Qkx N _ hf24) rfl (Qbd rn0) Qaq (slc (Qao (rnc (pld Qak) (rnc (Qbt rfl) rn0))) (slc (Qao (rnc (.plain _ nll) (rnc (pld Qbo) (rncc (rncc (rnc (pld Qae) (rnc (.plain _ nll) (rnc (Qbt rfl) (rncc (rncc (rnc (pld Qae) (rnc (.plain _ nll) (rnc (Qbt rfl) (rncc (rncc (rnc (pld Qae) rn0)))))))))))))))) (slc (Qao (rncc rn0)) (slc (Qao (rncc rn0)) Qaq)))) (Qtv (rnc (Qbd (rnc (pld Qak) (rnc (Qbt rfl) rn0))) (rnc (pld Qah) rn0))) rfl rfl rfl,tv⟩ ?_
   refine wx tbk [(2,rb [(.tmp 182,(.own 8 7 (0) (3))),ci 2] [(8,Qvh)] (.ref 8 21 0 14)),(5,rb [(.tmp 185,(.own 10 2 (0) (1))),ci 0] [(10,Qr3)] (.ref 10 2 0 0))] ⟨Qlx rfl underlying40 Qfz (by decide) (by decide) rfl,Qlx rfl underlying116 Qk3 (by decide) (by decide) rfl,tv⟩ ?_
   refine bfe h (fun hb26 h=>?_) fun hb26 h=>?_
   ·refine hpre (A:=(Qvf x15)) ⟨asb hb26 (amv rfl),tv⟩ fun q1_=>?_
    refine bfe h (fun hb27 h=>?_) fun hb27 h=>?_
    ·obtain⟨x29,hf28,h⟩:=bno h
     refine hpre (A:=(Qve x15 x29)) (hap q1_ ⟨asb hb27 (amv rfl),ag_ (apv Q9x (Qqd N (⟨x15.1.Out,x15.1.Lost,x15.1.State⟩:Qfg) _ hf28) (nlc (NLt.agg _ (nlc (nld Qan _) (nlc (nld Qa0 _) (nlc (nld Qae _) nl0)))) nl0) nll),tv⟩) fun q2_=>?_
     refine bfe h (fun hb30 h=>?_) fun hb30 h=>?_
     ·refine hpre (A:=(Qvd x15 x29)) (hap q2_ ⟨asb hb30 (amv rfl),tv⟩) fun q3_=>?_
      refine bfe h (fun hb31 h=>?_) fun hb31 h=>?_
      ·refine hpre (A:=(Qvc x15 x29 x17)) (hap q3_ ⟨asb hb31 (amv rfl),tv⟩) fun q4_=>?_
       refine bfe h (fun hb32 h=>?_) fun hb32 h=>?_
       ·refine hpre (A:=(Qvb x15 x29 x17 x19)) (hap q4_ ⟨asb hb32 (amv rfl),tv⟩) fun q5_=>?_
        refine bfe h (fun hb33 h=>?_) fun hb33 h=>?_
        ·obtain⟨x35,hf34,h⟩:=bno h
         refine hpre (A:=(Qva x15 x29 x17 x19 x21 x35)) (hap q5_ ⟨asb hb33 (amv rfl),ag_ (Qmy (bl':=[(4,.own 2 [[I 0,I 0]]),(5,.own 2 [[I 1,I 0]]),(3,.own 7 [[(K .u8 (1)),Qjj,I 2,I 0,I 1000,I 1000000,Qc6],[(K .u8 (3)),(.own 4 2 (0) (1)),I 1,I 2000,I 1000,I 1000000,Qc6],[(K .u8 (4)),(.own 5 2 (0) (1)),I 2,I 100,I 1000,I 1000000,Qc6]])]) ⟨rfl,Qif (by kernel_rfl) rfl rfl,rfl,Qif (by kernel_rfl) rfl rfl,rfl,Qif (by kernel_rfl) rfl rfl,tv⟩ (Qfn (rd':=[fu 56,(.tmp 211,(.agg [Qn8,Q8s]))]) [(4,2,[[I 0,I 0]]),(5,2,[[I 1,I 0]]),(3,7,[[(K .u8 (1)),Qjj,I 2,I 0,I 1000,I 1000000,Qc6],[(K .u8 (3)),(.own 4 2 (0) (1)),I 1,I 2000,I 1000,I 1000000,Qc6],[(K .u8 (4)),(.own 5 2 (0) (1)),I 2,I 100,I 1000,I 1000000,Qc6]])] ⟨rfl,.same _,rfl,(Q71 ⟨(.same _),(Qor (zs:=[[(K .u8 (1)),Qjj,I 2,I 0,I 1000,I 1000000,Qc6],[(K .u8 (3)),Qvg,I 1,I 2000,I 1000,I 1000000,Qc6],[(K .u8 (4)),(.dat 2 (([(⟨1,0⟩:Qby)]:List Qby).map Qbc)),I 2,I 100,I 1000,I 1000000,Qc6]]) 2 rfl rfl ⟨⟨(.same _),(.same _),(.same _),(.same _),(.same _),(.same _),(.same _),tv⟩,⟨(.same _),(Qor (zs:=[[I 0,I 0]]) 0 rfl rfl ⟨⟨(.same _),(.same _),tv⟩,tv⟩),(.same _),(.same _),(.same _),(.same _),(.same _),tv⟩,⟨(.same _),(Qor (zs:=[[I 1,I 0]]) 1 rfl rfl ⟨⟨(.same _),(.same _),tv⟩,tv⟩),(.same _),(.same _),(.same _),(.same _),(.same _),tv⟩,tv⟩),tv⟩),tv⟩ (by rfl) (.lit _) Qmn (apv Q2v (Qj2 N (⟨[(⟨100,101,419,2676,150⟩:GRow),(⟨150,476,632,2746,300⟩:GRow),(⟨200,1555,852,2793,600⟩:GRow)],[(⟨1,[],2,0,1000,1000000,[]⟩:Qaf),(⟨3,[(⟨0,0⟩:Qby)],1,2000,1000,1000000,[]⟩:Qaf),(⟨4,[(⟨1,0⟩:Qby)],2,100,1000,1000000,[]⟩:Qaf)]⟩:GNet) _ hf34) (nlc (NLt.agg _ (nlc (nld Qak _) (nlc (nld Qaa _) nl0))) nl0) nll))),tv⟩) fun q6_=>?_
         refine bfe h (fun hb36 h=>?_) fun hb36 h=>?_
         ·obtain⟨x38,hf37,h⟩:=bno h
          refine hpre (A:=(Qu9 x15 x29 x17 x19 x21 x35 x38)) (hap q6_ ⟨asb hb36 (amv rfl),ag_ (Qmy (bl':=[(9,.own 2 [[I 0,I 0]]),(10,.own 2 [[I 0,I 0]]),(8,.own 7 [[(K .u8 (1)),Qjj,I 2,I 0,I 1000,I 1000000,Qc6],[(K .u8 (3)),(.own 9 2 (0) (1)),I 2,I 2000,I 1000,I 1000000,Qc6],[(K .u8 (4)),(.own 10 2 (0) (1)),I 0,I 100,I 1000,I 1000000,Qc6]])]) ⟨rfl,Qif (by kernel_rfl) rfl rfl,rfl,Qif (by kernel_rfl) rfl rfl,rfl,Qif (by kernel_rfl) rfl rfl,tv⟩ (Qfn (rd':=[fu 56,(.tmp 216,(.agg [Qn8,Q8r]))]) [(9,2,[[I 0,I 0]]),(10,2,[[I 0,I 0]]),(8,7,[[(K .u8 (1)),Qjj,I 2,I 0,I 1000,I 1000000,Qc6],[(K .u8 (3)),(.own 9 2 (0) (1)),I 2,I 2000,I 1000,I 1000000,Qc6],[(K .u8 (4)),(.own 10 2 (0) (1)),I 0,I 100,I 1000,I 1000000,Qc6]])] ⟨rfl,.same _,rfl,(Q71 ⟨(.same _),(Qor (zs:=[[(K .u8 (1)),Qjj,I 2,I 0,I 1000,I 1000000,Qc6],[(K .u8 (3)),Qvg,I 2,I 2000,I 1000,I 1000000,Qc6],[(K .u8 (4)),Qvg,I 0,I 100,I 1000,I 1000000,Qc6]]) 2 rfl rfl ⟨⟨(.same _),(.same _),(.same _),(.same _),(.same _),(.same _),(.same _),tv⟩,⟨(.same _),(Qor (zs:=[[I 0,I 0]]) 0 rfl rfl ⟨⟨(.same _),(.same _),tv⟩,tv⟩),(.same _),(.same _),(.same _),(.same _),(.same _),tv⟩,⟨(.same _),(Qor (zs:=[[I 0,I 0]]) 1 rfl rfl ⟨⟨(.same _),(.same _),tv⟩,tv⟩),(.same _),(.same _),(.same _),(.same _),(.same _),tv⟩,tv⟩),tv⟩),tv⟩ (by rfl) (.lit _) Qmn (apv Q2v (Qj2 N (⟨[(⟨100,101,419,2676,150⟩:GRow),(⟨150,476,632,2746,300⟩:GRow),(⟨200,1555,852,2793,600⟩:GRow)],[(⟨1,[],2,0,1000,1000000,[]⟩:Qaf),(⟨3,[(⟨0,0⟩:Qby)],2,2000,1000,1000000,[]⟩:Qaf),(⟨4,[(⟨0,0⟩:Qby)],0,100,1000,1000000,[]⟩:Qaf)]⟩:GNet) _ hf37) (nlc (NLt.agg _ (nlc (nld Qak _) (nlc (nld Qaa _) nl0))) nl0) nll))),tv⟩) fun q7_=>?_
          refine bfe h (fun hb39 h=>?_) fun hb39 h=>?_
          ·obtain⟨x41,hf40,h⟩:=bno h
           exact wx tbk (hcat (Qu9 x15 x29 x17 x19 x21 x35 x38) [(32,rp [(.tmp 219,(B ((x38==1))))] (B true)),(33,rp [(.tmp 220,B true),fu 15] (B x41))]) (hap q7_ ⟨asb hb39 (amv rfl),ag_ (apv Q9y (Qqc 2000  _ hf40) nl0 nll),tv⟩)<|Qaj<|frb h
          ·exact wx tbk (hcat (Qu9 x15 x29 x17 x19 x21 x35 x38) [(32,rp [(.tmp 219,(B ((x38==1))))] (B false))]) (hap q7_ ⟨asb hb39 (amv rfl),tv⟩)<|Qaj<|frb h
         ·exact wx tbk (hcat (Qva x15 x29 x17 x19 x21 x35) [(27,rp [(.tmp 214,(B ((x35==1))))] (B false))]) (hap q6_ ⟨asb hb36 (amv rfl),tv⟩)<|Qaj<|frb h
        ·exact wx tbk (hcat (Qvb x15 x29 x17 x19) [(22,rp [(.tmp 209,(B ((x21.2.2==2))))] (B false))]) (hap q5_ ⟨asb hb33 (amv rfl),tv⟩)<|Qaj<|frb h
       ·exact wx tbk (hcat (Qvc x15 x29 x17) [(18,rp [(.tmp 205,(B ((x19.2.2==3))))] (B false))]) (hap q4_ ⟨asb hb32 (amv rfl),tv⟩)<|Qaj<|frb h
      ·exact wx tbk (hcat (Qvd x15 x29) [(14,rp [(.tmp 201,(B ((x17.2==1))))] (B false))]) (hap q3_ ⟨asb hb31 (amv rfl),tv⟩)<|Qaj<|frb h
     ·exact wx tbk (hcat (Qve x15 x29) [(10,rp [(.tmp 197,B x29)] (B false))]) (hap q2_ ⟨asb hb30 (amv rfl),tv⟩)<|Qaj<|frb h
    ·exact wx tbk (hcat (Qvf x15) [(6,rp [(.tmp 193,(B ((x15.2.1==2))))] (B false))]) (hap q1_ ⟨asb hb27 (amv rfl),tv⟩)<|Qaj<|frb h
   ·exact wx tbk [(2,rp [(.tmp 189,(B ((x15.2.2==11))))] (B false))] ⟨asb hb26 (amv rfl),tv⟩<|Qaj<|frb h
  ·skip
   refine bfe h (fun hb42 h=>?_) fun hb42 h=>?_
   ·exact wx tbk [(2,rp [(.tmp 69,(B ((x4.2.2 != 0))))] (B true))] ⟨asb hb42 (amv rfl),tv⟩<|wtr<|wxz<|Qaj<|Qap<|frb h
   ·refine hpre (A:=(Qu8 x4)) ⟨asb hb42 (amv rfl),tv⟩ fun q8_=>?_
    refine bfe h (fun hb43 h=>?_) fun hb43 h=>?_
    ·exact wx tbk (hcat (Qu8 x4) [(6,rp [(.tmp 73,(B ((x6.2.2 != 0))))] (B true))]) (hap q8_ ⟨asb hb43 (amv rfl),tv⟩)<|wtr<|wxz<|Qaj<|Qap<|frb h
    ·refine hpre (A:=(Qu7 x4 x6)) (hap q8_ ⟨asb hb43 (amv rfl),tv⟩) fun q9_=>?_
     refine bfe h (fun hb44 h=>?_) fun hb44 h=>?_
     ·exact wx tbk (hcat (Qu7 x4 x6) [(10,rp [(.tmp 77,(B ((x8.2.2 != 0))))] (B true))]) (hap q9_ ⟨asb hb44 (amv rfl),tv⟩)<|wtr<|wxz<|Qaj<|Qap<|frb h
     ·refine hpre (A:=(Qu6 x4 x6 x8)) (hap q9_ ⟨asb hb44 (amv rfl),tv⟩) fun q10_=>?_
      refine bfe h (fun hb45 h=>?_) fun hb45 h=>?_
      ·exact wx tbk (hcat (Qu6 x4 x6 x8) [(14,rp [(.tmp 81,(B ((x10.2 != 0))))] (B true))]) (hap q10_ ⟨asb hb45 (amv rfl),tv⟩)<|wtr<|wxz<|Qaj<|Qap<|frb h
      ·refine hpre (A:=(Qu5 x4 x6 x8 x10)) (hap q10_ ⟨asb hb45 (amv rfl),tv⟩) fun q11_=>?_
       refine bfe h (fun hb46 h=>?_) fun hb46 h=>?_
       ·exact wx tbk (hcat (Qu5 x4 x6 x8 x10) [(18,rp [(.tmp 85,(B ((x12.2.2 != 0))))] (B true))]) (hap q11_ ⟨asb hb46 (amv rfl),tv⟩)<|wtr<|wxz<|Qaj<|Qap<|frb h
       ·refine hpre (A:=(Qu4 x4 x6 x8 x10 x12)) (hap q11_ ⟨asb hb46 (amv rfl),tv⟩) fun q12_=>?_
        refine bfe h (fun hb47 h=>?_) fun hb47 h=>?_
        ·exact wx tbk (hcat (Qu4 x4 x6 x8 x10 x12) [(22,rp [(.tmp 89,(B ((x4.1 != 8))))] (B true))]) (hap q12_ ⟨asb hb47 (amv rfl),tv⟩)<|wtr<|wxz<|Qaj<|Qap<|frb h
        ·refine hpre (A:=(Qu3 x4 x6 x8 x10 x12)) (hap q12_ ⟨asb hb47 (amv rfl),tv⟩) fun q13_=>?_
         refine bfe h (fun hb48 h=>?_) fun hb48 h=>?_
         ·exact wx tbk (hcat (Qu3 x4 x6 x8 x10 x12) [(26,rp [(.tmp 93,(B ((x4.2.1 != 2))))] (B true))]) (hap q13_ ⟨asb hb48 (amv rfl),tv⟩)<|wtr<|wxz<|Qaj<|Qap<|frb h
         ·refine hpre (A:=(Qu2 x4 x6 x8 x10 x12)) (hap q13_ ⟨asb hb48 (amv rfl),tv⟩) fun q14_=>?_
          refine bfe h (fun hb49 h=>?_) fun hb49 h=>?_
          ·exact wx tbk (hcat (Qu2 x4 x6 x8 x10 x12) [(30,rp [(.tmp 97,(B ((x6.1 != 0))))] (B true))]) (hap q14_ ⟨asb hb49 (amv rfl),tv⟩)<|wtr<|wxz<|Qaj<|Qap<|frb h
          ·refine hpre (A:=(Qu1 x4 x6 x8 x10 x12)) (hap q14_ ⟨asb hb49 (amv rfl),tv⟩) fun q15_=>?_
           refine bfe h (fun hb50 h=>?_) fun hb50 h=>?_
           ·exact wx tbk (hcat (Qu1 x4 x6 x8 x10 x12) [(34,rp [(.tmp 101,(B ((x6.2.1 != 2))))] (B true))]) (hap q15_ ⟨asb hb50 (amv rfl),tv⟩)<|wtr<|wxz<|Qaj<|Qap<|frb h
           ·obtain⟨x52,hf51,h⟩:=bno h
            refine hpre (A:=(Qu0 x4 x6 x8 x10 x12 x52)) (hap q15_ ⟨asb hb50 (amv rfl),ag_ (Qbi (vs:=[I 1]) rfl underlying27 ti3 tz3 rfl (by decide) rfl (by decide) (by rfl) (by rfl) (by rfl) rfl),ag_ (apv Q9u (Qq6 N x8.1 ([1]) _ hf51) (nlc (nld Qae _) (nlc (nld Qae _) nl0)) nll),tv⟩) fun q16_=>?_
            refine bfe h (fun hb53 h=>?_) fun hb53 h=>?_
            ·exact wx tbk (hcat (Qu0 x4 x6 x8 x10 x12 x52) [(40,rp [(.tmp 107,(B ((!x52))))] (B true))]) (hap q16_ ⟨asb hb53 (amv rfl),tv⟩)<|wtr<|wxz<|Qaj<|Qap<|frb h
            ·refine hpre (A:=(Quz x4 x6 x8 x10 x12 x52)) (hap q16_ ⟨asb hb53 (amv rfl),tv⟩) fun q17_=>?_
             refine bfe h (fun hb54 h=>?_) fun hb54 h=>?_
             ·exact wx tbk (hcat (Quz x4 x6 x8 x10 x12 x52) [(44,rp [(.tmp 111,(B ((x8.2.1 != 103))))] (B true))]) (hap q17_ ⟨asb hb54 (amv rfl),tv⟩)<|wtr<|wxz<|Qaj<|Qap<|frb h
             ·refine hpre (A:=(Quy x4 x6 x8 x10 x12 x52)) (hap q17_ ⟨asb hb54 (amv rfl),ag_ (alq 1 Qal x12.1.Out underlying31),tv⟩) fun q18_=>?_
              refine bfe h (fun hb55 h=>?_) fun hb55 h=>?_
              ·exact wx tbk (hcat (Quy x4 x6 x8 x10 x12 x52) [(50,rp [(.tmp 117,(B (((x12.1.Out.length:Int) != 3))))] (B true))]) (hap q18_ ⟨asb hb55 (amv rfl),tv⟩)<|wtr<|wxz<|Qaj<|Qap<|frb h
              ·obtain⟨x56,hg57,h⟩:=bno h
               obtain⟨hi58,hj59⟩:=gsm hg57
               refine hpre (A:=(Qux x4 x6 x8 x10 x12 x52 x56)) (hap q18_ ⟨asb hb55 (amv rfl),ag_ (aiq underlying31 ti45 Qal hi58 hj59),ag_ (alq 4 Qag x56 underlying45),tv⟩) fun q19_=>?_
               refine bfe h (fun hb60 h=>?_) fun hb60 h=>?_
               ·exact wx tbk (hcat (Qux x4 x6 x8 x10 x12 x52 x56) [(58,rp [(.tmp 125,(B (((x56.length:Int) != 2))))] (B true))]) (hap q19_ ⟨asb hb60 (amv rfl),tv⟩)<|wtr<|wxz<|Qaj<|Qap<|frb h
               ·obtain⟨x61,hg62,h⟩:=bno h
                obtain⟨hi63,hj64⟩:=gsm hg62
                refine wx tbk (hcat (Qux x4 x6 x8 x10 x12 x52 x56) [(58,rp [(.tmp 125,(B (((x56.length:Int) != 2))))] (B false)),(61,rp [(.tmp 126,B false),(.tmp 128,(Qvi x12)),ci 2] (.dptr (Qal x56) 0)),(63,rp [(.tmp 126,B false),(.tmp 130,(.dat 4 (x56.map Qag))),ci 0] (.dptr (Qag x61) 0)),(65,rp [(.tmp 126,B false),ci 100,ci 85000,ci 25000,ci 5] Q05),(66,rp [(.tmp 126,B false),(.tmp 132,(.agg [I x61.Mass,I x61.Heat,I x61.Silica,I x61.Gas])),(.tmp 133,Q05)] (B ((!(([x61.Mass,x61.Heat,x61.Silica,x61.Gas]:List Int)==[100,85000,25000,5])))))]) (hap q19_ ⟨asb hb60 (amv rfl),ag_ (aiq underlying31 ti45 Qal hi58 hj59),ag_ (aiq underlying45 ti63 Qag hi63 hj64),ag_ (Qay (vs:=[I 100,I 85000,I 25000,I 5]) rfl ts63 tz63 rfl (by rfl) rfl),ag_ (Q3b (ls:=[x61.Mass,x61.Heat,x61.Silica,x61.Gas]) (ks:=[100,85000,25000,5]) rfl rfl Q9n (by kernel_rfl) rfl rfl),tv⟩) ?_
                refine bfe h (fun hc65 h=>?_) fun hc65 h=>?_
                ·exact wft hc65<|wxz<|Qaj<|Qap<|frb h
                ·exact wfn hc65<|Qat<|thn<|⟨(),h,(mto (n:=223) [(1,.ref 0 2 0 0),(2,(Qq9 x2)),(3,Qtl)] [0] [(.own 2 [[(.dat 5 (x2.1.Table.map Qau)),(.dat 7 (x2.1.Elements.map Qad))]])] hφ0 (prr (pc (rnd Qah) (pc (rnd Qae) pn))) (qb (lc (rnd Qak) (lc (rnd Qaa) ln)) qn))⟩
end
section
open Go.RowKit
theorem Qy6:Qh7 2000=some true:=by decide +kernel
end
end Go.Proofs.YtmbhnllcfmiajaaGreat
