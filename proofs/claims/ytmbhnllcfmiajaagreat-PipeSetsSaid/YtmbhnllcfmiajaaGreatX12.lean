/-
  Functions of the program: what they compute, as plain functions, and that they do. No conditions.
-/
import Derived.Test.YtmbhnllcfmiajaaGreatX7
namespace Go.Proofs.YtmbhnllcfmiajaaGreat
set_option maxRecDepth 100000
set_option maxHeartbeats 4000000
open Go.RowKit
def Qck (_N:Nat) (p0:(List GRow)):Option (List GRow):=
  bif p0.isEmpty then
   some ([])
  else
   chk (decide ((([]:List GRow).length+p0.length) * 40≤140737488355328))<|
   some (([]:List GRow)++p0)
def Qpt (p0:(List GRow)):AV:=.dat 5 ((p0:List GRow).map Qau)
def Qy4:AV:=.acc 0 160 5 ((([]:List GRow):List GRow).map Qau)
def Qy3 (p0:(List GRow)):AV:=.acc 1 160 5 ((([]:List GRow)++p0:List GRow).map Qau)
theorem Qgd (N:Nat) (p0:(List GRow)) (r:(List GRow)) (h:Qck N p0=some r):Spec Tryz.prog 104 [(.dat 5 (p0.map Qau))] [] (.dat 5 (r.map Qau)) []:=by
  refine Qah Tryz.func104 rfl 0 (nle rfl) (fun X φ0 w0 hφ0 hd0=>?_)
  unfold Qck at h
  refine wxz<|wsq ?_
  refine bfe h (fun hz2 h=>?_) fun hz2 h=>?_
  ·refine Qpe 1 [mv 0 (Qpt p0),rp [(.tmp 3,(Qpt p0)),((.const (.slice none 0 0)),nilS)] (B true)] [mv 0 (Qpt p0),rp [(.tmp 3,(Qpt p0)),((.const (.slice none 0 0)),nilS)] (B false)] (by exact ⟨by kernel_rfl,by kernel_rfl⟩) (by exact ⟨by kernel_rfl,by kernel_rfl⟩) rfl rfl rfl rfl (Qlb rfl Tryz.underlying39 rfl) (⟨fun _ _=>amv rfl,fun _ h=>absurd rfl h,tv⟩) (⟨fun _ _=>amv rfl,fun _ h=>absurd rfl h,tv⟩) ?_ ?_
   ·refine wtr<|wxz<|Qad<|Qac ?_
    obtain rfl:=osi h
    exact fend ⟨[(.dat 5 (([]:List GRow).map Qau))],⟨Qch (v:=nilS) (rot) Less.nil,tv⟩,rfl⟩ (nld Qae _)
   ·replace h:(chk (decide ((([]:List GRow).length+p0.length) * 40≤140737488355328))<|some (([]:List GRow)++p0))=some r:=by rw [List.isEmpty_iff.1 hz2]; exact h
    refine wfa<|Qam<|thn ?_
    obtain ⟨ha1,h⟩:=cko h
    refine wx tbk [(0,⟨[],[(0,.unused)],Qy4,[(0,.tok)],false⟩),(2,⟨[(.tmp 5,Qy4),(.tmp 6,(Qpt p0))],[(0,.tok),(1,.unused)],(Qy3 p0),[(0,.dead),(1,.tok)],false⟩)] ⟨Qdp rfl Tryz.underlying39 Qnx Qst,Qej rfl Tryz.underlying39 Zd8 (Base.acc _ _) rfl rfl (Qhh Qau Qzj _) (Qgj Qau ha1) (Qgi Qau ha1 (by decide)) (Qgh Qau) rfl rfl,tv⟩<|Qad ?_
    obtain rfl:=osi h
    exact fend ⟨[(.dat 5 ((([]:List GRow)++p0:List GRow).map Qau))],⟨Qch (v:=(Qy3 p0)) (rot) Less.acc,tv⟩,rfl⟩ (nld Qae _)
  ·refine wx tbk [(1,rp [(.tmp 3,(Qpt p0)),((.const (.slice none 0 0)),nilS)] (B false))] ⟨Qjc rfl Tryz.underlying39 rfl (Qff (emf hz2)),tv⟩<|wfa<|Qam<|thn ?_
   obtain ⟨ha3,h⟩:=cko h
   refine wx tbk [(0,⟨[],[(0,.unused)],Qy4,[(0,.tok)],false⟩),(2,⟨[(.tmp 5,Qy4),(.tmp 6,(Qpt p0))],[(0,.tok),(1,.unused)],(Qy3 p0),[(0,.dead),(1,.tok)],false⟩)] ⟨Qdp rfl Tryz.underlying39 Qnx Qst,Qej rfl Tryz.underlying39 Zd8 (Base.acc _ _) rfl rfl (Qhh Qau Qzj _) (Qgj Qau ha3) (Qgi Qau ha3 (by decide)) (Qgh Qau) rfl rfl,tv⟩<|Qad ?_
   obtain rfl:=osi h
   exact fend ⟨[(.dat 5 ((([]:List GRow)++p0:List GRow).map Qau))],⟨Qch (v:=(Qy3 p0)) (rot) Less.acc,tv⟩,rfl⟩ (nld Qae _)
def Qbz (_N:Nat) (p0:(List GElement)):Option Unit:=
  chk (!p0.isEmpty)<|
  chk (!p0.isEmpty)<|
  chk (decide ((0+p0.length) * 88≤140737488355328))<|
  some ()
def Q4b (p0:(List GElement)):AV:=.dat 7 ((p0:List GElement).map Qab)
def Qy2 (p0:(List GElement)):Slot:=.own 7 ((p0:List GElement).map Qab)
def Zbg:AV:=.acc 0 133 7 ((([]:List GElement):List GElement).map Qab)
theorem Qfu (N:Nat) (p0:(List GElement)) (r:Unit) (h:Qbz N p0=some r):Spec Tryz.prog 105 [(Q4b p0)] [] (.own 0 7 (0) (p0.length)) [(Qy2 p0)]:=by
  refine Qah Tryz.func105 rfl 1 (nle rfl) (fun X φ0 w0 hφ0 hd0=>?_)
  unfold Qbz at h
  refine Qbh<|wxz<|wsq ?_
  obtain ⟨hz1,h⟩:=cko h
  refine wx tbk [(1,rp [(.tmp 3,(Q4b p0)),((.const (.slice none 0 0)),nilS)] (B false))] ⟨Qjc rfl Tryz.underlying40 rfl (Qff hz1),tv⟩<|wfa<|Qam<|thn ?_
  obtain ⟨ha3,h⟩:=cko h
  obtain ⟨ha2,h⟩:=cko h
  refine wx tbk [(0,⟨[],[(0,.unused)],Zbg,[(0,.tok)],false⟩),(2,⟨[(.tmp 5,Zbg),(.tmp 6,(Q4b p0))],[(0,.tok),(1,.unused)],(.own 1 7 (0) (p0.length)),[(0,.dead),(1,(Qy2 p0))],false⟩)] ⟨Qdp rfl Tryz.underlying40 Qg2 Quf,Qof rfl Tryz.underlying40 Zgz (Base.acc _ _) rfl rfl (Qff ha3) (Qhh Qab Qol _) (Qtt Qab ha2) (Qts Qab ha2 (by decide)) (List.length_map _),tv⟩ ?_
  refine wmr (mto (n:=8) (l':=[(2,(.own 0 7 (0) (p0.length)))]) (own':=[(Qy2 p0)]) [(2,(.own 1 7 (0) (p0.length)))] [1] [(Qy2 p0)] hφ0 (pc (.rn (Qa0 rfl)) pn) (qc (spr Qaa) qn))<|Qad ?_
  obtain rfl:=osi h
  exact ⟨_,Mor.rfl,Qct (vs:=[(.own 0 7 (0) (p0.length))]) ⟨rot,tv⟩ rfl (NLt.own _ _ _ _ (by decide)) (by kernel_rfl) (Qan (Qbw Qaa _) Qbi)⟩
def Qcr (_N:Nat) (p0:(List GPort)):Option (List GPort):=
  bif p0.isEmpty then
   some ([])
  else
   chk (decide ((([]:List GPort).length+p0.length) * 16≤140737488355328))<|
   some (([]:List GPort)++p0)
def Qps (p0:(List GPort)):AV:=.dat 2 ((p0:List GPort).map Qar)
def Qy1:AV:=.acc 0 120 2 ((([]:List GPort):List GPort).map Qar)
def Qy0 (p0:(List GPort)):AV:=.acc 1 120 2 ((([]:List GPort)++p0:List GPort).map Qar)
def Zbf (p0:(List GPort)):AV:=.dat 2 ((([]:List GPort)++p0:List GPort).map Qar)
theorem Qgk (N:Nat) (p0:(List GPort)) (r:(List GPort)) (h:Qcr N p0=some r):Spec Tryz.prog 106 [(.dat 2 (p0.map Qar))] [] (.dat 2 (r.map Qar)) []:=by
  refine Qah Tryz.func106 rfl 0 (nle rfl) (fun X φ0 w0 hφ0 hd0=>?_)
  unfold Qcr at h
  refine wxz<|wsq ?_
  refine bfe h (fun hz2 h=>?_) fun hz2 h=>?_
  ·refine Qpe 1 [mv 0 (Qps p0),rp [(.tmp 3,(Qps p0)),((.const (.slice none 0 0)),nilS)] (B true)] [mv 0 (Qps p0),rp [(.tmp 3,(Qps p0)),((.const (.slice none 0 0)),nilS)] (B false)] (by exact ⟨by kernel_rfl,by kernel_rfl⟩) (by exact ⟨by kernel_rfl,by kernel_rfl⟩) rfl rfl rfl rfl (Qlb rfl Tryz.underlying116 rfl) (⟨fun _ _=>amv rfl,fun _ h=>absurd rfl h,tv⟩) (⟨fun _ _=>amv rfl,fun _ h=>absurd rfl h,tv⟩) ?_ ?_
   ·refine wtr<|wxz<|Qad<|Qac ?_
    obtain rfl:=osi h
    exact fend ⟨[(.dat 2 (([]:List GPort).map Qar))],⟨Qch (v:=nilS) (rot) Less.nil,tv⟩,rfl⟩ (nld Qaz _)
   ·replace h:(chk (decide ((([]:List GPort).length+p0.length) * 16≤140737488355328))<|some (([]:List GPort)++p0))=some r:=by rw [List.isEmpty_iff.1 hz2]; exact h
    refine wfa<|Qam<|thn ?_
    obtain ⟨ha1,h⟩:=cko h
    refine wx tbk [(0,⟨[],[(0,.unused)],Qy1,[(0,.tok)],false⟩),(2,⟨[(.tmp 5,Qy1),(.tmp 6,(Qps p0))],[(0,.tok),(1,.unused)],(Qy0 p0),[(0,.dead),(1,.tok)],false⟩)] ⟨Qdp rfl Tryz.underlying116 Qkv Qoz,Qej rfl Tryz.underlying116 Q8a (Base.acc _ _) rfl rfl (Qhh Qar Quu _) (Qgj Qar ha1) (Qgi Qar ha1 (by decide)) (Qgh Qar) rfl rfl,tv⟩<|Qad ?_
    obtain rfl:=osi h
    exact fend ⟨[(Zbf p0)],⟨Qch (v:=(Qy0 p0)) (rot) Less.acc,tv⟩,rfl⟩ (nld Qaz _)
  ·refine wx tbk [(1,rp [(.tmp 3,(Qps p0)),((.const (.slice none 0 0)),nilS)] (B false))] ⟨Qjc rfl Tryz.underlying116 rfl (Qff (emf hz2)),tv⟩<|wfa<|Qam<|thn ?_
   obtain ⟨ha3,h⟩:=cko h
   refine wx tbk [(0,⟨[],[(0,.unused)],Qy1,[(0,.tok)],false⟩),(2,⟨[(.tmp 5,Qy1),(.tmp 6,(Qps p0))],[(0,.tok),(1,.unused)],(Qy0 p0),[(0,.dead),(1,.tok)],false⟩)] ⟨Qdp rfl Tryz.underlying116 Qkv Qoz,Qej rfl Tryz.underlying116 Q8a (Base.acc _ _) rfl rfl (Qhh Qar Quu _) (Qgj Qar ha3) (Qgi Qar ha3 (by decide)) (Qgh Qar) rfl rfl,tv⟩<|Qad ?_
   obtain rfl:=osi h
   exact fend ⟨[(Zbf p0)],⟨Qch (v:=(Qy0 p0)) (rot) Less.acc,tv⟩,rfl⟩ (nld Qaz _)
def Qfa (_N:Nat) (p0:(List Int)):Option (List Int):=
  bif p0.isEmpty then
   some ([])
  else
   chk (decide ((([]:List Int).length+p0.length) * 8≤140737488355328))<|
   some (([]:List Int)++p0)
def Qpr (p0:(List Int)):AV:=.dat 1 ((p0:List Int).map Qaj)
def Qyz:AV:=.acc 0 3 1 ((([]:List Int):List Int).map Qaj)
def Qyy (p0:(List Int)):AV:=.acc 1 3 1 ((([]:List Int)++p0:List Int).map Qaj)
theorem Qjv (N:Nat) (p0:(List Int)) (r:(List Int)) (h:Qfa N p0=some r):Spec Tryz.prog 95 [(.dat 1 (p0.map Qaj))] [] (.dat 1 (r.map Qaj)) []:=by
  refine Qah Tryz.func95 rfl 0 (nle rfl) (fun X φ0 w0 hφ0 hd0=>?_)
  unfold Qfa at h
  refine wxz<|wsq ?_
  refine bfe h (fun hz2 h=>?_) fun hz2 h=>?_
  ·refine Qpe 1 [mv 0 (Qpr p0),rp [(.tmp 3,(Qpr p0)),((.const (.slice none 0 0)),nilS)] (B true)] [mv 0 (Qpr p0),rp [(.tmp 3,(Qpr p0)),((.const (.slice none 0 0)),nilS)] (B false)] (by exact ⟨by kernel_rfl,by kernel_rfl⟩) (by exact ⟨by kernel_rfl,by kernel_rfl⟩) rfl rfl rfl rfl (Qlb rfl Tryz.underlying27 rfl) (⟨fun _ _=>amv rfl,fun _ h=>absurd rfl h,tv⟩) (⟨fun _ _=>amv rfl,fun _ h=>absurd rfl h,tv⟩) ?_ ?_
   ·refine wtr<|wxz<|Qad<|Qac ?_
    obtain rfl:=osi h
    exact fend ⟨[(.dat 1 (([]:List Int).map Qaj))],⟨Qch (v:=nilS) (rot) Less.nil,tv⟩,rfl⟩ (nld Qaf _)
   ·replace h:(chk (decide ((([]:List Int).length+p0.length) * 8≤140737488355328))<|some (([]:List Int)++p0))=some r:=by rw [List.isEmpty_iff.1 hz2]; exact h
    refine wfa<|Qam<|thn ?_
    obtain ⟨ha1,h⟩:=cko h
    refine wx tbk [(0,⟨[],[(0,.unused)],Qyz,[(0,.tok)],false⟩),(2,⟨[(.tmp 5,Qyz),(.tmp 6,(Qpr p0))],[(0,.tok),(1,.unused)],(Qyy p0),[(0,.dead),(1,.tok)],false⟩)] ⟨Qdp rfl Tryz.underlying27 ti3 tz3,Qej rfl Tryz.underlying27 te3 (Base.acc _ _) rfl rfl (Qhh Qaj Qgg _) (Qgj Qaj ha1) (Qgi Qaj ha1 (by decide)) (Qgh Qaj) rfl rfl,tv⟩<|Qad ?_
    obtain rfl:=osi h
    exact fend ⟨[(.dat 1 ((([]:List Int)++p0:List Int).map Qaj))],⟨Qch (v:=(Qyy p0)) (rot) Less.acc,tv⟩,rfl⟩ (nld Qaf _)
  ·refine wx tbk [(1,rp [(.tmp 3,(Qpr p0)),((.const (.slice none 0 0)),nilS)] (B false))] ⟨Qjc rfl Tryz.underlying27 rfl (Qff (emf hz2)),tv⟩<|wfa<|Qam<|thn ?_
   obtain ⟨ha3,h⟩:=cko h
   refine wx tbk [(0,⟨[],[(0,.unused)],Qyz,[(0,.tok)],false⟩),(2,⟨[(.tmp 5,Qyz),(.tmp 6,(Qpr p0))],[(0,.tok),(1,.unused)],(Qyy p0),[(0,.dead),(1,.tok)],false⟩)] ⟨Qdp rfl Tryz.underlying27 ti3 tz3,Qej rfl Tryz.underlying27 te3 (Base.acc _ _) rfl rfl (Qhh Qaj Qgg _) (Qgj Qaj ha3) (Qgi Qaj ha3 (by decide)) (Qgh Qaj) rfl rfl,tv⟩<|Qad ?_
   obtain rfl:=osi h
   exact fend ⟨[(.dat 1 ((([]:List Int)++p0:List Int).map Qaj))],⟨Qch (v:=(Qyy p0)) (rot) Less.acc,tv⟩,rfl⟩ (nld Qaf _)
def Qdf (N:Nat) (p0:GNet) (p1:(List Int)) (k12:(List GElement)→Option GNet) (x15:(List Int)):Nat→Int→(List GElement)→Option GNet
  | 0,_,_=>none
  | n20+1,y16,y17=>
    bif (decide (y16<(x15.length:Int))) then
     (getI x15 y16).bind fun x22=>
     (getI p1 y16).bind fun x26=>
     chk (decide (0≤x22)&&decide (x22.toNat<p0.Elements.length))<|
     (y17[x22.toNat]?).bind fun x31=>
     Qdf N p0 p1 k12 x15 n20 (w64 (y16+1)) (y17.set x22.toNat (⟨x31.Kind,x31.From,x26,x31.Amount,x31.Wide,x31.Narrow,x31.Weights⟩:GElement))
    else
     k12 (y17)
def Qde (N:Nat) (p0:GNet) (k10:(List GElement)→Option GNet):Nat→Int→(List GElement)→Option GNet
  | 0,_,_=>none
  | n37+1,y33,y34=>
    bif (decide (y33<(p0.Elements.length:Int))) then
     (getI p0.Elements y33).bind fun x39=>
     (Qcr N x39.From).bind fun x44=>
     (Qfa N x39.Weights).bind fun x46=>
     chk (decide (0≤y33)&&decide (y33.toNat<p0.Elements.length))<|
     (y34[y33.toNat]?).bind fun x48=>
     chk (decide (0≤y33)&&decide (y33.toNat<p0.Elements.length))<|
     ((y34.set y33.toNat (⟨x48.Kind,x44,x48.Level,x48.Amount,x48.Wide,x48.Narrow,x48.Weights⟩:GElement))[y33.toNat]?).bind fun x51=>
     Qde N p0 k10 n37 (w64 (y33+1)) ((y34.set y33.toNat (⟨x48.Kind,x44,x48.Level,x48.Amount,x48.Wide,x48.Narrow,x48.Weights⟩:GElement)).set y33.toNat (⟨x51.Kind,x51.From,x51.Level,x51.Amount,x51.Wide,x51.Narrow,x46⟩:GElement))
    else
     k10 (y34)
def Qhg (N:Nat) (p0:GNet) (p1:(List Int)):Option GNet:=
  (Qck N p0.Table).bind fun x6=>
  (Qbz N p0.Elements).bind fun _=>
  Qby (fun y9=>
    Qby (fun y11=>
      chk (decide (p0.Elements.length≤y11.length))<|
      some (⟨x6,y11.take p0.Elements.length⟩:GNet)) fun k12:(List GElement)→Option GNet=>
    (Qfv N p0 4).bind fun x15=>
    Qdf N p0 p1 k12 x15 N 0 y9) fun k10:(List GElement)→Option GNet=>
  Qde N p0 k10 N 0 p0.Elements
def Q4c (p0:GNet):AV:=.dat 5 ((p0.Table:List GRow).map Qau)
def Qjk (x6:(List GRow)):AV:=.dat 5 ((x6:List GRow).map Qau)
def Qly (p0:GNet):AV:=.dat 7 ((p0.Elements:List GElement).map Qab)
def Qy5 (p0:GNet):Slot:=.own 7 ((p0.Elements:List GElement).map Qab)
def Qiv (p1:(List Int)):AV:=.dat 1 ((p1:List Int).map Qaj)
def Qrn (p0:GNet):Slot:=.own 2 [[(Q4c p0),(Qly p0)]]
def Qnv (x6:(List GRow)) (p0:GNet):Slot:=.own 2 [[(Qjk x6),(.own 3 7 (0) (p0.Elements.length))]]
def Qsr (y9:(List GElement)):Slot:=.own 7 ((y9:List GElement).map Qab)
def Ql3 (x6:(List GRow)) (p0:GNet):Slot:=.own 2 [[(Qjk x6),(.own 2 7 (0) (p0.Elements.length))]]
def Qsq (y11:(List GElement)) (p0:GNet):AV:=.dat 7 ((y11.take p0.Elements.length:List GElement).map Qab)
def Ql4 (x15:(List Int)):AV:=.dat 1 ((x15:List Int).map Qaj)
def Qo5 (y17:(List GElement)):Slot:=.own 7 ((y17:List GElement).map Qab)
def Qy7 (y17:(List GElement)) (x22:Int) (x31:GElement) (x26:Int):Slot:=.own 7 ((y17.set x22.toNat (⟨x31.Kind,x31.From,x26,x31.Amount,x31.Wide,x31.Narrow,x31.Weights⟩:GElement):List GElement).map Qab)
def Qo4 (y34:(List GElement)):Slot:=.own 7 ((y34:List GElement).map Qab)
def Q73 (x39:GElement):AV:=.dat 2 ((x39.From:List GPort).map Qar)
def Q72 (x39:GElement):AV:=.dat 1 ((x39.Weights:List Int).map Qaj)
def Qsp (y34:(List GElement)) (y33:Int) (x48:GElement) (x44:(List GPort)):Slot:=.own 7 ((y34.set y33.toNat (⟨x48.Kind,x44,x48.Level,x48.Amount,x48.Wide,x48.Narrow,x48.Weights⟩:GElement):List GElement).map Qab)
def Qy6 (y34:(List GElement)) (y33:Int) (x48:GElement) (x44:(List GPort)) (x51:GElement) (x46:(List Int)):Slot:=.own 7 (((y34.set y33.toNat (⟨x48.Kind,x44,x48.Level,x48.Amount,x48.Wide,x48.Narrow,x48.Weights⟩:GElement)).set y33.toNat (⟨x51.Kind,x51.From,x51.Level,x51.Amount,x51.Wide,x51.Narrow,x46⟩:GElement):List GElement).map Qab)
theorem Qo2 (N:Nat) (p0:GNet) (p1:(List Int)) (r:GNet) (h:Qhg N p0 p1=some r):Spec Tryz.prog 68 [(.agg (Qgn p0)),(.dat 1 (p1.map Qaj))] [] (.agg [(.dat 5 ((r.Table:List GRow).map Qau)),(.dat 7 ((r.Elements:List GElement).map Qab))]) []:=by
  refine Qah Tryz.func68 rfl 0 (nle rfl) (fun X φ0 w0 hφ0 hd0=>?_)
  unfold Qhg at h
  refine Qbh<|wxz ?_
  obtain ⟨x6,hf5,h⟩:=bno h
  obtain ⟨x8,hf7,h⟩:=bno h
  refine wxd tbk [(2,rp [fu 104,(.tmp 11,(Q4c p0))] (Qjk x6)),(5,⟨[fu 105,(.tmp 14,(Qly p0))],[(2,.unused)],(.own 2 7 (0) (p0.Elements.length)),[(2,(Qy5 p0))],false⟩),(6,rp [(.tmp 12,(Qjk x6)),(.tmp 15,(.own 2 7 (0) (p0.Elements.length)))] (.agg [(Qjk x6),(.own 2 7 (0) (p0.Elements.length))]))] ⟨apv Q96 (Qgd N p0.Table _ hf5) (nlc (nld Qae _) nl0) (nld Qae _),Qat (first:=[]) (cap:=[]) (vs:=[(Qly p0)]) (σr:=[]) (σr':=[(Qy5 p0)]) (res':=(.own 2 7 (0) (p0.Elements.length))) [2] rfl Q95 (Qfu N p0.Elements _ hf7) rfl (Qbn (rnc (pld Qaa) rn0)) Qas (slc (Qa3 Qaa) Qas) (Qcx rfl) rfl rfl rfl,Qax (vs:=[(Qjk x6),(.own 2 7 (0) (p0.Elements.length))]) rfl ts42 tz42 rfl (by rfl) rfl,tv⟩ ?_
  obtain ⟨k10,hk_k10,h⟩:=jko h
  refine wjn (τ:=(List GElement)) (fun t=>k10 t=some r) (fun y9=>⟨mk 61 [(1,(Qiv p1)),(2,.ref 0 2 0 0),(4,.ref 1 2 0 0),(5,.ref 2 2 0 0)],[(Qrn p0),(.own 2 [[nilS,nilS]]),(Qnv x6 p0),(Qsr y9)]⟩) (fun y9 h=>?_) ?_
  ·subst hk_k10
   obtain ⟨k12,hk_k12,h⟩:=jko h
   refine wjn (τ:=(List GElement)) (fun t=>k12 t=some r) (fun y11=>⟨mk 61 [(4,.ref 0 2 0 0),(5,.ref 1 2 0 0)],[(.own 2 [[nilS,nilS]]),(Ql3 x6 p0),(.own 7 ((y11:List GElement).map Qab))]⟩) (fun y11 h=>?_) ?_
   ·subst hk_k12
    refine wxz ?_
    obtain ⟨hz13,h⟩:=cko h
    refine wmr (Qqd (n:=61) (mp:=2) (m:=7) (xs:=(y11:List GElement).map Qab) (c:=[(Qjk x6),(.own 2 7 (0) (p0.Elements.length))]) (l':=[(4,.ref 0 2 0 0)]) (c':=[(Qjk x6),(Qsq y11 p0)]) (own':=[(.own 2 [[(Qjk x6),(Qsq y11 p0)]]),(Ql3 x6 p0),.dead]) 2 0 [(4,.ref 0 2 0 0)] (by kernel_rfl) (by kernel_rfl) (by kernel_rfl) (by kernel_rfl) ⟨(.same _),(Qme hz13),tv⟩ ⟨rfl,(.same _),tv⟩ (by kernel_rfl)) ?_
    refine wmr (mto (n:=61) (l':=[(4,.ref 0 2 0 0)]) (own':=[(.own 2 [[(.dat 5 ((((⟨x6,y11.take p0.Elements.length⟩:GNet).Table):List GRow).map Qau)),(.dat 7 ((((⟨x6,y11.take p0.Elements.length⟩:GNet).Elements):List GElement).map Qab))]])]) [(4,.ref 0 2 0 0)] [0] [(.own 2 [[(Qjk x6),(Qsq y11 p0)]])] hφ0 (prr pn) (qb (lc (rnd Qae) (lc (rnd Qaa) ln)) qn))<|Qad ?_
    obtain rfl:=osi h
    exact ⟨_,Mor.rfl,⟨⟨[(.agg [(.dat 5 (((⟨x6,y11.take p0.Elements.length⟩:GNet).Table:List GRow).map Qau)),(.dat 7 (((⟨x6,y11.take p0.Elements.length⟩:GNet).Elements:List GElement).map Qab))])],⟨Qbk (n:=0) (m:=2) (j:=0) (i:=0) (xs:=[[(.dat 5 (((⟨x6,y11.take p0.Elements.length⟩:GNet).Table:List GRow).map Qau)),(.dat 7 (((⟨x6,y11.take p0.Elements.length⟩:GNet).Elements:List GElement).map Qab))]]) (by kernel_rfl) (by kernel_rfl) ti42 (by decide) rfl (nle rfl) rfl,tv⟩,rfl⟩,(NLt.agg _ (nlc (nld Qae _) (nlc (nld Qaa _) nl0))),Nat.le_refl _,fun n hn=>absurd hn (Nat.not_lt_zero n)⟩⟩
   ·skip
    obtain ⟨x15,hf14,h⟩:=bno h
    refine wx tbk [(1,rp [fu 67,(.tmp 42,(.agg [(Q4c p0),(Qly p0)])),(.const (.int .u8 4),(K .u8 (4)))] (Ql4 x15)),(2,rp [(.tmp 43,(Ql4 x15))] (I ((x15.length:Int))))] ⟨apv Qql (Qf8 N p0 4 _ hf14) (nlc (NLt.agg _ (nlc (nld Qae _) (nlc (nld Qaa _) nl0))) (nlc nll nl0)) (nld Qaf _),alm (c:=Qaj) (l:=x15) (aln rfl Tryz.underlying27 rfl),tv⟩<|Qal ?_
    refine wmr (mto (n:=61) (l':=[(1,(Qiv p1)),(4,.ref 0 2 0 0),(5,.ref 1 2 0 0),(43,(Ql4 x15)),(44,(I ((x15.length:Int)))),(45,I 0)]) (own':=[(.own 2 [[nilS,nilS]]),(Ql3 x6 p0),(Qsr y9)]) [(1,(Qiv p1)),(4,.ref 1 2 0 0),(5,.ref 2 2 0 0),(43,(Ql4 x15)),(44,(I ((x15.length:Int)))),(45,I 0)] [1,2,3] [(.own 2 [[nilS,nilS]]),(Qnv x6 p0),(Qsr y9)] hφ0 (pc (rnd Qaf) (prr (prr (pc (rnd Qaf) (pw (pw pn)))))) (qb (lcc ln) (qb (lc (rnd Qae) (lc (.rn (Qa0 rfl)) ln)) (qc (spr Qaa) qn)))) ?_
    refine Qbu (τ:=Int×(List GElement)) (fun n t=>Qdf N p0 p1 k12 x15 n t.1 t.2=some r) (fun ⟨y16,y17⟩=>⟨mk 61 [(1,(Qiv p1)),(4,.ref 0 2 0 0),(5,.ref 1 2 0 0),(43,(Ql4 x15)),(44,(I ((x15.length:Int)))),(45,I y16)],[(.own 2 [[nilS,nilS]]),(Ql3 x6 p0),(Qo5 y17)]⟩) (fun t h=>by rw [Qdf] at h; cases h) (fun n20 ih t h=>?_) N (0,y9) h
    obtain ⟨y16,y17⟩:=t
    rw [Qdf] at h
    skip
    refine wxz<|wsq ?_
    refine bfe h (fun hc21 h=>?_) fun hc21 h=>?_
    ·refine wft hc21<|Qam<|thn<|wsq<|Qal ?_
     obtain ⟨x22,hg23,h⟩:=bno h
     obtain ⟨hi24,hj25⟩:=gsm hg23
     refine wx tbk [(1,rp [(.tmp 43,(Ql4 x15)),(.tmp 45,I y16)] (.dptr (Qaj (x22)) 0))] ⟨aid rfl Tryz.underlying27 ti3 rfl rfl hi24 (mgt Qaj hj25) rfl,tv⟩ ?_
     obtain ⟨x26,hg27,h⟩:=bno h
     obtain ⟨hi28,hj29⟩:=gsm hg27
     obtain ⟨hi30,h⟩:=cko h
     obtain ⟨hi30a,hi30b⟩:=Qdu hi30
     obtain ⟨x31,hg32,h⟩:=bno h
     refine wy1 tbk [(5,rp [(.tmp 53,(Qiv p1)),(.tmp 54,I y16)] (.dptr (Qaj (x26)) 0)),(7,rb [(.tmp 51,(.own 2 7 (0) (p0.Elements.length))),(.tmp 52,I x22)] [(2,(Qo5 y17))] (.ref 2 7 (x22.toNat) 0)),(9,⟨[(.tmp 58,(.ref 2 7 (x22.toNat) 2)),(.tmp 56,I x26)],[(2,(Qo5 y17))],.any,[(2,(Qy7 y17 x22 x31 x26))],false⟩)] ⟨aid rfl Tryz.underlying27 ti3 rfl rfl hi28 (mgt Qaj hj29) rfl,aio rfl Tryz.underlying40 Qg2 (odt hi30a) (odt hi30b) (Nat.zero_add _),ast rfl ti3 (by rfl) (mgt Qab hg32) (nle rfl) (Qfm Qab rfl),tv⟩<|bln<|thn<|wxz1<|thn ?_
     exact arm (mto (n:=61) [(1,(Qiv p1)),(4,.ref 0 2 0 0),(5,.ref 1 2 0 0),(43,(Ql4 x15)),(44,(I ((x15.length:Int)))),(45,(I (w64 (y16+1))))] [0,1,2] [(.own 2 [[nilS,nilS]]),(Ql3 x6 p0),(Qy7 y17 x22 x31 x26)] hφ0 (pc (rnd Qaf) (prr (prr (pc (rnd Qaf) (pw (pw pn)))))) (qb (lcc ln) (qb (lc (rnd Qae) (lc (.rn (Qa0 rfl)) ln)) (qc (spr Qaa) qn)))) (ih (w64 (y16+1),y17.set x22.toNat (⟨x31.Kind,x31.From,x26,x31.Amount,x31.Wide,x31.Narrow,x31.Weights⟩:GElement)) h)
    ·exact wfn hc21<|Qbf<|Qav<|Qav<|Qbe rfl<|thn<|⟨(y17),h,(mto (n:=61) [(4,.ref 0 2 0 0),(5,.ref 1 2 0 0)] [0,1,2] [(.own 2 [[nilS,nilS]]),(Ql3 x6 p0),(Qo5 y17)] hφ0 (prr (prr pn)) (qb (lcc ln) (qb (lc (rnd Qae) (lc (.rn (Qa0 rfl)) ln)) (qc (spr Qaa) qn))))⟩
  ·skip
   refine wx tbk [(2,rp [(.tmp 18,(Qly p0))] (I ((p0.Elements.length:Int))))] ⟨alm (c:=Qab) (l:=p0.Elements) (aln rfl Tryz.underlying40 rfl),tv⟩<|Qal ?_
   refine wmr (mto (n:=61) (l':=[(1,(Qiv p1)),(2,.ref 0 2 0 0),(4,.ref 1 2 0 0),(5,.ref 2 2 0 0),(18,(Qly p0)),(19,(I ((p0.Elements.length:Int)))),(20,I 0)]) (own':=[(Qrn p0),(.own 2 [[nilS,nilS]]),(Qnv x6 p0),(Qy5 p0)]) [(1,(Qiv p1)),(2,.ref 0 2 0 0),(4,.ref 1 2 0 0),(5,.ref 3 2 0 0),(18,(Qly p0)),(19,(I ((p0.Elements.length:Int)))),(20,I 0)] [0,1,3,2] [(Qrn p0),(.own 2 [[nilS,nilS]]),(Ql3 x6 p0),(Qy5 p0)] hφ0 (pc (rnd Qaf) (prr (prr (prr (pc (rnd Qaa) (pw (pw pn))))))) (qb (lc (rnd Qae) (lc (rnd Qaa) ln)) (qb (lcc ln) (qb (lc (rnd Qae) (lc (.rn (Qa0 rfl)) ln)) (qc (spr Qaa) qn))))) ?_
   refine Qbu (τ:=Int×(List GElement)) (fun n t=>Qde N p0 k10 n t.1 t.2=some r) (fun ⟨y33,y34⟩=>⟨mk 61 [(1,(Qiv p1)),(2,.ref 0 2 0 0),(4,.ref 1 2 0 0),(5,.ref 2 2 0 0),(18,(Qly p0)),(19,(I ((p0.Elements.length:Int)))),(20,I y33)],[(Qrn p0),(.own 2 [[nilS,nilS]]),(Qnv x6 p0),(Qo4 y34)]⟩) (fun t h=>by rw [Qde] at h; cases h) (fun n37 ih t h=>?_) N (0,p0.Elements) h
   obtain ⟨y33,y34⟩:=t
   rw [Qde] at h
   skip
   refine wxz<|wsq ?_
   refine bfe h (fun hc38 h=>?_) fun hc38 h=>?_
   ·refine wft hc38<|Qam<|thn<|wsq<|Qal ?_
    obtain ⟨x39,hg40,h⟩:=bno h
    obtain ⟨hi41,hj42⟩:=gsm hg40
    refine wx tbk [(1,rp [(.tmp 18,(Qly p0)),(.tmp 20,I y33)] (.dptr (Qab (x39)) 0))] ⟨aid rfl Tryz.underlying40 Qg2 rfl rfl hi41 (mgt Qab hj42) rfl,tv⟩ ?_
    obtain ⟨x44,hf43,h⟩:=bno h
    obtain ⟨x46,hf45,h⟩:=bno h
    obtain ⟨hi47,h⟩:=cko h
    obtain ⟨hi47a,hi47b⟩:=Qdu hi47
    obtain ⟨x48,hg49,h⟩:=bno h
    obtain ⟨hi50,h⟩:=cko h
    obtain ⟨hi50a,hi50b⟩:=Qdu hi50
    obtain ⟨x51,hg52,h⟩:=bno h
    refine wy1 tbk [(8,rp [fu 106,(.tmp 32,(Q73 x39))] (.dat 2 ((x44:List GPort).map Qar))),(11,rp [fu 95,(.tmp 35,(Q72 x39))] (.dat 1 ((x46:List Int).map Qaj))),(12,rb [(.tmp 26,(.own 3 7 (0) (p0.Elements.length))),(.tmp 27,I y33)] [(3,(Qo4 y34))] (.ref 3 7 (y33.toNat) 0)),(14,⟨[(.tmp 38,(.ref 3 7 (y33.toNat) 1)),(.tmp 33,(.dat 2 ((x44:List GPort).map Qar)))],[(3,(Qo4 y34))],.any,[(3,(Qsp y34 y33 x48 x44))],false⟩),(15,rb [(.tmp 29,(.own 3 7 (0) (p0.Elements.length))),(.tmp 30,I y33)] [(3,(Qsp y34 y33 x48 x44))] (.ref 3 7 (y33.toNat) 0)),(17,⟨[(.tmp 40,(.ref 3 7 (y33.toNat) 6)),(.tmp 36,(.dat 1 ((x46:List Int).map Qaj)))],[(3,(Qsp y34 y33 x48 x44))],.any,[(3,(Qy6 y34 y33 x48 x44 x51 x46))],false⟩)] ⟨apv Q94 (Qgk N x39.From _ hf43) (nlc (nld Qaz _) nl0) (nld Qaz _),apv Q52 (Qjv N x39.Weights _ hf45) (nlc (nld Qaf _) nl0) (nld Qaf _),aio rfl Tryz.underlying40 Qg2 (odt hi47a) (odt hi47b) (Nat.zero_add _),ast rfl Q79 (by rfl) (mgt Qab hg49) (nle rfl) (Qfm Qab rfl),aio rfl Tryz.underlying40 Qg2 (odt hi50a) (odt hi50b) (Nat.zero_add _),ast rfl ti27 (by rfl) (mgt Qab hg52) (nle rfl) (Qfm Qab rfl),tv⟩<|bln<|thn<|wxz1<|thn ?_
    exact arm (mto (n:=61) [(1,(Qiv p1)),(2,.ref 0 2 0 0),(4,.ref 1 2 0 0),(5,.ref 2 2 0 0),(18,(Qly p0)),(19,(I ((p0.Elements.length:Int)))),(20,(I (w64 (y33+1))))] [0,1,2,3] [(Qrn p0),(.own 2 [[nilS,nilS]]),(Qnv x6 p0),(Qy6 y34 y33 x48 x44 x51 x46)] hφ0 (pc (rnd Qaf) (prr (prr (prr (pc (rnd Qaa) (pw (pw pn))))))) (qb (lc (rnd Qae) (lc (rnd Qaa) ln)) (qb (lcc ln) (qb (lc (rnd Qae) (lc (.rn (Qa0 rfl)) ln)) (qc (spr Qaa) qn))))) (ih (w64 (y33+1),(y34.set y33.toNat (⟨x48.Kind,x44,x48.Level,x48.Amount,x48.Wide,x48.Narrow,x48.Weights⟩:GElement)).set y33.toNat (⟨x51.Kind,x51.From,x51.Level,x51.Amount,x51.Wide,x51.Narrow,x46⟩:GElement)) h)
   ·exact wfn hc38<|Qbf<|Qav<|Qav<|Qbe rfl<|thn<|⟨(y34),h,(mto (n:=61) [(1,(Qiv p1)),(2,.ref 0 2 0 0),(4,.ref 1 2 0 0),(5,.ref 2 2 0 0)] [0,1,2,3] [(Qrn p0),(.own 2 [[nilS,nilS]]),(Qnv x6 p0),(Qo4 y34)] hφ0 (pc (rnd Qaf) (prr (prr (prr pn)))) (qb (lc (rnd Qae) (lc (rnd Qaa) ln)) (qb (lcc ln) (qb (lc (rnd Qae) (lc (.rn (Qa0 rfl)) ln)) (qc (spr Qaa) qn)))))⟩
def Qk6 (N:Nat) (p0:GNet) (p1:(List Int)):Option (GNet×Int):=
  Qby (fun _=>
    (Qhg N p0 p1).bind fun x3=>
    (Qd7 N x3).bind fun x5=>
    bif (!x5) then
     some ((⟨[],[]⟩:GNet),1)
    else
     some (x3,0)) fun k1:Unit→Option (GNet×Int)=>
  (Qd7 N p0).bind fun x8=>
  bif (!x8) then
   some ((⟨[],[]⟩:GNet),1)
  else
   (Qfv N p0 4).bind fun x11=>
   bif ((p1.length:Int) != (x11.length:Int)) then
    some ((⟨[],[]⟩:GNet),1)
   else
    k1 ()
def Qy8 (p1:(List Int)):AV:=.dat 1 ((p1:List Int).map Qaj)
def Q4g (p0:GNet):AV:=.dat 5 ((p0.Table:List GRow).map Qau)
def Q4f (p0:GNet):AV:=.dat 7 ((p0.Elements:List GElement).map Qab)
def Q4e (p0:GNet):AV:=.agg [(Q4g p0),(Q4f p0)]
def Zbi (x3:GNet):AV:=.dat 5 ((x3.Table:List GRow).map Qau)
def Zbh (x3:GNet):AV:=.dat 7 ((x3.Elements:List GElement).map Qab)
def Q4d (x3:GNet):AV:=.agg [(Zbi x3),(Zbh x3)]
def Qww:AV:=.agg [(.dat 5 (([]:List GRow).map Qau)),(.dat 7 (([]:List GElement).map Qab))]
def Qwv (p0:GNet) (x8:Bool):List (Nat×Rec):=[(1,rp [fu 66,((.tmp 7),(Q4e p0))] (B (x8)))]
theorem Quq (N:Nat) (p0:GNet) (p1:(List Int)) (r:(GNet×Int)) (h:Qk6 N p0 p1=some r):Spec Tryz.prog 27 [(.agg (Qgn p0)),(.dat 1 (p1.map Qaj))] [] (.tup [(.agg (Qgn r.1)),(I r.2)]) []:=by
  refine Qah Tryz.func27 rfl 0 (nle rfl) (fun X φ0 w0 hφ0 hd0=>?_)
  unfold Qk6 at h
  refine wxz ?_
  obtain ⟨k1,hk_k1,h⟩:=jko h
  refine wjn (τ:=Unit) (fun t=>k1 t=some r) (fun _=>⟨mk 27 [(1,(Qy8 p1)),(2,.ref 0 2 0 0),(4,.ref 1 2 0 0)],[(.own 2 [[(Q4g p0),(Q4f p0)]]),(.own 2 [[nilS,nilS]])]⟩) (fun t h=>?_) ?_
  ·subst hk_k1
   obtain ⟨x3,hf2,h⟩:=bno h
   refine wx tbk [(2,rp [fu 68,(.tmp 19,(Q4e p0)),(.tmp 20,(Qy8 p1))] (Q4d x3))] ⟨apv Ze5 (Qo2 N p0 p1 _ hf2) (nlc (NLt.agg _ (nlc (nld Qae _) (nlc (nld Qaa _) nl0))) (nlc (nld Qaf _) nl0)) (NLt.agg _ (nlc (nld Qae _) (nlc (nld Qaa _) nl0))),tv⟩<|wsq ?_
   obtain ⟨x5,hf4,h⟩:=bno h
   refine wx tbk [(1,rp [fu 66,(.tmp 22,(Q4d x3))] (B x5))] ⟨apv Qtg (Qf4 N x3 _ hf4) (nlc (NLt.agg _ (nlc (nld Qae _) (nlc (nld Qaa _) nl0))) nl0) nll,tv⟩ ?_
   refine bfe h (fun hc6 h=>?_) fun hc6 h=>?_
   ·refine wft hc6<|wx tbk [(0,rp [] (.agg [nilS,nilS]))] ⟨Qax (vs:=[]) rfl ts42 tz42 rfl (by rfl) rfl,tv⟩<|Qad<|Qac ?_
    obtain rfl:=osi h
    exact fend ⟨[Qww,I 1],⟨Qch (v:=(.agg [nilS,nilS])) (Qbk (n:=1) (m:=2) (j:=0) (i:=0) (xs:=[[nilS,nilS]]) (by kernel_rfl) (by kernel_rfl) ti42 (by decide) rfl (nle rfl) rfl) (Less.agg ⟨Less.nil,Less.nil,tv⟩),rot,tv⟩,rfl⟩ (NLt.tup _ (nlc (NLt.agg _ (nlc (nld Qae _) (nlc (nld Qaa _) nl0))) (nlc nll nl0)))
   ·refine wfn hc6<|Qam<|thn<|wxz<|Qad ?_
    obtain rfl:=osi h
    exact fend ⟨[(Q4d x3),I 0],⟨Qbk (n:=1) (m:=2) (j:=0) (i:=0) (xs:=[[(Zbi x3),(Zbh x3)]]) (by kernel_rfl) (by kernel_rfl) ti42 (by decide) rfl (nle rfl) rfl,rot,tv⟩,rfl⟩ (NLt.tup _ (nlc (NLt.agg _ (nlc (nld Qae _) (nlc (nld Qaa _) nl0))) (nlc nll nl0)))
  ·skip
   obtain ⟨x8,hf7,h⟩:=bno h
   refine hpre (A:=(Qwv p0 x8)) ⟨apv Qtg (Qf4 N p0 _ hf7) (nlc (NLt.agg _ (nlc (nld Qae _) (nlc (nld Qaa _) nl0))) nl0) nll,tv⟩ fun q1_=>?_
   refine bfe h (fun hb9 h=>?_) fun hb9 h=>?_
   ·refine wx tbk (hcat (Qwv p0 x8) [(3,rp [(.tmp 9,(B ((!x8))))] (B true))]) (hap q1_ ⟨asb hb9 (amv rfl),tv⟩)<|wtr ?_
    refine wx tbk [(0,rp [] (.agg [nilS,nilS]))] ⟨Qax (vs:=[]) rfl ts42 tz42 rfl (by rfl) rfl,tv⟩<|Qad<|Qac ?_
    obtain rfl:=osi h
    exact fend ⟨[Qww,I 1],⟨Qch (v:=(.agg [nilS,nilS])) (Qbk (n:=1) (m:=2) (j:=0) (i:=0) (xs:=[[nilS,nilS]]) (by kernel_rfl) (by kernel_rfl) ti42 (by decide) rfl (nle rfl) rfl) (Less.agg ⟨Less.nil,Less.nil,tv⟩),rot,tv⟩,rfl⟩ (NLt.tup _ (nlc (NLt.agg _ (nlc (nld Qae _) (nlc (nld Qaa _) nl0))) (nlc nll nl0)))
   ·obtain ⟨x11,hf10,h⟩:=bno h
    refine wx tbk (hcat (Qwv p0 x8) [(3,rp [(.tmp 9,(B ((!x8))))] (B false)),(5,rp [(.tmp 10,B false),(.tmp 11,(Qy8 p1))] (I ((p1.length:Int)))),(7,rp [(.tmp 10,B false),fu 67,(.tmp 13,(Q4e p0)),(.const (.int .u8 4),(K .u8 (4)))] (.dat 1 ((x11:List Int).map Qaj))),(8,rp [(.tmp 10,B false),(.tmp 14,(.dat 1 ((x11:List Int).map Qaj)))] (I ((x11.length:Int))))]) (hap q1_ ⟨asb hb9 (amv rfl),ag_ (alm (c:=Qaj) (l:=p1) (aln rfl Tryz.underlying27 rfl)),ag_ (apv Qql (Qf8 N p0 4 _ hf10) (nlc (NLt.agg _ (nlc (nld Qae _) (nlc (nld Qaa _) nl0))) (nlc nll nl0)) (nld Qaf _)),ag_ (alm (c:=Qaj) (l:=x11) (aln rfl Tryz.underlying27 rfl)),tv⟩) ?_
    refine bfe h (fun hc12 h=>?_) fun hc12 h=>?_
    ·refine wft hc12<|wx tbk [(0,rp [] (.agg [nilS,nilS]))] ⟨Qax (vs:=[]) rfl ts42 tz42 rfl (by rfl) rfl,tv⟩<|Qad<|Qac ?_
     obtain rfl:=osi h
     exact fend ⟨[Qww,I 1],⟨Qch (v:=(.agg [nilS,nilS])) (Qbk (n:=1) (m:=2) (j:=0) (i:=0) (xs:=[[nilS,nilS]]) (by kernel_rfl) (by kernel_rfl) ti42 (by decide) rfl (nle rfl) rfl) (Less.agg ⟨Less.nil,Less.nil,tv⟩),rot,tv⟩,rfl⟩ (NLt.tup _ (nlc (NLt.agg _ (nlc (nld Qae _) (nlc (nld Qaa _) nl0))) (nlc nll nl0)))
    ·exact wfn hc12<|Qam<|thn<|⟨(),h,(mto (n:=27) [(1,(Qy8 p1)),(2,.ref 0 2 0 0),(4,.ref 1 2 0 0)] [0,1] [(.own 2 [[(Q4g p0),(Q4f p0)]]),(.own 2 [[nilS,nilS]])] hφ0 (pc (rnd Qaf) (prr (prr pn))) (qb (lc (rnd Qae) (lc (rnd Qaa) ln)) (qb (lcc ln) qn)))⟩
def Qdq (N:Nat) (p0:GNet) (p1:(List Int)) (k7:(List GElement)→Option GNet):Nat→Int→Int→(List GElement)→Option GNet
  | 0,_,_,_=>none
  | n15+1,y9,y10,y11=>
    bif (decide (y10<((p0.Elements.length:Nat):Int))) then
     chk (decide (0≤y10)&&decide (y10.toNat<p0.Elements.length))<|
     (y11[y10.toNat]?).bind fun x18=>
     bif (x18.Kind==4) then
      (getI p1 y9).bind fun x21=>
      chk (decide (0≤y10)&&decide (y10.toNat<p0.Elements.length))<|
      (y11[y10.toNat]?).bind fun x26=>
      Qdq N p0 p1 k7 n15 (w64 (y9+1)) (w64 (y10+1)) (y11.set y10.toNat (⟨x26.Kind,x26.From,x21,x26.Amount,x26.Wide,x26.Narrow,x26.Weights⟩:GElement))
     else
      Qdq N p0 p1 k7 n15 y9 (w64 (y10+1)) y11
    else
     k7 (y11)
def Qip (N:Nat) (p0:GNet) (p1:(List Int)):Option GNet:=
  chk (!p0.Elements.isEmpty)<|
  chk (decide ((0+p0.Elements.length) * 88≤140737488355328))<|
  Qby (fun y6=>
    chk (decide (p0.Elements.length≤y6.length))<|
    some (⟨p0.Table,y6.take p0.Elements.length⟩:GNet)) fun k7:(List GElement)→Option GNet=>
  Qdq N p0 p1 k7 N 0 0 p0.Elements
def Zbe:AV:=.acc 2 59 7 ((([]:List GElement):List GElement).map Qab)
def Zgq (p0:GNet):AV:=.dat 7 ((p0.Elements:List GElement).map Qab)
def Q37 (p0:GNet):Slot:=.own 7 ((p0.Elements:List GElement).map Qab)
def Qmo (p0:GNet):AV:=.dat 5 ((p0.Table:List GRow).map Qau)
def Qpq (p0:GNet):Slot:=.own 2 [[(Qmo p0),(.own 2 7 (0) (p0.Elements.length))]]
def Qwu (y6:(List GElement)) (p0:GNet):AV:=.dat 7 ((y6.take p0.Elements.length:List GElement).map Qab)
def Q4a (p0:GNet) (y6:(List GElement)):AV:=.dat 5 (((⟨p0.Table,y6.take p0.Elements.length⟩:GNet).Table:List GRow).map Qau)
def Q39 (p0:GNet) (y6:(List GElement)):AV:=.dat 7 (((⟨p0.Table,y6.take p0.Elements.length⟩:GNet).Elements:List GElement).map Qab)
def Qrm (p1:(List Int)):AV:=.dat 1 ((p1:List Int).map Qaj)
def Ql2 (y11:(List GElement)):Slot:=.own 7 ((y11:List GElement).map Qab)
def Q38 (y11:(List GElement)) (y10:Int) (x26:GElement) (x21:Int):Slot:=.own 7 ((y11.set y10.toNat (⟨x26.Kind,x26.From,x21,x26.Amount,x26.Wide,x26.Narrow,x26.Weights⟩:GElement):List GElement).map Qab)
theorem Qmz (N:Nat) (p0:GNet) (p1:(List Int)) (r:GNet) (h:Qip N p0 p1=some r):Spec Tryz.prog 30 [(.agg (Qgn p0)),(.dat 1 (p1.map Qaj))] [] (.agg [(.dat 5 ((r.Table:List GRow).map Qau)),(.dat 7 ((r.Elements:List GElement).map Qab))]) []:=by
  refine Qah Tryz.func30 rfl 0 (nle rfl) (fun X φ0 w0 hφ0 hd0=>?_)
  unfold Qip at h
  refine Qbh<|wxz ?_
  obtain ⟨ha5,h⟩:=cko h
  obtain ⟨ha4,h⟩:=cko h
  refine wxd tbk [(2,⟨[],[(2,.unused)],Zbe,[(2,.tok)],false⟩),(5,⟨[(.tmp 10,Zbe),(.tmp 12,(Zgq p0))],[(2,.tok),(3,.unused)],(.own 3 7 (0) (p0.Elements.length)),[(2,.dead),(3,(Q37 p0))],false⟩),(6,rp [(.tmp 9,(Qmo p0)),(.tmp 13,(.own 3 7 (0) (p0.Elements.length)))] (.agg [(Qmo p0),(.own 3 7 (0) (p0.Elements.length))]))] ⟨Qdp rfl Tryz.underlying24 ti59 tz59,Qof rfl Tryz.underlying24 te59 (Base.acc _ _) rfl rfl (Qff ha5) (Qhh Qab Qol _) (Qtt Qab ha4) (Qts Qab ha4 (by decide)) (List.length_map _),Qax (vs:=[(Qmo p0),(.own 3 7 (0) (p0.Elements.length))]) rfl ts26 tz26 rfl (by rfl) rfl,tv⟩<|wxz ?_
  obtain ⟨k7,hk_k7,h⟩:=jko h
  refine wjn (τ:=(List GElement)) (fun t=>k7 t=some r) (fun y6=>⟨mk 41 [(4,.ref 0 2 0 0),(5,.ref 1 2 0 0)],[(.own 2 [[nilS,nilS]]),(Qpq p0),(.own 7 ((y6:List GElement).map Qab))]⟩) (fun y6 h=>?_) ?_
  ·subst hk_k7
   refine wxz ?_
   obtain ⟨hz8,h⟩:=cko h
   refine wmr (Qqd (n:=41) (mp:=2) (m:=7) (xs:=(y6:List GElement).map Qab) (c:=[(Qmo p0),(.own 2 7 (0) (p0.Elements.length))]) (l':=[(4,.ref 0 2 0 0)]) (c':=[(Qmo p0),(Qwu y6 p0)]) (own':=[(.own 2 [[(Qmo p0),(Qwu y6 p0)]]),(Qpq p0),.dead]) 2 0 [(4,.ref 0 2 0 0)] (by kernel_rfl) (by kernel_rfl) (by kernel_rfl) (by kernel_rfl) ⟨(.same _),(Qme hz8),tv⟩ ⟨rfl,(.same _),tv⟩ (by kernel_rfl)) ?_
   refine wmr (mto (n:=41) (l':=[(4,.ref 0 2 0 0)]) (own':=[(.own 2 [[(.dat 5 ((((⟨p0.Table,y6.take p0.Elements.length⟩:GNet).Table):List GRow).map Qau)),(.dat 7 ((((⟨p0.Table,y6.take p0.Elements.length⟩:GNet).Elements):List GElement).map Qab))]])]) [(4,.ref 0 2 0 0)] [0] [(.own 2 [[(Qmo p0),(Qwu y6 p0)]])] hφ0 (prr pn) (qb (lc (rnd Qae) (lc (rnd Qaa) ln)) qn))<|Qad ?_
   obtain rfl:=osi h
   exact ⟨_,Mor.rfl,⟨⟨[(.agg [(Q4a p0 y6),(Q39 p0 y6)])],⟨Qbk (n:=0) (m:=2) (j:=0) (i:=0) (xs:=[[(Q4a p0 y6),(Q39 p0 y6)]]) (by kernel_rfl) (by kernel_rfl) ti26 (by decide) rfl (nle rfl) rfl,tv⟩,rfl⟩,(NLt.agg _ (nlc (nld Qae _) (nlc (nld Qaa _) nl0))),Nat.le_refl _,fun n hn=>absurd hn (Nat.not_lt_zero n)⟩⟩
  ·skip
   refine wxz<|Qal ?_
   refine wmr (mto (n:=41) (l':=[(1,(Qrm p1)),(4,.ref 0 2 0 0),(5,.ref 1 2 0 0),(6,I 0),(7,I 0)]) (own':=[(.own 2 [[nilS,nilS]]),(Qpq p0),(Q37 p0)]) [(1,(Qrm p1)),(4,.ref 1 2 0 0),(5,.ref 4 2 0 0),(6,I 0),(7,I 0)] [1,4,3] [(.own 2 [[nilS,nilS]]),(.own 2 [[(Qmo p0),(.own 3 7 (0) (p0.Elements.length))]]),(Q37 p0)] hφ0 (pc (rnd Qaf) (prr (prr (pw (pw pn))))) (qb (lcc ln) (qb (lc (rnd Qae) (lc (.rn (Qa0 rfl)) ln)) (qc (spr Qaa) qn)))) ?_
   refine Qbu (τ:=Int×Int×(List GElement)) (fun n t=>Qdq N p0 p1 k7 n t.1 t.2.1 t.2.2=some r) (fun ⟨y9,y10,y11⟩=>⟨mk 41 [(1,(Qrm p1)),(4,.ref 0 2 0 0),(5,.ref 1 2 0 0),(6,I y9),(7,I y10)],[(.own 2 [[nilS,nilS]]),(Qpq p0),(Ql2 y11)]⟩) (fun t h=>by rw [Qdq] at h; cases h) (fun n15 ih t h=>?_) N (0,0,p0.Elements) h
   obtain ⟨y9,y10,y11⟩:=t
   rw [Qdq] at h
   skip
   refine wsq<|wx tbk [(3,rp [(.tmp 17,(.own 2 7 (0) (p0.Elements.length)))] (I (((p0.Elements.length:Nat):Int))))] ⟨aln rfl Tryz.underlying24 rfl,tv⟩ ?_
   refine bfe h (fun hc16 h=>?_) fun hc16 h=>?_
   ·refine wft hc16<|Qam<|thn<|wsq<|Qal ?_
    obtain ⟨hi17,h⟩:=cko h
    obtain ⟨hi17a,hi17b⟩:=Qdu hi17
    obtain ⟨x18,hg19,h⟩:=bno h
    refine wx tbk [(3,rb [(.tmp 23,(.own 2 7 (0) (p0.Elements.length))),(.tmp 24,I y10)] [(2,(Ql2 y11))] (.ref 2 7 (y10.toNat) 0)),(5,rb [(.tmp 26,(.ref 2 7 (y10.toNat) 0))] [(2,(Ql2 y11))] (K .u8 (x18.Kind)))] ⟨aio rfl Tryz.underlying24 ti59 (odt hi17a) (odt hi17b) (Nat.zero_add _),ald rfl ti5 (by decide) (mgt Qab hg19) (nle rfl) rfl,tv⟩ ?_
    refine bfe h (fun hc20 h=>?_) fun hc20 h=>?_
    ·refine wft hc20 ?_
     obtain ⟨x21,hg22,h⟩:=bno h
     obtain ⟨hi23,hj24⟩:=gsm hg22
     obtain ⟨hi25,h⟩:=cko h
     obtain ⟨hi25a,hi25b⟩:=Qdu hi25
     obtain ⟨x26,hg27,h⟩:=bno h
     refine wxd tbk [(5,rp [(.tmp 32,(Qrm p1)),(.tmp 33,I y9)] (.dptr (Qaj (x21)) 0)),(7,rb [(.tmp 30,(.own 2 7 (0) (p0.Elements.length))),(.tmp 31,I y10)] [(2,(Ql2 y11))] (.ref 2 7 (y10.toNat) 0)),(9,⟨[(.tmp 37,(.ref 2 7 (y10.toNat) 2)),(.tmp 35,I x21)],[(2,(Ql2 y11))],.any,[(2,(Q38 y11 y10 x26 x21))],false⟩)] ⟨aid rfl Tryz.underlying27 ti3 rfl rfl hi23 (mgt Qaj hj24) rfl,aio rfl Tryz.underlying24 ti59 (odt hi25a) (odt hi25b) (Nat.zero_add _),ast rfl ti3 (by rfl) (mgt Qab hg27) (nle rfl) (Qfm Qab rfl),tv⟩<|wxz1<|bln<|thn<|wxz1<|thn ?_
     exact arm (mto (n:=41) [(1,(Qrm p1)),(4,.ref 0 2 0 0),(5,.ref 1 2 0 0),(6,(I (w64 (y9+1)))),(7,(I (w64 (y10+1))))] [0,1,2] [(.own 2 [[nilS,nilS]]),(Qpq p0),(Q38 y11 y10 x26 x21)] hφ0 (pc (rnd Qaf) (prr (prr (pw (pw pn))))) (qb (lcc ln) (qb (lc (rnd Qae) (lc (.rn (Qa0 rfl)) ln)) (qc (spr Qaa) qn)))) (ih (w64 (y9+1),w64 (y10+1),y11.set y10.toNat (⟨x26.Kind,x26.From,x21,x26.Amount,x26.Wide,x26.Narrow,x26.Weights⟩:GElement)) h)
    ·exact wfn hc20<|Qam<|bln<|thn<|wxz1<|thn<|arm (mto (n:=41) [(1,(Qrm p1)),(4,.ref 0 2 0 0),(5,.ref 1 2 0 0),(6,I y9),(7,(I (w64 (y10+1))))] [0,1,2] [(.own 2 [[nilS,nilS]]),(Qpq p0),(Ql2 y11)] hφ0 (pc (rnd Qaf) (prr (prr (pw (pw pn))))) (qb (lcc ln) (qb (lc (rnd Qae) (lc (.rn (Qa0 rfl)) ln)) (qc (spr Qaa) qn)))) (ih (y9,w64 (y10+1),y11) h)
   ·exact wfn hc16<|Qbf<|Qav<|Qav<|Qbe rfl<|thn<|⟨(y11),h,(mto (n:=41) [(4,.ref 0 2 0 0),(5,.ref 1 2 0 0)] [0,1,2] [(.own 2 [[nilS,nilS]]),(Qpq p0),(Ql2 y11)] hφ0 (prr (prr pn)) (qb (lcc ln) (qb (lc (rnd Qae) (lc (.rn (Qa0 rfl)) ln)) (qc (spr Qaa) qn))))⟩
def Qc2 (N:Nat) (k8:Unit→Option Bool) (x9:GElement) (x13:GElement):Nat→Int→Option Bool
  | 0,_=>none
  | n20+1,y18=>
    bif (decide (y18<(x13.From.length:Int))) then
     (getI x9.From y18).bind fun x22=>
     (getI x13.From y18).bind fun x26=>
     bif (x22.Element != x26.Element) then
      some false
     else
      bif (x22.Outlet != x26.Outlet) then
       some false
      else
       Qc2 N k8 x9 x13 n20 (w64 (y18+1))
    else
     k8 ()
def Qc3 (N:Nat) (p0:GNet) (p1:GNet) (k3:Unit→Option Bool):Nat→Int→Option Bool
  | 0,_=>none
  | n6+1,y4=>
    bif (decide (y4<(p1.Elements.length:Int))) then
     Qby (fun _=>
       Qc3 N p0 p1 k3 n6 (w64 (y4+1))) fun k8:Unit→Option Bool=>
     (getI p0.Elements y4).bind fun x9=>
     (getI p1.Elements y4).bind fun x13=>
     Qby (fun _=>
       Qc2 N k8 x9 x13 N 0) fun k17:Unit→Option Bool=>
     bif (x9.Kind != x13.Kind) then
      some false
     else
      bif (x9.Level != x13.Level) then
       some false
      else
       bif (x9.Amount != x13.Amount) then
        some false
       else
        bif (x9.Wide != x13.Wide) then
         some false
        else
         bif (x9.Narrow != x13.Narrow) then
          some false
         else
          (Qi8 N x9.Weights x13.Weights).bind fun x38=>
          bif (!x38) then
           some false
          else
           bif ((x9.From.length:Int) != (x13.From.length:Int)) then
            some false
           else
            k17 ()
    else
     k3 ()
def Qc1 (N:Nat) (p0:GNet) (p1:GNet) (k2:Unit→Option Bool):Nat→Int→Option Bool
  | 0,_=>none
  | n43+1,y41=>
    bif (decide (y41<(p1.Table.length:Int))) then
     (getI p0.Table y41).bind fun x45=>
     (getI p1.Table y41).bind fun x49=>
     bif (x45.T != x49.T) then
      some false
     else
      bif (x45.P != x49.P) then
       some false
      else
       bif (x45.Liquid != x49.Liquid) then
        some false
       else
        bif (x45.Vapour != x49.Vapour) then
         some false
        else
         bif (x45.Silica != x49.Silica) then
          some false
         else
          Qc1 N p0 p1 k2 n43 (w64 (y41+1))
    else
     k2 ()
def Qdc (N:Nat) (p0:GNet) (p1:GNet):Option Bool:=
  Qby (fun _=>
    Qby (fun _=>
      Qby (fun _=>
        some true) fun k3:Unit→Option Bool=>
      Qc3 N p0 p1 k3 N 0) fun k2:Unit→Option Bool=>
    Qc1 N p0 p1 k2 N 0) fun k1:Unit→Option Bool=>
  bif ((p0.Table.length:Int) != (p1.Table.length:Int)) then
   some false
  else
   bif ((p0.Elements.length:Int) != (p1.Elements.length:Int)) then
    some false
   else
    k1 ()
def Q34 (p0:GNet):AV:=.dat 5 ((p0.Table:List GRow).map Qau)
def Q33 (p0:GNet):AV:=.dat 7 ((p0.Elements:List GElement).map Qab)
def Qgv (p0:GNet):Slot:=.own 2 [[(Q34 p0),(Q33 p0)]]
def Qyw (p1:GNet):AV:=.dat 5 ((p1.Table:List GRow).map Qau)
def Qyv (p1:GNet):AV:=.dat 7 ((p1.Elements:List GElement).map Qab)
def Qgu (p1:GNet):Slot:=.own 2 [[(Qyw p1),(Qyv p1)]]
def Qso (x9:GElement):AV:=.dat 2 ((x9.From:List GPort).map Qar)
def Q32 (x9:GElement):AV:=.dat 1 ((x9.Weights:List Int).map Qaj)
def Qnu (x9:GElement):Slot:=.own 7 [[(K .u8 (x9.Kind)),(Qso x9),(I (x9.Level)),(I (x9.Amount)),(I (x9.Wide)),(I (x9.Narrow)),(Q32 x9)]]
def Qpo (x13:GElement):AV:=.dat 2 ((x13.From:List GPort).map Qar)
def Q31 (x13:GElement):AV:=.dat 1 ((x13.Weights:List Int).map Qaj)
def Qnt (x13:GElement):Slot:=.own 7 [[(K .u8 (x13.Kind)),(Qpo x13),(I (x13.Level)),(I (x13.Amount)),(I (x13.Wide)),(I (x13.Narrow)),(Q31 x13)]]
def Qwi (x9:GElement) (y18:Int) (x22:GPort) (x13:GElement) (x26:GPort):List (Nat×Rec):=[(3,rp [((.tmp 153),(Qso x9)),((.tmp 154),(I (y18)))] (.dptr (Qar (x22)) 0)),(9,rp [((.tmp 159),(Qpo x13)),((.tmp 160),(I (y18)))] (.dptr (Qar (x26)) 0))]
def Qwh (x9:GElement) (x13:GElement):List (Nat×Rec):=[(5,rp [((.tmp 99),(B ((x9.Kind != x13.Kind))))] (B (false)))]
def Qwg (x9) (x13):=hcat (Qwh x9 x13) [(12,rp [((.tmp 106),(B ((x9.Level != x13.Level))))] (B (false)))]
def Qwf (x9) (x13):=hcat (Qwg x9 x13) [(19,rp [((.tmp 113),(B ((x9.Amount != x13.Amount))))] (B (false)))]
def Qwe (x9) (x13):=hcat (Qwf x9 x13) [(26,rp [((.tmp 120),(B ((x9.Wide != x13.Wide))))] (B (false)))]
def Qwd (x9) (x13) (x38:Bool):=hcat (Qwe x9 x13) [(33,rp [((.tmp 127),(B ((x9.Narrow != x13.Narrow))))] (B (false))),(38,rp [((.tmp 128),(B (false))),fu 49,((.tmp 130),(Q32 x9)),((.tmp 132),(Q31 x13))] (B (x38)))]
def Qwc (x45:GRow) (x49:GRow):List (Nat×Rec):=[(5,rp [((.tmp 49),(B ((x45.T != x49.T))))] (B (false)))]
def Qsn (x45) (x49):=hcat (Qwc x45 x49) [(12,rp [((.tmp 56),(B ((x45.P != x49.P))))] (B (false)))]
def Qwb (p0:GNet) (p1:GNet):List (Nat×Rec):=[(2,rp [((.tmp 13),(Q34 p0))] (I ((p0.Table.length:Int)))),(5,rp [((.tmp 16),(Qyw p1))] (I ((p1.Table.length:Int))))]
theorem Qge (N:Nat) (p0:GNet) (p1:GNet) (r:Bool) (h:Qdc N p0 p1=some r):Spec Tryz.prog 31 [(.agg (Qgn p0)),(.agg (Qgn p1))] [] (B r) []:=by
  refine Qah Tryz.func31 rfl 0 (nle rfl) (fun X φ0 w0 hφ0 hd0=>?_)
  unfold Qdc at h
  refine wxz ?_
  obtain ⟨k1,hk_k1,h⟩:=jko h
  refine wjn (τ:=Unit) (fun t=>k1 t=some r) (fun _=>⟨mk 180 [(2,.ref 0 2 0 0),(3,.ref 1 2 0 0)],[(Qgv p0),(Qgu p1)]⟩) (fun t h=>?_) ?_
  ·subst hk_k1
   obtain ⟨k2,hk_k2,h⟩:=jko h
   refine wjn (τ:=Unit) (fun t=>k2 t=some r) (fun _=>⟨mk 180 [(2,.ref 0 2 0 0),(3,.ref 1 2 0 0)],[(Qgv p0),(Qgu p1)]⟩) (fun t h=>?_) ?_
   ·subst hk_k2
    obtain ⟨k3,hk_k3,h⟩:=jko h
    refine wjn (τ:=Unit) (fun t=>k3 t=some r) (fun _=>⟨mk 180 [],[]⟩) (fun t h=>?_) ?_
    ·subst hk_k3
     exact wxz<|Qad<|frb h
    ·skip
     refine wxz<|Qal ?_
     refine wmr (mto (n:=180) (l':=[(2,.ref 0 2 0 0),(3,.ref 1 2 0 0),(8,I 0)]) (own':=[(Qgv p0),(Qgu p1)]) [(2,.ref 0 2 0 0),(3,.ref 1 2 0 0),(8,I 0)] [0,1] [(Qgv p0),(Qgu p1)] hφ0 (prr (prr (pw pn))) (qb (lc (rnd Qae) (lc (rnd Qaa) ln)) (qb (lc (rnd Qae) (lc (rnd Qaa) ln)) qn))) ?_
     refine Qbu (τ:=Int) (fun n t=>Qc3 N p0 p1 k3 n t=some r) (fun y4=>⟨mk 180 [(2,.ref 0 2 0 0),(3,.ref 1 2 0 0),(8,I y4)],[(Qgv p0),(Qgu p1)]⟩) (fun t h=>by rw [Qc3] at h; cases h) (fun n6 ih y4 h=>?_) N (0) h
     rw [Qc3] at h
     skip
     refine wsq<|wx tbk [(3,rp [(.tmp 80,(Qyv p1))] (I ((p1.Elements.length:Int))))] ⟨alm (c:=Qab) (l:=p1.Elements) (aln rfl Tryz.underlying24 rfl),tv⟩ ?_
     refine bfe h (fun hc7 h=>?_) fun hc7 h=>?_
     ·refine wft hc7<|Qam<|thn ?_
      obtain ⟨k8,hk_k8,h⟩:=jko h
      refine wjn (τ:=Unit) (fun t=>k8 t=some r) (fun _=>⟨mk 180 [(2,.ref 0 2 0 0),(3,.ref 1 2 0 0),(8,I y4)],[(Qgv p0),(Qgu p1)]⟩) (fun t h=>?_) ?_
      ·subst hk_k8
       exact wxz1<|thn<|arm (mto (n:=180) [(2,.ref 0 2 0 0),(3,.ref 1 2 0 0),(8,(I (w64 (y4+1))))] [0,1] [(Qgv p0),(Qgu p1)] hφ0 (prr (prr (pw pn))) (qb (lc (rnd Qae) (lc (rnd Qaa) ln)) (qb (lc (rnd Qae) (lc (rnd Qaa) ln)) qn))) (ih (w64 (y4+1)) h)
      ·skip
       refine Qal ?_
       obtain ⟨x9,hg10,h⟩:=bno h
       obtain ⟨hi11,hj12⟩:=gsm hg10
       obtain ⟨x13,hg14,h⟩:=bno h
       obtain ⟨hi15,hj16⟩:=gsm hg14
       refine wxd tbk [(3,rp [(.tmp 86,(Q33 p0)),(.tmp 87,I y4)] (.dptr (Qab (x9)) 0)),(8,rp [(.tmp 91,(Qyv p1)),(.tmp 92,I y4)] (.dptr (Qab (x13)) 0))] ⟨aid rfl Tryz.underlying40 Qg2 rfl rfl hi11 (mgt Qab hj12) rfl,aid rfl Tryz.underlying24 ti59 rfl rfl hi15 (mgt Qab hj16) rfl,tv⟩ ?_
       obtain ⟨k17,hk_k17,h⟩:=jko h
       refine wjn (τ:=Unit) (fun t=>k17 t=some r) (fun _=>⟨mk 180 [(2,.ref 0 2 0 0),(3,.ref 1 2 0 0),(8,I y4),(9,.ref 2 7 0 0),(10,.ref 3 7 0 0)],[(Qgv p0),(Qgu p1),(Qnu x9),(Qnt x13)]⟩) (fun t h=>?_) ?_
       ·subst hk_k17
        refine wxz<|Qal ?_
        refine wmr (mto (n:=180) (l':=[(2,.ref 0 2 0 0),(3,.ref 1 2 0 0),(8,I y4),(9,.ref 2 7 0 0),(10,.ref 3 7 0 0),(11,I 0)]) (own':=[(Qgv p0),(Qgu p1),(Qnu x9),(Qnt x13)]) [(2,.ref 0 2 0 0),(3,.ref 1 2 0 0),(8,I y4),(9,.ref 2 7 0 0),(10,.ref 3 7 0 0),(11,I 0)] [0,1,2,3] [(Qgv p0),(Qgu p1),(Qnu x9),(Qnt x13)] hφ0 (prr (prr (pw (prr (prr (pw pn)))))) (qb (lc (rnd Qae) (lc (rnd Qaa) ln)) (qb (lc (rnd Qae) (lc (rnd Qaa) ln)) (qb (lc rwl (lc (rnd Qaz) (lcc (lcc (lc (rnd Qaf) ln))))) (qb (lc rwl (lc (rnd Qaz) (lcc (lcc (lc (rnd Qaf) ln))))) qn))))) ?_
        refine Qbu (τ:=Int) (fun n t=>Qc2 N k8 x9 x13 n t=some r) (fun y18=>⟨mk 180 [(2,.ref 0 2 0 0),(3,.ref 1 2 0 0),(8,I y4),(9,.ref 2 7 0 0),(10,.ref 3 7 0 0),(11,I y18)],[(Qgv p0),(Qgu p1),(Qnu x9),(Qnt x13)]⟩) (fun t h=>by rw [Qc2] at h; cases h) (fun n20 ih y18 h=>?_) N (0) h
        rw [Qc2] at h
        skip
        refine wsq<|wx tbk [(3,rp [(.tmp 147,(Qpo x13))] (I ((x13.From.length:Int))))] ⟨alm (c:=Qar) (l:=x13.From) (aln rfl Tryz.underlying57 rfl),tv⟩ ?_
        refine bfe h (fun hc21 h=>?_) fun hc21 h=>?_
        ·refine wft hc21<|Qam<|thn<|wsq<|Qal ?_
         obtain ⟨x22,hg23,h⟩:=bno h
         obtain ⟨hi24,hj25⟩:=gsm hg23
         obtain ⟨x26,hg27,h⟩:=bno h
         obtain ⟨hi28,hj29⟩:=gsm hg27
         refine hpre (A:=(Qwi x9 y18 x22 x13 x26)) ⟨aid rfl Tryz.underlying116 Qkv rfl rfl hi24 (mgt Qar hj25) rfl,aid rfl Tryz.underlying57 ti61 rfl rfl hi28 (mgt Qar hj29) rfl,tv⟩ fun q1_=>?_
         refine bfe h (fun hb30 h=>?_) fun hb30 h=>?_
         ·refine wxd tbk (hcat (Qwi x9 y18 x22 x13 x26) [(13,rp [(.tmp 164,(B ((x22.Element != x26.Element))))] (B true))]) (hap q1_ ⟨asb hb30 (amv rfl),tv⟩)<|wtr<|wxz<|Qad<|Qak<|Qac<|Qac<|Qak<|Qak<|Qac ?_
          exact Qac<|Qak<|Qac<|frb h
         ·refine wxd tbk (hcat (Qwi x9 y18 x22 x13 x26) [(13,rp [(.tmp 164,(B ((x22.Element != x26.Element))))] (B false)),(17,rp [(.tmp 165,B false),(.tmp 167,(Qso x9)),(.tmp 168,I y18)] (.dptr (Qar (x22)) 0)),(23,rp [(.tmp 165,B false),(.tmp 173,(Qpo x13)),(.tmp 174,I y18)] (.dptr (Qar (x26)) 0))]) (hap q1_ ⟨asb hb30 (amv rfl),ag_ (aid rfl Tryz.underlying116 Qkv rfl rfl hi24 (mgt Qar hj25) rfl),ag_ (aid rfl Tryz.underlying57 ti61 rfl rfl hi28 (mgt Qar hj29) rfl),tv⟩) ?_
          refine bfe h (fun hc31 h=>?_) fun hc31 h=>?_
          ·refine wft hc31<|wxz<|Qad<|Qak<|Qac<|Qac<|Qak<|Qak<|Qac<|Qac ?_
           exact Qak<|Qac<|frb h
          ·exact wfn hc31<|Qam<|bln<|thn<|wxz1<|thn<|arm (mto (n:=180) [(2,.ref 0 2 0 0),(3,.ref 1 2 0 0),(8,I y4),(9,.ref 2 7 0 0),(10,.ref 3 7 0 0),(11,(I (w64 (y18+1))))] [0,1,2,3] [(Qgv p0),(Qgu p1),(Qnu x9),(Qnt x13)] hφ0 (prr (prr (pw (prr (prr (pw pn)))))) (qb (lc (rnd Qae) (lc (rnd Qaa) ln)) (qb (lc (rnd Qae) (lc (rnd Qaa) ln)) (qb (lc rwl (lc (rnd Qaz) (lcc (lcc (lc (rnd Qaf) ln))))) (qb (lc rwl (lc (rnd Qaz) (lcc (lcc (lc (rnd Qaf) ln))))) qn))))) (ih (w64 (y18+1)) h)
        ·exact wfn hc21<|Qbf<|Qav<|Qav<|Qbe rfl<|bln<|thn<|⟨(),h,(mto (n:=180) [(2,.ref 0 2 0 0),(3,.ref 1 2 0 0),(8,I y4)] [0,1] [(Qgv p0),(Qgu p1)] hφ0 (prr (prr (pw pn))) (qb (lc (rnd Qae) (lc (rnd Qaa) ln)) (qb (lc (rnd Qae) (lc (rnd Qaa) ln)) qn)))⟩
       ·skip
        refine bfe h (fun hb32 h=>?_) fun hb32 h=>?_
        ·refine wx tbk [(5,rp [(.tmp 99,(B ((x9.Kind != x13.Kind))))] (B true))] ⟨asb hb32 (amv rfl),tv⟩<|wtr<|wxz<|Qad<|Qac<|Qak<|Qac<|Qac<|Qak<|Qac ?_
         exact frb h
        ·refine hpre (A:=(Qwh x9 x13)) ⟨asb hb32 (amv rfl),tv⟩ fun q2_=>?_
         refine bfe h (fun hb33 h=>?_) fun hb33 h=>?_
         ·refine wx tbk (hcat (Qwh x9 x13) [(12,rp [(.tmp 106,(B ((x9.Level != x13.Level))))] (B true))]) (hap q2_ ⟨asb hb33 (amv rfl),tv⟩)<|wtr<|wxz<|Qad<|Qac<|Qak<|Qac<|Qac<|Qak<|Qac ?_
          exact frb h
         ·refine hpre (A:=(Qwg x9 x13)) (hap q2_ ⟨asb hb33 (amv rfl),tv⟩) fun q3_=>?_
          refine bfe h (fun hb34 h=>?_) fun hb34 h=>?_
          ·refine wx tbk (hcat (Qwg x9 x13) [(19,rp [(.tmp 113,(B ((x9.Amount != x13.Amount))))] (B true))]) (hap q3_ ⟨asb hb34 (amv rfl),tv⟩)<|wtr<|wxz<|Qad<|Qac<|Qak<|Qac<|Qac<|Qak<|Qac ?_
           exact frb h
          ·refine hpre (A:=(Qwf x9 x13)) (hap q3_ ⟨asb hb34 (amv rfl),tv⟩) fun q4_=>?_
           refine bfe h (fun hb35 h=>?_) fun hb35 h=>?_
           ·refine wx tbk (hcat (Qwf x9 x13) [(26,rp [(.tmp 120,(B ((x9.Wide != x13.Wide))))] (B true))]) (hap q4_ ⟨asb hb35 (amv rfl),tv⟩)<|wtr<|wxz<|Qad<|Qac<|Qak<|Qac<|Qac<|Qak<|Qac ?_
            exact frb h
           ·refine hpre (A:=(Qwe x9 x13)) (hap q4_ ⟨asb hb35 (amv rfl),tv⟩) fun q5_=>?_
            refine bfe h (fun hb36 h=>?_) fun hb36 h=>?_
            ·refine wx tbk (hcat (Qwe x9 x13) [(33,rp [(.tmp 127,(B ((x9.Narrow != x13.Narrow))))] (B true))]) (hap q5_ ⟨asb hb36 (amv rfl),tv⟩)<|wtr<|wxz<|Qad<|Qac<|Qak<|Qac<|Qac<|Qak<|Qac ?_
             exact frb h
            ·obtain ⟨x38,hf37,h⟩:=bno h
             refine hpre (A:=(Qwd x9 x13 x38)) (hap q5_ ⟨asb hb36 (amv rfl),ag_ (apv Ze9 (Qrf N x9.Weights x13.Weights _ hf37) (nlc (nld Qaf _) (nlc (nld Qaf _) nl0)) nll),tv⟩) fun q6_=>?_
             refine bfe h (fun hb39 h=>?_) fun hb39 h=>?_
             ·refine wx tbk (hcat (Qwd x9 x13 x38) [(41,rp [(.tmp 135,(B ((!x38))))] (B true))]) (hap q6_ ⟨asb hb39 (amv rfl),tv⟩)<|wtr<|wxz<|Qad<|Qac<|Qak<|Qac<|Qac<|Qak<|Qac ?_
              exact frb h
             ·refine wx tbk (hcat (Qwd x9 x13 x38) [(41,rp [(.tmp 135,(B ((!x38))))] (B false)),(44,rp [(.tmp 136,B false),(.tmp 138,(Qso x9))] (I ((x9.From.length:Int)))),(47,rp [(.tmp 136,B false),(.tmp 141,(Qpo x13))] (I ((x13.From.length:Int))))]) (hap q6_ ⟨asb hb39 (amv rfl),ag_ (alm (c:=Qar) (l:=x9.From) (aln rfl Tryz.underlying116 rfl)),ag_ (alm (c:=Qar) (l:=x13.From) (aln rfl Tryz.underlying57 rfl)),tv⟩) ?_
              refine bfe h (fun hc40 h=>?_) fun hc40 h=>?_
              ·exact wft hc40<|wxz<|Qad<|Qac<|Qak<|Qac<|Qac<|Qak<|Qac<|frb h
              ·exact wfn hc40<|Qam<|thn<|⟨(),h,(mto (n:=180) [(2,.ref 0 2 0 0),(3,.ref 1 2 0 0),(8,I y4),(9,.ref 2 7 0 0),(10,.ref 3 7 0 0)] [0,1,2,3] [(Qgv p0),(Qgu p1),(Qnu x9),(Qnt x13)] hφ0 (prr (prr (pw (prr (prr pn))))) (qb (lc (rnd Qae) (lc (rnd Qaa) ln)) (qb (lc (rnd Qae) (lc (rnd Qaa) ln)) (qb (lc rwl (lc (rnd Qaz) (lcc (lcc (lc (rnd Qaf) ln))))) (qb (lc rwl (lc (rnd Qaz) (lcc (lcc (lc (rnd Qaf) ln))))) qn)))))⟩
     ·exact wfn hc7<|Qbf<|Qav<|Qav<|Qbe rfl<|thn<|⟨(),h,(mto (n:=180) [] [] [] hφ0 pn qn)⟩
   ·skip
    refine wxz<|Qal ?_
    refine wmr (mto (n:=180) (l':=[(2,.ref 0 2 0 0),(3,.ref 1 2 0 0),(5,I 0)]) (own':=[(Qgv p0),(Qgu p1)]) [(2,.ref 0 2 0 0),(3,.ref 1 2 0 0),(5,I 0)] [0,1] [(Qgv p0),(Qgu p1)] hφ0 (prr (prr (pw pn))) (qb (lc (rnd Qae) (lc (rnd Qaa) ln)) (qb (lc (rnd Qae) (lc (rnd Qaa) ln)) qn))) ?_
    refine Qbu (τ:=Int) (fun n t=>Qc1 N p0 p1 k2 n t=some r) (fun y41=>⟨mk 180 [(2,.ref 0 2 0 0),(3,.ref 1 2 0 0),(5,I y41)],[(Qgv p0),(Qgu p1)]⟩) (fun t h=>by rw [Qc1] at h; cases h) (fun n43 ih y41 h=>?_) N (0) h
    rw [Qc1] at h
    skip
    refine wsq<|wx tbk [(3,rp [(.tmp 30,(Qyw p1))] (I ((p1.Table.length:Int))))] ⟨alm (c:=Qau) (l:=p1.Table) (aln rfl Tryz.underlying23 rfl),tv⟩ ?_
    refine bfe h (fun hc44 h=>?_) fun hc44 h=>?_
    ·refine wft hc44<|Qam<|thn<|wsq<|Qal ?_
     obtain ⟨x45,hg46,h⟩:=bno h
     obtain ⟨hi47,hj48⟩:=gsm hg46
     obtain ⟨x49,hg50,h⟩:=bno h
     obtain ⟨hi51,hj52⟩:=gsm hg50
     refine wxd tbk [(3,rp [(.tmp 36,(Q34 p0)),(.tmp 37,I y41)] (.dptr (Qau (x45)) 0)),(8,rp [(.tmp 41,(Qyw p1)),(.tmp 42,I y41)] (.dptr (Qau (x49)) 0))] ⟨aid rfl Tryz.underlying39 Qnx rfl rfl hi47 (mgt Qau hj48) rfl,aid rfl Tryz.underlying23 Qo0 rfl rfl hi51 (mgt Qau hj52) rfl,tv⟩ ?_
     refine bfe h (fun hb53 h=>?_) fun hb53 h=>?_
     ·exact wx tbk [(5,rp [(.tmp 49,(B ((x45.T != x49.T))))] (B true))] ⟨asb hb53 (amv rfl),tv⟩<|wtr<|wxz<|Qad<|Qak<|Qac<|Qac<|Qak<|Qac<|frb h
     ·refine hpre (A:=(Qwc x45 x49)) ⟨asb hb53 (amv rfl),tv⟩ fun q7_=>?_
      refine bfe h (fun hb54 h=>?_) fun hb54 h=>?_
      ·exact wx tbk (hcat (Qwc x45 x49) [(12,rp [(.tmp 56,(B ((x45.P != x49.P))))] (B true))]) (hap q7_ ⟨asb hb54 (amv rfl),tv⟩)<|wtr<|wxz<|Qad<|Qak<|Qac<|Qac<|Qak<|Qac<|frb h
      ·refine hpre (A:=(Qsn x45 x49)) (hap q7_ ⟨asb hb54 (amv rfl),tv⟩) fun q8_=>?_
       refine bfe h (fun hb55 h=>?_) fun hb55 h=>?_
       ·exact wx tbk (hcat (Qsn x45 x49) [(19,rp [(.tmp 63,(B ((x45.Liquid != x49.Liquid))))] (B true))]) (hap q8_ ⟨asb hb55 (amv rfl),tv⟩)<|wtr<|wxz<|Qad<|Qak<|Qac<|Qac<|Qak<|Qac<|frb h
       ·refine bfe h (fun hb56 h=>?_) fun hb56 h=>?_
        ·exact wx tbk (hcat (Qsn x45 x49) [(19,rp [(.tmp 63,(B ((x45.Liquid != x49.Liquid))))] (B false)),(26,rp [(.tmp 70,(B ((x45.Vapour != x49.Vapour))))] (B true))]) (hap q8_ ⟨asb hb55 (amv rfl),asb hb56 (amv rfl),tv⟩)<|wtr<|wxz<|Qad<|Qak<|Qac<|Qac<|Qak<|Qac<|frb h
        ·refine wx tbk (hcat (Qsn x45 x49) [(19,rp [(.tmp 63,(B ((x45.Liquid != x49.Liquid))))] (B false)),(26,rp [(.tmp 70,(B ((x45.Vapour != x49.Vapour))))] (B false))]) (hap q8_ ⟨asb hb55 (amv rfl),asb hb56 (amv rfl),tv⟩) ?_
         refine bfe h (fun hc57 h=>?_) fun hc57 h=>?_
         ·exact wft hc57<|wxz<|Qad<|Qak<|Qac<|Qac<|Qak<|Qac<|frb h
         ·exact wfn hc57<|Qam<|bln<|thn<|wxz1<|thn<|arm (mto (n:=180) [(2,.ref 0 2 0 0),(3,.ref 1 2 0 0),(5,(I (w64 (y41+1))))] [0,1] [(Qgv p0),(Qgu p1)] hφ0 (prr (prr (pw pn))) (qb (lc (rnd Qae) (lc (rnd Qaa) ln)) (qb (lc (rnd Qae) (lc (rnd Qaa) ln)) qn))) (ih (w64 (y41+1)) h)
    ·exact wfn hc44<|Qbf<|Qav<|Qav<|Qbe rfl<|thn<|⟨(),h,(mto (n:=180) [(2,.ref 0 2 0 0),(3,.ref 1 2 0 0)] [0,1] [(Qgv p0),(Qgu p1)] hφ0 (prr (prr pn)) (qb (lc (rnd Qae) (lc (rnd Qaa) ln)) (qb (lc (rnd Qae) (lc (rnd Qaa) ln)) qn)))⟩
  ·skip
   refine hpre (A:=(Qwb p0 p1)) ⟨alm (c:=Qau) (l:=p0.Table) (aln rfl Tryz.underlying39 rfl),alm (c:=Qau) (l:=p1.Table) (aln rfl Tryz.underlying23 rfl),tv⟩ fun q9_=>?_
   refine bfe h (fun hb58 h=>?_) fun hb58 h=>?_
   ·exact wx tbk (hcat (Qwb p0 p1) [(7,rp [(.tmp 18,(B (((p0.Table.length:Int) != (p1.Table.length:Int)))))] (B true))]) (hap q9_ ⟨asb hb58 (amv rfl),tv⟩)<|wtr<|wxz<|Qad<|Qac<|frb h
   ·refine wx tbk (hcat (Qwb p0 p1) [(7,rp [(.tmp 18,(B (((p0.Table.length:Int) != (p1.Table.length:Int)))))] (B false)),(10,rp [(.tmp 19,B false),(.tmp 21,(Q33 p0))] (I ((p0.Elements.length:Int)))),(13,rp [(.tmp 19,B false),(.tmp 24,(Qyv p1))] (I ((p1.Elements.length:Int))))]) (hap q9_ ⟨asb hb58 (amv rfl),ag_ (alm (c:=Qab) (l:=p0.Elements) (aln rfl Tryz.underlying40 rfl)),ag_ (alm (c:=Qab) (l:=p1.Elements) (aln rfl Tryz.underlying24 rfl)),tv⟩) ?_
    refine bfe h (fun hc59 h=>?_) fun hc59 h=>?_
    ·exact wft hc59<|wxz<|Qad<|Qac<|frb h
    ·exact wfn hc59<|Qam<|thn<|⟨(),h,(mto (n:=180) [(2,.ref 0 2 0 0),(3,.ref 1 2 0 0)] [0,1] [(Qgv p0),(Qgu p1)] hφ0 (prr (prr pn)) (qb (lc (rnd Qae) (lc (rnd Qaa) ln)) (qb (lc (rnd Qae) (lc (rnd Qaa) ln)) qn)))⟩
def Qhi (N:Nat) (p0:GNet) (p1:(List Int)):Option Bool:=
  Qby (fun _=>
    (Qj3 N p0).bind fun x3=>
    (Qi7 N p1).bind fun x5=>
    (Qk6 N x3 x5).bind fun x7=>
    Qby (fun _=>
      bif (x7.2==0) then
       (Qip N p0 p1).bind fun x11=>
       (Qdc N (⟨x7.1.Table,x7.1.Elements⟩:GNet) x11).bind fun x13=>
       bif x13 then
        (Qem 2000 ).bind fun x16=>
        some x16
       else
        some false
      else
       some false) fun k8:Unit→Option Bool=>
    (Qgy N p0).bind fun x18=>
    bif (!x18) then
     bif (x7.2==1) then
      (Qdc N (⟨x7.1.Table,x7.1.Elements⟩:GNet) (⟨[],[]⟩:GNet)).bind fun x22=>
      bif x22 then
       (Qem 2000 ).bind fun x25=>
       some x25
      else
       some false
     else
      some false
    else
     (Qh6 N p0 4).bind fun x27=>
     bif ((p1.length:Int) != x27) then
      bif (x7.2==1) then
       (Qdc N (⟨x7.1.Table,x7.1.Elements⟩:GNet) (⟨[],[]⟩:GNet)).bind fun x31=>
       bif x31 then
        (Qem 2000 ).bind fun x34=>
        some x34
       else
        some false
      else
       some false
     else
      (Qip N p0 p1).bind fun x36=>
      (Qgy N x36).bind fun x38=>
      bif (!x38) then
       bif (x7.2==1) then
        (Qdc N (⟨x7.1.Table,x7.1.Elements⟩:GNet) (⟨[],[]⟩:GNet)).bind fun x42=>
        bif x42 then
         (Qem 2000 ).bind fun x45=>
         some x45
        else
         some false
       else
        some false
      else
       k8 ()) fun k1:Unit→Option Bool=>
  (Qiq N p0 ([])).bind fun x47=>
  bif (!x47) then
   (Qem 2000 ).bind fun x50=>
   some x50
  else
   bif (decide ((p1.length:Int)>25)) then
    (Qem 2000 ).bind fun x53=>
    some x53
   else
    k1 ()
def Qmn (p1:(List Int)):AV:=.dat 1 ((p1:List Int).map Qaj)
def Zbd (p0:GNet):AV:=.dat 7 ((p0.Elements:List GElement).map Qab)
def Qyx (p0:GNet):Slot:=.own 2 [[(.dat 5 ((p0.Table:List GRow).map Qau)),(Zbd p0)]]
def Qpp (p0:GNet):AV:=.agg [(.dat 5 ((p0.Table:List GRow).map Qau)),(Zbd p0)]
def Zbc (x3:GNet):AV:=.agg [(.dat 5 ((x3.Table:List GRow).map Qau)),(.dat 7 ((x3.Elements:List GElement).map Qab))]
def Zbb (x5:(List Int)):AV:=.dat 1 ((x5:List Int).map Qaj)
def Qwt (x7:(GNet×Int)):AV:=.dat 5 ((x7.1.Table:List GRow).map Qau)
def Qws (x7:(GNet×Int)):AV:=.dat 7 ((x7.1.Elements:List GElement).map Qab)
def Qkt (x7:(GNet×Int)):AV:=.agg [(Qwt x7),(Qws x7)]
def Q36 (x11:GNet):AV:=.agg [(.dat 5 ((x11.Table:List GRow).map Qau)),(.dat 7 ((x11.Elements:List GElement).map Qab))]
def Qwq (x7:(GNet×Int)) (p0:GNet) (p1:(List Int)) (x11:GNet) (x13:Bool):List (Nat×Rec):=[(2,rp [((.tmp 52),(B ((x7.2==0))))] (B (true))),(6,rp [((.tmp 53),(B (true))),fu 30,((.tmp 55),(Qpp p0)),((.tmp 56),(Qmn p1))] (Q36 x11)),(7,rp [((.tmp 53),(B (true))),fu 31,((.tmp 54),(Qkt x7)),((.tmp 57),(Q36 x11))] (B (x13)))]
def Qwp (p0:GNet) (x18:Bool):List (Nat×Rec):=[(1,rp [fu 28,((.tmp 24),(Qpp p0))] (B (x18)))]
def Qwo (x7:(GNet×Int)) (x22:Bool):List (Nat×Rec):=[(2,rp [((.tmp 42),(B ((x7.2==1))))] (B (true))),(4,rp [((.tmp 43),(B (true)))] (.agg [nilS,nilS])),(5,rp [((.tmp 43),(B (true))),fu 31,((.tmp 44),(Qkt x7)),((.tmp 45),(.agg [nilS,nilS]))] (B (x22)))]
def Qwr:AV:=.agg [(.dat 5 (([]:List GRow).map Qau)),(.dat 7 (([]:List GElement).map Qab))]
def Qwn (p0) (x18) (p1:(List Int)) (x27:Int):=hcat (Qwp p0 x18) [(3,rp [((.tmp 26),(B ((!x18))))] (B (false))),(5,rp [((.tmp 27),(B (false))),((.tmp 28),(Qmn p1))] (I ((p1.length:Int)))),(7,rp [((.tmp 27),(B (false))),fu 29,((.tmp 30),(Qpp p0)),((.const (.int .u8 4)),(K .u8 (4)))] (I (x27)))]
def Qwm (x7:(GNet×Int)) (x31:Bool):List (Nat×Rec):=[(2,rp [((.tmp 42),(B ((x7.2==1))))] (B (true))),(4,rp [((.tmp 43),(B (true)))] (.agg [nilS,nilS])),(5,rp [((.tmp 43),(B (true))),fu 31,((.tmp 44),(Qkt x7)),((.tmp 45),(.agg [nilS,nilS]))] (B (x31)))]
def Q35 (x36:GNet):AV:=.agg [(.dat 5 ((x36.Table:List GRow).map Qau)),(.dat 7 ((x36.Elements:List GElement).map Qab))]
def Qwl (x7:(GNet×Int)) (x42:Bool):List (Nat×Rec):=[(2,rp [((.tmp 42),(B ((x7.2==1))))] (B (true))),(4,rp [((.tmp 43),(B (true)))] (.agg [nilS,nilS])),(5,rp [((.tmp 43),(B (true))),fu 31,((.tmp 44),(Qkt x7)),((.tmp 45),(.agg [nilS,nilS]))] (B (x42)))]
def Qwk (p0:GNet) (x47:Bool):List (Nat×Rec):=[(1,rp [fu 14,((.tmp 7),(Qpp p0)),((.const (.slice none 0 0)),nilS)] (B (x47)))]
def Zgp:AV:=.dat 4 (([]:List GStream).map Qai)
theorem Qm7 (N:Nat) (p0:GNet) (p1:(List Int)) (r:Bool) (h:Qhi N p0 p1=some r):Spec Tryz.prog 6 [(.agg (Qgn p0)),(.dat 1 (p1.map Qaj))] [] (B r) []:=by
  refine Qah Tryz.func6 rfl 0 (nle rfl) (fun X φ0 w0 hφ0 hd0=>?_)
  unfold Qhi at h
  refine wxz ?_
  obtain ⟨k1,hk_k1,h⟩:=jko h
  refine wjn (τ:=Unit) (fun t=>k1 t=some r) (fun _=>⟨mk 63 [(1,(Qmn p1)),(2,.ref 0 2 0 0)],[(Qyx p0)]⟩) (fun t h=>?_) ?_
  ·subst hk_k1
   obtain ⟨x3,hf2,h⟩:=bno h
   obtain ⟨x5,hf4,h⟩:=bno h
   obtain ⟨x7,hf6,h⟩:=bno h
   refine wx tbk [(1,rp [fu 17,(.tmp 17,(Qpp p0))] (Zbc x3)),(3,rp [fu 18,(.tmp 19,(Qmn p1))] (Zbb x5)),(4,rp [fu 27,(.tmp 18,(Zbc x3)),(.tmp 20,(Zbb x5))] (.tup [(Qkt x7),I x7.2]))] ⟨apv Zfe (Qtc N p0 _ hf2) (nlc (NLt.agg _ (nlc (nld Qae _) (nlc (nld Qaa _) nl0))) nl0) (NLt.agg _ (nlc (nld Qae _) (nlc (nld Qaa _) nl0))),apv Zfd (Qre N p1 _ hf4) (nlc (nld Qaf _) nl0) (nld Qaf _),apv Zfc (Quq N x3 x5 _ hf6) (nlc (NLt.agg _ (nlc (nld Qae _) (nlc (nld Qaa _) nl0))) (nlc (nld Qaf _) nl0)) (NLt.tup _ (nlc (NLt.agg _ (nlc (nld Qae _) (nlc (nld Qaa _) nl0))) (nlc nll nl0))),tv⟩ ?_
   obtain ⟨k8,hk_k8,h⟩:=jko h
   refine wjn (τ:=Unit) (fun t=>k8 t=some r) (fun _=>⟨mk 63 [(1,(Qmn p1)),(2,.ref 0 2 0 0),(5,.ref 1 2 0 0),(6,I x7.2)],[(Qyx p0),(.own 2 [[(Qwt x7),(Qws x7)]])]⟩) (fun t h=>?_) ?_
   ·subst hk_k8
    refine bfe h (fun hb9 h=>?_) fun hb9 h=>?_
    ·obtain ⟨x11,hf10,h⟩:=bno h
     obtain ⟨x13,hf12,h⟩:=bno h
     refine hpre (A:=(Qwq x7 p0 p1 x11 x13)) ⟨asb hb9 (amv rfl),ag_ (apv Q55 (Qmz N p0 p1 _ hf10) (nlc (NLt.agg _ (nlc (nld Qae _) (nlc (nld Qaa _) nl0))) (nlc (nld Qaf _) nl0)) (NLt.agg _ (nlc (nld Qae _) (nlc (nld Qaa _) nl0)))),ag_ (apv Qth (Qge N (⟨x7.1.Table,x7.1.Elements⟩:GNet) x11 _ hf12) (nlc (NLt.agg _ (nlc (nld Qae _) (nlc (nld Qaa _) nl0))) (nlc (NLt.agg _ (nlc (nld Qae _) (nlc (nld Qaa _) nl0))) nl0)) nll),tv⟩ fun q1_=>?_
     refine bfe h (fun hb14 h=>?_) fun hb14 h=>?_
     ·obtain ⟨x16,hf15,h⟩:=bno h
      exact wxd tbk (hcat (Qwq x7 p0 p1 x11 x13) [(9,rp [(.tmp 59,B x13)] (B true)),(10,rp [(.tmp 60,B true),fu 15] (B x16))]) (hap q1_ ⟨asb hb14 (amv rfl),ag_ (apv Qob (Qfs 2000  _ hf15) nl0 nll),tv⟩)<|Qad<|frb h
     ·exact wxd tbk (hcat (Qwq x7 p0 p1 x11 x13) [(9,rp [(.tmp 59,B x13)] (B false))]) (hap q1_ ⟨asb hb14 (amv rfl),tv⟩)<|Qad<|frb h
    ·exact wxd tbk [(2,rp [(.tmp 52,(B ((x7.2==0))))] (B false))] ⟨asb hb9 (amv rfl),tv⟩<|Qad<|frb h
   ·skip
    obtain ⟨x18,hf17,h⟩:=bno h
    refine hpre (A:=(Qwp p0 x18)) ⟨apv Q56 (Qk3 N p0 _ hf17) (nlc (NLt.agg _ (nlc (nld Qae _) (nlc (nld Qaa _) nl0))) nl0) nll,tv⟩ fun q2_=>?_
    refine bfe h (fun hb19 h=>?_) fun hb19 h=>?_
    ·refine wx tbk (hcat (Qwp p0 x18) [(3,rp [(.tmp 26,(B ((!x18))))] (B true))]) (hap q2_ ⟨asb hb19 (amv rfl),tv⟩)<|wtr ?_
     refine bfe h (fun hb20 h=>?_) fun hb20 h=>?_
     ·obtain ⟨x22,hf21,h⟩:=bno h
      refine hpre (A:=(Qwo x7 x22)) ⟨asb hb20 (amv rfl),ag_ (Qax (vs:=[]) rfl ts26 tz26 rfl (by rfl) rfl),ag_ (awk (rd':=(.func 31,(.fn (.func 31) [] []))::[(.tmp 44,(Qkt x7)),(.tmp 45,Qwr)]) ⟨rfl,lrf,rfl,lrf,rfl,(Less.agg ⟨Less.nil,Less.nil,tv⟩),tv⟩ (apv Qth (Qge N (⟨x7.1.Table,x7.1.Elements⟩:GNet) (⟨[],[]⟩:GNet) _ hf21) (nlc (NLt.agg _ (nlc (nld Qae _) (nlc (nld Qaa _) nl0))) (nlc (NLt.agg _ (nlc (nld Qae _) (nlc (nld Qaa _) nl0))) nl0)) nll)),tv⟩ fun q3_=>?_
      refine bfe h (fun hb23 h=>?_) fun hb23 h=>?_
      ·obtain ⟨x25,hf24,h⟩:=bno h
       exact wx tbk (hcat (Qwo x7 x22) [(7,rp [(.tmp 47,B x22)] (B true)),(8,rp [(.tmp 48,B true),fu 15] (B x25))]) (hap q3_ ⟨asb hb23 (amv rfl),ag_ (apv Qob (Qfs 2000  _ hf24) nl0 nll),tv⟩)<|Qad<|Qac<|frb h
      ·exact wx tbk (hcat (Qwo x7 x22) [(7,rp [(.tmp 47,B x22)] (B false))]) (hap q3_ ⟨asb hb23 (amv rfl),tv⟩)<|Qad<|Qac<|frb h
     ·exact wx tbk [(2,rp [(.tmp 42,(B ((x7.2==1))))] (B false))] ⟨asb hb20 (amv rfl),tv⟩<|Qad<|Qac<|frb h
    ·obtain ⟨x27,hf26,h⟩:=bno h
     refine hpre (A:=(Qwn p0 x18 p1 x27)) (hap q2_ ⟨asb hb19 (amv rfl),ag_ (alm (c:=Qaj) (l:=p1) (aln rfl Tryz.underlying27 rfl)),ag_ (apv Zfb (Qp3 N p0 4 _ hf26) (nlc (NLt.agg _ (nlc (nld Qae _) (nlc (nld Qaa _) nl0))) (nlc nll nl0)) nll),tv⟩) fun q4_=>?_
     refine bfe h (fun hb28 h=>?_) fun hb28 h=>?_
     ·refine wx tbk (hcat (Qwn p0 x18 p1 x27) [(10,rp [(.tmp 33,(B (((p1.length:Int) != x27))))] (B true))]) (hap q4_ ⟨asb hb28 (amv rfl),tv⟩)<|wtr ?_
      refine bfe h (fun hb29 h=>?_) fun hb29 h=>?_
      ·obtain ⟨x31,hf30,h⟩:=bno h
       refine hpre (A:=(Qwm x7 x31)) ⟨asb hb29 (amv rfl),ag_ (Qax (vs:=[]) rfl ts26 tz26 rfl (by rfl) rfl),ag_ (awk (rd':=(.func 31,(.fn (.func 31) [] []))::[(.tmp 44,(Qkt x7)),(.tmp 45,Qwr)]) ⟨rfl,lrf,rfl,lrf,rfl,(Less.agg ⟨Less.nil,Less.nil,tv⟩),tv⟩ (apv Qth (Qge N (⟨x7.1.Table,x7.1.Elements⟩:GNet) (⟨[],[]⟩:GNet) _ hf30) (nlc (NLt.agg _ (nlc (nld Qae _) (nlc (nld Qaa _) nl0))) (nlc (NLt.agg _ (nlc (nld Qae _) (nlc (nld Qaa _) nl0))) nl0)) nll)),tv⟩ fun q5_=>?_
       refine bfe h (fun hb32 h=>?_) fun hb32 h=>?_
       ·obtain ⟨x34,hf33,h⟩:=bno h
        exact wx tbk (hcat (Qwm x7 x31) [(7,rp [(.tmp 47,B x31)] (B true)),(8,rp [(.tmp 48,B true),fu 15] (B x34))]) (hap q5_ ⟨asb hb32 (amv rfl),ag_ (apv Qob (Qfs 2000  _ hf33) nl0 nll),tv⟩)<|Qad<|Qac<|frb h
       ·exact wx tbk (hcat (Qwm x7 x31) [(7,rp [(.tmp 47,B x31)] (B false))]) (hap q5_ ⟨asb hb32 (amv rfl),tv⟩)<|Qad<|Qac<|frb h
      ·exact wx tbk [(2,rp [(.tmp 42,(B ((x7.2==1))))] (B false))] ⟨asb hb29 (amv rfl),tv⟩<|Qad<|Qac<|frb h
     ·obtain ⟨x36,hf35,h⟩:=bno h
      obtain ⟨x38,hf37,h⟩:=bno h
      refine wx tbk (hcat (Qwn p0 x18 p1 x27) [(10,rp [(.tmp 33,(B (((p1.length:Int) != x27))))] (B false)),(13,rp [(.tmp 34,B false),fu 30,(.tmp 35,(Qpp p0)),(.tmp 36,(Qmn p1))] (Q35 x36)),(14,rp [(.tmp 34,B false),fu 28,(.tmp 37,(Q35 x36))] (B x38))]) (hap q4_ ⟨asb hb28 (amv rfl),ag_ (apv Q55 (Qmz N p0 p1 _ hf35) (nlc (NLt.agg _ (nlc (nld Qae _) (nlc (nld Qaa _) nl0))) (nlc (nld Qaf _) nl0)) (NLt.agg _ (nlc (nld Qae _) (nlc (nld Qaa _) nl0)))),ag_ (apv Q56 (Qk3 N x36 _ hf37) (nlc (NLt.agg _ (nlc (nld Qae _) (nlc (nld Qaa _) nl0))) nl0) nll),tv⟩) ?_
      refine bfe h (fun hc39 h=>?_) fun hc39 h=>?_
      ·refine wft hc39 ?_
       refine bfe h (fun hb40 h=>?_) fun hb40 h=>?_
       ·obtain ⟨x42,hf41,h⟩:=bno h
        refine hpre (A:=(Qwl x7 x42)) ⟨asb hb40 (amv rfl),ag_ (Qax (vs:=[]) rfl ts26 tz26 rfl (by rfl) rfl),ag_ (awk (rd':=(.func 31,(.fn (.func 31) [] []))::[(.tmp 44,(Qkt x7)),(.tmp 45,Qwr)]) ⟨rfl,lrf,rfl,lrf,rfl,(Less.agg ⟨Less.nil,Less.nil,tv⟩),tv⟩ (apv Qth (Qge N (⟨x7.1.Table,x7.1.Elements⟩:GNet) (⟨[],[]⟩:GNet) _ hf41) (nlc (NLt.agg _ (nlc (nld Qae _) (nlc (nld Qaa _) nl0))) (nlc (NLt.agg _ (nlc (nld Qae _) (nlc (nld Qaa _) nl0))) nl0)) nll)),tv⟩ fun q6_=>?_
        refine bfe h (fun hb43 h=>?_) fun hb43 h=>?_
        ·obtain ⟨x45,hf44,h⟩:=bno h
         exact wx tbk (hcat (Qwl x7 x42) [(7,rp [(.tmp 47,B x42)] (B true)),(8,rp [(.tmp 48,B true),fu 15] (B x45))]) (hap q6_ ⟨asb hb43 (amv rfl),ag_ (apv Qob (Qfs 2000  _ hf44) nl0 nll),tv⟩)<|Qad<|Qac<|frb h
        ·exact wx tbk (hcat (Qwl x7 x42) [(7,rp [(.tmp 47,B x42)] (B false))]) (hap q6_ ⟨asb hb43 (amv rfl),tv⟩)<|Qad<|Qac<|frb h
       ·exact wx tbk [(2,rp [(.tmp 42,(B ((x7.2==1))))] (B false))] ⟨asb hb40 (amv rfl),tv⟩<|Qad<|Qac<|frb h
      ·exact wfn hc39<|Qam<|thn<|⟨(),h,(mto (n:=63) [(1,(Qmn p1)),(2,.ref 0 2 0 0),(5,.ref 1 2 0 0),(6,I x7.2)] [0,1] [(Qyx p0),(.own 2 [[(Qwt x7),(Qws x7)]])] hφ0 (pc (rnd Qaf) (prr (prr (pw pn)))) (qb (lc (rnd Qae) (lc (rnd Qaa) ln)) (qb (lc (rnd Qae) (lc (rnd Qaa) ln)) qn)))⟩
  ·skip
   obtain ⟨x47,hf46,h⟩:=bno h
   refine hpre (A:=(Qwk p0 x47)) ⟨awk (rd':=(.func 14,(.fn (.func 14) [] []))::[(.tmp 7,(Qpp p0)),((.const (.slice none 0 0)),Zgp)]) ⟨rfl,lrf,rfl,lrf,rfl,Less.nil,tv⟩ (apv Zfg (Qtd N p0 ([]) _ hf46) (nlc (NLt.agg _ (nlc (nld Qae _) (nlc (nld Qaa _) nl0))) (nlc (nld Qag _) nl0)) nll),tv⟩ fun q7_=>?_
   refine bfe h (fun hb48 h=>?_) fun hb48 h=>?_
   ·refine wx tbk (hcat (Qwk p0 x47) [(3,rp [(.tmp 9,(B ((!x47))))] (B true))]) (hap q7_ ⟨asb hb48 (amv rfl),tv⟩)<|wtr ?_
    obtain ⟨x50,hf49,h⟩:=bno h
    exact wx tbk [(0,rp [fu 15] (B x50))] ⟨apv Qob (Qfs 2000  _ hf49) nl0 nll,tv⟩<|Qad<|Qac<|frb h
   ·refine wx tbk (hcat (Qwk p0 x47) [(3,rp [(.tmp 9,(B ((!x47))))] (B false)),(5,rp [(.tmp 10,B false),(.tmp 11,(Qmn p1))] (I ((p1.length:Int))))]) (hap q7_ ⟨asb hb48 (amv rfl),ag_ (alm (c:=Qaj) (l:=p1) (aln rfl Tryz.underlying27 rfl)),tv⟩) ?_
    refine bfe h (fun hc51 h=>?_) fun hc51 h=>?_
    ·refine wft hc51 ?_
     obtain ⟨x53,hf52,h⟩:=bno h
     exact wx tbk [(0,rp [fu 15] (B x53))] ⟨apv Qob (Qfs 2000  _ hf52) nl0 nll,tv⟩<|Qad<|Qac<|frb h
    ·exact wfn hc51<|Qam<|thn<|⟨(),h,(mto (n:=63) [(1,(Qmn p1)),(2,.ref 0 2 0 0)] [0] [(Qyx p0)] hφ0 (pc (rnd Qaf) (prr pn)) (qb (lc (rnd Qae) (lc (rnd Qaa) ln)) qn))⟩
end Go.Proofs.YtmbhnllcfmiajaaGreat
