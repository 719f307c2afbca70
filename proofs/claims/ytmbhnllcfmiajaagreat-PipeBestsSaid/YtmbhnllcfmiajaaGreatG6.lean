/-
  The texts X12, PSe6, X16, PBa6, X17, PBb6 of the proof, one behind the other. No conditions.
-/
import Derived.Test.YtmbhnllcfmiajaaGreatG5
namespace Go.Proofs.YtmbhnllcfmiajaaGreat
open _root_.Go.Proofs.Tryz
open Go.RowKit
set_option maxRecDepth 100000
set_option maxHeartbeats 4000000
set_option synthInstance.maxSize 4000
set_option synthInstance.maxHeartbeats 400000
section
def Qci (_N:Nat) (p0:List GRow):Option (List GRow):=
  bif p0.isEmpty then
   some ([])
  else
   chk (decide ((([]:List GRow).length+p0.length)*40≤140737488355328))<|
   some (([]:List GRow)++p0)
def Q50:AV:=.acc 0 160 5 ((([]:List GRow):List GRow).map Qap)
def Q5z (p0:List GRow):AV:=.acc 1 160 5 ((([]:List GRow)++p0:List GRow).map Qap)
theorem Qio (N:Nat) (p0 r:List GRow) (h:Qci N p0=some r):Spec prog 104 [(.dat 5 (p0.map Qap))] [] (.dat 5 (r.map Qap)) []:=by
  refine sA func104 0 fun _ _ _ hq hd0=>?_
  unfold Qci at h
  refine wxz<|wsq ?_
  refine bfe h (fun hz2 h=>?_) fun hz2 h=>?_
  ·refine Quu 1 [mv 0 (.dat 5 (p0.map Qap)),rp [(.tmp 3,(.dat 5 (p0.map Qap))),((.const (.slice none 0 0)),nilS)] (B true)] [mv 0 (.dat 5 (p0.map Qap)),rp [(.tmp 3,(.dat 5 (p0.map Qap))),((.const (.slice none 0 0)),nilS)] (B false)] (by exact⟨by kernel_rfl,by kernel_rfl⟩) (by exact⟨by kernel_rfl,by kernel_rfl⟩) rfl rfl rfl rfl (Qpk rfl underlying39 rfl) (⟨fun _ _=>amv rfl,fun _ h=>absurd rfl h,tv⟩) (⟨fun _ _=>amv rfl,fun _ h=>absurd rfl h,tv⟩) ?_ ?_
   ·refine wtr<|wxz<|Qai<|Qaj ?_
    obtain rfl:=osi h
    exact fie [(.dat 5 (([]:List GRow).map Qap))] ⟨Qbz (v:=nilS) rot Less.nil,tv⟩
   ·replace h:(chk (decide ((([]:List GRow).length+p0.length)*40≤140737488355328))<|some (([]:List GRow)++p0))=some r:=by rw[List.isEmpty_iff.1 hz2];exact h
    refine wfa<|Qam<|thn ?_
    obtain⟨ha1,h⟩:=cko h
    refine wx tbk [(0,⟨[],[(0,.unused)],Q50,[(0,.tok)],false⟩),(2,⟨[(.tmp 5,Q50),(.tmp 6,(.dat 5 (p0.map Qap)))],[(0,.tok),(1,.unused)],(Q5z p0),[(0,.dead),(1,.tok)],false⟩)] ⟨Qd5 rfl underlying39 Que Qy9,Qc7 rfl underlying39 Zmo (Base.acc _ _) rfl rfl (Qh1 Qap Q6q _) (Qf7 Qap ha1) (Qf6 Qap ha1 (by decide)) (Qf5 Qap) rfl rfl,tv⟩<|Qai ?_
    obtain rfl:=osi h
    exact fie [(.dat 5 ((([]:List GRow)++p0:List GRow).map Qap))] ⟨Qbz (v:=(Q5z p0)) rot Less.acc,tv⟩
  ·refine wx tbk [(1,rp [(.tmp 3,(.dat 5 (p0.map Qap))),((.const (.slice none 0 0)),nilS)] (B false))] ⟨Qmm rfl underlying39 rfl (Qhe (emf hz2)),tv⟩<|wfa<|Qam<|thn ?_
   obtain⟨ha3,h⟩:=cko h
   refine wx tbk [(0,⟨[],[(0,.unused)],Q50,[(0,.tok)],false⟩),(2,⟨[(.tmp 5,Q50),(.tmp 6,(.dat 5 (p0.map Qap)))],[(0,.tok),(1,.unused)],(Q5z p0),[(0,.dead),(1,.tok)],false⟩)] ⟨Qd5 rfl underlying39 Que Qy9,Qc7 rfl underlying39 Zmo (Base.acc _ _) rfl rfl (Qh1 Qap Q6q _) (Qf7 Qap ha3) (Qf6 Qap ha3 (by decide)) (Qf5 Qap) rfl rfl,tv⟩<|Qai ?_
   obtain rfl:=osi h
   exact fie [(.dat 5 ((([]:List GRow)++p0:List GRow).map Qap))] ⟨Qbz (v:=(Q5z p0)) rot Less.acc,tv⟩
def Qbx (_N:Nat) (p0:List Qaf):Option Unit:=
  chk (!p0.isEmpty)<|
  chk (!p0.isEmpty)<|
  chk (decide ((0+p0.length)*88≤140737488355328))<|
  some ()
def Zku:AV:=.acc 0 133 7 ((([]:List Qaf):List Qaf).map Qae)
theorem Qhy (N:Nat) (p0:List Qaf) (r:Unit) (h:Qbx N p0=some r):Spec prog 105 [(.dat 7 (p0.map Qae))] [] (.own 0 7 (0) p0.length) [(.own 7 (p0.map Qae))]:=by
  refine sF func105 1 fun _ _ _ hq hd0=>?_
  unfold Qbx at h
  refine wxz<|wsq ?_
  obtain⟨hz1,h⟩:=cko h
  refine wx tbk [(1,rp [(.tmp 3,(.dat 7 (p0.map Qae))),((.const (.slice none 0 0)),nilS)] (B false))] ⟨Qmm rfl underlying40 rfl (Qhe hz1),tv⟩<|wfa<|Qam<|thn ?_
  obtain⟨ha3,h⟩:=cko h
  obtain⟨ha2,h⟩:=cko h
  refine wx tbk [(0,⟨[],[(0,.unused)],Zku,[(0,.tok)],false⟩),(2,⟨[(.tmp 5,Zku),(.tmp 6,(.dat 7 (p0.map Qae)))],[(0,.tok),(1,.unused)],(.own 1 7 (0) p0.length),[(0,.dead),(1,(.own 7 (p0.map Qae)))],false⟩)] ⟨Qd5 rfl underlying40 Qkd Q1d,Qtl rfl underlying40 Zra (Base.acc _ _) rfl rfl (Qhe ha3) (Qh1 Qae Qtx _) (Quw Qae ha2) (Quv Qae ha2 (by decide)) (List.length_map _),tv⟩ ?_
  refine wmr (mto (n:=8) (l':=[(2,(.own 0 7 (0) p0.length))]) (own':=[(.own 7 (p0.map Qae))]) [(2,(.own 1 7 (0) p0.length))] [1] [(.own 7 (p0.map Qae))] hq (pc (.rn (Qav rfl)) pn) (qc (spr Qab) qn))<|Qai ?_
  obtain rfl:=osi h
  exact⟨_,Mor.rfl,fio [(.own 0 7 (0) p0.length)] ⟨rot,tv⟩⟩
def Qco (_N:Nat) (p0:List Qbn):Option (List Qbn):=
  bif p0.isEmpty then
   some ([])
  else
   chk (decide ((([]:List Qbn).length+p0.length)*16≤140737488355328))<|
   some (([]:List Qbn)++p0)
def Qvb (p0:List Qbn):AV:=.dat 2 (p0.map Qaw)
def Q5y:AV:=.acc 0 120 2 ((([]:List Qbn):List Qbn).map Qaw)
def Q5x (p0:List Qbn):AV:=.acc 1 120 2 ((([]:List Qbn)++p0:List Qbn).map Qaw)
def Zkt (p0:List Qbn):AV:=.dat 2 ((([]:List Qbn)++p0:List Qbn).map Qaw)
theorem Qiz (N:Nat) (p0 r:List Qbn) (h:Qco N p0=some r):Spec prog 106 [(.dat 2 (p0.map Qaw))] [] (.dat 2 (r.map Qaw)) []:=by
  refine sA func106 0 fun _ _ _ hq hd0=>?_
  unfold Qco at h
  refine wxz<|wsq ?_
  refine bfe h (fun hz2 h=>?_) fun hz2 h=>?_
  ·refine Quu 1 [mv 0 (Qvb p0),rp [(.tmp 3,(Qvb p0)),((.const (.slice none 0 0)),nilS)] (B true)] [mv 0 (Qvb p0),rp [(.tmp 3,(Qvb p0)),((.const (.slice none 0 0)),nilS)] (B false)] (by exact⟨by kernel_rfl,by kernel_rfl⟩) (by exact⟨by kernel_rfl,by kernel_rfl⟩) rfl rfl rfl rfl (Qpk rfl underlying116 rfl) (⟨fun _ _=>amv rfl,fun _ h=>absurd rfl h,tv⟩) (⟨fun _ _=>amv rfl,fun _ h=>absurd rfl h,tv⟩) ?_ ?_
   ·refine wtr<|wxz<|Qai<|Qaj ?_
    obtain rfl:=osi h
    exact fie [(.dat 2 (([]:List Qbn).map Qaw))] ⟨Qbz (v:=nilS) rot Less.nil,tv⟩
   ·replace h:(chk (decide ((([]:List Qbn).length+p0.length)*16≤140737488355328))<|some (([]:List Qbn)++p0))=some r:=by rw[List.isEmpty_iff.1 hz2];exact h
    refine wfa<|Qam<|thn ?_
    obtain⟨ha1,h⟩:=cko h
    refine wx tbk [(0,⟨[],[(0,.unused)],Q5y,[(0,.tok)],false⟩),(2,⟨[(.tmp 5,Q5y),(.tmp 6,(Qvb p0))],[(0,.tok),(1,.unused)],(Q5x p0),[(0,.dead),(1,.tok)],false⟩)] ⟨Qd5 rfl underlying116 Qql Qud,Qc7 rfl underlying116 Zgp (Base.acc _ _) rfl rfl (Qh1 Qaw Q10 _) (Qf7 Qaw ha1) (Qf6 Qaw ha1 (by decide)) (Qf5 Qaw) rfl rfl,tv⟩<|Qai ?_
    obtain rfl:=osi h
    exact fie [(Zkt p0)] ⟨Qbz (v:=(Q5x p0)) rot Less.acc,tv⟩
  ·refine wx tbk [(1,rp [(.tmp 3,(Qvb p0)),((.const (.slice none 0 0)),nilS)] (B false))] ⟨Qmm rfl underlying116 rfl (Qhe (emf hz2)),tv⟩<|wfa<|Qam<|thn ?_
   obtain⟨ha3,h⟩:=cko h
   refine wx tbk [(0,⟨[],[(0,.unused)],Q5y,[(0,.tok)],false⟩),(2,⟨[(.tmp 5,Q5y),(.tmp 6,(Qvb p0))],[(0,.tok),(1,.unused)],(Q5x p0),[(0,.dead),(1,.tok)],false⟩)] ⟨Qd5 rfl underlying116 Qql Qud,Qc7 rfl underlying116 Zgp (Base.acc _ _) rfl rfl (Qh1 Qaw Q10 _) (Qf7 Qaw ha3) (Qf6 Qaw ha3 (by decide)) (Qf5 Qaw) rfl rfl,tv⟩<|Qai ?_
   obtain rfl:=osi h
   exact fie [(Zkt p0)] ⟨Qbz (v:=(Q5x p0)) rot Less.acc,tv⟩
def Qfp (_N:Nat) (p0:List Int):Option (List Int):=
  bif p0.isEmpty then
   some ([])
  else
   chk (decide ((([]:List Int).length+p0.length)*8≤140737488355328))<|
   some (([]:List Int)++p0)
def Q5w:AV:=.acc 0 3 1 ((([]:List Int):List Int).map Qac)
def Q5v (p0:List Int):AV:=.acc 1 3 1 ((([]:List Int)++p0:List Int).map Qac)
theorem Qng (N:Nat) (p0 r:List Int) (h:Qfp N p0=some r):Spec prog 95 [(.dat 1 (p0.map Qac))] [] (.dat 1 (r.map Qac)) []:=by
  refine sA func95 0 fun _ _ _ hq hd0=>?_
  unfold Qfp at h
  refine wxz<|wsq ?_
  refine bfe h (fun hz2 h=>?_) fun hz2 h=>?_
  ·refine Quu 1 [mv 0 (.dat 1 (p0.map Qac)),rp [(.tmp 3,(.dat 1 (p0.map Qac))),((.const (.slice none 0 0)),nilS)] (B true)] [mv 0 (.dat 1 (p0.map Qac)),rp [(.tmp 3,(.dat 1 (p0.map Qac))),((.const (.slice none 0 0)),nilS)] (B false)] (by exact⟨by kernel_rfl,by kernel_rfl⟩) (by exact⟨by kernel_rfl,by kernel_rfl⟩) rfl rfl rfl rfl (Qpk rfl underlying27 rfl) (⟨fun _ _=>amv rfl,fun _ h=>absurd rfl h,tv⟩) (⟨fun _ _=>amv rfl,fun _ h=>absurd rfl h,tv⟩) ?_ ?_
   ·refine wtr<|wxz<|Qai<|Qaj ?_
    obtain rfl:=osi h
    exact fie [(.dat 1 (([]:List Int).map Qac))] ⟨Qbz (v:=nilS) rot Less.nil,tv⟩
   ·replace h:(chk (decide ((([]:List Int).length+p0.length)*8≤140737488355328))<|some (([]:List Int)++p0))=some r:=by rw[List.isEmpty_iff.1 hz2];exact h
    refine wfa<|Qam<|thn ?_
    obtain⟨ha1,h⟩:=cko h
    refine wx tbk [(0,⟨[],[(0,.unused)],Q5w,[(0,.tok)],false⟩),(2,⟨[(.tmp 5,Q5w),(.tmp 6,(.dat 1 (p0.map Qac)))],[(0,.tok),(1,.unused)],(Q5v p0),[(0,.dead),(1,.tok)],false⟩)] ⟨Qd5 rfl underlying27 ti3 tz3,Qc7 rfl underlying27 te3 (Base.acc _ _) rfl rfl (Qh1 Qac Qf0 _) (Qf7 Qac ha1) (Qf6 Qac ha1 (by decide)) (Qf5 Qac) rfl rfl,tv⟩<|Qai ?_
    obtain rfl:=osi h
    exact fie [(.dat 1 ((([]:List Int)++p0:List Int).map Qac))] ⟨Qbz (v:=(Q5v p0)) rot Less.acc,tv⟩
  ·refine wx tbk [(1,rp [(.tmp 3,(.dat 1 (p0.map Qac))),((.const (.slice none 0 0)),nilS)] (B false))] ⟨Qmm rfl underlying27 rfl (Qhe (emf hz2)),tv⟩<|wfa<|Qam<|thn ?_
   obtain⟨ha3,h⟩:=cko h
   refine wx tbk [(0,⟨[],[(0,.unused)],Q5w,[(0,.tok)],false⟩),(2,⟨[(.tmp 5,Q5w),(.tmp 6,(.dat 1 (p0.map Qac)))],[(0,.tok),(1,.unused)],(Q5v p0),[(0,.dead),(1,.tok)],false⟩)] ⟨Qd5 rfl underlying27 ti3 tz3,Qc7 rfl underlying27 te3 (Base.acc _ _) rfl rfl (Qh1 Qac Qf0 _) (Qf7 Qac ha3) (Qf6 Qac ha3 (by decide)) (Qf5 Qac) rfl rfl,tv⟩<|Qai ?_
   obtain rfl:=osi h
   exact fie [(.dat 1 ((([]:List Int)++p0:List Int).map Qac))] ⟨Qbz (v:=(Q5v p0)) rot Less.acc,tv⟩
def Qfj (N:Nat) (p0:GNet) (p1:List Int) (k12:(List Qaf)→Option GNet) (x15:List Int):Nat→Int→(List Qaf)→Option GNet
  |0,_,_=>none
  |n20+1,y16,y17=>
    bif (decide (y16<(x15.length:Int))) then
     (getI x15 y16).bind fun x22=>
     (getI p1 y16).bind fun x26=>
     chk (decide (0≤x22)&&decide (x22.toNat<p0.Elements.length))<|
     (y17[x22.toNat]?).bind fun x31=>
     Qfj N p0 p1 k12 x15 n20 (w64 (y16+1)) (y17.set x22.toNat (⟨x31.Kind,x31.From,x26,x31.Amount,x31.Wide,x31.Narrow,x31.Weights⟩:Qaf))
    else
     k12 (y17)
def Qfi (N:Nat) (p0:GNet) (k10:(List Qaf)→Option GNet):Nat→Int→(List Qaf)→Option GNet
  |0,_,_=>none
  |n37+1,y33,y34=>
    bif (decide (y33<(p0.Elements.length:Int))) then
     (getI p0.Elements y33).bind fun x39=>
     (Qco N x39.From).bind fun x44=>
     (Qfp N x39.Weights).bind fun x46=>
     chk (decide (0≤y33)&&decide (y33.toNat<p0.Elements.length))<|
     (y34[y33.toNat]?).bind fun x48=>
     chk (decide (0≤y33)&&decide (y33.toNat<p0.Elements.length))<|
     ((y34.set y33.toNat (⟨x48.Kind,x44,x48.Level,x48.Amount,x48.Wide,x48.Narrow,x48.Weights⟩:Qaf))[y33.toNat]?).bind fun x51=>
     Qfi N p0 k10 n37 (w64 (y33+1)) ((y34.set y33.toNat (⟨x48.Kind,x44,x48.Level,x48.Amount,x48.Wide,x48.Narrow,x48.Weights⟩:Qaf)).set y33.toNat (⟨x51.Kind,x51.From,x51.Level,x51.Amount,x51.Wide,x51.Narrow,x46⟩:Qaf))
    else
     k10 (y34)
def Qlw (N:Nat) (p0:GNet) (p1:List Int):Option GNet:=
  (Qci N p0.Table).bind fun x6=>
  (Qbx N p0.Elements).bind fun _=>
  Qbc (fun y9=>
    Qbc (fun y11=>
      chk (decide (p0.Elements.length≤y11.length))<|
      some (⟨x6,y11.take p0.Elements.length⟩:GNet)) fun k12:(List Qaf)→Option GNet=>
    (Qg9 N p0 4).bind fun x15=>
    Qfj N p0 p1 k12 x15 N 0 y9) fun k10:(List Qaf)→Option GNet=>
  Qfi N p0 k10 N 0 p0.Elements
def Qfy (N:Nat) (p0:GNet) (p1:List Int) (k7:(List Qaf)→Option GNet):Nat→Int→Int→(List Qaf)→Option GNet
  |0,_,_,_=>none
  |n15+1,y9,y10,y11=>
    bif (decide (y10<((p0.Elements.length:Nat):Int))) then
     chk (decide (0≤y10)&&decide (y10.toNat<p0.Elements.length))<|
     (y11[y10.toNat]?).bind fun x18=>
     bif (x18.Kind==4) then
      (getI p1 y9).bind fun x21=>
      chk (decide (0≤y10)&&decide (y10.toNat<p0.Elements.length))<|
      (y11[y10.toNat]?).bind fun x26=>
      Qfy N p0 p1 k7 n15 (w64 (y9+1)) (w64 (y10+1)) (y11.set y10.toNat (⟨x26.Kind,x26.From,x21,x26.Amount,x26.Wide,x26.Narrow,x26.Weights⟩:Qaf))
     else
      Qfy N p0 p1 k7 n15 y9 (w64 (y10+1)) y11
    else
     k7 (y11)
def Qpr (N:Nat) (p0:GNet) (p1:List Int):Option GNet:=
  chk (!p0.Elements.isEmpty)<|
  chk (decide ((0+p0.Elements.length)*88≤140737488355328))<|
  Qbc (fun y6=>
    chk (decide (p0.Elements.length≤y6.length))<|
    some (⟨p0.Table,y6.take p0.Elements.length⟩:GNet)) fun k7:(List Qaf)→Option GNet=>
  Qfy N p0 p1 k7 N 0 0 p0.Elements
end
section
theorem Qq5 {α:Type}(l:List α) (c:Nat) (hc:c≤100) (h:l.length≤1000):(bif l.isEmpty then some ([]:List α) else chk (decide ((([]:List α).length+l.length)*c≤140737488355328))<|some ([]++l))=some l:=by
 cases l with
 |nil=>rfl
 |cons x q=>
  have h1:(([]:List α).length+(x::q).length)*c≤1000*100:=Nat.mul_le_mul (by simpa using h) hc
  rw[show(x::q).isEmpty=false from rfl,cond_false,List.nil_append]
  unfold chk
  rw[decide_eq_true (show(([]:List α).length+(x::q).length)*c≤140737488355328 by omega),cond_true]
theorem Zes (N:Nat) {l:List GRow}(h:l.length≤1000):Qci N l=some l:=Qq5 l 40 (by omega) h
theorem Zet (N:Nat) {l:List Qbn}(h:l.length≤1000):Qco N l=some l:=Qq5 l 16 (by omega) h
theorem Zeu (N:Nat) {l:List Int}(h:l.length≤1000):Qfp N l=some l:=Qq5 l 8 (by omega) h
def lev (x:Qaf) (v:Int):Qaf:=⟨x.Kind,x.From,v,x.Amount,x.Wide,x.Narrow,x.Weights⟩
def putL:List Qaf→List (Int×Int)→List Qaf
 |acc,[]=>acc
 |acc,(i,v)::q=>putL (match acc[i.toNat]? with |some x=>acc.set i.toNat (lev x v) |none=>acc) q
theorem Qn2:∀(q:List (Int×Int)) (acc:List Qaf),(putL acc q).length=acc.length
 |[],_=>rfl
 |(i,v)::q,acc=>by
  rw[putL,Qn2 q]
  split<;>simp
theorem Q6i:∀(q:List (Int×Int)) (acc:List Qaf),∀y∈putL acc q,∃x∈acc,y.From=x.From∧y.Weights=x.Weights
 |[],_,y,h=>⟨y,h,rfl,rfl⟩
 |(i,v)::q,acc,y,h=>by
  rw[putL] at h
  obtain⟨x,hx,h1,h2⟩:=Q6i q _ y h
  cases hg:acc[i.toNat]? with
  |none=>rw[hg] at hx;exact⟨x,hx,h1,h2⟩
  |some z=>
   rw[hg] at hx
   dsimp only at hx
   rcases List.mem_or_eq_of_mem_set hx with hx |rfl
   ·exact⟨x,hx,h1,h2⟩
   ·exact⟨z,List.mem_of_getElem? hg,h1,h2⟩
def setN (n:GNet) (v:List Int):GNet:=⟨n.Table,putL n.Elements ((ofL 4 0 n.Elements).zip v)⟩
theorem Qxv {n:GNet}(hs:Qim n) (v:List Int):Qim (setN n v):=by
 refine⟨hs.t,?_,fun y hy=>?_⟩
 ·unfold setN
  rw[Qn2]
  exact hs.e
 ·obtain⟨x,hx,h1,h2⟩:=Q6i _ _ y hy
  rw[h1,h2]
  exact hs.x x hx
theorem Zrh {n:GNet}{z:Int}(h:z∈ofL 4 0 n.Elements):0≤z∧z.toNat<n.Elements.length:=by
 have:=Qzq 4 n.Elements 0 z h
 omega
section
variable {N : Nat} {n : GNet} (hs : Qim n) (hN : 1001 ≤ N)
include hs
theorem Zcn (k:List Qaf→Option GNet):∀(m i:Nat),(n.Elements.drop i).length<m→Qfi N n k m i n.Elements=k n.Elements:=by
 have e0:=hs.e
 intro m
 induction m with
 |zero=>intro i h;cases h
 |succ m ih=>
  intro i h
  rw[Qfi]
  cases hd:n.Elements.drop i with
  |nil=>
   have:=Qbs hd
   simp[show ¬((i:Int)<n.Elements.length) from by omega]
  |cons x q=>
   obtain⟨hg,hd',hlt⟩:=Qbg hd
   have hx:=hs.x x (List.mem_of_getElem? hg)
   have hset:n.Elements.set i x=n.Elements:=by
    rw[List.getElem?_eq_getElem hlt] at hg
    cases hg
    exact List.set_getElem_self hlt
   simp only[dlI hlt,cond_true,Qbu hg,Option.bind_some,Zet N (show x.From.length≤1000 by omega),Zeu N (show x.Weights.length≤1000 by omega),Int.toNat_natCast,chk,hg]
   rw[show(decide ((0:Int)≤(i:Int))&&decide (i<n.Elements.length))=true by simp;omega]
   simp only[cond_true,show(⟨x.Kind,x.From,x.Level,x.Amount,x.Wide,x.Narrow,x.Weights⟩:Qaf)=x from rfl,hset,hg,Option.bind_some]
   rw[w64S (i:=i) (by omega)]
   exact ih (i+1) (dlt hd hd' h)
theorem Zg4 (v:List Int) (hv:v.length=(ofL 4 0 n.Elements).length) (k:List Qaf→Option GNet):∀(m j:Nat) (acc:List Qaf),((ofL 4 0 n.Elements).drop j).length<m→acc.length=n.Elements.length →
  Qfj N n v k (ofL 4 0 n.Elements) m j acc=k (putL acc (((ofL 4 0 n.Elements).drop j).zip (v.drop j))):=by
 have e0:=hs.e
 have e1:(ofL 4 0 n.Elements).length≤n.Elements.length:=by rw[Qjc];exact List.length_filter_le _ _
 intro m
 induction m with
 |zero=>intro j _ h;cases h
 |succ m ih=>
  intro j acc h ha
  rw[Qfj]
  cases hd:(ofL 4 0 n.Elements).drop j with
  |nil=>
   have:=Qbs hd
   simp[show ¬((j:Int)<(ofL 4 0 n.Elements).length) from by omega,putL]
  |cons z q=>
   obtain⟨hg,hd',hlt⟩:=Qbg hd
   obtain⟨z0,z1⟩:=Zrh (List.mem_of_getElem? hg)
   have hgv:v[j]? = some (v[j]'(by omega)):=List.getElem?_eq_getElem _
   have hgx:acc[z.toNat]? = some (acc[z.toNat]'(by omega)):=List.getElem?_eq_getElem _
   rw[show v.drop j=v[j]'(by omega)::v.drop (j+1) from List.drop_eq_getElem_cons (by omega),List.zip_cons_cons,putL,hgx]
   simp only[dlI hlt,cond_true,Qbu hg,Qbu hgv,Option.bind_some,chk,hgx]
   rw[show(decide ((0:Int)≤z)&&decide (z.toNat<n.Elements.length))=true by simp;omega,cond_true,w64S (i:=j) (by omega)]
   rw[←hd']
   exact ih (j+1) _ (dlt hd hd' h) (by rw[List.length_set];exact ha)
include hN
theorem Zmw {v:List Int}(hv:v.length=(ofL 4 0 n.Elements).length) (hne:1≤n.Elements.length):Qlw N n v=some (setN n v):=by
 have e0:=hs.e
 have t0:=hs.t
 have e1:(ofL 4 0 n.Elements).length≤n.Elements.length:=by rw[Qjc];exact List.length_filter_le _ _
 have hE:(!n.Elements.isEmpty)=true:=by
  cases h:n.Elements with
  |nil=>rw[h] at hne;simp at hne
  |cons=>rfl
 unfold Qlw Qbx
 simp only[Zes N (show n.Table.length≤1000 by omega),Option.bind_some,chk,hE,cond_true]
 rw[show decide ((0+n.Elements.length)*88≤140737488355328)=true by simp;omega,cond_true,Option.bind_some,Qej]
 refine(Zcn hs _ N 0 (by simp;omega)).trans ?_
 rw[Qej,Q6r hs hN 4,Option.bind_some]
 refine(Zg4 hs v hv _ N 0 _ (by simp;omega) rfl).trans ?_
 rw[List.drop_zero,List.drop_zero]
 show(bif decide (n.Elements.length≤(putL n.Elements _).length) then _ else _)=_
 rw[Qn2,decide_eq_true (Nat.le_refl _),cond_true,List.take_of_length_le (by rw[Qn2];exact Nat.le_refl _)]
 rfl
omit hN in
theorem Zcm (v:List Int) (hv:v.length=(ofL 4 0 n.Elements).length) (k:List Qaf→Option GNet):∀(m i j:Nat) (acc:List Qaf),(n.Elements.drop i).length<m→acc.length=n.Elements.length→acc.drop i=n.Elements.drop i→ofL 4 i (n.Elements.drop i)=(ofL 4 0 n.Elements).drop j→j≤i →
  Qfy N n v k m j i acc=k (putL acc (((ofL 4 0 n.Elements).drop j).zip (v.drop j))):=by
 have e0:=hs.e
 intro m
 induction m with
 |zero=>intro i j _ h;cases h
 |succ m ih=>
  intro i j acc h ha hr ho hji
  rw[Qfy]
  cases hd:n.Elements.drop i with
  |nil=>
   have:=Qbs hd
   rw[hd,ofL] at ho
   rw[←ho,List.zip_nil_left,putL]
   simp[show ¬((i:Int)<n.Elements.length) from by omega]
  |cons x q=>
   obtain⟨hg,hd',hlt⟩:=Qbg hd
   rw[hd] at hr
   obtain⟨hga,hra,_⟩:=Qbg hr
   simp only[dlI hlt,cond_true,Option.bind_some,chk,Int.toNat_natCast,hga]
   rw[show(decide ((0:Int)≤(i:Int))&&decide (i<n.Elements.length))=true by simp;omega,w64S (i:=i) (by omega)]
   simp only[cond_true]
   rw[hd,ofL] at ho
   have hlen:(n.Elements.drop (i+1)).length<m:=by rw[hd'];rw[hd] at h;simp at h;omega
   by_cases hk:x.Kind=4
   ·rw[if_pos hk] at ho
    obtain⟨hgo,hdo,hlo⟩:=Qbg ho.symm
    have hgv:v[j]? = some (v[j]'(by omega)):=List.getElem?_eq_getElem _
    rw[show(x.Kind==4)=true by simpa using hk,cond_true,Qbu hgv,Option.bind_some,w64S (i:=j) (by omega),
     ←ho,show v.drop j=v[j]'(by omega)::v.drop (j+1) from List.drop_eq_getElem_cons (by omega),List.zip_cons_cons,putL,Int.toNat_natCast,hga,←hdo]
    refine ih (i+1) (j+1) _ hlen (by rw[List.length_set];exact ha) ?_ ?_ (by omega)
    ·rw[List.drop_set_of_lt (by omega),hra,hd']
    ·rw[hd',hdo]
   ·rw[if_neg hk] at ho
    rw[show(x.Kind==4)=false by simpa using hk,cond_false]
    exact ih (i+1) j acc hlen ha (by rw[hra,hd']) (by rw[hd',ho]) (by omega)
theorem Zmv {v:List Int}(hv:v.length=(ofL 4 0 n.Elements).length) (hne:1≤n.Elements.length):Qpr N n v=some (setN n v):=by
 have e0:=hs.e
 have hE:(!n.Elements.isEmpty)=true:=by
  cases h:n.Elements with
  |nil=>rw[h] at hne;simp at hne
  |cons=>rfl
 unfold Qpr
 simp only[chk,hE,cond_true]
 rw[show decide ((0+n.Elements.length)*88≤140737488355328)=true by simp;omega,cond_true,Qej]
 refine(Zcm hs v hv _ N 0 0 _ (by simp;omega) rfl rfl (by rw[List.drop_zero,List.drop_zero]) (Nat.le_refl _)).trans ?_
 rw[List.drop_zero,List.drop_zero,Qn2,decide_eq_true (Nat.le_refl _),cond_true,List.take_of_length_le (by rw[Qn2];exact Nat.le_refl _)]
 rfl
end
end
section
def Qdo (N:Nat) (p0:GNet) (p1:Nat) (p2:List Int) (k12:(List Qaf)→Option GNet) (x15:List Int):Nat→Int→(List Qaf)→Option GNet
  |0,_,_=>none
  |n20+1,y16,y17=>
    bif (decide (y16<(x15.length:Int))) then
     (getI x15 y16).bind fun x22=>
     chk (decide (0≤y16)&&decide (y16.toNat<p1))<|
     (p2[y16.toNat]?).bind fun x27=>
     chk (decide (0≤x22)&&decide (x22.toNat<p0.Elements.length))<|
     (y17[x22.toNat]?).bind fun x30=>
     Qdo N p0 p1 p2 k12 x15 n20 (w64 (y16+1)) (y17.set x22.toNat (⟨x30.Kind,x30.From,x27,x30.Amount,x30.Wide,x30.Narrow,x30.Weights⟩:Qaf))
    else
     k12 (y17)
def Qdn (N:Nat) (p0:GNet) (k10:(List Qaf)→Option GNet):Nat→Int→(List Qaf)→Option GNet
  |0,_,_=>none
  |n36+1,y32,y33=>
    bif (decide (y32<(p0.Elements.length:Int))) then
     (getI p0.Elements y32).bind fun x38=>
     (Qco N x38.From).bind fun x43=>
     (Qfp N x38.Weights).bind fun x45=>
     chk (decide (0≤y32)&&decide (y32.toNat<p0.Elements.length))<|
     (y33[y32.toNat]?).bind fun x47=>
     chk (decide (0≤y32)&&decide (y32.toNat<p0.Elements.length))<|
     ((y33.set y32.toNat (⟨x47.Kind,x43,x47.Level,x47.Amount,x47.Wide,x47.Narrow,x47.Weights⟩:Qaf))[y32.toNat]?).bind fun x50=>
     Qdn N p0 k10 n36 (w64 (y32+1)) ((y33.set y32.toNat (⟨x47.Kind,x43,x47.Level,x47.Amount,x47.Wide,x47.Narrow,x47.Weights⟩:Qaf)).set y32.toNat (⟨x50.Kind,x50.From,x50.Level,x50.Amount,x50.Wide,x50.Narrow,x45⟩:Qaf))
    else
     k10 (y33)
def Qie (N:Nat) (p0:GNet) (p1:Nat) (p2:List Int):Option GNet:=
  (Qci N p0.Table).bind fun x6=>
  (Qbx N p0.Elements).bind fun _=>
  Qbc (fun y9=>
    Qbc (fun y11=>
      chk (decide (p0.Elements.length≤y11.length))<|
      some (⟨x6,y11.take p0.Elements.length⟩:GNet)) fun k12:(List Qaf)→Option GNet=>
    (Qg9 N p0 4).bind fun x15=>
    Qdo N p0 p1 p2 k12 x15 N 0 y9) fun k10:(List Qaf)→Option GNet=>
  Qdn N p0 k10 N 0 p0.Elements
abbrev Zkl (p0:GNet):AV:=.dat 5 (p0.Table.map Qap)
abbrev Qu6 (p0:GNet):AV:=.dat 7 (p0.Elements.map Qae)
abbrev Zqg (p0:GNet):AV:=.agg [(Zkl p0),(Qu6 p0)]
def Zbe (p0:GNet):Slot:=.own 7 (p0.Elements.map Qae)
def Qxn (p0:GNet):Slot:=.own 2 [[(Zkl p0),(Qu6 p0)]]
def Qsp (x6:List GRow) (p0:GNet):Slot:=.own 2 [[(.dat 5 (x6.map Qap)),(.own 4 7 (0) p0.Elements.length)]]
def Qqi (x6:List GRow) (p0:GNet):Slot:=.own 2 [[(.dat 5 (x6.map Qap)),(.own 3 7 (0) p0.Elements.length)]]
def Qyy (y11:List Qaf) (p0:GNet):AV:=.dat 7 ((y11.take p0.Elements.length:List Qaf).map Qae)
def Q5q (y17:List Qaf) (x22:Int) (x30:Qaf) (x27:Int):Slot:=.own 7 ((y17.set x22.toNat (⟨x30.Kind,x30.From,x27,x30.Amount,x30.Wide,x30.Narrow,x30.Weights⟩:Qaf):List Qaf).map Qae)
def Qyx (y33:List Qaf) (y32:Int) (x47:Qaf) (x43:List Qbn):Slot:=.own 7 ((y33.set y32.toNat (⟨x47.Kind,x43,x47.Level,x47.Amount,x47.Wide,x47.Narrow,x47.Weights⟩:Qaf):List Qaf).map Qae)
def Q5p (y33:List Qaf) (y32:Int) (x47:Qaf) (x43:List Qbn) (x50:Qaf) (x45:List Int):Slot:=.own 7 (((y33.set y32.toNat (⟨x47.Kind,x43,x47.Level,x47.Amount,x47.Wide,x47.Narrow,x47.Weights⟩:Qaf)).set y32.toNat (⟨x50.Kind,x50.From,x50.Level,x50.Amount,x50.Wide,x50.Narrow,x45⟩:Qaf):List Qaf).map Qae)
theorem Qry (N:Nat) (p0:GNet) (p1:Nat) (p2:List Int) (r:GNet) (h:Qie N p0 p1 p2=some r):Spec prog 68 [(Zqg p0),(.own 0 1 (0) p1)] [(.own 1 (p2.map Qac))] (.agg [(.dat 5 (r.Table.map Qap)),(.dat 7 (r.Elements.map Qae))]) [(.own 1 (p2.map Qac)),(.own 2 [[(.dat 5 (r.Table.map Qap)),(.dat 7 (r.Elements.map Qae))]])]:=by
  refine sF func68 2 fun _ _ _ hq hd0=>?_
  unfold Qie at h
  refine wxz ?_
  obtain⟨x6,hf5,h⟩:=bno h
  obtain⟨x8,hf7,h⟩:=bno h
  refine wxd tbk [(2,rp _ _),(5,⟨_,_,_,_,false⟩),(6,rp _ _)] ⟨apw Zi0 (Qio N p0.Table _ hf5),acq [(Qu6 p0)] [] [(Zbe p0)] (.own 3 7 (0) p0.Elements.length) [3] Ziz (Qhy N p0.Elements _ hf7) (Qbr (rnc (pld Qab) rn0)) Qas (slc (Qba Qab) Qas) (Qcz rfl),Qaz (vs:=[(.dat 5 (x6.map Qap)),(.own 3 7 (0) p0.Elements.length)]) rfl ts42 tz42 rfl (by rfl) rfl,tv⟩ ?_
  obtain⟨k10,hk_k10,h⟩:=jko h
  refine wjn (τ:=(List Qaf)) (fun t=>k10 t=some r) (fun y9=>⟨mk 61 [(1,(.own 0 1 (0) p1)),(2,.ref 1 2 0 0),(4,.ref 2 2 0 0),(5,.ref 3 2 0 0)],[(.own 1 (p2.map Qac)),(Qxn p0),(.own 2 [[nilS,nilS]]),(Qsp x6 p0),(.own 7 (y9.map Qae))]⟩) (fun y9 h=>?_) ?_
  ·subst hk_k10
   obtain⟨k12,hk_k12,h⟩:=jko h
   refine wjn (τ:=(List Qaf)) (fun t=>k12 t=some r) (fun y11=>⟨mk 61 [(4,.ref 1 2 0 0),(5,.ref 2 2 0 0)],[(.own 1 (p2.map Qac)),(.own 2 [[nilS,nilS]]),(Qqi x6 p0),(.own 7 (y11.map Qae))]⟩) (fun y11 h=>?_) ?_
   ·subst hk_k12
    refine wxz ?_
    obtain⟨hz13,h⟩:=cko h
    refine wmr (Qv7 (n:=61) (mp:=2) (m:=7) (xs:=y11.map Qae) (c:=[(.dat 5 (x6.map Qap)),(.own 3 7 (0) p0.Elements.length)]) (l':=[(4,.ref 1 2 0 0)]) (c':=[(.dat 5 (x6.map Qap)),(Qyy y11 p0)]) (own':=[(.own 1 (p2.map Qac)),(.own 2 [[(.dat 5 (x6.map Qap)),(Qyy y11 p0)]]),(Qqi x6 p0),.dead]) 3 1 [(4,.ref 1 2 0 0)] (by kernel_rfl) (by kernel_rfl) (by kernel_rfl) (by kernel_rfl) ⟨(.same _),(Qlr hz13),tv⟩ ⟨rfl,(.same _),tv⟩ (by kernel_rfl)) ?_
    refine wmr (mto (n:=61) (l':=[(4,.ref 1 2 0 0)]) (own':=[(.own 1 (p2.map Qac)),(.own 2 [[(.dat 5 ((((⟨x6,y11.take p0.Elements.length⟩:GNet).Table):List GRow).map Qap)),(.dat 7 ((((⟨x6,y11.take p0.Elements.length⟩:GNet).Elements):List Qaf).map Qae))]])]) [(4,.ref 1 2 0 0)] [0,1] [(.own 1 (p2.map Qac)),(.own 2 [[(.dat 5 (x6.map Qap)),(Qyy y11 p0)]])] hq (prr pn) (qc (spr Qah) (qb (lc (rnd Qan) (lc (rnd Qab) ln)) qn)))<|Qai ?_
    obtain rfl:=osi h
    exact⟨_,Mor.rfl,fio [(.agg [(.dat 5 (((⟨x6,y11.take p0.Elements.length⟩:GNet).Table:List GRow).map Qap)),(.dat 7 (((⟨x6,y11.take p0.Elements.length⟩:GNet).Elements:List Qaf).map Qae))])] ⟨Qbv (n:=1) (m:=2) (j:=0) (i:=0) (xs:=[[(.dat 5 (((⟨x6,y11.take p0.Elements.length⟩:GNet).Table:List GRow).map Qap)),(.dat 7 (((⟨x6,y11.take p0.Elements.length⟩:GNet).Elements:List Qaf).map Qae))]]) (by kernel_rfl) (by kernel_rfl) ti42 (by decide) rfl (nle rfl) rfl,tv⟩⟩
   ·skip
    obtain⟨x15,hf14,h⟩:=bno h
    refine wx tbk [(1,rp _ _),(2,rp _ _)] ⟨apw Qwm (Qif N p0 4 _ hf14),alq 1 Qac x15 underlying27,tv⟩<|Qao ?_
    refine wmr (mto (n:=61) (l':=[(1,(.own 0 1 (0) p1)),(4,.ref 1 2 0 0),(5,.ref 2 2 0 0),(43,(.dat 1 (x15.map Qac))),(44,(I ((x15.length:Int)))),(45,I 0)]) (own':=[(.own 1 (p2.map Qac)),(.own 2 [[nilS,nilS]]),(Qqi x6 p0),(.own 7 (y9.map Qae))]) [(1,(.own 0 1 (0) p1)),(4,.ref 2 2 0 0),(5,.ref 3 2 0 0),(43,(.dat 1 (x15.map Qac))),(44,(I ((x15.length:Int)))),(45,I 0)] [0,2,3,4] [(.own 1 (p2.map Qac)),(.own 2 [[nilS,nilS]]),(Qsp x6 p0),(.own 7 (y9.map Qae))] hq (pc (.rn (Qav rfl)) (prr (prr (pc (rnd Qah) (pw (pw pn)))))) (qc (spr Qah) (qb (lcc ln) (qb (lc (rnd Qan) (lc (.rn (Qav rfl)) ln)) (qc (spr Qab) qn))))) ?_
    refine Qbl (τ:=Int×(List Qaf)) (fun n t=>Qdo N p0 p1 p2 k12 x15 n t.1 t.2=some r) (fun ⟨y16,y17⟩=>⟨mk 61 [(1,(.own 0 1 (0) p1)),(4,.ref 1 2 0 0),(5,.ref 2 2 0 0),(43,(.dat 1 (x15.map Qac))),(44,(I ((x15.length:Int)))),(45,I y16)],[(.own 1 (p2.map Qac)),(.own 2 [[nilS,nilS]]),(Qqi x6 p0),(.own 7 (y17.map Qae))]⟩) (fun t h=>by rw[Qdo] at h;cases h) (fun n20 ih t h=>?_) N (0,y9) h
    obtain⟨y16,y17⟩:=t
    rw[Qdo] at h
    skip
    refine wxz<|wsq ?_
    refine bfe h (fun hc21 h=>?_) fun hc21 h=>?_
    ·refine wft hc21<|Qam<|thn<|wsq<|Qao ?_
     obtain⟨x22,hg23,h⟩:=bno h
     obtain⟨hi24,hj25⟩:=gsm hg23
     refine wx tbk [(1,rp _ _)] ⟨aiq underlying27 ti3 Qac hi24 hj25,tv⟩ ?_
     obtain⟨hi26,h⟩:=cko h
     obtain⟨hi26a,hi26b⟩:=Qcv hi26
     obtain⟨x27,hg28,h⟩:=bno h
     obtain⟨hi29,h⟩:=cko h
     obtain⟨hi29a,hi29b⟩:=Qcv hi29
     obtain⟨x30,hg31,h⟩:=bno h
     refine wy1 tbk [(5,rb [(.tmp 53,(.own 0 1 (0) p1)),(.tmp 54,I y16)] [(0,(.own 1 (p2.map Qac)))] (.ref 0 1 y16.toNat 0)),(6,rb [(.tmp 55,(.ref 0 1 y16.toNat 0))] [(0,(.own 1 (p2.map Qac)))] (I x27)),(7,rb [(.tmp 51,(.own 3 7 (0) p0.Elements.length)),(.tmp 52,I x22)] [(3,(.own 7 (y17.map Qae)))] (.ref 3 7 x22.toNat 0)),(9,⟨[(.tmp 58,(.ref 3 7 x22.toNat 2)),(.tmp 56,I x27)],[(3,(.own 7 (y17.map Qae)))],.any,[(3,(Q5q y17 x22 x30 x27))],false⟩)] ⟨aio rfl underlying27 ti3 (odt hi26a) (odt hi26b) (Nat.zero_add _),ald rfl ti3 (by decide) (mgt Qac hg28) (nle rfl) rfl,aio rfl underlying40 Qkd (odt hi29a) (odt hi29b) (Nat.zero_add _),ast rfl ti3 (by rfl) (mgt Qae hg31) (nle rfl) (Qff Qae rfl),tv⟩<|bln<|thn<|wxz1<|thn ?_
     exact arm (mto (n:=61) [(1,(.own 0 1 (0) p1)),(4,.ref 1 2 0 0),(5,.ref 2 2 0 0),(43,(.dat 1 (x15.map Qac))),(44,(I ((x15.length:Int)))),(45,(I (w64 (y16+1))))] [0,1,2,3] [(.own 1 (p2.map Qac)),(.own 2 [[nilS,nilS]]),(Qqi x6 p0),(Q5q y17 x22 x30 x27)] hq (pc (.rn (Qav rfl)) (prr (prr (pc (rnd Qah) (pw (pw pn)))))) (qc (spr Qah) (qb (lcc ln) (qb (lc (rnd Qan) (lc (.rn (Qav rfl)) ln)) (qc (spr Qab) qn))))) (ih (w64 (y16+1),y17.set x22.toNat (⟨x30.Kind,x30.From,x27,x30.Amount,x30.Wide,x30.Narrow,x30.Weights⟩:Qaf)) h)
    ·exact wfn hc21<|Qa7<|Qau<|Qau<|Qa6 rfl<|thn<|⟨(y17),h,(mto (n:=61) [(4,.ref 1 2 0 0),(5,.ref 2 2 0 0)] [0,1,2,3] [(.own 1 (p2.map Qac)),(.own 2 [[nilS,nilS]]),(Qqi x6 p0),(.own 7 (y17.map Qae))] hq (prr (prr pn)) (qc (spr Qah) (qb (lcc ln) (qb (lc (rnd Qan) (lc (.rn (Qav rfl)) ln)) (qc (spr Qab) qn)))))⟩
  ·skip
   refine wx tbk [(2,rp _ _)] ⟨alq 7 Qae p0.Elements underlying40,tv⟩<|Qao ?_
   refine wmr (mto (n:=61) (l':=[(1,(.own 0 1 (0) p1)),(2,.ref 1 2 0 0),(4,.ref 2 2 0 0),(5,.ref 3 2 0 0),(18,(Qu6 p0)),(19,(I ((p0.Elements.length:Int)))),(20,I 0)]) (own':=[(.own 1 (p2.map Qac)),(Qxn p0),(.own 2 [[nilS,nilS]]),(Qsp x6 p0),(Zbe p0)]) [(1,(.own 0 1 (0) p1)),(2,.ref 1 2 0 0),(4,.ref 2 2 0 0),(5,.ref 4 2 0 0),(18,(Qu6 p0)),(19,(I ((p0.Elements.length:Int)))),(20,I 0)] [0,1,2,4,3] [(.own 1 (p2.map Qac)),(Qxn p0),(.own 2 [[nilS,nilS]]),(Qqi x6 p0),(Zbe p0)] hq (pc (.rn (Qav rfl)) (prr (prr (prr (pc (rnd Qab) (pw (pw pn))))))) (qc (spr Qah) (qb (lc (rnd Qan) (lc (rnd Qab) ln)) (qb (lcc ln) (qb (lc (rnd Qan) (lc (.rn (Qav rfl)) ln)) (qc (spr Qab) qn)))))) ?_
   refine Qbl (τ:=Int×(List Qaf)) (fun n t=>Qdn N p0 k10 n t.1 t.2=some r) (fun ⟨y32,y33⟩=>⟨mk 61 [(1,(.own 0 1 (0) p1)),(2,.ref 1 2 0 0),(4,.ref 2 2 0 0),(5,.ref 3 2 0 0),(18,(Qu6 p0)),(19,(I ((p0.Elements.length:Int)))),(20,I y32)],[(.own 1 (p2.map Qac)),(Qxn p0),(.own 2 [[nilS,nilS]]),(Qsp x6 p0),(.own 7 (y33.map Qae))]⟩) (fun t h=>by rw[Qdn] at h;cases h) (fun n36 ih t h=>?_) N (0,p0.Elements) h
   obtain⟨y32,y33⟩:=t
   rw[Qdn] at h
   skip
   refine wxz<|wsq ?_
   refine bfe h (fun hc37 h=>?_) fun hc37 h=>?_
   ·refine wft hc37<|Qam<|thn<|wsq<|Qao ?_
    obtain⟨x38,hg39,h⟩:=bno h
    obtain⟨hi40,hj41⟩:=gsm hg39
    refine wx tbk [(1,rp _ _)] ⟨aiq underlying40 Qkd Qae hi40 hj41,tv⟩ ?_
    obtain⟨x43,hf42,h⟩:=bno h
    obtain⟨x45,hf44,h⟩:=bno h
    obtain⟨hi46,h⟩:=cko h
    obtain⟨hi46a,hi46b⟩:=Qcv hi46
    obtain⟨x47,hg48,h⟩:=bno h
    obtain⟨hi49,h⟩:=cko h
    obtain⟨hi49a,hi49b⟩:=Qcv hi49
    obtain⟨x50,hg51,h⟩:=bno h
    refine wy1 tbk [(8,rp _ _),(11,rp _ _),(12,rb [(.tmp 26,(.own 4 7 (0) p0.Elements.length)),(.tmp 27,I y32)] [(4,(.own 7 (y33.map Qae)))] (.ref 4 7 y32.toNat 0)),(14,⟨[(.tmp 38,(.ref 4 7 y32.toNat 1)),(.tmp 33,(.dat 2 (x43.map Qaw)))],[(4,(.own 7 (y33.map Qae)))],.any,[(4,(Qyx y33 y32 x47 x43))],false⟩),(15,rb [(.tmp 29,(.own 4 7 (0) p0.Elements.length)),(.tmp 30,I y32)] [(4,(Qyx y33 y32 x47 x43))] (.ref 4 7 y32.toNat 0)),(17,⟨[(.tmp 40,(.ref 4 7 y32.toNat 6)),(.tmp 36,(.dat 1 (x45.map Qac)))],[(4,(Qyx y33 y32 x47 x43))],.any,[(4,(Q5p y33 y32 x47 x43 x50 x45))],false⟩)] ⟨apw Ziy (Qiz N x38.From _ hf42),apw Zeb (Qng N x38.Weights _ hf44),aio rfl underlying40 Qkd (odt hi46a) (odt hi46b) (Nat.zero_add _),ast rfl Zgo (by rfl) (mgt Qae hg48) (nle rfl) (Qff Qae rfl),aio rfl underlying40 Qkd (odt hi49a) (odt hi49b) (Nat.zero_add _),ast rfl ti27 (by rfl) (mgt Qae hg51) (nle rfl) (Qff Qae rfl),tv⟩<|bln<|thn<|wxz1<|thn ?_
    exact arm (mto (n:=61) [(1,(.own 0 1 (0) p1)),(2,.ref 1 2 0 0),(4,.ref 2 2 0 0),(5,.ref 3 2 0 0),(18,(Qu6 p0)),(19,(I ((p0.Elements.length:Int)))),(20,(I (w64 (y32+1))))] [0,1,2,3,4] [(.own 1 (p2.map Qac)),(Qxn p0),(.own 2 [[nilS,nilS]]),(Qsp x6 p0),(Q5p y33 y32 x47 x43 x50 x45)] hq (pc (.rn (Qav rfl)) (prr (prr (prr (pc (rnd Qab) (pw (pw pn))))))) (qc (spr Qah) (qb (lc (rnd Qan) (lc (rnd Qab) ln)) (qb (lcc ln) (qb (lc (rnd Qan) (lc (.rn (Qav rfl)) ln)) (qc (spr Qab) qn)))))) (ih (w64 (y32+1),(y33.set y32.toNat (⟨x47.Kind,x43,x47.Level,x47.Amount,x47.Wide,x47.Narrow,x47.Weights⟩:Qaf)).set y32.toNat (⟨x50.Kind,x50.From,x50.Level,x50.Amount,x50.Wide,x50.Narrow,x45⟩:Qaf)) h)
   ·exact wfn hc37<|Qa7<|Qau<|Qau<|Qa6 rfl<|thn<|⟨(y33),h,(mto (n:=61) [(1,(.own 0 1 (0) p1)),(2,.ref 1 2 0 0),(4,.ref 2 2 0 0),(5,.ref 3 2 0 0)] [0,1,2,3,4] [(.own 1 (p2.map Qac)),(Qxn p0),(.own 2 [[nilS,nilS]]),(Qsp x6 p0),(.own 7 (y33.map Qae))] hq (pc (.rn (Qav rfl)) (prr (prr (prr pn)))) (qc (spr Qah) (qb (lc (rnd Qan) (lc (rnd Qab) ln)) (qb (lcc ln) (qb (lc (rnd Qan) (lc (.rn (Qav rfl)) ln)) (qc (spr Qab) qn))))))⟩
def Qe6 (_N:Nat) (p0:Qdt):Option Int:=
  some p0.steam
theorem Qh0 (N:Nat) (p0:Qdt) (r:Int) (h:Qe6 N p0=some r):Spec prog 91 [(.dptr (Qkm p0) 0)] [] (I r) []:=by
  refine sA func91 0 fun _ _ _ hq hd0=>?_
  unfold Qe6 at h
  refine wxz<|wxz<|Qai ?_
  obtain rfl:=osi h
  exact fend ⟨[I p0.steam],⟨rot,tv⟩,rfl⟩ nll
def Qcd (N:Nat) (p0:List Qdt) (k11:Int×Int→Option Qli):Nat→Int→Int→Int→Option Qli
  |0,_,_,_=>none
  |n19+1,y13,y14,y15=>
    bif (decide (y13<((p0.drop (1:Int).toNat).length:Int))) then
     (getI (p0.drop (1:Int).toNat) y13).bind fun x21=>
     (Qe6 N x21).bind fun x26=>
     (Qe6 N x21).bind fun x28=>
     Qcd N p0 k11 n19 (w64 (y13+1)) (if x26<y14 then x26 else y14) (if x28>y15 then x28 else y15)
    else
     k11 (y14,y15)
def Qfb (N:Nat) (p0:List Qdt):Option Qli:=
  (getI p0 0).bind fun x1=>
  (Qe6 N x1).bind fun x6=>
  (Qe6 N x1).bind fun x8=>
  Qbc (fun ⟨y9,y10⟩=>
    some (⟨y9,y10⟩:Qli)) fun k11:Int×Int→Option Qli=>
  chk (decide (0≤1)&&decide (1≤(p0.length:Int))&&decide ((p0.length:Int)≤(p0.length:Int)))<|
  Qcd N p0 k11 N 0 x6 x8
def Qxm:Slot:=.own 2 [[(I (0)),(I (0))]]
def Q0y (p0:List Qdt):AV:=.dat 1 ((p0.drop (1:Int).toNat:List Qdt).map Qdj)
theorem Qm9 (N:Nat) (p0:List Qdt) (r:Qli) (h:Qfb N p0=some r):Spec prog 80 [(.dat 1 (p0.map Qdj)),(.fn (.func 91) [] [])] [] (.agg [(I r.Lo),(I r.Hi)]) []:=by
  refine sA func80 0 fun _ _ _ hq hd0=>?_
  unfold Qfb at h
  refine wxz ?_
  obtain⟨x1,hg2,h⟩:=bno h
  obtain⟨hi3,hj4⟩:=gsm hg2
  obtain⟨x6,hf5,h⟩:=bno h
  obtain⟨x8,hf7,h⟩:=bno h
  refine wxd tbk [(2,rp _ _),(4,rp _ _),(7,rp _ _),(9,rp _ _),(10,rp _ _)] ⟨aiq underlying168 Qpz Qdj hi3 hj4,acq [(.dptr (Qkm x1) 0)] [] [] (I x6) [] Qz7 (Qh0 N x1 _ hf5) (Qbr (rnc (.plain _ (NLt.dptr _ _ (Qpt _))) rn0)) Qas Qas (.plain _ nll),aiq underlying168 Qpz Qdj hi3 hj4,acq [(.dptr (Qkm x1) 0)] [] [] (I x8) [] Qz7 (Qh0 N x1 _ hf7) (Qbr (rnc (.plain _ (NLt.dptr _ _ (Qpt _))) rn0)) Qas Qas (.plain _ nll),Qaz (vs:=[I x6,I x8]) rfl Zq5 Zmi rfl (by rfl) rfl,tv⟩ ?_
  obtain⟨k11,hk_k11,h⟩:=jko h
  refine wjn (τ:=Int×Int) (fun t=>k11 t=some r) (fun ⟨y9,y10⟩=>⟨mk 41 [(4,.ref 0 2 0 0),(5,.ref 1 2 0 0)],[Qxm,(.own 2 [[I y9,I y10]])]⟩) (fun t h=>?_) ?_
  ·subst hk_k11
   obtain⟨y9,y10⟩:=t
   refine wxz<|Qai ?_
   obtain rfl:=osi h
   exact fie [(.agg [I y9,I y10])] ⟨Qbv (n:=0) (m:=2) (j:=0) (i:=0) (xs:=[[I y9,I y10]]) (by kernel_rfl) (by kernel_rfl) Q8d (by decide) rfl (nle rfl) rfl,tv⟩
  ·skip
   obtain⟨hs12,h⟩:=cko h
   refine wx tbk [(1,rp [(.tmp 19,(.dat 1 (p0.map Qdj))),ci 1] (Q0y p0)),(2,rp _ _)] ⟨Qm1 (k:=.i64) (k':=.i64) (lo:=some (.const (.int .i64 1))) (hi:=none) (l:=1) (hh:=((p0.length:Nat):Int)) rfl underlying168 Qpz rfl (fun e=>nomatch e) (fun _=>by simp) (Qw6 hs12) (Qw5 hs12) (Zjl Qdj hs12) (Zrc Qdj),alq 1 Qdj (p0.drop (1:Int).toNat) underlying168,tv⟩<|Qao ?_
   refine wmr (mto (n:=41) (l':=[(1,(.fn (.func 91) [] [])),(4,.ref 0 2 0 0),(5,.ref 1 2 0 0),(20,(Q0y p0)),(21,(I (((p0.drop (1:Int).toNat).length:Int)))),(22,I 0)]) (own':=[Qxm,(.own 2 [[I x6,I x8]])]) [(1,(.fn (.func 91) [] [])),(4,.ref 0 2 0 0),(5,.ref 1 2 0 0),(20,(Q0y p0)),(21,(I (((p0.drop (1:Int).toNat).length:Int)))),(22,I 0)] [0,1] [Qxm,(.own 2 [[I x6,I x8]])] hq (pc (.rn (Qbj rn0 rn0)) (prr (prr (pc (rnd Qh9) (pw (pw pn)))))) (qb (lcc ln) (qb (lcc ln) qn))) ?_
   refine Qbl (τ:=Int×Int×Int) (fun n t=>Qcd N p0 k11 n t.1 t.2.1 t.2.2=some r) (fun ⟨y13,y14,y15⟩=>⟨mk 41 [(1,(.fn (.func 91) [] [])),(4,.ref 0 2 0 0),(5,.ref 1 2 0 0),(20,(Q0y p0)),(21,(I (((p0.drop (1:Int).toNat).length:Int)))),(22,I y13)],[Qxm,(.own 2 [[I y14,I y15]])]⟩) (fun t h=>by rw[Qcd] at h;cases h) (fun n19 ih t h=>?_) N (0,x6,x8) h
   obtain⟨y13,y14,y15⟩:=t
   rw[Qcd] at h
   skip
   refine wxz<|wsq ?_
   refine bfe h (fun hc20 h=>?_) fun hc20 h=>?_
   ·refine wft hc20<|Qam<|thn<|wsq<|Qao ?_
    obtain⟨x21,hg22,h⟩:=bno h
    obtain⟨hi23,hj24⟩:=gsm hg22
    refine wx tbk [(0,rp _ _)] ⟨aiq underlying168 Qpz Qdj hi23 hj24,tv⟩ ?_
    obtain⟨x26,hf25,h⟩:=bno h
    obtain⟨x28,hf27,h⟩:=bno h
    refine wy1 tbk [(4,rp _ _),(5,rp [(.tmp 27,I y14),(.tmp 30,I x26)] (I ((if x26<y14 then x26 else y14)))),(10,rp _ _),(11,rp [(.tmp 33,I y15),(.tmp 36,I x28)] (I ((if x28>y15 then x28 else y15)))),(12,rp _ _)] ⟨acq [(.dptr (Qkm x21) 0)] [] [] (I x26) [] Qz7 (Qh0 N x21 _ hf25) (Qbr (rnc (.plain _ (NLt.dptr _ _ (Qpt _))) rn0)) Qas Qas (.plain _ nll),Qpj rfl,acq [(.dptr (Qkm x21) 0)] [] [] (I x28) [] Qz7 (Qh0 N x21 _ hf27) (Qbr (rnc (.plain _ (NLt.dptr _ _ (Qpt _))) rn0)) Qas Qas (.plain _ nll),Qml rfl,Qaz (vs:=[(I ((if x26<y14 then x26 else y14))),(I ((if x28>y15 then x28 else y15)))]) rfl Zq5 Zmi rfl (by rfl) rfl,tv⟩<|bln<|thn<|wxz1<|thn ?_
    exact arm (mto (n:=41) [(1,(.fn (.func 91) [] [])),(4,.ref 0 2 0 0),(5,.ref 1 2 0 0),(20,(Q0y p0)),(21,(I (((p0.drop (1:Int).toNat).length:Int)))),(22,(I (w64 (y13+1))))] [0,1] [Qxm,(.own 2 [[(I ((if x26<y14 then x26 else y14))),(I ((if x28>y15 then x28 else y15)))]])] hq (pc (.rn (Qbj rn0 rn0)) (prr (prr (pc (rnd Qh9) (pw (pw pn)))))) (qb (lcc ln) (qb (lcc ln) qn))) (ih (w64 (y13+1),(if x26<y14 then x26 else y14),(if x28>y15 then x28 else y15)) h)
   ·exact wfn hc20<|Qa7<|Qau<|Qau<|Qa6 rfl<|thn<|⟨(y14,y15),h,(mto (n:=41) [(4,.ref 0 2 0 0),(5,.ref 1 2 0 0)] [0,1] [Qxm,(.own 2 [[I y14,I y15]])] hq (prr (prr pn)) (qb (lcc ln) (qb (lcc ln) qn)))⟩
def Qi4 (N:Nat) (p0:List GRow) (p1:List Qaf) (p2:Nat) (p3:List Int) (p4:List (List Qaa)) (p5:Int) (p6:List Int) (p7:Bool) (p8:List Int):Option (Int×(List Int)×Bool):=
  (Qie N (⟨p0,p1⟩:GNet) p2 p8).bind fun x5=>
  (Qgq N x5).bind fun x7=>
  bif (!x7) then
   some (p5,p6,p7)
  else
   (Qi3 N x5 p3 p4).bind fun x10=>
   bif (!x10.2) then
    some (p5,p6,p7)
   else
    (Qlc N x10.1).bind fun x13=>
    bif (decide (x13.1≥0)) then
     some (p5,p6,p7)
    else
     (Qfb N x10.1).bind fun x16=>
     bif (decide (x16.Lo>p5)) then
      chk (decide (p2≤p8.length))<|
      chk (decide ((0+(p8.take p2).length)*8≤140737488355328))<|
      some (x16.Lo,p8.take p2,true)
     else
      some (p5,p6,p7)
abbrev Qoi (p0:List GRow) (p1:List Qaf):Slot:=.own 2 [[(.dat 5 (p0.map Qap)),(.dat 7 (p1.map Qae))]]
abbrev Qoh (p2:Nat):Slot:=.own 1 [[(.own 7 1 (0) p2)]]
abbrev Qlk (p3:List Int):Slot:=.own 1 [[(.dat 1 (p3.map Qac))]]
abbrev Qlj (p4:List (List Qaa)):Slot:=.own 1 [[(.dat 1 (p4.map Qag))]]
abbrev Qm5 (p6:List Int):Slot:=.own 1 [[(.dat 1 (p6.map Qac))]]
def Zbf (x5:GNet):AV:=.dat 7 (x5.Elements.map Qae)
def Zl6 (x5:GNet):AV:=.agg [(.dat 5 (x5.Table.map Qap)),(Zbf x5)]
def Zl5 (x10:((List Qdt)×Bool)):AV:=.dat 1 (x10.1.map Qdj)
def Qyz (p8:List Int) (p2:Nat):AV:=.dat 1 ((p8.take p2:List Int).map Qac)
theorem Qs7 (N:Nat) (p0:List GRow) (p1:List Qaf) (p2:Nat) (p3:List Int) (p4:List (List Qaa)) (p5:Int) (p6:List Int) (p7:Bool) (p8:List Int) (r:(Int×(List Int)×Bool)) (h:Qi4 N p0 p1 p2 p3 p4 p5 p6 p7 p8=some r):Spec prog 90 [(.ref 0 2 (0) 0),(.ref 1 1 (0) 0),(.ref 2 1 (0) 0),(.ref 3 1 (0) 0),(.ref 4 1 (0) 0),(.ref 5 1 (0) 0),(.ref 6 1 (0) 0)] [(Qoi p0 p1),(Qoh p2),(Qlk p3),(Qlj p4),(.own 1 [[(I p5)]]),(Qm5 p6),(.own 1 [[(B p7)]]),(.own 1 (p8.map Qac))] (.tup []) [(Qoi p0 p1),(Qoh p2),(Qlk p3),(Qlj p4),(.own 1 [[(I r.1)]]),(.own 1 [[(.dat 1 (r.2.1.map Qac))]]),(.own 1 [[(B r.2.2)]]),(.own 1 (p8.map Qac))]:=by
  refine sF func90 8 fun _ _ _ hq hd0=>?_
  unfold Qi4 at h
  obtain⟨x5,hf4,h⟩:=bno h
  refine wx tbk [(2,⟨_,_,_,_,false⟩),(3,⟨[],[(9,.unused)],.ref 9 2 0 0,[(9,(.own 2 [[(.dat 5 (([]:List GRow).map Qap)),(.dat 7 (([]:List Qaf).map Qae))]]))],false⟩)] ⟨acq [(.agg [(.dat 5 (((⟨p0,p1⟩:GNet).Table:List GRow).map Qap)),(.dat 7 (((⟨p0,p1⟩:GNet).Elements:List Qaf).map Qae))]),(.own 7 1 (0) p2)] [(.own 1 (p8.map Qac))] [(.own 1 (p8.map Qac)),(.own 2 [[(.dat 5 (x5.Table.map Qap)),(Zbf x5)]])] (Zl6 x5) [7,8] Zn1 (Qry N (⟨p0,p1⟩:GNet) p2 p8 _ hf4) (Qbr (rnc (.plain _ (NLt.agg _ (nlc (nld Qan _) (nlc (nld Qab _) nl0)))) (rnc (Qcs rfl) rn0))) (slc (Qba Qah) Qas) (slc (Qba Qah) (slc (Qaq (rnc (pld Qan) (rnc (pld Qab) rn0))) Qas)) (.plain _ (NLt.agg _ (nlc (nld Qan _) (nlc (nld Qab _) nl0)))),Qq3 (SImp.box (l:=[nilS,nilS]) ⟨Less.nil,Less.nil,tv⟩) (Qoe rfl tz42 rfl),tv⟩<|wsq ?_
  obtain⟨x7,hf6,h⟩:=bno h
  refine wx tbk [(1,rp _ _)] ⟨apw Q4k (Qj3 N x5 _ hf6),tv⟩ ?_
  refine bfe h (fun hc8 h=>?_) fun hc8 h=>?_
  ·refine wft hc8<|wmr (mto (n:=44) (l':=[]) (own':=[(Qoi p0 p1),(Qoh p2),(Qlk p3),(Qlj p4),(.own 1 [[I p5]]),(Qm5 p6),(.own 1 [[B p7]]),(.own 1 (p8.map Qac))]) [] [0,1,2,3,4,5,6,7] [(Qoi p0 p1),(Qoh p2),(Qlk p3),(Qlj p4),(.own 1 [[I p5]]),(Qm5 p6),(.own 1 [[B p7]]),(.own 1 (p8.map Qac))] hq pn (qb (lc (rnd Qan) (lc (rnd Qab) ln)) (qb (lc (.rn (Qav rfl)) ln) (qb (lc (rnd Qah) ln) (qb (lc (rnd Qak) ln) (qb (lc rwl ln) (qb (lc (rnd Qah) ln) (qb (lc rwl ln) (qc (spr Qah) qn)))))))))<|Qai<|Qaj ?_
   obtain rfl:=osi h
   exact⟨_,Mor.rfl,fio [] tv⟩
  ·refine wfn hc8<|Qam<|thn ?_
   obtain⟨x10,hf9,h⟩:=bno h
   refine wx tbk [(3,rp _ _)] ⟨apw Znu (Qs3 N x5 p3 p4 _ hf9),tv⟩<|wsq<|wxz ?_
   refine bfe h (fun hc11 h=>?_) fun hc11 h=>?_
   ·refine wft hc11<|wmr (mto (n:=44) (l':=[]) (own':=[(Qoi p0 p1),(Qoh p2),(Qlk p3),(Qlj p4),(.own 1 [[I p5]]),(Qm5 p6),(.own 1 [[B p7]]),(.own 1 (p8.map Qac))]) [] [0,1,2,3,4,5,6,7] [(Qoi p0 p1),(Qoh p2),(Qlk p3),(Qlj p4),(.own 1 [[I p5]]),(Qm5 p6),(.own 1 [[B p7]]),(.own 1 (p8.map Qac))] hq pn (qb (lc (rnd Qan) (lc (rnd Qab) ln)) (qb (lc (.rn (Qav rfl)) ln) (qb (lc (rnd Qah) ln) (qb (lc (rnd Qak) ln) (qb (lc rwl ln) (qb (lc (rnd Qah) ln) (qb (lc rwl ln) (qc (spr Qah) qn)))))))))<|Qai<|Qaj ?_
    obtain rfl:=osi h
    exact⟨_,Mor.rfl,fio [] tv⟩
   ·refine wfn hc11<|Qam<|thn<|wsq ?_
    obtain⟨x13,hf12,h⟩:=bno h
    refine wx tbk [(1,rp _ _)] ⟨apw Zns (Qvy N x10.1 _ hf12),tv⟩<|wxz ?_
    refine bfe h (fun hc14 h=>?_) fun hc14 h=>?_
    ·refine wft hc14<|wmr (mto (n:=44) (l':=[]) (own':=[(Qoi p0 p1),(Qoh p2),(Qlk p3),(Qlj p4),(.own 1 [[I p5]]),(Qm5 p6),(.own 1 [[B p7]]),(.own 1 (p8.map Qac))]) [] [0,1,2,3,4,5,6,7] [(Qoi p0 p1),(Qoh p2),(Qlk p3),(Qlj p4),(.own 1 [[I p5]]),(Qm5 p6),(.own 1 [[B p7]]),(.own 1 (p8.map Qac))] hq pn (qb (lc (rnd Qan) (lc (rnd Qab) ln)) (qb (lc (.rn (Qav rfl)) ln) (qb (lc (rnd Qah) ln) (qb (lc (rnd Qak) ln) (qb (lc rwl ln) (qb (lc (rnd Qah) ln) (qb (lc rwl ln) (qc (spr Qah) qn)))))))))<|Qai<|Qaj ?_
     obtain rfl:=osi h
     exact⟨_,Mor.rfl,fio [] tv⟩
    ·refine wfn hc14<|Qam<|thn ?_
     obtain⟨x16,hf15,h⟩:=bno h
     refine wx tbk [(1,rp _ _)] ⟨acq [(Zl5 x10),(.fn (.func 91) [] [])] [] [] (.agg [I x16.Lo,I x16.Hi]) [] Znt (Qm9 N x10.1 _ hf15) (Qbr (rnc (pld Qh9) (rnc (.plain _ (NLt.fn _ _ _ nl0 nl0)) rn0))) Qas Qas (.plain _ (NLt.agg _ (nlcc nl0))),tv⟩<|wxz ?_
     refine bfe h (fun hc17 h=>?_) fun hc17 h=>?_
     ·refine wft hc17 ?_
      obtain⟨hz18,h⟩:=cko h
      obtain⟨ha19,h⟩:=cko h
      refine wx1 tbk [(1,⟨[((.const (.slice none 0 0)),nilS),(.tmp 41,(.own 7 1 (0) p2))],[(7,(.own 1 (p8.map Qac))),(10,.unused)],(.acc 10 3 1 ((p8.take p2:List Int).map Qac)),[(10,.tok)],false⟩),(3,⟨[(.tmp 5,.ref 5 1 0 0),(.tmp 42,(.acc 10 3 1 ((p8.take p2:List Int).map Qac)))],[(5,(Qm5 p6))],.any,[(5,(.own 1 [[(Qyz p8 p2)]]))],false⟩)] ⟨Qh2 (rd':=[((.const (.slice none 0 0)),nilS),(.tmp 41,(Qyz p8 p2))]) [(7,1,p8.map Qac)] ⟨rfl,.same _,rfl,(Qth 0 rfl hz18),tv⟩ (by rfl) (.acc _ _ _ _ (nin rfl) (by simp) (Quq Qn5 _)) (Qpq .tok Qqq) (Qc7 rfl underlying27 te3 (Base.nil) rfl rfl (Qh1 Qac Qf0 _) (Quw Qac ha19) (Quv Qac ha19 (by decide)) (Zji Qac) rfl rfl),awk (rd':=[(.tmp 5,.ref 5 1 0 0),(.tmp 42,(Qyz p8 p2))]) ⟨rfl,lrf,rfl,Less.acc,tv⟩ (ast rfl ti27 (by rfl) rfl (nle rfl) rfl),tv⟩ ?_
      obtain rfl:=osi h
      exact⟨_,(mto (n:=44) (l':=[]) (own':=[(Qoi p0 p1),(Qoh p2),(Qlk p3),(Qlj p4),(.own 1 [[I x16.Lo]]),(.own 1 [[(.dat 1 (((p8.take p2):List Int).map Qac))]]),(.own 1 [[B true]]),(.own 1 (p8.map Qac))]) [] [0,1,2,3,4,5,6,7] [(Qoi p0 p1),(Qoh p2),(Qlk p3),(Qlj p4),(.own 1 [[I x16.Lo]]),(.own 1 [[(Qyz p8 p2)]]),(.own 1 [[B true]]),(.own 1 (p8.map Qac))] hq pn (qb (lc (rnd Qan) (lc (rnd Qab) ln)) (qb (lc (.rn (Qav rfl)) ln) (qb (lc (rnd Qah) ln) (qb (lc (rnd Qak) ln) (qb (lc rwl ln) (qb (lc (rnd Qah) ln) (qb (lc rwl ln) (qc (spr Qah) qn))))))))),fio [] tv⟩
     ·refine wfn hc17<|Qam ?_
      obtain rfl:=osi h
      exact⟨_,(mto (n:=44) (l':=[]) (own':=[(Qoi p0 p1),(Qoh p2),(Qlk p3),(Qlj p4),(.own 1 [[I p5]]),(Qm5 p6),(.own 1 [[B p7]]),(.own 1 (p8.map Qac))]) [] [0,1,2,3,4,5,6,7] [(Qoi p0 p1),(Qoh p2),(Qlk p3),(Qlj p4),(.own 1 [[I p5]]),(Qm5 p6),(.own 1 [[B p7]]),(.own 1 (p8.map Qac))] hq pn (qb (lc (rnd Qan) (lc (rnd Qab) ln)) (qb (lc (.rn (Qav rfl)) ln) (qb (lc (rnd Qah) ln) (qb (lc (rnd Qak) ln) (qb (lc rwl ln) (qb (lc (rnd Qah) ln) (qb (lc rwl ln) (qc (spr Qah) qn))))))))),fio [] tv⟩
def Qdg (N:Nat) (p0:Int) (rec_:(Int→Int→Nat→(List GRow)→(List Qaf)→(List Int)→(List (List Qaa))→Int→(List Int)→Bool→(List Int)→Option (Int×(List Int)×Bool×(List Int)))) (p1:Int) (p2:Nat) (p3:List GRow) (p4:List Qaf) (p5:List Int) (p6:List (List Qaa)):Nat→Int→(List Int)→Bool→(List Int)→Option (Int×(List Int)×Bool×(List Int))
  |0,_,_,_,_=>none
  |n23+1,y15,y16,y17,y18=>
    chk (decide (0≤p0)&&decide (p0.toNat<p2))<|
    (y18[p0.toNat]?).bind fun x25=>
    bif (decide (x25<(p3.length:Int))) then
     (rec_ (w64 (p0+1)) p1 p2 p3 p4 p5 p6 y15 y16 y17 y18).bind fun x29=>
     chk (decide (0≤p0)&&decide (p0.toNat<p2))<|
     (x29.2.2.2[p0.toNat]?).bind fun x31=>
     chk (decide (0≤p0)&&decide (p0.toNat<p2))<|
     (x29.2.2.2[p0.toNat]?).bind fun _=>
     Qdg N p0 rec_ p1 p2 p3 p4 p5 p6 n23 x29.1 x29.2.1 x29.2.2.1 (x29.2.2.2.set p0.toNat (w64 (x31+1)))
    else
     some (y15,y16,y17,y18)
def Qgt (N:Nat) (rec_:Int→Int→Nat→(List GRow)→(List Qaf)→(List Int)→(List (List Qaa))→Int→(List Int)→Bool→(List Int)→Option (Int×(List Int)×Bool×(List Int))) (p0 p1:Int) (p2:Nat) (p3:List GRow) (p4:List Qaf) (p5:List Int) (p6:List (List Qaa)) (p7:Int) (p8:List Int) (p9:Bool) (p10:List Int):Option (Int×(List Int)×Bool×(List Int)):=
  bif (p0==p1) then
   (Qi4 N p3 p4 p2 p5 p6 p7 p8 p9 p10).bind fun x11=>
   some (x11.1,x11.2.1,x11.2.2,p10)
  else
   chk (decide (0≤p0)&&decide (p0.toNat<p2))<|
   (p10[p0.toNat]?).bind fun _=>
   Qdg N p0 rec_ p1 p2 p3 p4 p5 p6 N p7 p8 p9 (p10.set p0.toNat 0)
def Qfm:Nat→Int→Int→Nat→(List GRow)→(List Qaf)→(List Int)→(List (List Qaa))→Int→(List Int)→Bool→(List Int)→Option (Int×(List Int)×Bool×(List Int))
  |0,_,_,_,_,_,_,_,_,_,_,_=>none
  |N+1,p0,p1,p2,p3,p4,p5,p6,p7,p8,p9,p10=>Qgt N (Qfm N) p0 p1 p2 p3 p4 p5 p6 p7 p8 p9 p10
abbrev Qoj:AV:=.fn (.func 90) [] [(.ref 3 2 (0) 0),(.ref 2 1 (0) 0),(.ref 5 1 (0) 0),(.ref 6 1 (0) 0),(.ref 7 1 (0) 0),(.ref 8 1 (0) 0),(.ref 9 1 (0) 0)]
abbrev Qmv (p2:Nat):Slot:=.own 1 [[(.own 10 1 (0) p2)]]
abbrev Qmw (p3:List GRow) (p4:List Qaf):Slot:=.own 2 [[(.dat 5 (p3.map Qap)),(.dat 7 (p4.map Qae))]]
abbrev Qll:AV:=.fn (.func 92) [] [(.ref 0 1 (0) 0),(.ref 1 1 (0) 0),(.ref 2 1 (0) 0),(.ref 3 2 (0) 0),(.ref 4 1 (0) 0)]
abbrev Qmu (p5:List Int):Slot:=.own 1 [[(.dat 1 (p5.map Qac))]]
abbrev Qmt (p6:List (List Qaa)):AV:=.dat 1 (p6.map Qag)
abbrev Q5r (p8:List Int):Slot:=.own 1 [[(.dat 1 (p8.map Qac))]]
def Qy0 (y16:List Int):Slot:=.own 1 [[(.dat 1 (y16.map Qac))]]
def Qu7 (x29:(Int×(List Int)×Bool×(List Int))):Slot:=.own 1 (x29.2.2.2.map Qac)
theorem Qs6:∀(N:Nat) (p0 p1:Int) (p2:Nat) (p3:List GRow) (p4:List Qaf) (p5:List Int) (p6:List (List Qaa)) (p7:Int) (p8:List Int) (p9:Bool) (p10:List Int) (r:(Int×(List Int)×Bool×(List Int))) (_:Qfm N p0 p1 p2 p3 p4 p5 p6 p7 p8 p9 p10=some r),Spec prog 92 [(I p0),(.ref 0 1 (0) 0),(.ref 1 1 (0) 0),(.ref 2 1 (0) 0),(.ref 3 2 (0) 0),(.ref 4 1 (0) 0)] [(.own 1 [[(I p1)]]),(.own 1 [[Qoj]]),(Qmv p2),(Qmw p3 p4),(.own 1 [[Qll]]),(Qmu p5),(.own 1 [[(Qmt p6)]]),(.own 1 [[(I p7)]]),(Q5r p8),(.own 1 [[(B p9)]]),(.own 1 (p10.map Qac))] (.tup []) [(.own 1 [[(I p1)]]),(.own 1 [[Qoj]]),(Qmv p2),(Qmw p3 p4),(.own 1 [[Qll]]),(Qmu p5),(.own 1 [[(Qmt p6)]]),(.own 1 [[(I r.1)]]),(.own 1 [[(.dat 1 (r.2.1.map Qac))]]),(.own 1 [[(B r.2.2.1)]]),(.own 1 (r.2.2.2.map Qac))]:=by
  intro N
  induction N with
  |zero=>intro p0 p1 p2 p3 p4 p5 p6 p7 p8 p9 p10 r h;exact nomatch (show(none:Option (Int×(List Int)×Bool×(List Int)))=some r from h)
  |succ N ihX=>
  intro p0 p1 p2 p3 p4 p5 p6 p7 p8 p9 p10 r h
  replace h:Qgt N (Qfm N) p0 p1 p2 p3 p4 p5 p6 p7 p8 p9 p10=some r:=h
  refine sF func92 11 fun _ _ _ hq hd0=>?_
  unfold Qgt at h
  refine wsq<|wxz ?_
  refine bfe h (fun hc9 h=>?_) fun hc9 h=>?_
  ·refine wft hc9 ?_
   obtain⟨x11,hf10,h⟩:=bno h
   refine wx tbk [(1,⟨_,_,_,_,false⟩)] ⟨Qdp (first:=[]) (cap:=[.ref 3 2 0 0,.ref 2 1 0 0,.ref 5 1 0 0,.ref 6 1 0 0,.ref 7 1 0 0,.ref 8 1 0 0,.ref 9 1 0 0]) (vs:=[]) (σr:=[(Qmw p3 p4),(Qmv p2),(Qmu p5),(.own 1 [[(Qmt p6)]]),(.own 1 [[I p7]]),(Q5r p8),(.own 1 [[B p9]]),(.own 1 (p10.map Qac))]) (σr':=[(Qmw p3 p4),(Qmv p2),(Qmu p5),(.own 1 [[(Qmt p6)]]),(.own 1 [[I x11.1]]),(.own 1 [[(.dat 1 (x11.2.1.map Qac))]]),(.own 1 [[B x11.2.2]]),(.own 1 (p10.map Qac))]) (res':=(.tup [])) [3,2,5,6,7,8,9,10] rfl Znp (Qs7 N p3 p4 p2 p5 p6 p7 p8 p9 p10 _ hf10) rfl (Qbr (rnc (Qa0 rfl) (rnc (Qa0 rfl) (rnc (Qa0 rfl) (rnc (Qa0 rfl) (rnc (Qa0 rfl) (rnc (Qa0 rfl) (rnc (Qa0 rfl) rn0)))))))) (slc (Qaq (rnc (pld Qan) (rnc (pld Qab) rn0))) (slc (Qaq (rnc (Qcs rfl) rn0)) (slc (Qaq (rnc (pld Qah) rn0)) (slc (Qaq (rnc (pld Qak) rn0)) (slc (Qaq (rnc (.plain _ nll) rn0)) (slc (Qaq (rnc (pld Qah) rn0)) (slc (Qaq (rnc (.plain _ nll) rn0)) (slc (Qba Qah) Qas)))))))) (slc (Qaq (rnc (pld Qan) (rnc (pld Qab) rn0))) (slc (Qaq (rnc (Qcz rfl) rn0)) (slc (Qaq (rnc (pld Qah) rn0)) (slc (Qaq (rnc (pld Qak) rn0)) (slc (Qaq (rnc (.plain _ nll) rn0)) (slc (Qaq (rnc (pld Qah) rn0)) (slc (Qaq (rnc (.plain _ nll) rn0)) (slc (Qba Qah) Qas)))))))) (.plain _ (NLt.tup _ nl0)) rfl rfl rfl,tv⟩ ?_
   refine wmr (mto (n:=33) (l':=[]) (own':=[(.own 1 [[I p1]]),(.own 1 [[Qoj]]),(Qmv p2),(Qmw p3 p4),(.own 1 [[Qll]]),(Qmu p5),(.own 1 [[(Qmt p6)]]),(.own 1 [[I x11.1]]),(.own 1 [[(.dat 1 (x11.2.1.map Qac))]]),(.own 1 [[B x11.2.2]]),(.own 1 (p10.map Qac))]) [] [0,1,2,3,4,5,6,7,8,9,10] [(.own 1 [[I p1]]),(.own 1 [[Qoj]]),(Qmv p2),(Qmw p3 p4),(.own 1 [[Qll]]),(Qmu p5),(.own 1 [[(Qmt p6)]]),(.own 1 [[I x11.1]]),(.own 1 [[(.dat 1 (x11.2.1.map Qac))]]),(.own 1 [[B x11.2.2]]),(.own 1 (p10.map Qac))] hq pn (qb (lc rwl ln) (qb (lc (.rn (Qbj rn0 (rnc (rqr rfl) (rnc (rqr rfl) (rnc (rqr rfl) (rnc (rqr rfl) (rnc (rqr rfl) (rnc (rqr rfl) (rnc (rqr rfl) rn0))))))))) ln) (qb (lc (.rn (Qav rfl)) ln) (qb (lc (rnd Qan) (lc (rnd Qab) ln)) (qb (lc (.rn (Qbj rn0 (rnc (rqr rfl) (rnc (rqr rfl) (rnc (rqr rfl) (rnc (rqr rfl) (rnc (rqr rfl) rn0))))))) ln) (qb (lc (rnd Qah) ln) (qb (lc (rnd Qak) ln) (qb (lc rwl ln) (qb (lc (rnd Qah) ln) (qb (lc rwl ln) (qc (spr Qah) qn))))))))))))<|Qai<|Qaj ?_
   obtain rfl:=osi h
   exact⟨_,Mor.rfl,fio [] tv⟩
  ·refine wfn hc9<|Qam<|thn ?_
   obtain⟨hi12,h⟩:=cko h
   obtain⟨hi12a,hi12b⟩:=Qcv hi12
   obtain⟨x13,hg14,h⟩:=bno h
   refine wx tbk [(2,rb [(.tmp 12,(.own 10 1 (0) p2)),(.tmp 13,I p0)] [(10,(.own 1 (p10.map Qac)))] (.ref 10 1 p0.toNat 0)),(3,⟨[(.tmp 14,(.ref 10 1 p0.toNat 0)),ci 0],[(10,(.own 1 (p10.map Qac)))],.any,[(10,(.own 1 ((p10.set p0.toNat 0:List Int).map Qac)))],false⟩)] ⟨aio rfl underlying27 ti3 (odt hi12a) (odt hi12b) (Nat.zero_add _),ast rfl ti3 (by rfl) (mgt Qac hg14) (nle rfl) (Qff Qac rfl),tv⟩<|Qao ?_
   refine wmr (mto (n:=33) (l':=[(0,I p0),(3,.ref 2 1 0 0),(4,.ref 3 2 0 0),(5,.ref 4 1 0 0)]) (own':=[(.own 1 [[I p1]]),(.own 1 [[Qoj]]),(Qmv p2),(Qmw p3 p4),(.own 1 [[Qll]]),(Qmu p5),(.own 1 [[(Qmt p6)]]),(.own 1 [[I p7]]),(Q5r p8),(.own 1 [[B p9]]),(.own 1 (((p10.set p0.toNat 0):List Int).map Qac))]) [(0,I p0),(3,.ref 2 1 0 0),(4,.ref 3 2 0 0),(5,.ref 4 1 0 0)] [0,1,2,3,4,5,6,7,8,9,10] [(.own 1 [[I p1]]),(.own 1 [[Qoj]]),(Qmv p2),(Qmw p3 p4),(.own 1 [[Qll]]),(Qmu p5),(.own 1 [[(Qmt p6)]]),(.own 1 [[I p7]]),(Q5r p8),(.own 1 [[B p9]]),(.own 1 ((p10.set p0.toNat 0:List Int).map Qac))] hq (pw (prr (prr (prr pn)))) (qb (lc rwl ln) (qb (lc (.rn (Qbj rn0 (rnc (rqr rfl) (rnc (rqr rfl) (rnc (rqr rfl) (rnc (rqr rfl) (rnc (rqr rfl) (rnc (rqr rfl) (rnc (rqr rfl) rn0))))))))) ln) (qb (lc (.rn (Qav rfl)) ln) (qb (lc (rnd Qan) (lc (rnd Qab) ln)) (qb (lc (.rn (Qbj rn0 (rnc (rqr rfl) (rnc (rqr rfl) (rnc (rqr rfl) (rnc (rqr rfl) (rnc (rqr rfl) rn0))))))) ln) (qb (lc (rnd Qah) ln) (qb (lc (rnd Qak) ln) (qb (lc rwl ln) (qb (lc (rnd Qah) ln) (qb (lc rwl ln) (qc (spr Qah) qn)))))))))))) ?_
   refine Qbl (τ:=Int×(List Int)×Bool×(List Int)) (fun n t=>Qdg N p0 (Qfm N) p1 p2 p3 p4 p5 p6 n t.1 t.2.1 t.2.2.1 t.2.2.2=some r) (fun ⟨y15,y16,y17,y18⟩=>⟨mk 33 [(0,I p0),(3,.ref 2 1 0 0),(4,.ref 3 2 0 0),(5,.ref 4 1 0 0)],[(.own 1 [[I p1]]),(.own 1 [[Qoj]]),(Qmv p2),(Qmw p3 p4),(.own 1 [[Qll]]),(Qmu p5),(.own 1 [[(Qmt p6)]]),(.own 1 [[I y15]]),(Qy0 y16),(.own 1 [[B y17]]),(.own 1 (y18.map Qac))]⟩) (fun t h=>by rw[Qdg] at h;cases h) (fun n23 ih t h=>?_) N (p7,p8,p9,p10.set p0.toNat 0) h
   obtain⟨y15,y16,y17,y18⟩:=t
   rw[Qdg] at h
   skip
   refine wsq ?_
   obtain⟨hi24,h⟩:=cko h
   obtain⟨hi24a,hi24b⟩:=Qcv hi24
   obtain⟨x25,hg26,h⟩:=bno h
   refine wxd tbk [(2,rb [(.tmp 15,(.own 10 1 (0) p2)),(.tmp 16,I p0)] [(10,(.own 1 (y18.map Qac)))] (.ref 10 1 p0.toNat 0)),(3,rb [(.tmp 17,(.ref 10 1 p0.toNat 0))] [(10,(.own 1 (y18.map Qac)))] (I x25)),(6,rp _ _)] ⟨aio rfl underlying27 ti3 (odt hi24a) (odt hi24b) (Nat.zero_add _),ald rfl ti3 (by decide) (mgt Qac hg26) (nle rfl) rfl,alq 5 Qap p3 underlying39,tv⟩ ?_
   refine bfe h (fun hc27 h=>?_) fun hc27 h=>?_
   ·refine wft hc27<|Qam<|thn<|wsq<|Qao ?_
    obtain⟨x29,hf28,h⟩:=bno h
    refine wx1 tbk [(3,⟨_,_,_,_,false⟩)] ⟨Qdp (first:=[]) (cap:=[.ref 0 1 0 0,.ref 1 1 0 0,.ref 2 1 0 0,.ref 3 2 0 0,.ref 4 1 0 0]) (vs:=[(I (w64 (p0+1)))]) (σr:=[(.own 1 [[I p1]]),(.own 1 [[Qoj]]),(Qmv p2),(Qmw p3 p4),(.own 1 [[Qll]]),(Qmu p5),(.own 1 [[(Qmt p6)]]),(.own 1 [[I y15]]),(Qy0 y16),(.own 1 [[B y17]]),(.own 1 (y18.map Qac))]) (σr':=[(.own 1 [[I p1]]),(.own 1 [[Qoj]]),(Qmv p2),(Qmw p3 p4),(.own 1 [[Qll]]),(Qmu p5),(.own 1 [[(Qmt p6)]]),(.own 1 [[I x29.1]]),(.own 1 [[(.dat 1 (x29.2.1.map Qac))]]),(.own 1 [[B x29.2.2.1]]),(Qu7 x29)]) (res':=(.tup [])) [0,1,2,3,4,5,6,7,8,9,10] rfl Zed (ihX (w64 (p0+1)) p1 p2 p3 p4 p5 p6 y15 y16 y17 y18 _ hf28) rfl (Qbr (rnc (.plain _ nll) (rnc (Qa0 rfl) (rnc (Qa0 rfl) (rnc (Qa0 rfl) (rnc (Qa0 rfl) (rnc (Qa0 rfl) rn0))))))) (slc (Qaq (rnc (.plain _ nll) rn0)) (slc (Qaq (rnc (Qbj rn0 (rnc (Qa0 rfl) (rnc (Qa0 rfl) (rnc (Qa0 rfl) (rnc (Qa0 rfl) (rnc (Qa0 rfl) (rnc (Qa0 rfl) (rnc (Qa0 rfl) rn0)))))))) rn0)) (slc (Qaq (rnc (Qcs rfl) rn0)) (slc (Qaq (rnc (pld Qan) (rnc (pld Qab) rn0))) (slc (Qaq (rnc (Qbj rn0 (rnc (Qa0 rfl) (rnc (Qa0 rfl) (rnc (Qa0 rfl) (rnc (Qa0 rfl) (rnc (Qa0 rfl) rn0)))))) rn0)) (slc (Qaq (rnc (pld Qah) rn0)) (slc (Qaq (rnc (pld Qak) rn0)) (slc (Qaq (rnc (.plain _ nll) rn0)) (slc (Qaq (rnc (pld Qah) rn0)) (slc (Qaq (rnc (.plain _ nll) rn0)) (slc (Qba Qah) Qas))))))))))) (slc (Qaq (rnc (.plain _ nll) rn0)) (slc (Qaq (rnc (Qbj rn0 (rnc (Qbb rfl) (rnc (Qbb rfl) (rnc (Qbb rfl) (rnc (Qbb rfl) (rnc (Qbb rfl) (rnc (Qbb rfl) (rnc (Qbb rfl) rn0)))))))) rn0)) (slc (Qaq (rnc (Qcz rfl) rn0)) (slc (Qaq (rnc (pld Qan) (rnc (pld Qab) rn0))) (slc (Qaq (rnc (Qbj rn0 (rnc (Qbb rfl) (rnc (Qbb rfl) (rnc (Qbb rfl) (rnc (Qbb rfl) (rnc (Qbb rfl) rn0)))))) rn0)) (slc (Qaq (rnc (pld Qah) rn0)) (slc (Qaq (rnc (pld Qak) rn0)) (slc (Qaq (rnc (.plain _ nll) rn0)) (slc (Qaq (rnc (pld Qah) rn0)) (slc (Qaq (rnc (.plain _ nll) rn0)) (slc (Qba Qah) Qas))))))))))) (.plain _ (NLt.tup _ nl0)) rfl rfl rfl,tv⟩<|bln<|thn ?_
    obtain⟨hi30,h⟩:=cko h
    obtain⟨hi30a,hi30b⟩:=Qcv hi30
    obtain⟨x31,hg32,h⟩:=bno h
    obtain⟨hi33,h⟩:=cko h
    obtain⟨hi33a,hi33b⟩:=Qcv hi33
    obtain⟨x34,hg35,h⟩:=bno h
    refine wx1 tbk [(2,rb [(.tmp 23,(.own 10 1 (0) p2)),(.tmp 24,I p0)] [(10,(Qu7 x29))] (.ref 10 1 p0.toNat 0)),(3,rb [(.tmp 25,(.ref 10 1 p0.toNat 0))] [(10,(Qu7 x29))] (I x31)),(5,rb [(.tmp 23,(.own 10 1 (0) p2)),(.tmp 24,I p0)] [(10,(Qu7 x29))] (.ref 10 1 p0.toNat 0)),(6,⟨[(.tmp 28,(.ref 10 1 p0.toNat 0)),(.tmp 27,(I (w64 (x31+1))))],[(10,(Qu7 x29))],.any,[(10,(.own 1 ((x29.2.2.2.set p0.toNat (w64 (x31+1)):List Int).map Qac)))],false⟩)] ⟨aio rfl underlying27 ti3 (odt hi30a) (odt hi30b) (Nat.zero_add _),ald rfl ti3 (by decide) (mgt Qac hg32) (nle rfl) rfl,aio rfl underlying27 ti3 (odt hi33a) (odt hi33b) (Nat.zero_add _),ast rfl ti3 (by rfl) (mgt Qac hg35) (nle rfl) (Qff Qac rfl),tv⟩<|thn ?_
    exact arm (mto (n:=33) [(0,I p0),(3,.ref 2 1 0 0),(4,.ref 3 2 0 0),(5,.ref 4 1 0 0)] [0,1,2,3,4,5,6,7,8,9,10] [(.own 1 [[I p1]]),(.own 1 [[Qoj]]),(Qmv p2),(Qmw p3 p4),(.own 1 [[Qll]]),(Qmu p5),(.own 1 [[(Qmt p6)]]),(.own 1 [[I x29.1]]),(.own 1 [[(.dat 1 (x29.2.1.map Qac))]]),(.own 1 [[B x29.2.2.1]]),(.own 1 ((x29.2.2.2.set p0.toNat (w64 (x31+1)):List Int).map Qac))] hq (pw (prr (prr (prr pn)))) (qb (lc rwl ln) (qb (lc (.rn (Qbj rn0 (rnc (rqr rfl) (rnc (rqr rfl) (rnc (rqr rfl) (rnc (rqr rfl) (rnc (rqr rfl) (rnc (rqr rfl) (rnc (rqr rfl) rn0))))))))) ln) (qb (lc (.rn (Qav rfl)) ln) (qb (lc (rnd Qan) (lc (rnd Qab) ln)) (qb (lc (.rn (Qbj rn0 (rnc (rqr rfl) (rnc (rqr rfl) (rnc (rqr rfl) (rnc (rqr rfl) (rnc (rqr rfl) rn0))))))) ln) (qb (lc (rnd Qah) ln) (qb (lc (rnd Qak) ln) (qb (lc rwl ln) (qb (lc (rnd Qah) ln) (qb (lc rwl ln) (qc (spr Qah) qn)))))))))))) (ih (x29.1,x29.2.1,x29.2.2.1,x29.2.2.2.set p0.toNat (w64 (x31+1))) h)
   ·refine wfn hc27<|Qa7<|Qau<|Qau<|Qa6 rfl ?_
    obtain rfl:=osi h
    exact⟨_,(mto (n:=33) (l':=[]) (own':=[(.own 1 [[I p1]]),(.own 1 [[Qoj]]),(Qmv p2),(Qmw p3 p4),(.own 1 [[Qll]]),(Qmu p5),(.own 1 [[(Qmt p6)]]),(.own 1 [[I y15]]),(Qy0 y16),(.own 1 [[B y17]]),(.own 1 (y18.map Qac))]) [] [0,1,2,3,4,5,6,7,8,9,10] [(.own 1 [[I p1]]),(.own 1 [[Qoj]]),(Qmv p2),(Qmw p3 p4),(.own 1 [[Qll]]),(Qmu p5),(.own 1 [[(Qmt p6)]]),(.own 1 [[I y15]]),(Qy0 y16),(.own 1 [[B y17]]),(.own 1 (y18.map Qac))] hq pn (qb (lc rwl ln) (qb (lc (.rn (Qbj rn0 (rnc (rqr rfl) (rnc (rqr rfl) (rnc (rqr rfl) (rnc (rqr rfl) (rnc (rqr rfl) (rnc (rqr rfl) (rnc (rqr rfl) rn0))))))))) ln) (qb (lc (.rn (Qav rfl)) ln) (qb (lc (rnd Qan) (lc (rnd Qab) ln)) (qb (lc (.rn (Qbj rn0 (rnc (rqr rfl) (rnc (rqr rfl) (rnc (rqr rfl) (rnc (rqr rfl) (rnc (rqr rfl) rn0))))))) ln) (qb (lc (rnd Qah) ln) (qb (lc (rnd Qak) ln) (qb (lc rwl ln) (qb (lc (rnd Qah) ln) (qb (lc rwl ln) (qc (spr Qah) qn)))))))))))),fio [] tv⟩
def Qnn (N:Nat) (p0:GNet) (p1:List Int) (p2:List (List Qaa)):Option ((List Int)×Int×Int):=
  (Qmd N p0 p1 p2).bind fun x2=>
  bif (x2 != 0) then
   some ([],0,x2)
  else
   (Qg9 N p0 4).bind fun x5=>
   bif (decide ((x5.length:Int)>3)) then
    some ([],0,3)
   else
    chk (decide (0≤(x5.length:Int))&&decide (8*(x5.length:Int)≤281474976710656)&&decide ((x5.length:Int)≤9223372036854775807))<|
    (Qfm N 0 (x5.length:Int) ((x5.length:Int).toNat) p0.Table p0.Elements p1 p2 (-1) ([]) false (List.replicate (x5.length:Int).toNat 0)).bind fun x9=>
    bif (!x9.2.2.1) then
     some ([],0,7)
    else
     some (x9.2.1,x9.1,0)
def Zko (p2:List (List Qaa)):AV:=.dat 1 (p2.map Qag)
def Qxo:AV:=.dat 1 (([]:List Int).map Qac)
def Zkm (x5:List Int):Slot:=.own 1 ((List.replicate (x5.length:Int).toNat 0:List Int).map Qac)
def Q3m:AV:=.fn (.func 90) [] [(.ref 0 2 (0) 0),(.ref 8 1 (0) 0),(.ref 1 1 (0) 0),(.ref 2 1 (0) 0),(.ref 5 1 (0) 0),(.ref 4 1 (0) 0),(.ref 6 1 (0) 0)]
def Q3l:AV:=.fn (.func 92) [] [(.ref 3 1 (0) 0),(.ref 9 1 (0) 0),(.ref 8 1 (0) 0),(.ref 0 2 (0) 0),(.ref 10 1 (0) 0)]
def Zkn (x5:List Int):Slot:=.own 1 [[(I ((x5.length:Int)))]]
def Zkq (p0:GNet):Slot:=.own 2 [[(.dat 5 (p0.Table.map Qap)),(.dat 7 (p0.Elements.map Qae))]]
def Zkp (p1:List Int):Slot:=.own 1 [[(.dat 1 (p1.map Qac))]]
theorem Qzn (N:Nat) (p0:GNet) (p1:List Int) (p2:List (List Qaa)) (r:((List Int)×Int×Int)) (h:Qnn N p0 p1 p2=some r):Spec prog 51 [(.agg (Qgw p0)),(.dat 1 (p1.map Qac)),(.dat 1 (p2.map Qag))] [] (.tup [(.dat 1 (r.1.map Qac)),(I r.2.1),(I r.2.2)]) []:=by
  refine sA func51 0 fun _ _ _ hq hd0=>?_
  unfold Qnn at h
  refine wxz<|wsq ?_
  obtain⟨x2,hf1,h⟩:=bno h
  refine wx tbk [(3,rp _ _)] ⟨apw Znv (Qxf N p0 p1 p2 _ hf1),tv⟩<|wxz ?_
  refine bfe h (fun hc3 h=>?_) fun hc3 h=>?_
  ·refine wft hc3<|wxz<|Qai<|Qaj ?_
   obtain rfl:=osi h
   exact fie [Qxo,I 0,I x2] ⟨Qbz (v:=nilS) rot Less.nil,rot,rot,tv⟩
  ·refine wfn hc3<|Qam<|thn ?_
   obtain⟨x5,hf4,h⟩:=bno h
   refine wx tbk [(1,rp _ _),(2,rp _ _)] ⟨apw Qwm (Qif N p0 4 _ hf4),alq 1 Qac x5 underlying27,tv⟩<|wsq<|wxz ?_
   refine bfe h (fun hc6 h=>?_) fun hc6 h=>?_
   ·refine wft hc6<|wxz<|Qai<|Qaj ?_
    obtain rfl:=osi h
    exact fie [Qxo,I 0,I 3] ⟨Qbz (v:=nilS) rot Less.nil,rot,rot,tv⟩
   ·refine wfn hc6<|Qam<|thn ?_
    refine wx tbk [(0,⟨[],[(4,.unused)],.ref 4 1 0 0,[(4,.own 1 [[Qxo]])],false⟩)] ⟨Qq3 (SImp.box (l:=[nilS]) ⟨Less.nil,tv⟩) (Qoe rfl tz27 rfl),tv⟩<|wxz ?_
    obtain⟨hm7,h⟩:=cko h
    refine wx tbk [(1,⟨[(.tmp 29,(I ((x5.length:Int)))),(.tmp 29,(I ((x5.length:Int))))],[(7,.unused)],(.own 7 1 (0) ((x5.length:Int).toNat)),[(7,(Zkm x5))],false⟩),(2,⟨[],[(8,.unused)],.ref 8 1 0 0,[(8,.own 1 [[Qxo]])],false⟩)] ⟨Qkq rfl underlying27 te3 tz3 rfl (Qw6 hm7) rfl (Qw5 hm7) (Qw4 hm7) (Qsx Qac rfl),Qq3 (SImp.box (l:=[nilS]) ⟨Less.nil,tv⟩) (Qoe rfl tz27 rfl),tv⟩ ?_
    refine wx tbk [(0,rp [(.tmp 3,.ref 0 2 0 0),(.tmp 14,.ref 8 1 0 0),(.tmp 4,.ref 1 1 0 0),(.tmp 5,.ref 2 1 0 0),(.tmp 12,.ref 5 1 0 0),(.tmp 11,.ref 4 1 0 0),(.tmp 13,.ref 6 1 0 0)] Q3m)] ⟨Qfv (fs:=[]) (cs:=[.ref 0 2 0 0,.ref 8 1 0 0,.ref 1 1 0 0,.ref 2 1 0 0,.ref 5 1 0 0,.ref 4 1 0 0,.ref 6 1 0 0]) rfl rfl rfl rfl,tv⟩<|wxz ?_
    refine wx tbk [(0,rp [(.tmp 10,.ref 3 1 0 0),(.tmp 15,.ref 9 1 0 0),(.tmp 14,.ref 8 1 0 0),(.tmp 3,.ref 0 2 0 0),(.tmp 16,.ref 10 1 0 0)] Q3l)] ⟨Qfv (fs:=[]) (cs:=[.ref 3 1 0 0,.ref 9 1 0 0,.ref 8 1 0 0,.ref 0 2 0 0,.ref 10 1 0 0]) rfl rfl rfl rfl,tv⟩ ?_
    obtain⟨x9,hf8,h⟩:=bno h
    refine wx tbk [(1,⟨_,_,_,_,false⟩)] ⟨Qdp (first:=[]) (cap:=[.ref 3 1 0 0,.ref 9 1 0 0,.ref 8 1 0 0,.ref 0 2 0 0,.ref 10 1 0 0]) (vs:=[I 0]) (σr:=[(Zkn x5),(.own 1 [[Q3m]]),(.own 1 [[(.own 7 1 (0) ((x5.length:Int).toNat))]]),(Zkq p0),(.own 1 [[Q3l]]),(Zkp p1),(.own 1 [[(Zko p2)]]),(.own 1 [[(I ((-1)))]]),(.own 1 [[Qxo]]),(.own 1 [[B false]]),(Zkm x5)]) (σr':=[(Zkn x5),(.own 1 [[Q3m]]),(.own 1 [[(.own 7 1 (0) (((x5.length:Int).toNat)))]]),(Zkq p0),(.own 1 [[Q3l]]),(Zkp p1),(.own 1 [[(Zko p2)]]),(.own 1 [[I x9.1]]),(.own 1 [[(.dat 1 (x9.2.1.map Qac))]]),(.own 1 [[B x9.2.2.1]]),(.own 1 (x9.2.2.2.map Qac))]) (res':=(.tup [])) [3,9,8,0,10,1,2,5,4,6,7] rfl Zed (Qs6 N 0 (x5.length:Int) ((x5.length:Int).toNat) p0.Table p0.Elements p1 p2 (-1) ([]) false (List.replicate (x5.length:Int).toNat 0) _ hf8) rfl (Qbr (rnc (.plain _ nll) (rnc (Qa0 rfl) (rnc (Qa0 rfl) (rnc (Qa0 rfl) (rnc (Qa0 rfl) (rnc (Qa0 rfl) rn0))))))) (slc (Qaq (rnc (.plain _ nll) rn0)) (slc (Qaq (rnc (Qbj rn0 (rnc (Qa0 rfl) (rnc (Qa0 rfl) (rnc (Qa0 rfl) (rnc (Qa0 rfl) (rnc (Qa0 rfl) (rnc (Qa0 rfl) (rnc (Qa0 rfl) rn0)))))))) rn0)) (slc (Qaq (rnc (Qcs rfl) rn0)) (slc (Qaq (rnc (pld Qan) (rnc (pld Qab) rn0))) (slc (Qaq (rnc (Qbj rn0 (rnc (Qa0 rfl) (rnc (Qa0 rfl) (rnc (Qa0 rfl) (rnc (Qa0 rfl) (rnc (Qa0 rfl) rn0)))))) rn0)) (slc (Qaq (rnc (pld Qah) rn0)) (slc (Qaq (rnc (pld Qak) rn0)) (slc (Qaq (rnc (.plain _ nll) rn0)) (slc (Qaq (rnc (pld Qah) rn0)) (slc (Qaq (rnc (.plain _ nll) rn0)) (slc (Qba Qah) Qas))))))))))) (slc (Qaq (rnc (.plain _ nll) rn0)) (slc (Qaq (rnc (Qbj rn0 (rnc (Qbb rfl) (rnc (Qbb rfl) (rnc (Qbb rfl) (rnc (Qbb rfl) (rnc (Qbb rfl) (rnc (Qbb rfl) (rnc (Qbb rfl) rn0)))))))) rn0)) (slc (Qaq (rnc (Qcz rfl) rn0)) (slc (Qaq (rnc (pld Qan) (rnc (pld Qab) rn0))) (slc (Qaq (rnc (Qbj rn0 (rnc (Qbb rfl) (rnc (Qbb rfl) (rnc (Qbb rfl) (rnc (Qbb rfl) (rnc (Qbb rfl) rn0)))))) rn0)) (slc (Qaq (rnc (pld Qah) rn0)) (slc (Qaq (rnc (pld Qak) rn0)) (slc (Qaq (rnc (.plain _ nll) rn0)) (slc (Qaq (rnc (pld Qah) rn0)) (slc (Qaq (rnc (.plain _ nll) rn0)) (slc (Qba Qah) Qas))))))))))) (.plain _ (NLt.tup _ nl0)) rfl rfl rfl,tv⟩<|wsq<|wxz ?_
    refine bfe h (fun hc10 h=>?_) fun hc10 h=>?_
    ·refine wft hc10<|wxz<|Qai<|Qaj ?_
     obtain rfl:=osi h
     exact fie [Qxo,I 0,I 7] ⟨Qbz (v:=nilS) rot Less.nil,rot,rot,tv⟩
    ·refine wfn hc10<|Qam<|thn<|wxe<|Qai ?_
     obtain rfl:=osi h
     exact fie [(.dat 1 (x9.2.1.map Qac)),I x9.1,I 0] ⟨rot,rot,rot,tv⟩
def Qei (N:Nat) (p0:GNet) (k2:Int→Option Bool):Nat→Int→Int→Option Bool
  |0,_,_=>none
  |n7+1,y3,y4=>
    Qbc (fun _=>
      (some (w64 (y3*(p0.Table.length:Int)))).bind fun x9=>
      Qei N p0 k2 n7 x9 (w64 (y4+1))) fun k8:Unit→Option Bool=>
    (Qgc N p0 4).bind fun x12=>
    bif (decide (y4<x12)) then
     bif (decide (y3≤150)) then
      k8 ()
     else
      k2 (y3)
    else
     k2 (y3)
def Qki (N:Nat) (p0:GNet):Option Bool:=
  Qbc (fun y1=>
    some (decide (y1>150))) fun k2:Int→Option Bool=>
  Qei N p0 k2 N 1 0
def Zkk (p0:GNet):AV:=.dat 5 (p0.Table.map Qap)
def Zkj (p0:GNet):AV:=.dat 7 (p0.Elements.map Qae)
def Qxl (p0:GNet):Slot:=.own 2 [[(Zkk p0),(Zkj p0)]]
def Zbd (p0:GNet) (x12:Int):List (Nat×Rec):=[(2,rp [fu 29,((.tmp 6),(.agg [(Zkk p0),(Zkj p0)])),((.const (.int .u8 4)),(K .u8 (4)))] (I x12))]
theorem Qxh (N:Nat) (p0:GNet) (r:Bool) (h:Qki N p0=some r):Spec prog 50 [(.agg (Qgw p0))] [] (B r) []:=by
  refine sA func50 0 fun _ _ _ hq hd0=>?_
  unfold Qki at h
  refine wxz<|wxz ?_
  obtain⟨k2,hk_k2,h⟩:=jko h
  refine wjn (τ:=Int) (fun t=>k2 t=some r) (fun y1=>⟨mk 22 [(3,I y1)],[]⟩) (fun y1 h=>?_) ?_
  ·subst hk_k2
   refine wxz<|Qai ?_
   obtain rfl:=osi h
   exact fend ⟨[(B ((decide (y1>150))))],⟨rot,tv⟩,rfl⟩ nll
  ·skip
   refine wxz<|Qao ?_
   refine wmr (mto (n:=22) (l':=[(1,.ref 0 2 0 0),(3,I 1),(4,I 0)]) (own':=[(Qxl p0)]) [(1,.ref 0 2 0 0),(3,I 1),(4,I 0)] [0] [(Qxl p0)] hq (prr (pw (pw pn))) (qb (lc (rnd Qan) (lc (rnd Qab) ln)) qn)) ?_
   refine Qbl (τ:=Int×Int) (fun n t=>Qei N p0 k2 n t.1 t.2=some r) (fun ⟨y3,y4⟩=>⟨mk 22 [(1,.ref 0 2 0 0),(3,I y3),(4,I y4)],[(Qxl p0)]⟩) (fun t h=>by rw[Qei] at h;cases h) (fun n7 ih t h=>?_) N (1,0) h
   obtain⟨y3,y4⟩:=t
   rw[Qei] at h
   skip
   obtain⟨k8,hk_k8,h⟩:=jko h
   refine wjn (τ:=Unit) (fun t=>k8 t=some r) (fun _=>⟨mk 22 [(1,.ref 0 2 0 0),(3,I y3),(4,I y4)],[(Qxl p0)]⟩) (fun t h=>?_) ?_
   ·subst hk_k8
    refine wsq<|Qao ?_
    obtain⟨x9,hl10,h⟩:=bno h
    exact wx1 tbk [(3,rp _ _),(5,rp [(.tmp 19,(I (w64 (y3*(p0.Table.length:Int)))))] (I x9))] ⟨alq 5 Qap p0.Table underlying23,Qhg hl10 (aas rfl),tv⟩<|bln<|thn<|wxz1<|thn<|arm (mto (n:=22) [(1,.ref 0 2 0 0),(3,I x9),(4,(I (w64 (y4+1))))] [0] [(Qxl p0)] hq (prr (pw (pw pn))) (qb (lc (rnd Qan) (lc (rnd Qab) ln)) qn)) (ih (x9,w64 (y4+1)) h)
   ·skip
    obtain⟨x12,hf11,h⟩:=bno h
    refine hpre (A:=(Zbd p0 x12)) ⟨apv Qz9 (Qjz N p0 4 _ hf11) (nlc (NLt.agg _ (nlc (nld Qan _) (nlc (nld Qab _) nl0))) (nlc nll nl0)) nll,tv⟩ fun q1_=>?_
    refine bfe h (fun hb13 h=>?_) fun hb13 h=>?_
    ·refine wx tbk (hcat (Zbd p0 x12) [(4,rp [(.tmp 8,(B ((decide (y4<x12)))))] (B true))]) (hap q1_ ⟨asb hb13 (amv rfl),tv⟩) ?_
     refine bfe h (fun hc14 h=>?_) fun hc14 h=>?_
     ·exact wft hc14<|Qam<|thn<|⟨(),h,(mto (n:=22) [(1,.ref 0 2 0 0),(3,I y3),(4,I y4)] [0] [(Qxl p0)] hq (prr (pw (pw pn))) (qb (lc (rnd Qan) (lc (rnd Qab) ln)) qn))⟩
     ·exact wfn hc14<|Qa7<|Qau<|Qau<|Qa6 rfl<|thn<|⟨(y3),h,(mto (n:=22) [(3,I y3)] [] [] hq (pw pn) qn)⟩
    ·exact wx tbk (hcat (Zbd p0 x12) [(4,rp [(.tmp 8,(B ((decide (y4<x12)))))] (B false))]) (hap q1_ ⟨asb hb13 (amv rfl),tv⟩)<|wfa<|Qa7<|Qau<|Qau<|Qa6 rfl<|thn<|⟨(y3),h,(mto (n:=22) [(3,I y3)] [] [] hq (pw pn) qn)⟩
end
section
theorem getO {α β:Type}(l:List α) (y:Int) (f:α→Option β):(chk (decide (0≤y)&&decide (y.toNat<l.length))<|(l[y.toNat]?).bind f)=(getI l y).bind f:=by
 unfold getI
 by_cases h:0≤y
 ·rw[if_pos h,decide_eq_true h,Bool.true_and]
  by_cases h2:y.toNat<l.length
  ·rw[decide_eq_true h2];rfl
  ·rw[decide_eq_false h2,List.getElem?_eq_none (by omega)];rfl
 ·rw[if_neg h,decide_eq_false h];rfl
theorem Zrf (N:Nat) (n:GNet) (v:List Int) (k:List Qaf→Option GNet) (x:List Int):∀(m:Nat) (y:Int) (acc:List Qaf),Qdo N n v.length v k x m y acc=Qfj N n v k x m y acc:=by
 intro m
 induction m with
 |zero=>intros;rfl
 |succ m ih=>
  intro y acc
  rw[Qdo,Qfj]
  simp only[ih,getO]
theorem Zre (N:Nat) (n:GNet) (k:List Qaf→Option GNet):∀(m:Nat) (y:Int) (acc:List Qaf),Qdn N n k m y acc=Qfi N n k m y acc:=by
 intro m
 induction m with
 |zero=>intros;rfl
 |succ m ih=>
  intro y acc
  rw[Qdn,Qfi]
  simp only[ih]
theorem Zg0 (N:Nat) (n:GNet) (v:List Int):Qie N n v.length v=Qlw N n v:=by
 unfold Qie Qlw
 simp only[Zrf,Zre]
theorem Q1q:∀(q:List (Int×Int)) (acc:List Qaf),(putL acc q).map (fun x=>x.Kind)=acc.map fun x=>x.Kind
 |[],_=>rfl
 |(i,v)::q,acc=>by
  rw[putL,Q1q q]
  cases hg:acc[i.toNat]? with
  |none=>rfl
  |some x=>
   dsimp only
   rw[List.map_set]
   exact Qru (by rw[List.getElem?_map,hg];rfl)
theorem cntF (k:Int):∀(l:List Qaf),(l.filter fun x=>decide (x.Kind=k)).length=((l.map fun x=>x.Kind).filter fun z=>decide (z=k)).length
 |[]=>rfl
 |x::l=>by
  rw[List.map_cons,List.filter_cons,List.filter_cons]
  by_cases h:x.Kind=k
  ·rw[if_pos (by simpa using h),if_pos (by simpa using h),List.length_cons,List.length_cons,cntF k l]
  ·rw[if_neg (by simpa using h),if_neg (by simpa using h),cntF k l]
theorem Zcl (n:GNet) (v:List Int):(setN n v).Elements.length=n.Elements.length:=by unfold setN;rw[Qn2]
theorem Zmu (n:GNet) (v:List Int) (m:Nat):wcn (setN n v) m=wcn n m:=by
 unfold wcn setN
 rw[cntF,cntF,List.map_take,List.map_take,Q1q]
theorem Q3z {n:GNet}(v:List Int) {ws:List Qaa}(h:FedV n ws):FedV (setN n v) ws:=⟨by rw[Zcl,Zmu];exact h.len,h.v,h.m,h.g⟩
theorem Q6d {n:GNet}(v:List Int) {st:List Int}(h:StV n st):StV (setN n v) st:=⟨by rw[Zcl];exact h.len,h.bd⟩
def fStm (w:Qdt):Int:=w.steam
def stmA (n:GNet) (st:List Int) (l:List (List Qaa)) (v:List Int):Int:=
 bif netB (setN n v) then(match Qkl (setN n v) st l with |none=>-1 |some W=>if (unsL 0 W).1≥0 then -1 else(rngF fStm W).Lo) else -1
abbrev BS:=Int×List Int×Bool
def stp (n:GNet) (st:List Int) (l:List (List Qaa)) (a:BS) (v:List Int):BS:=if stmA n st l v>a.1 then(stmA n st l v,v,true) else a
theorem Zky (n:GNet) (st:List Int) (l:List (List Qaa)):∀(L:List (List Int)) (a:BS),-1≤a.1→-1≤(L.foldl (stp n st l) a).1
 |[],_,h=>h
 |v::L,a,h=>by
  rw[List.foldl_cons]
  refine Zky n st l L _ ?_
  unfold stp
  split
  ·dsimp only;omega
  ·exact h
theorem Q8j (N:Nat) (W:List Qdt) (hl:W.length≤1000) (k:Int×Int→Option Qli):∀(m i:Nat) (r:Qli),((W.drop 1).drop i).length<m→Qcd N W k m i r.Lo r.Hi=k ((((W.drop 1).drop i).foldl (fun r x=>wdR r (fStm x)) r).Lo,(((W.drop 1).drop i).foldl (fun r x=>wdR r (fStm x)) r).Hi):=by
 intro m
 induction m with
 |zero=>intro i _ h;cases h
 |succ m ih=>
  intro i r h
  rw[Qcd,show(1:Int).toNat=1 from rfl]
  have hl1:(W.drop 1).length≤1000:=by rw[List.length_drop];omega
  cases hd:(W.drop 1).drop i with
  |nil=>
   have:=Qbs hd
   rw[decide_eq_false (show ¬((i:Int)<((W.drop 1).length:Int)) by omega),cond_false]
   rfl
  |cons w q=>
   obtain⟨hg,hd',hlt⟩:=Qbg hd
   rw[decide_eq_true (show(i:Int)<((W.drop 1).length:Int) by omega),cond_true,Qbu hg,Option.bind_some,show Qe6 N w=some (fStm w) from rfl,Option.bind_some,Option.bind_some,w64S (i:=i) (by omega)]
   have:=ih (i+1) (wdR r (fStm w)) (dlt hd hd' h)
   rw[hd'] at this
   exact this
theorem Zgt {N:Nat}(hN:1001≤N) {W:List Qdt}(hl:W.length≤1000) (hne:W≠[]):Qfb N W=some (rngF fStm W):=by
 cases W with
 |nil=>exact absurd rfl hne
 |cons w l=>
  unfold Qfb
  rw[show getI (w::l) 0=some w from rfl,Option.bind_some,show Qe6 N w=some (fStm w) from rfl,Option.bind_some,Option.bind_some,Qej]
  simp only[chk]
  rw[show(decide ((0:Nat)≤1)&&decide ((1:Int)≤(((w::l).length:Nat):Int))&&decide ((((w::l).length:Nat):Int)≤(((w::l).length:Nat):Int)))=true by simp;omega,cond_true]
  have:=Q8j N (w::l) hl (fun y=>some (⟨y.1,y.2⟩:Qli)) N 0 ⟨fStm w,fStm w⟩ (by simp at hl ⊢;omega)
  rw[show(w::l).drop 1=l from rfl,List.drop_zero] at this
  exact this
section
variable {n : GNet} (hs : Qim n) {st : List Int} {l : List (List Qaa)} (hl : l.length ≤ 1000) (hg : Qj8 n st l = 0)
include hs hl hg
theorem Zq6 {N:Nat}(hN:1001≤N) {v:List Int}(hv:v.length=(ofL 4 0 n.Elements).length) (a:BS) (ha:-1≤a.1):Qi4 N n.Table n.Elements v.length st l a.1 a.2.1 a.2.2 v=some (stp n st l a v):=by
 obtain⟨hv0,hst,hf,h1⟩:=Qwe hg
 have hs2:=Qxv hs v
 have e1:(ofL 4 0 n.Elements).length≤n.Elements.length:=by rw[Qjc];exact List.length_filter_le _ _
 have e0:=hs.e
 unfold Qi4 stp
 rw[show(⟨n.Table,n.Elements⟩:GNet)=n from rfl,Zg0,Zmw hs hN hv hv0.len.1,Option.bind_some,Zdf hs2 hN,Option.bind_some]
 cases hb:netB (setN n v) with
 |false=>rw[Bool.not_false,cond_true,if_neg (by unfold stmA;rw[hb,cond_false];omega)]
 |true=>
  rw[Bool.not_true,cond_false,Zor hs2 hN (Qv5 hb) (Q6d v hst) hl (fun c hc=>Q3z v (hf c hc)),Option.bind_some]
  unfold Zos
  cases hd:Qkl (setN n v) st l with
  |none=>rw[if_neg (by unfold stmA;rw[hb,cond_true,hd];dsimp only;omega)];rfl
  |some W=>
   obtain⟨wl,wo⟩:=Q2j hs2 (Qv5 hb) (Q6d v hst) (fun c hc=>Q3z v (hf c hc)) hd
   have hW:W≠[]:=fun h=>by rw[h] at wl;simp at wl;omega
   dsimp only
   rw[Bool.not_true,cond_false,Zmg hN (by omega) fun w hw=>(wo w hw).1,Option.bind_some]
   by_cases hu:(unsL 0 W).1≥0
   ·rw[decide_eq_true hu,cond_true,if_neg (by unfold stmA;rw[hb,cond_true,hd];dsimp only;rw[if_pos hu];omega)]
   ·have e:stmA n st l v=(rngF fStm W).Lo:=by unfold stmA;rw[hb,cond_true,hd];dsimp only;rw[if_neg hu]
    rw[decide_eq_false hu,cond_false,Zgt hN (by omega) hW,Option.bind_some]
    by_cases hm:(rngF fStm W).Lo>a.1
    ·rw[decide_eq_true hm,cond_true,if_pos (by rw[e];exact hm),e,decide_eq_true (Nat.le_refl _),List.take_length]
     simp only[chk,cond_true]
     rw[show decide ((0+v.length)*8≤140737488355328)=true by simp;omega,cond_true]
    ·rw[decide_eq_false hm,cond_false,if_neg (by rw[e];exact hm)]
end
def Qmj (T:Nat):Nat→List (List Int)
 |0=>[[]]
 |j+1=>(List.range T).flatMap fun a:Nat=>(Qmj T j).map fun w=>(a:Int)::w
theorem Q2o (T:Nat):∀(j:Nat),∀w∈Qmj T j,w.length=j
 |0,w,h=>by rw[List.mem_singleton.1 h];rfl
 |j+1,w,h=>by
  rw[Qmj] at h
  obtain⟨a,_,h⟩:=List.mem_flatMap.1 h
  obtain⟨u,hu,rfl⟩:=List.mem_map.1 h
  rw[List.length_cons,Q2o T j u hu]
theorem Qzu {p q:List Int}{k:Nat}(h:p.length=k) (x:Int):(p++x::q)[k]? = some x:=by subst h;simp
theorem Zdj {p q:List Int}{k:Nat}(h:p.length=k) (x y:Int):(p++x::q).set k y=p++y::q:=by subst h;simp
section
variable {n : GNet} (hs : Qim n) {st : List Int} {l : List (List Qaa)} (hl : l.length ≤ 1000) (hg : Qj8 n st l = 0)
include hs hl hg
theorem Zja:∀(j k F:Nat) (p q:List Int) (a:BS),k+j=(ofL 4 0 n.Elements).length→p.length=k→q.length=j→1002+j≤F→-1≤a.1 →
  ∃q',q'.length=j∧Qfm F k ((ofL 4 0 n.Elements).length:Int) (ofL 4 0 n.Elements).length n.Table n.Elements st l a.1 a.2.1 a.2.2 (p++q) =
   some ((((Qmj n.Table.length j).map (p ++ ·)).foldl (stp n st l) a).1,(((Qmj n.Table.length j).map (p ++ ·)).foldl (stp n st l) a).2.1,(((Qmj n.Table.length j).map (p ++ ·)).foldl (stp n st l) a).2.2,p++q'):=by
 have e0:=hs.e
 have e1:(ofL 4 0 n.Elements).length≤n.Elements.length:=by rw[Qjc];exact List.length_filter_le _ _
 have t0:=hs.t
 generalize hM:(ofL 4 0 n.Elements).length=M at e1 ⊢
 intro j
 induction j with
 |zero=>
  intro k F p q a hk hp hq hF ha
  obtain⟨F,rfl⟩:∃G,F=G+1:=⟨F-1,by omega⟩
  have hq0:q=[]:=List.eq_nil_of_length_eq_zero hq
  subst hq0
  refine⟨[],rfl,?_⟩
  rw[Qfm]
  unfold Qgt
  rw[show((k:Int)==(M:Int))=true by simp;omega,cond_true,List.append_nil]
  have:=Zq6 hs hl hg (N:=F) (by omega) (v:=p) (by omega) a ha
  rw[show p.length=M by omega] at this
  rw[this,Option.bind_some,Qmj,List.map_cons,List.map_nil,List.foldl_cons,List.foldl_nil,List.append_nil]
 |succ j ihj=>
  intro k F p q a hk hp hq hF ha
  obtain⟨F,rfl⟩:∃G,F=G+1:=⟨F-1,by omega⟩
  obtain⟨x,q0,rfl⟩:∃x q0,q=x::q0:=by
   cases q with
   |nil=>simp at hq
   |cons x q0=>exact⟨x,q0,rfl⟩
  have hq0:q0.length=j:=by simpa using hq
  have hb:(decide ((0:Int)≤(k:Int))&&decide ((k:Int).toNat<M))=true:=by simp;omega
  have inner:∀(d b:Nat) (q0:List Int) (fuel:Nat) (a:BS),b+d=n.Table.length→d<fuel→q0.length=j→-1≤a.1 →
    ∃q',q'.length=j+1∧Qdg F k (Qfm F) (M:Int) M n.Table n.Elements st l fuel a.1 a.2.1 a.2.2 (p++(b:Int)::q0) =
     some ((((List.range' b d).flatMap fun c:Nat=>(Qmj n.Table.length j).map fun w=>p++(c:Int)::w).foldl (stp n st l) a).1,(((List.range' b d).flatMap fun c:Nat=>(Qmj n.Table.length j).map fun w=>p++(c:Int)::w).foldl (stp n st l) a).2.1,
      (((List.range' b d).flatMap fun c:Nat=>(Qmj n.Table.length j).map fun w=>p++(c:Int)::w).foldl (stp n st l) a).2.2,p++q'):=by
   intro d
   induction d with
   |zero=>
    intro b q0 fuel a hbd hfu hq0 ha
    obtain⟨fuel,rfl⟩:∃G,fuel=G+1:=⟨fuel-1,by omega⟩
    refine⟨(b:Int)::q0,by simp[hq0],?_⟩
    rw[Qdg,hb,Int.toNat_natCast,Qzu hp]
    simp only[chk,cond_true,Option.bind_some]
    rw[decide_eq_false (show ¬(b:Int)<(n.Table.length:Int) by omega),cond_false]
    rfl
   |succ d ih=>
    intro b q0 fuel a hbd hfu hq0 ha
    obtain⟨fuel,rfl⟩:∃G,fuel=G+1:=⟨fuel-1,by omega⟩
    obtain⟨q1,hq1,e⟩:=ihj (k+1) F (p++[(b:Int)]) q0 a (by omega) (by simp[hp]) hq0 (by omega) ha
    have ha1:=Zky n st l ((Qmj n.Table.length j).map ((p++[(b:Int)]) ++ ·)) a ha
    rw[List.append_assoc,List.singleton_append,List.append_assoc,List.singleton_append] at e
    obtain⟨q2,hq2,e2⟩:=ih (b+1) q1 fuel _ (by omega) (by omega) hq1 ha1
    refine⟨q2,hq2,?_⟩
    rw[Qdg,hb,Int.toNat_natCast,Qzu hp]
    simp only[chk,cond_true,Option.bind_some]
    rw[decide_eq_true (show(b:Int)<(n.Table.length:Int) by omega),cond_true,w64S (i:=k) (by omega),e,Option.bind_some]
    dsimp only
    rw[Qzu hp,Option.bind_some,Zdj hp,w64S (i:=b) (by omega),e2,List.range'_succ,List.flatMap_cons,List.foldl_append]
    rw[show((Qmj n.Table.length j).map fun w=>p++(b:Int)::w)=(Qmj n.Table.length j).map ((p++[(b:Int)]) ++ ·) from List.map_congr_left fun w _=>by rw[List.append_assoc,List.singleton_append]]
    rfl
  obtain⟨q',hq',e⟩:=inner n.Table.length 0 q0 F a (by omega) (by omega) hq0 ha
  refine⟨q',hq',?_⟩
  rw[Qfm]
  unfold Qgt
  rw[show((k:Int)==(M:Int))=false by simp;omega,cond_false,hb,Int.toNat_natCast,Qzu hp]
  simp only[chk,cond_true,Option.bind_some]
  rw[Zdj hp]
  refine e.trans ?_
  rw[Qmj,List.map_flatMap,List.range_eq_range']
  simp only[List.map_map]
  rfl
end
def bstF (n:GNet) (st:List Int) (l:List (List Qaa)):BS:=(Qmj n.Table.length (ofL 4 0 n.Elements).length).foldl (stp n st l) (-1,[],false)
def Q2x (n:GNet) (st:List Int) (l:List (List Qaa)):List Int×Int×Int:=
 if Qj8 n st l=0 then(if (ofL 4 0 n.Elements).length>3 then([],0,3) else bif (bstF n st l).2.2 then((bstF n st l).2.1,(bstF n st l).1,0) else([],0,7)) else([],0,Qj8 n st l)
theorem Zox {N:Nat}{n:GNet}(hs:Qim n) (hN:1100≤N) {st:List Int}{l:List (List Qaa)}(hl:l.length≤1000) (hc:∀c∈l,c.length≤1000) (hl2:st.length≤1000):Qnn N n st l=some (Q2x n st l):=by
 have e0:=hs.e
 have e1:(ofL 4 0 n.Elements).length≤n.Elements.length:=by rw[Qjc];exact List.length_filter_le _ _
 unfold Qnn Q2x
 rw[Zhi hs (by omega) hl hc hl2,Option.bind_some]
 by_cases hg:Qj8 n st l=0
 ·rw[if_pos hg,hg,bne_self_eq_false,cond_false,Q6r hs (by omega) 4,Option.bind_some]
  by_cases h3:(ofL 4 0 n.Elements).length>3
  ·rw[if_pos h3,decide_eq_true (show((ofL 4 0 n.Elements).length:Int)>3 by omega),cond_true]
  ·rw[if_neg h3,decide_eq_false (show ¬((ofL 4 0 n.Elements).length:Int)>3 by omega),cond_false]
   simp only[chk]
   rw[show(decide ((0:Int)≤((ofL 4 0 n.Elements).length:Int))&&decide (8*((ofL 4 0 n.Elements).length:Int)≤281474976710656)&&decide (((ofL 4 0 n.Elements).length:Int)≤9223372036854775807))=true by simp;omega,cond_true]
   obtain⟨q',_,e⟩:=Zja hs hl hg (ofL 4 0 n.Elements).length 0 N [] (List.replicate (ofL 4 0 n.Elements).length 0) (-1,[],false) (by omega) rfl (by simp) (by omega) (Int.le_refl _)
   rw[List.nil_append] at e
   rw[Int.toNat_natCast]
   refine(congrArg (fun o=>Option.bind o _) e).trans ?_
   rw[Option.bind_some]
   have hm:(Qmj n.Table.length (ofL 4 0 n.Elements).length).map (([]:List Int) ++ ·)=Qmj n.Table.length (ofL 4 0 n.Elements).length:=by
    simp
   rw[hm]
   unfold bstF
   cases ((Qmj n.Table.length (ofL 4 0 n.Elements).length).foldl (stp n st l) (-1,[],false)).2.2<;>rfl
 ·rw[if_neg hg,show(Qj8 n st l != 0)=true by simpa using hg,cond_true]
end
section
def Qdx (N:Nat) (p0:GNet) (p1:Nat) (p2:List Int) (k7:(List Qaf)→Option GNet):Nat→Int→Int→(List Qaf)→Option GNet
  |0,_,_,_=>none
  |n15+1,y9,y10,y11=>
    bif (decide (y10<((p0.Elements.length:Nat):Int))) then
     chk (decide (0≤y10)&&decide (y10.toNat<p0.Elements.length))<|
     (y11[y10.toNat]?).bind fun x18=>
     bif (x18.Kind==4) then
      chk (decide (0≤y9)&&decide (y9.toNat<p1))<|
      (p2[y9.toNat]?).bind fun x22=>
      chk (decide (0≤y10)&&decide (y10.toNat<p0.Elements.length))<|
      (y11[y10.toNat]?).bind fun x25=>
      Qdx N p0 p1 p2 k7 n15 (w64 (y9+1)) (w64 (y10+1)) (y11.set y10.toNat (⟨x25.Kind,x25.From,x22,x25.Amount,x25.Wide,x25.Narrow,x25.Weights⟩:Qaf))
     else
      Qdx N p0 p1 p2 k7 n15 y9 (w64 (y10+1)) y11
    else
     k7 (y11)
def Qk9 (N:Nat) (p0:GNet) (p1:Nat) (p2:List Int):Option GNet:=
  chk (!p0.Elements.isEmpty)<|
  chk (decide ((0+p0.Elements.length)*88≤140737488355328))<|
  Qbc (fun y6=>
    chk (decide (p0.Elements.length≤y6.length))<|
    some (⟨p0.Table,y6.take p0.Elements.length⟩:GNet)) fun k7:(List Qaf)→Option GNet=>
  Qdx N p0 p1 p2 k7 N 0 0 p0.Elements
abbrev Qtr (p0:GNet):AV:=.dat 5 (p0.Table.map Qap)
abbrev Zke (p0:GNet):AV:=.dat 7 (p0.Elements.map Qae)
def Zkd:AV:=.acc 3 59 7 ((([]:List Qaf):List Qaf).map Qae)
def Za9 (p0:GNet):Slot:=.own 7 (p0.Elements.map Qae)
def Qu3 (p0:GNet):Slot:=.own 2 [[(Qtr p0),(.own 3 7 (0) p0.Elements.length)]]
def Q3j (y6:List Qaf) (p0:GNet):AV:=.dat 7 ((y6.take p0.Elements.length:List Qaf).map Qae)
def Zbc (p0:GNet) (y6:List Qaf):AV:=.dat 5 (((⟨p0.Table,y6.take p0.Elements.length⟩:GNet).Table:List GRow).map Qap)
def Zbb (p0:GNet) (y6:List Qaf):AV:=.dat 7 (((⟨p0.Table,y6.take p0.Elements.length⟩:GNet).Elements:List Qaf).map Qae)
def Qqh (y11:List Qaf):Slot:=.own 7 (y11.map Qae)
def Zba (y11:List Qaf) (y10:Int) (x25:Qaf) (x22:Int):Slot:=.own 7 ((y11.set y10.toNat (⟨x25.Kind,x25.From,x22,x25.Amount,x25.Wide,x25.Narrow,x25.Weights⟩:Qaf):List Qaf).map Qae)
theorem Qvr (N:Nat) (p0:GNet) (p1:Nat) (p2:List Int) (r:GNet) (h:Qk9 N p0 p1 p2=some r):Spec prog 30 [(.agg [(Qtr p0),(Zke p0)]),(.own 0 1 (0) p1)] [(.own 1 (p2.map Qac))] (.agg [(.dat 5 (r.Table.map Qap)),(.dat 7 (r.Elements.map Qae))]) [(.own 1 (p2.map Qac)),(.own 2 [[(.dat 5 (r.Table.map Qap)),(.dat 7 (r.Elements.map Qae))]])]:=by
  refine sF func30 2 fun _ _ _ hq hd0=>?_
  unfold Qk9 at h
  refine wxz ?_
  obtain⟨ha5,h⟩:=cko h
  obtain⟨ha4,h⟩:=cko h
  refine wxd tbk [(2,⟨[],[(3,.unused)],Zkd,[(3,.tok)],false⟩),(5,⟨[(.tmp 10,Zkd),(.tmp 12,(Zke p0))],[(3,.tok),(4,.unused)],(.own 4 7 (0) p0.Elements.length),[(3,.dead),(4,(Za9 p0))],false⟩),(6,rp _ _)] ⟨Qd5 rfl underlying24 ti59 tz59,Qtl rfl underlying24 te59 (Base.acc _ _) rfl rfl (Qhe ha5) (Qh1 Qae Qtx _) (Quw Qae ha4) (Quv Qae ha4 (by decide)) (List.length_map _),Qaz (vs:=[(Qtr p0),(.own 4 7 (0) p0.Elements.length)]) rfl ts26 tz26 rfl (by rfl) rfl,tv⟩<|wxz ?_
  obtain⟨k7,hk_k7,h⟩:=jko h
  refine wjn (τ:=(List Qaf)) (fun t=>k7 t=some r) (fun y6=>⟨mk 41 [(4,.ref 1 2 0 0),(5,.ref 2 2 0 0)],[(.own 1 (p2.map Qac)),(.own 2 [[nilS,nilS]]),(Qu3 p0),(.own 7 (y6.map Qae))]⟩) (fun y6 h=>?_) ?_
  ·subst hk_k7
   refine wxz ?_
   obtain⟨hz8,h⟩:=cko h
   refine wmr (Qv7 (n:=41) (mp:=2) (m:=7) (xs:=y6.map Qae) (c:=[(Qtr p0),(.own 3 7 (0) p0.Elements.length)]) (l':=[(4,.ref 1 2 0 0)]) (c':=[(Qtr p0),(Q3j y6 p0)]) (own':=[(.own 1 (p2.map Qac)),(.own 2 [[(Qtr p0),(Q3j y6 p0)]]),(Qu3 p0),.dead]) 3 1 [(4,.ref 1 2 0 0)] (by kernel_rfl) (by kernel_rfl) (by kernel_rfl) (by kernel_rfl) ⟨(.same _),(Qlr hz8),tv⟩ ⟨rfl,(.same _),tv⟩ (by kernel_rfl)) ?_
   refine wmr (mto (n:=41) (l':=[(4,.ref 1 2 0 0)]) (own':=[(.own 1 (p2.map Qac)),(.own 2 [[(.dat 5 ((((⟨p0.Table,y6.take p0.Elements.length⟩:GNet).Table):List GRow).map Qap)),(.dat 7 ((((⟨p0.Table,y6.take p0.Elements.length⟩:GNet).Elements):List Qaf).map Qae))]])]) [(4,.ref 1 2 0 0)] [0,1] [(.own 1 (p2.map Qac)),(.own 2 [[(Qtr p0),(Q3j y6 p0)]])] hq (prr pn) (qc (spr Qah) (qb (lc (rnd Qan) (lc (rnd Qab) ln)) qn)))<|Qai ?_
   obtain rfl:=osi h
   exact⟨_,Mor.rfl,fio [(.agg [(Zbc p0 y6),(Zbb p0 y6)])] ⟨Qbv (n:=1) (m:=2) (j:=0) (i:=0) (xs:=[[(Zbc p0 y6),(Zbb p0 y6)]]) (by kernel_rfl) (by kernel_rfl) ti26 (by decide) rfl (nle rfl) rfl,tv⟩⟩
  ·skip
   refine wxz<|Qao ?_
   refine wmr (mto (n:=41) (l':=[(1,(.own 0 1 (0) p1)),(4,.ref 1 2 0 0),(5,.ref 2 2 0 0),(6,I 0),(7,I 0)]) (own':=[(.own 1 (p2.map Qac)),(.own 2 [[nilS,nilS]]),(Qu3 p0),(Za9 p0)]) [(1,(.own 0 1 (0) p1)),(4,.ref 2 2 0 0),(5,.ref 5 2 0 0),(6,I 0),(7,I 0)] [0,2,5,4] [(.own 1 (p2.map Qac)),(.own 2 [[nilS,nilS]]),(.own 2 [[(Qtr p0),(.own 4 7 (0) p0.Elements.length)]]),(Za9 p0)] hq (pc (.rn (Qav rfl)) (prr (prr (pw (pw pn))))) (qc (spr Qah) (qb (lcc ln) (qb (lc (rnd Qan) (lc (.rn (Qav rfl)) ln)) (qc (spr Qab) qn))))) ?_
   refine Qbl (τ:=Int×Int×(List Qaf)) (fun n t=>Qdx N p0 p1 p2 k7 n t.1 t.2.1 t.2.2=some r) (fun ⟨y9,y10,y11⟩=>⟨mk 41 [(1,(.own 0 1 (0) p1)),(4,.ref 1 2 0 0),(5,.ref 2 2 0 0),(6,I y9),(7,I y10)],[(.own 1 (p2.map Qac)),(.own 2 [[nilS,nilS]]),(Qu3 p0),(Qqh y11)]⟩) (fun t h=>by rw[Qdx] at h;cases h) (fun n15 ih t h=>?_) N (0,0,p0.Elements) h
   obtain⟨y9,y10,y11⟩:=t
   rw[Qdx] at h
   skip
   refine wsq<|wx tbk [(3,rp [(.tmp 17,(.own 3 7 (0) p0.Elements.length))] (I (((p0.Elements.length:Nat):Int))))] ⟨aln rfl underlying24 rfl,tv⟩ ?_
   refine bfe h (fun hc16 h=>?_) fun hc16 h=>?_
   ·refine wft hc16<|Qam<|thn<|wsq<|Qao ?_
    obtain⟨hi17,h⟩:=cko h
    obtain⟨hi17a,hi17b⟩:=Qcv hi17
    obtain⟨x18,hg19,h⟩:=bno h
    refine wx tbk [(3,rb [(.tmp 23,(.own 3 7 (0) p0.Elements.length)),(.tmp 24,I y10)] [(3,(Qqh y11))] (.ref 3 7 y10.toNat 0)),(5,rb [(.tmp 26,(.ref 3 7 y10.toNat 0))] [(3,(Qqh y11))] (K .u8 x18.Kind))] ⟨aio rfl underlying24 ti59 (odt hi17a) (odt hi17b) (Nat.zero_add _),ald rfl ti5 (by decide) (mgt Qae hg19) (nle rfl) rfl,tv⟩ ?_
    refine bfe h (fun hc20 h=>?_) fun hc20 h=>?_
    ·refine wft hc20 ?_
     obtain⟨hi21,h⟩:=cko h
     obtain⟨hi21a,hi21b⟩:=Qcv hi21
     obtain⟨x22,hg23,h⟩:=bno h
     obtain⟨hi24,h⟩:=cko h
     obtain⟨hi24a,hi24b⟩:=Qcv hi24
     obtain⟨x25,hg26,h⟩:=bno h
     refine wxd tbk [(5,rb [(.tmp 32,(.own 0 1 (0) p1)),(.tmp 33,I y9)] [(0,(.own 1 (p2.map Qac)))] (.ref 0 1 y9.toNat 0)),(6,rb [(.tmp 34,(.ref 0 1 y9.toNat 0))] [(0,(.own 1 (p2.map Qac)))] (I x22)),(7,rb [(.tmp 30,(.own 3 7 (0) p0.Elements.length)),(.tmp 31,I y10)] [(3,(Qqh y11))] (.ref 3 7 y10.toNat 0)),(9,⟨[(.tmp 37,(.ref 3 7 y10.toNat 2)),(.tmp 35,I x22)],[(3,(Qqh y11))],.any,[(3,(Zba y11 y10 x25 x22))],false⟩)] ⟨aio rfl underlying27 ti3 (odt hi21a) (odt hi21b) (Nat.zero_add _),ald rfl ti3 (by decide) (mgt Qac hg23) (nle rfl) rfl,aio rfl underlying24 ti59 (odt hi24a) (odt hi24b) (Nat.zero_add _),ast rfl ti3 (by rfl) (mgt Qae hg26) (nle rfl) (Qff Qae rfl),tv⟩<|wxz1<|bln<|thn<|wxz1<|thn ?_
     exact arm (mto (n:=41) [(1,(.own 0 1 (0) p1)),(4,.ref 1 2 0 0),(5,.ref 2 2 0 0),(6,(I (w64 (y9+1)))),(7,(I (w64 (y10+1))))] [0,1,2,3] [(.own 1 (p2.map Qac)),(.own 2 [[nilS,nilS]]),(Qu3 p0),(Zba y11 y10 x25 x22)] hq (pc (.rn (Qav rfl)) (prr (prr (pw (pw pn))))) (qc (spr Qah) (qb (lcc ln) (qb (lc (rnd Qan) (lc (.rn (Qav rfl)) ln)) (qc (spr Qab) qn))))) (ih (w64 (y9+1),w64 (y10+1),y11.set y10.toNat (⟨x25.Kind,x25.From,x22,x25.Amount,x25.Wide,x25.Narrow,x25.Weights⟩:Qaf)) h)
    ·exact wfn hc20<|Qam<|bln<|thn<|wxz1<|thn<|arm (mto (n:=41) [(1,(.own 0 1 (0) p1)),(4,.ref 1 2 0 0),(5,.ref 2 2 0 0),(6,I y9),(7,(I (w64 (y10+1))))] [0,1,2,3] [(.own 1 (p2.map Qac)),(.own 2 [[nilS,nilS]]),(Qu3 p0),(Qqh y11)] hq (pc (.rn (Qav rfl)) (prr (prr (pw (pw pn))))) (qc (spr Qah) (qb (lcc ln) (qb (lc (rnd Qan) (lc (.rn (Qav rfl)) ln)) (qc (spr Qab) qn))))) (ih (y9,w64 (y10+1),y11) h)
   ·exact wfn hc16<|Qa7<|Qau<|Qau<|Qa6 rfl<|thn<|⟨(y11),h,(mto (n:=41) [(4,.ref 1 2 0 0),(5,.ref 2 2 0 0)] [0,1,2,3] [(.own 1 (p2.map Qac)),(.own 2 [[nilS,nilS]]),(Qu3 p0),(Qqh y11)] hq (prr (prr pn)) (qc (spr Qah) (qb (lcc ln) (qb (lc (rnd Qan) (lc (.rn (Qav rfl)) ln)) (qc (spr Qab) qn)))))⟩
def Qcw (N:Nat) (p1:List Int) (p2:List (List Qaa)) (x3:GNet) (k9:Int→Option Int):Nat→Int→Int→Option Int
  |0,_,_=>none
  |n14+1,y10,y11=>
    bif (decide (y11<(p2.length:Int))) then
     (getI p2 y11).bind fun x16=>
     (Qmb N x3 p1 x16).bind fun x21=>
     bif (y11==0) then
      Qcw N p1 p2 x3 k9 n14 x21.2.1 (w64 (y11+1))
     else
      bif (decide (x21.2.1<y10)) then
       Qcw N p1 p2 x3 k9 n14 x21.2.1 (w64 (y11+1))
      else
       Qcw N p1 p2 x3 k9 n14 y10 (w64 (y11+1))
    else
     k9 (y10)
def Qi0 (N:Nat) (p0:GNet) (p1:List Int) (p2:List (List Qaa)) (p3:Nat) (p4:List Int):Option Int:=
  (Qk9 N p0 p3 p4).bind fun x3=>
  (Qjh N x3).bind fun x5=>
  bif (!x5) then
   some (-1)
  else
   Qbc (fun _=>
     Qbc (fun y8=>
       some y8) fun k9:Int→Option Int=>
     Qcw N p1 p2 x3 k9 N (-1) 0) fun k7:Unit→Option Int=>
   (Qjy N x3 p1 p2).bind fun x25=>
   bif (!x25.2.2) then
    some (-1)
   else
    bif (decide (x25.1≥0)) then
     some (-1)
    else
     k7 ()
abbrev Zkf (p0:GNet):AV:=.agg [(.dat 5 (p0.Table.map Qap)),(.dat 7 (p0.Elements.map Qae))]
abbrev Qrf (p2:List (List Qaa)):AV:=.dat 1 (p2.map Qag)
def Zl4 (x3:GNet):AV:=.agg [(.dat 5 (x3.Table.map Qap)),(.dat 7 (x3.Elements.map Qae))]
def Qnu (x3:GNet):Slot:=.own 2 [[(.dat 5 (x3.Table.map Qap)),(.dat 7 (x3.Elements.map Qae))]]
theorem Qsy (N:Nat) (p0:GNet) (p1:List Int) (p2:List (List Qaa)) (p3:Nat) (p4:List Int) (r:Int) (h:Qi0 N p0 p1 p2 p3 p4=some r):Spec prog 93 [(Zkf p0),(.dat 1 (p1.map Qac)),(Qrf p2),(.own 0 1 (0) p3)] [(.own 1 (p4.map Qac))] (I r) [(.own 1 (p4.map Qac))]:=by
  refine sF func93 1 fun _ _ _ hq hd0=>?_
  unfold Qi0 at h
  refine wxz ?_
  obtain⟨x3,hf2,h⟩:=bno h
  refine wx tbk [(2,⟨_,_,_,_,false⟩)] ⟨acq [(Zkf p0),(.own 0 1 (0) p3)] [(.own 1 (p4.map Qac))] [(.own 1 (p4.map Qac)),(Qnu x3)] (Zl4 x3) [0,2] Zoj (Qvr N p0 p3 p4 _ hf2) (Qbr (rnc (.plain _ (NLt.agg _ (nlc (nld Qan _) (nlc (nld Qab _) nl0)))) (rnc (Qcs rfl) rn0))) (slc (Qba Qah) Qas) (slc (Qba Qah) (slc (Qaq (rnc (pld Qan) (rnc (pld Qab) rn0))) Qas)) (.plain _ (NLt.agg _ (nlc (nld Qan _) (nlc (nld Qab _) nl0)))),tv⟩<|wsq ?_
  obtain⟨x5,hf4,h⟩:=bno h
  refine wx tbk [(1,rp _ _)] ⟨apw Zeh (Qo7 N x3 _ hf4),tv⟩ ?_
  refine bfe h (fun hc6 h=>?_) fun hc6 h=>?_
  ·refine wft hc6<|wxz ?_
   refine wmr (mto (n:=64) (l':=[(8,(I ((-1))))]) (own':=[(.own 1 (p4.map Qac))]) [(8,(I ((-1))))] [0] [(.own 1 (p4.map Qac))] hq (pw pn) (qc (spr Qah) qn))<|Qai<|Qaj ?_
   obtain rfl:=osi h
   exact⟨_,Mor.rfl,fio [(I ((-1)))] ⟨rot,tv⟩⟩
  ·refine wfn hc6<|Qam<|thn ?_
   obtain⟨k7,hk_k7,h⟩:=jko h
   refine wjn (τ:=Unit) (fun t=>k7 t=some r) (fun _=>⟨mk 64 [(1,(.dat 1 (p1.map Qac))),(2,(Qrf p2)),(9,.ref 1 2 0 0)],[(.own 1 (p4.map Qac)),(Qnu x3)]⟩) (fun t h=>?_) ?_
   ·subst hk_k7
    refine wxz ?_
    obtain⟨k9,hk_k9,h⟩:=jko h
    refine wjn (τ:=Int) (fun t=>k9 t=some r) (fun y8=>⟨mk 64 [(13,I y8)],[(.own 1 (p4.map Qac))]⟩) (fun y8 h=>?_) ?_
    ·subst hk_k9
     refine wxz<|wmr (mto (n:=64) (l':=[(8,I y8)]) (own':=[(.own 1 (p4.map Qac))]) [(8,I y8)] [0] [(.own 1 (p4.map Qac))] hq (pw pn) (qc (spr Qah) qn))<|Qai ?_
     obtain rfl:=osi h
     exact⟨_,Mor.rfl,fio [I y8] ⟨rot,tv⟩⟩
    ·skip
     refine wxz<|Qao ?_
     refine wmr (mto (n:=64) (l':=[(1,(.dat 1 (p1.map Qac))),(2,(Qrf p2)),(9,.ref 1 2 0 0),(13,(I ((-1)))),(14,I 0)]) (own':=[(.own 1 (p4.map Qac)),(Qnu x3)]) [(1,(.dat 1 (p1.map Qac))),(2,(Qrf p2)),(9,.ref 1 2 0 0),(13,(I ((-1)))),(14,I 0)] [0,1] [(.own 1 (p4.map Qac)),(Qnu x3)] hq (pc (rnd Qah) (pc (rnd Qak) (prr (pw (pw pn))))) (qc (spr Qah) (qb (lc (rnd Qan) (lc (rnd Qab) ln)) qn))) ?_
     refine Qbl (τ:=Int×Int) (fun n t=>Qcw N p1 p2 x3 k9 n t.1 t.2=some r) (fun ⟨y10,y11⟩=>⟨mk 64 [(1,(.dat 1 (p1.map Qac))),(2,(Qrf p2)),(9,.ref 1 2 0 0),(13,I y10),(14,I y11)],[(.own 1 (p4.map Qac)),(Qnu x3)]⟩) (fun t h=>by rw[Qcw] at h;cases h) (fun n14 ih t h=>?_) N ((-1),0) h
     obtain⟨y10,y11⟩:=t
     rw[Qcw] at h
     skip
     refine wsq<|wx tbk [(2,rp _ _)] ⟨alq 1 Qag p2 underlying49,tv⟩ ?_
     refine bfe h (fun hc15 h=>?_) fun hc15 h=>?_
     ·refine wft hc15<|Qam<|thn<|wsq<|Qao ?_
      obtain⟨x16,hg17,h⟩:=bno h
      obtain⟨hi18,hj19⟩:=gsm hg17
      obtain⟨x21,hf20,h⟩:=bno h
      refine wxd tbk [(4,rp _ _),(6,rp _ _)] ⟨aiq underlying49 ti28 Qag hi18 hj19,apw Zei (Qtv N x3 p1 x16 _ hf20),tv⟩ ?_
      refine bfe h (fun hb22 h=>?_) fun hb22 h=>?_
      ·exact wx tbk [(2,rp [(.tmp 56,(B ((y11==0))))] (B true))] ⟨asb hb22 (amv rfl),tv⟩<|wtr<|wxz1<|bln<|thn<|wxz1<|thn<|arm (mto (n:=64) [(1,(.dat 1 (p1.map Qac))),(2,(Qrf p2)),(9,.ref 1 2 0 0),(13,I x21.2.1),(14,(I (w64 (y11+1))))] [0,1] [(.own 1 (p4.map Qac)),(Qnu x3)] hq (pc (rnd Qah) (pc (rnd Qak) (prr (pw (pw pn))))) (qc (spr Qah) (qb (lc (rnd Qan) (lc (rnd Qab) ln)) qn))) (ih (x21.2.1,w64 (y11+1)) h)
      ·refine wx tbk [(2,rp [(.tmp 56,(B ((y11==0))))] (B false))] ⟨asb hb22 (amv rfl),tv⟩ ?_
       refine bfe h (fun hc23 h=>?_) fun hc23 h=>?_
       ·exact wft hc23<|wxz1<|bln<|thn<|wxz1<|thn<|arm (mto (n:=64) [(1,(.dat 1 (p1.map Qac))),(2,(Qrf p2)),(9,.ref 1 2 0 0),(13,I x21.2.1),(14,(I (w64 (y11+1))))] [0,1] [(.own 1 (p4.map Qac)),(Qnu x3)] hq (pc (rnd Qah) (pc (rnd Qak) (prr (pw (pw pn))))) (qc (spr Qah) (qb (lc (rnd Qan) (lc (rnd Qab) ln)) qn))) (ih (x21.2.1,w64 (y11+1)) h)
       ·exact wfn hc23<|Qam<|bln<|thn<|wxz1<|thn<|arm (mto (n:=64) [(1,(.dat 1 (p1.map Qac))),(2,(Qrf p2)),(9,.ref 1 2 0 0),(13,I y10),(14,(I (w64 (y11+1))))] [0,1] [(.own 1 (p4.map Qac)),(Qnu x3)] hq (pc (rnd Qah) (pc (rnd Qak) (prr (pw (pw pn))))) (qc (spr Qah) (qb (lc (rnd Qan) (lc (rnd Qab) ln)) qn))) (ih (y10,w64 (y11+1)) h)
     ·exact wfn hc15<|Qa7<|Qau<|Qau<|Qa6 rfl<|thn<|⟨(y10),h,(mto (n:=64) [(13,I y10)] [0] [(.own 1 (p4.map Qac))] hq (pw pn) (qc (spr Qah) qn))⟩
   ·skip
    obtain⟨x25,hf24,h⟩:=bno h
    refine wx tbk [(3,rp _ _)] ⟨apw Zoe (Quh N x3 p1 p2 _ hf24),tv⟩ ?_
    refine bfe h (fun hb26 h=>?_) fun hb26 h=>?_
    ·refine wx tbk [(2,rp [(.tmp 33,(B ((!x25.2.2))))] (B true))] ⟨asb hb26 (amv rfl),tv⟩<|wtr<|wxz ?_
     refine wmr (mto (n:=64) (l':=[(8,(I ((-1))))]) (own':=[(.own 1 (p4.map Qac))]) [(8,(I ((-1))))] [0] [(.own 1 (p4.map Qac))] hq (pw pn) (qc (spr Qah) qn))<|Qai<|Qaj ?_
     obtain rfl:=osi h
     exact⟨_,Mor.rfl,fio [(I ((-1)))] ⟨rot,tv⟩⟩
    ·refine wx tbk [(2,rp [(.tmp 33,(B ((!x25.2.2))))] (B false))] ⟨asb hb26 (amv rfl),tv⟩ ?_
     refine bfe h (fun hc27 h=>?_) fun hc27 h=>?_
     ·refine wft hc27<|wxz ?_
      refine wmr (mto (n:=64) (l':=[(8,(I ((-1))))]) (own':=[(.own 1 (p4.map Qac))]) [(8,(I ((-1))))] [0] [(.own 1 (p4.map Qac))] hq (pw pn) (qc (spr Qah) qn))<|Qai<|Qaj ?_
      obtain rfl:=osi h
      exact⟨_,Mor.rfl,fio [(I ((-1)))] ⟨rot,tv⟩⟩
     ·exact wfn hc27<|Qam<|thn<|⟨(),h,(mto (n:=64) [(1,(.dat 1 (p1.map Qac))),(2,(Qrf p2)),(9,.ref 3 2 0 0)] [0,3] [(.own 1 (p4.map Qac)),(Qnu x3)] hq (pc (rnd Qah) (pc (rnd Qak) (prr pn))) (qc (spr Qah) (qb (lc (rnd Qan) (lc (rnd Qab) ln)) qn)))⟩
def Qec (N:Nat) (p0:GNet) (x2:Int) (k21:(List Int)→Option ((List Int)×Int)):Nat→Int→Int→(List Int)→Option ((List Int)×Int)
  |0,_,_,_=>none
  |n32+1,y26,y27,y28=>
    bif (decide (y27≥0)) then
     chk ((p0.Table.length:Int) != 0)<|
     chk (decide (0≤y27)&&decide (y27.toNat<x2.toNat))<|
     (y28[y27.toNat]?).bind fun _=>
     chk ((p0.Table.length:Int) != 0)<|
     (some (w64 (y26.tdiv (p0.Table.length:Int)))).bind fun x39=>
     Qec N p0 x2 k21 n32 x39 (w64 (y27-1)) (y28.set y27.toNat (y26.tmod (p0.Table.length:Int)))
    else
     k21 (y28)
def Qed (N:Nat) (p0:GNet) (p1:List Int) (p2:List (List Qaa)) (x2 y3:Int) (k7:(List Int)×Int→Option ((List Int)×Int)):Nat→(List Int)→Int→Int→Option ((List Int)×Int)
  |0,_,_,_=>none
  |n14+1,y8,y9,y10=>
    bif (decide (y10<y3)) then
     Qbc (fun ⟨y16,y17⟩=>
       Qed N p0 p1 p2 x2 y3 k7 n14 y16 y17 (w64 (y10+1))) fun k18:(List Int)×Int→Option ((List Int)×Int)=>
     chk (decide (0≤x2)&&decide (8*x2≤281474976710656)&&decide (x2≤9223372036854775807))<|
     Qbc (fun y20=>
       (Qi0 N p0 p1 p2 x2.toNat y20).bind fun x23=>
       bif (decide (x23>y9)) then
        chk (decide (x2.toNat≤y20.length))<|
        k18 (y20.take x2.toNat,x23)
       else
        k18 (y8,y9)) fun k21:(List Int)→Option ((List Int)×Int)=>
     Qec N p0 x2 k21 N y10 (w64 (x2-1)) (List.replicate x2.toNat 0)
    else
     k7 (y8,y9)
def Qeb (N:Nat) (p0:GNet) (x2:Int) (k4:Int→Option ((List Int)×Int)):Nat→Int→Int→Option ((List Int)×Int)
  |0,_,_=>none
  |n45+1,y41,y42=>
    bif (decide (y42<x2)) then
     (some (w64 (y41*(p0.Table.length:Int)))).bind fun x47=>
     Qeb N p0 x2 k4 n45 x47 (w64 (y42+1))
    else
     k4 (y41)
def Qkh (N:Nat) (p0:GNet) (p1:List Int) (p2:List (List Qaa)):Option ((List Int)×Int):=
  (Qgc N p0 4).bind fun x2=>
  Qbc (fun y3=>
    Qbc (fun ⟨y5,y6⟩=>
      some (y5,y6)) fun k7:(List Int)×Int→Option ((List Int)×Int)=>
    Qed N p0 p1 p2 x2 y3 k7 N ([]) (-1) 0) fun k4:Int→Option ((List Int)×Int)=>
  Qeb N p0 x2 k4 N 1 0
def Zkh (p0:GNet):AV:=.dat 5 (p0.Table.map Qap)
def Zqe (p0:GNet):AV:=.agg [(Zkh p0),(.dat 7 (p0.Elements.map Qae))]
def Qit (p2:List (List Qaa)):AV:=.dat 1 (p2.map Qag)
def Qje (p0:GNet):Slot:=.own 2 [[(Zkh p0),(.dat 7 (p0.Elements.map Qae))]]
def Zkg (x2:Int):Slot:=.own 1 ((List.replicate x2.toNat 0:List Int).map Qac)
theorem Qxd (N:Nat) (p0:GNet) (p1:List Int) (p2:List (List Qaa)) (r:((List Int)×Int)) (h:Qkh N p0 p1 p2=some r):Spec prog 52 [(.agg (Qgw p0)),(.dat 1 (p1.map Qac)),(.dat 1 (p2.map Qag))] [] (.tup [(.dat 1 (r.1.map Qac)),(I r.2)]) []:=by
  refine sA func52 0 fun _ _ _ hq hd0=>?_
  unfold Qkh at h
  refine wxz ?_
  obtain⟨x2,hf1,h⟩:=bno h
  refine wx tbk [(1,rp _ _)] ⟨apw Qz9 (Qjz N p0 4 _ hf1),tv⟩<|wxz ?_
  obtain⟨k4,hk_k4,h⟩:=jko h
  refine wjn (τ:=Int) (fun t=>k4 t=some r) (fun y3=>⟨mk 69 [(1,(.dat 1 (p1.map Qac))),(2,(Qit p2)),(3,.ref 0 2 0 0),(8,I x2),(9,I y3)],[(Qje p0)]⟩) (fun y3 h=>?_) ?_
  ·subst hk_k4
   refine wxz<|wxz ?_
   obtain⟨k7,hk_k7,h⟩:=jko h
   refine wjn (τ:=(List Int)×Int) (fun t=>k7 t=some r) (fun ⟨y5,y6⟩=>⟨mk 69 [(11,(.dat 1 (y5.map Qac))),(12,I y6)],[]⟩) (fun t h=>?_) ?_
   ·subst hk_k7
    obtain⟨y5,y6⟩:=t
    refine wxz<|Qai ?_
    obtain rfl:=osi h
    exact fie [(.dat 1 (y5.map Qac)),I y6] ⟨rot,rot,tv⟩
   ·skip
    refine wxz<|Qao ?_
    refine wmr (mto (n:=69) (l':=[(1,(.dat 1 (p1.map Qac))),(2,(Qit p2)),(3,.ref 0 2 0 0),(8,I x2),(9,I y3),(11,(.dat 1 ((([]):List Int).map Qac))),(12,(I ((-1)))),(13,I 0)]) (own':=[(Qje p0)]) [(1,(.dat 1 (p1.map Qac))),(2,(Qit p2)),(3,.ref 0 2 0 0),(8,I x2),(9,I y3),(11,nilS),(12,(I ((-1)))),(13,I 0)] [0] [(Qje p0)] hq (pc (rnd Qah) (pc (rnd Qak) (prr (pw (pw (pc (.nil _) (pw (pw pn)))))))) (qb (lc (rnd Qan) (lc (rnd Qab) ln)) qn)) ?_
    refine Qbl (τ:=(List Int)×Int×Int) (fun n t=>Qed N p0 p1 p2 x2 y3 k7 n t.1 t.2.1 t.2.2=some r) (fun ⟨y8,y9,y10⟩=>⟨mk 69 [(1,(.dat 1 (p1.map Qac))),(2,(Qit p2)),(3,.ref 0 2 0 0),(8,I x2),(9,I y3),(11,(.dat 1 (y8.map Qac))),(12,I y9),(13,I y10)],[(Qje p0)]⟩) (fun t h=>by rw[Qed] at h;cases h) (fun n14 ih t h=>?_) N ([],(-1),0) h
    obtain⟨y8,y9,y10⟩:=t
    rw[Qed] at h
    skip
    refine wsq<|wxz ?_
    refine bfe h (fun hc15 h=>?_) fun hc15 h=>?_
    ·refine wft hc15<|Qam<|thn ?_
     obtain⟨k18,hk_k18,h⟩:=jko h
     refine wjn (τ:=(List Int)×Int) (fun t=>k18 t=some r) (fun ⟨y16,y17⟩=>⟨mk 69 [(1,(.dat 1 (p1.map Qac))),(2,(Qit p2)),(3,.ref 0 2 0 0),(8,I x2),(9,I y3),(11,(.dat 1 (y16.map Qac))),(12,I y17),(13,I y10)],[(Qje p0)]⟩) (fun t h=>?_) ?_
     ·subst hk_k18
      obtain⟨y16,y17⟩:=t
      exact wxz1<|thn<|arm (mto (n:=69) [(1,(.dat 1 (p1.map Qac))),(2,(Qit p2)),(3,.ref 0 2 0 0),(8,I x2),(9,I y3),(11,(.dat 1 (y16.map Qac))),(12,I y17),(13,(I (w64 (y10+1))))] [0] [(Qje p0)] hq (pc (rnd Qah) (pc (rnd Qak) (prr (pw (pw (pc (rnd Qah) (pw (pw pn)))))))) (qb (lc (rnd Qan) (lc (rnd Qab) ln)) qn)) (ih (y16,y17,w64 (y10+1)) h)
     ·skip
      refine Qao ?_
      obtain⟨hm19,h⟩:=cko h
      refine wx tbk [(1,⟨[(.tmp 35,I x2),(.tmp 35,I x2)],[(1,.unused)],(.own 1 1 (0) x2.toNat),[(1,(Zkg x2))],false⟩)] ⟨Qkq rfl underlying27 te3 tz3 rfl (Qw6 hm19) rfl (Qw5 hm19) (Qw4 hm19) (Qsx Qac rfl),tv⟩<|wxz ?_
      obtain⟨k21,hk_k21,h⟩:=jko h
      refine wjn (τ:=(List Int)) (fun t=>k21 t=some r) (fun y20=>⟨mk 69 [(1,(.dat 1 (p1.map Qac))),(2,(Qit p2)),(3,.ref 0 2 0 0),(8,I x2),(9,I y3),(11,(.dat 1 (y8.map Qac))),(12,I y9),(13,I y10),(14,(.own 1 1 (0) x2.toNat))],[(Qje p0),(.own 1 (y20.map Qac))]⟩) (fun y20 h=>?_) ?_
      ·subst hk_k21
       obtain⟨x23,hf22,h⟩:=bno h
       refine wx tbk [(4,⟨_,_,_,_,false⟩)] ⟨acq [(Zqe p0),(.dat 1 (p1.map Qac)),(Qit p2),(.own 1 1 (0) x2.toNat)] [(.own 1 (y20.map Qac))] [(.own 1 (y20.map Qac))] (I x23) [1] Zno (Qsy N p0 p1 p2 x2.toNat y20 _ hf22) (Qbr (rnc (.plain _ (NLt.agg _ (nlc (nld Qan _) (nlc (nld Qab _) nl0)))) (rnc (pld Qah) (rnc (pld Qak) (rnc (Qcs rfl) rn0))))) (slc (Qba Qah) Qas) (slc (Qba Qah) Qas) (.plain _ nll),tv⟩<|wxz ?_
       refine bfe h (fun hc24 h=>?_) fun hc24 h=>?_
       ·refine wft hc24<|wxz1<|bln<|thn ?_
        obtain⟨hz25,h⟩:=cko h
        exact⟨(y20.take x2.toNat,x23),h,(Mor.trans (Q6v (n:=69) (m:=1) (xs:=y20.map Qac) (l':=[(1,(.dat 1 (p1.map Qac))),(2,(Qit p2)),(3,.ref 0 2 0 0),(8,I x2),(9,I y3),(11,(.dat 1 ((y20.take x2.toNat:List Int).map Qac))),(12,I x23),(13,I y10)]) (own':=[(Qje p0),.dead]) 1 [(1,(.dat 1 (p1.map Qac))),(2,(Qit p2)),(3,.ref 0 2 0 0),(8,I x2),(9,I y3),(11,(.own 1 1 (0) x2.toNat)),(12,I x23),(13,I y10)] (by kernel_rfl) (by kernel_rfl) (by kernel_rfl) ⟨rfl,.same _,rfl,.same _,rfl,.same _,rfl,.same _,rfl,.same _,rfl,(Qlr hz25),rfl,.same _,rfl,.same _,tv⟩ (by kernel_rfl)) (mto (n:=69) [(1,(.dat 1 (p1.map Qac))),(2,(Qit p2)),(3,.ref 0 2 0 0),(8,I x2),(9,I y3),(11,(.dat 1 ((y20.take x2.toNat:List Int).map Qac))),(12,I x23),(13,I y10)] [0] [(Qje p0)] hq (pc (rnd Qah) (pc (rnd Qak) (prr (pw (pw (pc (rnd Qah) (pw (pw pn)))))))) (qb (lc (rnd Qan) (lc (rnd Qab) ln)) qn)))⟩
       ·exact wfn hc24<|Qam<|bln<|thn<|⟨(y8,y9),h,(mto (n:=69) [(1,(.dat 1 (p1.map Qac))),(2,(Qit p2)),(3,.ref 0 2 0 0),(8,I x2),(9,I y3),(11,(.dat 1 (y8.map Qac))),(12,I y9),(13,I y10)] [0] [(Qje p0)] hq (pc (rnd Qah) (pc (rnd Qak) (prr (pw (pw (pc (rnd Qah) (pw (pw pn)))))))) (qb (lc (rnd Qan) (lc (rnd Qab) ln)) qn))⟩
      ·skip
       refine wxz<|Qao ?_
       refine wmr (mto (n:=69) (l':=[(1,(.dat 1 (p1.map Qac))),(2,(Qit p2)),(3,.ref 0 2 0 0),(8,I x2),(9,I y3),(11,(.dat 1 (y8.map Qac))),(12,I y9),(13,I y10),(14,(.own 1 1 (0) x2.toNat)),(15,I y10),(16,(I ((w64 (x2-1)))))]) (own':=[(Qje p0),(.own 1 (((List.replicate x2.toNat 0):List Int).map Qac))]) [(1,(.dat 1 (p1.map Qac))),(2,(Qit p2)),(3,.ref 0 2 0 0),(8,I x2),(9,I y3),(11,(.dat 1 (y8.map Qac))),(12,I y9),(13,I y10),(14,(.own 1 1 (0) x2.toNat)),(15,I y10),(16,(I (w64 (x2-1))))] [0,1] [(Qje p0),(Zkg x2)] hq (pc (rnd Qah) (pc (rnd Qak) (prr (pw (pw (pc (rnd Qah) (pw (pw (pc (.rn (Qav rfl)) (pw (pw pn))))))))))) (qb (lc (rnd Qan) (lc (rnd Qab) ln)) (qc (spr Qah) qn))) ?_
       refine Qbl (τ:=Int×Int×(List Int)) (fun n t=>Qec N p0 x2 k21 n t.1 t.2.1 t.2.2=some r) (fun ⟨y26,y27,y28⟩=>⟨mk 69 [(1,(.dat 1 (p1.map Qac))),(2,(Qit p2)),(3,.ref 0 2 0 0),(8,I x2),(9,I y3),(11,(.dat 1 (y8.map Qac))),(12,I y9),(13,I y10),(14,(.own 1 1 (0) x2.toNat)),(15,I y26),(16,I y27)],[(Qje p0),(.own 1 (y28.map Qac))]⟩) (fun t h=>by rw[Qec] at h;cases h) (fun n32 ih t h=>?_) N (y10,w64 (x2-1),List.replicate x2.toNat 0) h
       obtain⟨y26,y27,y28⟩:=t
       rw[Qec] at h
       skip
       refine wsq<|wxz ?_
       refine bfe h (fun hc33 h=>?_) fun hc33 h=>?_
       ·refine wft hc33<|Qam<|thn<|wsq<|Qao ?_
        obtain⟨hz34,h⟩:=cko h
        obtain⟨hi35,h⟩:=cko h
        obtain⟨hi35a,hi35b⟩:=Qcv hi35
        obtain⟨x36,hg37,h⟩:=bno h
        refine wx tbk [(5,rp _ _),(6,rp [(.tmp 46,I y26),(.tmp 49,(I ((p0.Table.length:Int))))] (I (y26.tmod (p0.Table.length:Int)))),(7,rb [(.tmp 44,(.own 1 1 (0) x2.toNat)),(.tmp 45,I y27)] [(1,(.own 1 (y28.map Qac)))] (.ref 1 1 y27.toNat 0)),(8,⟨[(.tmp 51,(.ref 1 1 y27.toNat 0)),(.tmp 50,(I (y26.tmod (p0.Table.length:Int))))],[(1,(.own 1 (y28.map Qac)))],.any,[(1,(.own 1 ((y28.set y27.toNat (y26.tmod (p0.Table.length:Int)):List Int).map Qac)))],false⟩)] ⟨alq 5 Qap p0.Table underlying23,Qsj rfl (Qko hz34),aio rfl underlying27 ti3 (odt hi35a) (odt hi35b) (Nat.zero_add _),ast rfl ti3 (by rfl) (mgt Qac hg37) (nle rfl) (Qff Qac rfl),tv⟩ ?_
        obtain⟨hz38,h⟩:=cko h
        obtain⟨x39,hl40,h⟩:=bno h
        exact wx1 tbk [(3,rp _ _),(4,rp [(.tmp 52,I y26),(.tmp 55,(I ((p0.Table.length:Int))))] (I (w64 (y26.tdiv (p0.Table.length:Int))))),(5,rp [(.tmp 56,(I (w64 (y26.tdiv (p0.Table.length:Int)))))] (I x39))] ⟨alq 5 Qap p0.Table underlying23,Qkc rfl (Qko hz38),Qhg hl40 (aas rfl),tv⟩<|bln<|thn<|wxz1<|thn<|arm (mto (n:=69) [(1,(.dat 1 (p1.map Qac))),(2,(Qit p2)),(3,.ref 0 2 0 0),(8,I x2),(9,I y3),(11,(.dat 1 (y8.map Qac))),(12,I y9),(13,I y10),(14,(.own 1 1 (0) x2.toNat)),(15,I x39),(16,(I (w64 (y27-1))))] [0,1] [(Qje p0),(.own 1 ((y28.set y27.toNat (y26.tmod (p0.Table.length:Int)):List Int).map Qac))] hq (pc (rnd Qah) (pc (rnd Qak) (prr (pw (pw (pc (rnd Qah) (pw (pw (pc (.rn (Qav rfl)) (pw (pw pn))))))))))) (qb (lc (rnd Qan) (lc (rnd Qab) ln)) (qc (spr Qah) qn))) (ih (x39,w64 (y27-1),y28.set y27.toNat (y26.tmod (p0.Table.length:Int))) h)
       ·exact wfn hc33<|Qa7<|Qau<|Qau<|Qa6 rfl<|thn<|⟨(y28),h,(mto (n:=69) [(1,(.dat 1 (p1.map Qac))),(2,(Qit p2)),(3,.ref 0 2 0 0),(8,I x2),(9,I y3),(11,(.dat 1 (y8.map Qac))),(12,I y9),(13,I y10),(14,(.own 1 1 (0) x2.toNat))] [0,1] [(Qje p0),(.own 1 (y28.map Qac))] hq (pc (rnd Qah) (pc (rnd Qak) (prr (pw (pw (pc (rnd Qah) (pw (pw (pc (.rn (Qav rfl)) pn))))))))) (qb (lc (rnd Qan) (lc (rnd Qab) ln)) (qc (spr Qah) qn)))⟩
    ·exact wfn hc15<|Qa7<|Qau<|Qau<|Qa6 rfl<|thn<|⟨(y8,y9),h,(mto (n:=69) [(11,(.dat 1 (y8.map Qac))),(12,I y9)] [] [] hq (pc (rnd Qah) (pw pn)) qn)⟩
  ·skip
   refine wxz<|Qao ?_
   refine wmr (mto (n:=69) (l':=[(1,(.dat 1 (p1.map Qac))),(2,(Qit p2)),(3,.ref 0 2 0 0),(8,I x2),(9,I 1),(10,I 0)]) (own':=[(Qje p0)]) [(1,(.dat 1 (p1.map Qac))),(2,(Qit p2)),(3,.ref 0 2 0 0),(8,I x2),(9,I 1),(10,I 0)] [0] [(Qje p0)] hq (pc (rnd Qah) (pc (rnd Qak) (prr (pw (pw (pw pn)))))) (qb (lc (rnd Qan) (lc (rnd Qab) ln)) qn)) ?_
   refine Qbl (τ:=Int×Int) (fun n t=>Qeb N p0 x2 k4 n t.1 t.2=some r) (fun ⟨y41,y42⟩=>⟨mk 69 [(1,(.dat 1 (p1.map Qac))),(2,(Qit p2)),(3,.ref 0 2 0 0),(8,I x2),(9,I y41),(10,I y42)],[(Qje p0)]⟩) (fun t h=>by rw[Qeb] at h;cases h) (fun n45 ih t h=>?_) N (1,0) h
   obtain⟨y41,y42⟩:=t
   rw[Qeb] at h
   skip
   refine wsq<|wxz ?_
   refine bfe h (fun hc46 h=>?_) fun hc46 h=>?_
   ·refine wft hc46<|Qam<|thn<|wsq<|Qao ?_
    obtain⟨x47,hl48,h⟩:=bno h
    exact wx1 tbk [(3,rp _ _),(5,rp [(.tmp 29,(I (w64 (y41*(p0.Table.length:Int)))))] (I x47))] ⟨alq 5 Qap p0.Table underlying23,Qhg hl48 (aas rfl),tv⟩<|bln<|thn<|wxz1<|thn<|arm (mto (n:=69) [(1,(.dat 1 (p1.map Qac))),(2,(Qit p2)),(3,.ref 0 2 0 0),(8,I x2),(9,I x47),(10,(I (w64 (y42+1))))] [0] [(Qje p0)] hq (pc (rnd Qah) (pc (rnd Qak) (prr (pw (pw (pw pn)))))) (qb (lc (rnd Qan) (lc (rnd Qab) ln)) qn)) (ih (x47,w64 (y42+1)) h)
   ·exact wfn hc46<|Qa7<|Qau<|Qau<|Qa6 rfl<|thn<|⟨(y41),h,(mto (n:=69) [(1,(.dat 1 (p1.map Qac))),(2,(Qit p2)),(3,.ref 0 2 0 0),(8,I x2),(9,I y41)] [0] [(Qje p0)] hq (pc (rnd Qah) (pc (rnd Qak) (prr (pw (pw pn))))) (qb (lc (rnd Qan) (lc (rnd Qab) ln)) qn))⟩
def Qi7 (N:Nat) (p0:GNet) (p1:List Int) (p2:List (List Qaa)):Option Bool:=
  (Qgc N p0 4).bind fun x2=>
  Qbc (fun _=>
    (Ql0 N p0).bind fun x5=>
    (Qmg N p1).bind fun x7=>
    (Qld N p2).bind fun x9=>
    (Qnn N x5 x7 x9).bind fun x11=>
    (Qj6 N p0 p1 p2).bind fun x13=>
    Qbc (fun y14=>
      bif (y14 != 0) then
       bif (x11.2.2==y14) then
        bif ((x11.1.length:Int)==0) then
         bif (x11.2.1==0) then
          (Qhc 2000 ).bind fun x21=>
          some x21
         else
          some false
        else
         some false
       else
        some false
      else
       (Qkh N p0 p1 p2).bind fun x23=>
       bif (decide (x23.2<0)) then
        bif (x11.2.2==7) then
         bif ((x11.1.length:Int)==0) then
          bif (x11.2.1==0) then
           (Qhc 2000 ).bind fun x29=>
           some x29
          else
           some false
         else
          some false
        else
         some false
       else
        bif (x11.2.2==0) then
         (Qkj N x11.1 x23.1).bind fun x32=>
         bif x32 then
          bif (x11.2.1==x23.2) then
           (Qhc 2000 ).bind fun x36=>
           some x36
          else
           some false
         else
          some false
        else
         some false) fun k15:Int→Option Bool=>
    bif (x13==0) then
     bif (decide (x2>3)) then
      k15 (3)
     else
      k15 (x13)
    else
     k15 x13) fun k3:Unit→Option Bool=>
  (Qlz N p0 p2).bind fun x40=>
  bif (!x40) then
   (Qhc 2000 ).bind fun x43=>
   some x43
  else
   bif (decide ((p1.length:Int)>25)) then
    (Qhc 2000 ).bind fun x46=>
    some x46
   else
    bif (decide (x2≤3)) then
     (Qki N p0).bind fun x49=>
     bif x49 then
      (Qhc 2000 ).bind fun x52=>
      some x52
     else
      k3 ()
    else
     k3 ()
def Zki (p0:GNet):AV:=.agg [(.dat 5 (p0.Table.map Qap)),(.dat 7 (p0.Elements.map Qae))]
def Qts (p2:List (List Qaa)):AV:=.dat 1 (p2.map Qag)
def Qu5 (p0:GNet):Slot:=.own 2 [[(.dat 5 (p0.Table.map Qap)),(.dat 7 (p0.Elements.map Qae))]]
def Qu4 (x11:((List Int)×Int×Int)):AV:=.dat 1 (x11.1.map Qac)
def Qyw (x11:((List Int)×Int×Int)) (y14:Int):List (Nat×Rec):=[(3,rp [((.tmp 59),(B ((x11.2.2==y14))))] (B true)),(5,rp [((.tmp 60),(B true)),((.tmp 61),(Qu4 x11))] (I ((x11.1.length:Int))))]
def Qyv (x11:((List Int)×Int×Int)):List (Nat×Rec):=[(2,rp [((.tmp 82),(B ((x11.2.2==7))))] (B true)),(4,rp [((.tmp 83),(B true)),((.tmp 84),(Qu4 x11))] (I ((x11.1.length:Int))))]
def Qyu (x11:((List Int)×Int×Int)) (x23:((List Int)×Int)) (x32:Bool):List (Nat×Rec):=[(2,rp [((.tmp 96),(B ((x11.2.2==0))))] (B true)),(5,rp [((.tmp 97),(B true)),fu 49,((.tmp 98),(Qu4 x11)),((.tmp 99),(.dat 1 (x23.1.map Qac)))] (B x32))]
def Q3k (p0:GNet) (p2:List (List Qaa)) (x40:Bool):List (Nat×Rec):=[(2,rp [fu 39,((.tmp 16),(Zki p0)),((.tmp 17),(Qts p2))] (B x40))]
def Qyt p0 p2 x40 (p1:List Int):=hcat (Q3k p0 p2 x40) [(4,rp [((.tmp 19),(B ((!x40))))] (B false)),(6,rp [((.tmp 20),(B false)),((.tmp 21),(.dat 1 (p1.map Qac)))] (I ((p1.length:Int))))]
theorem Qqy (N:Nat) (p0:GNet) (p1:List Int) (p2:List (List Qaa)) (r:Bool) (h:Qi7 N p0 p1 p2=some r):Spec prog 11 [(.agg (Qgw p0)),(.dat 1 (p1.map Qac)),(.dat 1 (p2.map Qag))] [] (B r) []:=by
  refine sA func11 0 fun _ _ _ hq hd0=>?_
  unfold Qi7 at h
  refine wxz ?_
  obtain⟨x2,hf1,h⟩:=bno h
  refine wx tbk [(1,rp _ _)] ⟨apw Qz9 (Qjz N p0 4 _ hf1),tv⟩ ?_
  obtain⟨k3,hk_k3,h⟩:=jko h
  refine wjn (τ:=Unit) (fun t=>k3 t=some r) (fun _=>⟨mk 110 [(1,(.dat 1 (p1.map Qac))),(2,(Qts p2)),(3,.ref 0 2 0 0),(7,I x2)],[(Qu5 p0)]⟩) (fun t h=>?_) ?_
  ·subst hk_k3
   obtain⟨x5,hf4,h⟩:=bno h
   obtain⟨x7,hf6,h⟩:=bno h
   obtain⟨x9,hf8,h⟩:=bno h
   obtain⟨x11,hf10,h⟩:=bno h
   refine wx tbk [(1,rp _ _),(3,rp _ _),(5,rp _ _),(6,rp _ _)] ⟨apw Zom (Qzz N p0 _ hf4),apw Zol (Qxi N p1 _ hf6),apw Zog (Qwb N p2 _ hf8),apw Zoa (Qzn N x5 x7 x9 _ hf10),tv⟩ ?_
   obtain⟨x13,hf12,h⟩:=bno h
   refine wx tbk [(3,rp _ _)] ⟨apw Zof (Qui N p0 p1 p2 _ hf12),tv⟩ ?_
   obtain⟨k15,hk_k15,h⟩:=jko h
   refine wjn (τ:=Int) (fun t=>k15 t=some r) (fun y14=>⟨mk 110 [(1,(.dat 1 (p1.map Qac))),(2,(Qts p2)),(3,.ref 0 2 0 0),(8,(Qu4 x11)),(9,I x11.2.1),(10,I x11.2.2),(11,I y14)],[(Qu5 p0)]⟩) (fun y14 h=>?_) ?_
   ·subst hk_k15
    refine wsq<|wxz ?_
    refine bfe h (fun hc16 h=>?_) fun hc16 h=>?_
    ·refine wft hc16 ?_
     refine bfe h (fun hb17 h=>?_) fun hb17 h=>?_
     ·refine hpre (A:=(Qyw x11 y14)) ⟨asb hb17 (amv rfl),ag_ (alq 1 Qac x11.1 underlying27),tv⟩ fun q1_=>?_
      refine bfe h (fun hb18 h=>?_) fun hb18 h=>?_
      ·refine bfe h (fun hb19 h=>?_) fun hb19 h=>?_
       ·obtain⟨x21,hf20,h⟩:=bno h
        exact wx tbk (hcat (Qyw x11 y14) [(8,rp [(.tmp 64,(B (((x11.1.length:Int)==0))))] (B true)),(12,rp [(.tmp 68,(B ((x11.2.1==0))))] (B true)),(13,rp [(.tmp 69,B true),fu 15] (B x21))]) (hap q1_ ⟨asb hb18 (amv rfl),asb hb19 (amv rfl),ag_ (apv Qtg (Qht 2000  _ hf20) nl0 nll),tv⟩)<|Qai<|Qaj<|frb h
       ·exact wx tbk (hcat (Qyw x11 y14) [(8,rp [(.tmp 64,(B (((x11.1.length:Int)==0))))] (B true)),(12,rp [(.tmp 68,(B ((x11.2.1==0))))] (B false))]) (hap q1_ ⟨asb hb18 (amv rfl),asb hb19 (amv rfl),tv⟩)<|Qai<|Qaj<|frb h
      ·exact wx tbk (hcat (Qyw x11 y14) [(8,rp [(.tmp 64,(B (((x11.1.length:Int)==0))))] (B false))]) (hap q1_ ⟨asb hb18 (amv rfl),tv⟩)<|Qai<|Qaj<|frb h
     ·exact wx tbk [(3,rp [(.tmp 59,(B ((x11.2.2==y14))))] (B false))] ⟨asb hb17 (amv rfl),tv⟩<|Qai<|Qaj<|frb h
    ·refine wfn hc16<|Qam<|thn ?_
     obtain⟨x23,hf22,h⟩:=bno h
     refine wx tbk [(3,rp _ _)] ⟨apw Zn9 (Qxd N p0 p1 p2 _ hf22),tv⟩<|wsq<|wxz ?_
     refine bfe h (fun hc24 h=>?_) fun hc24 h=>?_
     ·refine wft hc24 ?_
      refine bfe h (fun hb25 h=>?_) fun hb25 h=>?_
      ·refine hpre (A:=(Qyv x11)) ⟨asb hb25 (amv rfl),ag_ (alq 1 Qac x11.1 underlying27),tv⟩ fun q2_=>?_
       refine bfe h (fun hb26 h=>?_) fun hb26 h=>?_
       ·refine bfe h (fun hb27 h=>?_) fun hb27 h=>?_
        ·obtain⟨x29,hf28,h⟩:=bno h
         exact wx tbk (hcat (Qyv x11) [(7,rp [(.tmp 87,(B (((x11.1.length:Int)==0))))] (B true)),(11,rp [(.tmp 91,(B ((x11.2.1==0))))] (B true)),(12,rp [(.tmp 92,B true),fu 15] (B x29))]) (hap q2_ ⟨asb hb26 (amv rfl),asb hb27 (amv rfl),ag_ (apv Qtg (Qht 2000  _ hf28) nl0 nll),tv⟩)<|Qai<|Qaj<|frb h
        ·exact wx tbk (hcat (Qyv x11) [(7,rp [(.tmp 87,(B (((x11.1.length:Int)==0))))] (B true)),(11,rp [(.tmp 91,(B ((x11.2.1==0))))] (B false))]) (hap q2_ ⟨asb hb26 (amv rfl),asb hb27 (amv rfl),tv⟩)<|Qai<|Qaj<|frb h
       ·exact wx tbk (hcat (Qyv x11) [(7,rp [(.tmp 87,(B (((x11.1.length:Int)==0))))] (B false))]) (hap q2_ ⟨asb hb26 (amv rfl),tv⟩)<|Qai<|Qaj<|frb h
      ·exact wx tbk [(2,rp [(.tmp 82,(B ((x11.2.2==7))))] (B false))] ⟨asb hb25 (amv rfl),tv⟩<|Qai<|Qaj<|frb h
     ·refine wfn hc24<|Qam<|thn ?_
      refine bfe h (fun hb30 h=>?_) fun hb30 h=>?_
      ·obtain⟨x32,hf31,h⟩:=bno h
       refine hpre (A:=(Qyu x11 x23 x32)) ⟨asb hb30 (amv rfl),ag_ (apv Zoc (Qxj N x11.1 x23.1 _ hf31) (nlc (nld Qah _) (nlc (nld Qah _) nl0)) nll),tv⟩ fun q3_=>?_
       refine bfe h (fun hb33 h=>?_) fun hb33 h=>?_
       ·refine bfe h (fun hb34 h=>?_) fun hb34 h=>?_
        ·obtain⟨x36,hf35,h⟩:=bno h
         exact wx tbk (hcat (Qyu x11 x23 x32) [(7,rp [(.tmp 101,B x32)] (B true)),(12,rp [(.tmp 106,(B ((x11.2.1==x23.2))))] (B true)),(13,rp [(.tmp 107,B true),fu 15] (B x36))]) (hap q3_ ⟨asb hb33 (amv rfl),asb hb34 (amv rfl),ag_ (apv Qtg (Qht 2000  _ hf35) nl0 nll),tv⟩)<|Qai<|frb h
        ·exact wx tbk (hcat (Qyu x11 x23 x32) [(7,rp [(.tmp 101,B x32)] (B true)),(12,rp [(.tmp 106,(B ((x11.2.1==x23.2))))] (B false))]) (hap q3_ ⟨asb hb33 (amv rfl),asb hb34 (amv rfl),tv⟩)<|Qai<|frb h
       ·exact wx tbk (hcat (Qyu x11 x23 x32) [(7,rp [(.tmp 101,B x32)] (B false))]) (hap q3_ ⟨asb hb33 (amv rfl),tv⟩)<|Qai<|frb h
      ·exact wx tbk [(2,rp [(.tmp 96,(B ((x11.2.2==0))))] (B false))] ⟨asb hb30 (amv rfl),tv⟩<|Qai<|frb h
   ·skip
    refine bfe h (fun hb37 h=>?_) fun hb37 h=>?_
    ·refine wx tbk [(2,rp [(.tmp 50,(B ((x13==0))))] (B true))] ⟨asb hb37 (amv rfl),tv⟩ ?_
     refine bfe h (fun hc38 h=>?_) fun hc38 h=>?_
     ·exact wft hc38<|wxz1<|thn<|⟨(3),h,(mto (n:=110) [(1,(.dat 1 (p1.map Qac))),(2,(Qts p2)),(3,.ref 0 2 0 0),(8,(Qu4 x11)),(9,I x11.2.1),(10,I x11.2.2),(11,I 3)] [0] [(Qu5 p0)] hq (pc (rnd Qah) (pc (rnd Qak) (prr (pc (rnd Qah) (pw (pw (pw pn))))))) (qb (lc (rnd Qan) (lc (rnd Qab) ln)) qn))⟩
     ·exact wfn hc38<|Qam<|thn<|⟨(x13),h,(mto (n:=110) [(1,(.dat 1 (p1.map Qac))),(2,(Qts p2)),(3,.ref 0 2 0 0),(8,(Qu4 x11)),(9,I x11.2.1),(10,I x11.2.2),(11,I x13)] [0] [(Qu5 p0)] hq (pc (rnd Qah) (pc (rnd Qak) (prr (pc (rnd Qah) (pw (pw (pw pn))))))) (qb (lc (rnd Qan) (lc (rnd Qab) ln)) qn))⟩
    ·exact wx tbk [(2,rp [(.tmp 50,(B ((x13==0))))] (B false))] ⟨asb hb37 (amv rfl),tv⟩<|wfa<|Qam<|thn<|⟨(x13),h,(mto (n:=110) [(1,(.dat 1 (p1.map Qac))),(2,(Qts p2)),(3,.ref 0 2 0 0),(8,(Qu4 x11)),(9,I x11.2.1),(10,I x11.2.2),(11,I x13)] [0] [(Qu5 p0)] hq (pc (rnd Qah) (pc (rnd Qak) (prr (pc (rnd Qah) (pw (pw (pw pn))))))) (qb (lc (rnd Qan) (lc (rnd Qab) ln)) qn))⟩
  ·skip
   obtain⟨x40,hf39,h⟩:=bno h
   refine hpre (A:=(Q3k p0 p2 x40)) ⟨apv Zoh (Qzy N p0 p2 _ hf39) (nlc (NLt.agg _ (nlc (nld Qan _) (nlc (nld Qab _) nl0))) (nlc (nld Qak _) nl0)) nll,tv⟩ fun q4_=>?_
   refine bfe h (fun hb41 h=>?_) fun hb41 h=>?_
   ·refine wx tbk (hcat (Q3k p0 p2 x40) [(4,rp [(.tmp 19,(B ((!x40))))] (B true))]) (hap q4_ ⟨asb hb41 (amv rfl),tv⟩)<|wtr ?_
    obtain⟨x43,hf42,h⟩:=bno h
    exact wx tbk [(0,rp _ _)] ⟨apw Qtg (Qht 2000  _ hf42),tv⟩<|Qai<|Qaj<|frb h
   ·refine hpre (A:=(Qyt p0 p2 x40 p1)) (hap q4_ ⟨asb hb41 (amv rfl),ag_ (alq 1 Qac p1 underlying27),tv⟩) fun q5_=>?_
    refine bfe h (fun hb44 h=>?_) fun hb44 h=>?_
    ·refine wx tbk (hcat (Qyt p0 p2 x40 p1) [(9,rp [(.tmp 24,(B ((decide ((p1.length:Int)>25)))))] (B true))]) (hap q5_ ⟨asb hb44 (amv rfl),tv⟩)<|wtr ?_
     obtain⟨x46,hf45,h⟩:=bno h
     exact wx tbk [(0,rp _ _)] ⟨apw Qtg (Qht 2000  _ hf45),tv⟩<|Qai<|Qaj<|frb h
    ·refine bfe h (fun hb47 h=>?_) fun hb47 h=>?_
     ·obtain⟨x49,hf48,h⟩:=bno h
      refine wx tbk (hcat (Qyt p0 p2 x40 p1) [(9,rp [(.tmp 24,(B ((decide ((p1.length:Int)>25)))))] (B false)),(12,rp [(.tmp 25,B false),(.tmp 27,(B ((decide (x2≤3)))))] (B true)),(14,rp [(.tmp 28,B true),fu 50,(.tmp 29,(Zki p0))] (B x49))]) (hap q5_ ⟨asb hb44 (amv rfl),asb hb47 (ag_ (amv rfl)),ag_ (apv Zob (Qxh N p0 _ hf48) (nlc (NLt.agg _ (nlc (nld Qan _) (nlc (nld Qab _) nl0))) nl0) nll),tv⟩) ?_
      refine bfe h (fun hc50 h=>?_) fun hc50 h=>?_
      ·refine wft hc50 ?_
       obtain⟨x52,hf51,h⟩:=bno h
       exact wx tbk [(0,rp _ _)] ⟨apw Qtg (Qht 2000  _ hf51),tv⟩<|Qai<|Qaj<|frb h
      ·exact wfn hc50<|Qam<|thn<|⟨(),h,(mto (n:=110) [(1,(.dat 1 (p1.map Qac))),(2,(Qts p2)),(3,.ref 0 2 0 0),(7,I x2)] [0] [(Qu5 p0)] hq (pc (rnd Qah) (pc (rnd Qak) (prr (pw pn)))) (qb (lc (rnd Qan) (lc (rnd Qab) ln)) qn))⟩
     ·exact wx tbk (hcat (Qyt p0 p2 x40 p1) [(9,rp [(.tmp 24,(B ((decide ((p1.length:Int)>25)))))] (B false)),(12,rp [(.tmp 25,B false),(.tmp 27,(B ((decide (x2≤3)))))] (B false))]) (hap q5_ ⟨asb hb44 (amv rfl),asb hb47 (ag_ (amv rfl)),tv⟩)<|wfa<|Qam<|thn<|⟨(),h,(mto (n:=110) [(1,(.dat 1 (p1.map Qac))),(2,(Qts p2)),(3,.ref 0 2 0 0),(7,I x2)] [0] [(Qu5 p0)] hq (pc (rnd Qah) (pc (rnd Qak) (prr (pw pn)))) (qb (lc (rnd Qan) (lc (rnd Qab) ln)) qn))⟩
end
section
theorem Q8k (N:Nat) (n:GNet) (v:List Int) (k:List Qaf→Option GNet):∀(m:Nat) (y z:Int) (acc:List Qaf),Qdx N n v.length v k m y z acc=Qfy N n v k m y z acc:=by
 intro m
 induction m with
 |zero=>intros;rfl
 |succ m ih=>
  intro y z acc
  rw[Qdx,Qfy]
  simp only[ih,getO]
theorem Zgz (N:Nat) (n:GNet) (v:List Int):Qk9 N n v.length v=Qpr N n v:=by
 unfold Qk9 Qpr
 simp only[Q8k]
theorem Q3y {N:Nat}{n:GNet}(hs:Qim n) (hN:1001≤N) (hv:NetV n) {st:List Int}(hst:StV n st) {l:List (List Qaa)}(hl:l.length≤1000) (hf:∀c∈l,FedV n c) {W:List Qdt}(hW:Qkl n st l=some W) (k:Int→Option Int):∀(m i:Nat) (y:Int),(l.drop i).length<m→i≤l.length→(0<i→y=(rngF fStm (W.take i)).Lo) →
  0<l.length→Qcw N st l n k m y i=k (rngF fStm W).Lo:=by
 obtain⟨wl,wg⟩:=Q2k hW
 intro m
 induction m with
 |zero=>intro i y h;cases h
 |succ m ih=>
  intro i y h hi hy h0
  rw[Qcw]
  cases hd:l.drop i with
  |nil=>
   have:=Qbs hd
   rw[decide_eq_false (show ¬((i:Int)<(l.length:Int)) by omega),cond_false,hy (by omega),List.take_of_length_le (by omega)]
  |cons c q=>
   obtain⟨hg,hd',hlt⟩:=Qbg hd
   have hc:=List.mem_of_getElem? hg
   obtain⟨r,hT,hwi⟩:=wg i c hg
   have hlen:(l.drop (i+1)).length<m:=by rw[hd'];rw[hd] at h;simp at h;omega
   have htk:W.take (i+1)=W.take i++[Ql6 n c r]:=by rw[List.take_add_one,hwi];rfl
   have hdo:Qmb N n st c=some ((⟨r.1,r.2.1,r.2.2.1⟩:Qe5),r.2.2.2,(-1:Int)):=by rw[Q6h hs hN hv (hf c hc) hst,hT];rfl
   rw[decide_eq_true (show(i:Int)<(l.length:Int) by omega),cond_true,Qbu hg,Option.bind_some,hdo,Option.bind_some,w64S (i:=i) (by omega)]
   dsimp only
   by_cases hz:i=0
   ·subst hz
    rw[show(((0:Nat):Int)==0)=true from rfl,cond_true]
    refine ih 1 _ hlen (by omega) (fun _=>?_) h0
    rw[htk,List.take_zero]
    rfl
   ·have hne:W.take i≠[]:=fun e=>by
     have:=congrArg List.length e
     rw[List.length_take] at this
     simp only[List.length_nil] at this
     omega
    rw[show((i:Int)==0)=false by simp;omega,cond_false,hy (by omega)]
    have e:(rngF fStm (W.take (i+1))).Lo=if r.2.2.2<(rngF fStm (W.take i)).Lo then r.2.2.2 else(rngF fStm (W.take i)).Lo:=by rw[htk,Zg1 fStm hne];rfl
    by_cases hlt2:r.2.2.2<(rngF fStm (W.take i)).Lo
    ·rw[decide_eq_true hlt2,cond_true]
     exact ih (i+1) _ hlen (by omega) (fun _=>by rw[e,if_pos hlt2]) h0
    ·rw[decide_eq_false hlt2,cond_false]
     exact ih (i+1) _ hlen (by omega) (fun _=>by rw[e,if_neg hlt2]) h0
theorem Zcf {N:Nat}{n:GNet}(hs:Qim n) (hN:1001≤N) {st:List Int}{l:List (List Qaa)}(hl:l.length≤1000) (hg:Qj8 n st l=0) {v:List Int}(hv:v.length=(ofL 4 0 n.Elements).length):Qi0 N n st l v.length v=some (stmA n st l v):=by
 obtain⟨hv0,hst,hf,h1⟩:=Qwe hg
 have hs2:=Qxv hs v
 have hf2:∀c∈l,FedV (setN n v) c:=fun c hc=>Q3z v (hf c hc)
 unfold Qi0 stmA
 rw[Zgz,Zmv hs hN hv hv0.len.1,Option.bind_some,Zde hs2 hN,Option.bind_some]
 cases hb:netB (setN n v) with
 |false=>rfl
 |true=>
  rw[Bool.not_true,cond_false,cond_true,Qej,Zmf hs2 hN (Qv5 hb) (Q6d v hst) hl hf2,Option.bind_some]
  cases hd:Qkl (setN n v) st l with
  |none=>rfl
  |some W=>
   dsimp only
   rw[Bool.not_true,cond_false]
   by_cases hu:(unsL 0 W).1≥0
   ·rw[decide_eq_true hu,cond_true,if_pos hu]
   ·rw[decide_eq_false hu,cond_false,if_neg hu]
    show Qbc _ _=_
    rw[Qej]
    exact Q3y hs2 hN (Qv5 hb) (Q6d v hst) hl hf2 hd (fun y8=>some y8) N 0 (-1) (by simp;omega) (Nat.zero_le _) (fun h=>absurd h (by omega)) (by omega)
def digL (T:Nat):Nat→Nat→List Int
 |0,_=>[]
 |j+1,c=>digL T j (c/T)++[((c % T:Nat):Int)]
theorem Q7f (T:Nat):∀(j c:Nat),(digL T j c).length=j
 |0,_=>rfl
 |j+1,c=>by rw[digL,List.length_append,Q7f T j];rfl
def Q84 (T:Nat):Nat→List (List Int)
 |0=>[[]]
 |j+1=>(Q84 T j).flatMap fun v=>(List.range T).map fun a:Nat=>v++[(a:Int)]
theorem Q1p (T:Nat):∀(m:Nat),List.range (m*T)=(List.range m).flatMap fun c=>(List.range T).map fun a=>c*T+a
 |0=>by simp
 |m+1=>by rw[Nat.succ_mul,List.range_add,Q1p T m,List.range_succ,List.flatMap_append];simp
theorem Q7e (T:Nat):∀(j:Nat),(List.range (T ^ j)).map (digL T j)=Q84 T j
 |0=>rfl
 |j+1=>by
  rw[Nat.pow_succ,Q1p,List.map_flatMap,Q84,←Q7e T j,List.flatMap_map]
  congr 1
  funext c
  rw[List.map_map]
  refine List.map_congr_left fun a ha=>?_
  have ha:=List.mem_range.1 ha
  show digL T (j+1) (c*T+a)=_
  rw[digL,Nat.mul_comm c T,Nat.mul_add_div (by omega),Nat.div_eq_of_lt ha,Nat.mul_add_mod,Nat.mod_eq_of_lt ha,Nat.add_zero]
theorem Q4n (T:Nat):∀(j:Nat),Qmj T j=Q84 T j
 |0=>rfl
 |1=>by
  show(List.range T).flatMap (fun a:Nat=>[[(a:Int)]])=((List.range T).map fun a:Nat=>[(a:Int)])++[]
  rw[List.append_nil,List.map_eq_flatMap]
 |j+2=>by
  have e1:=Q4n T (j+1)
  have e0:=Q4n T j
  rw[Qmj,e1,Q84,Q84,←e1,Qmj,List.flatMap_assoc,e0]
  congr 1
  funext a
  rw[List.map_flatMap,List.flatMap_map]
  simp only[List.map_map]
  rfl
theorem Zi4 {N:Nat}{n:GNet}(hT:0<n.Table.length) (hT2:n.Table.length≤25) {M:Nat}(hM:M≤18) (k:List Int→Option (List Int×Int)):∀(j c m:Nat) (y:List Int),j≤M→y.length=M→j<m→c≤1000000 →
  Qec N n (M:Int) k m c ((j:Int)-1) y=k (digL n.Table.length j c++y.drop j):=by
 intro j
 induction j with
 |zero=>
  intro c m y hj hy hm hc
  obtain⟨m,rfl⟩:∃G,m=G+1:=⟨m-1,by omega⟩
  rw[Qec,decide_eq_false (show ¬(((0:Nat):Int)-1≥0) by omega),cond_false]
  rfl
 |succ j ih=>
  intro c m y hj hy hm hc
  obtain⟨m,rfl⟩:∃G,m=G+1:=⟨m-1,by omega⟩
  have hg:y[j]? = some (y[j]'(by omega)):=List.getElem?_eq_getElem _
  have hd0:(0:Int)≤((c/n.Table.length:Nat):Int):=Int.natCast_nonneg _
  have hdc:((c/n.Table.length:Nat):Int)≤1000000:=by have:=Nat.div_le_self c n.Table.length;omega
  rw[Qec,show((j+1:Nat):Int)-1=(j:Int) by omega,decide_eq_true (show(j:Int)≥0 by omega),cond_true,show((n.Table.length:Int) != 0)=true by rw[bne_iff_ne];omega]
  simp only[chk,cond_true,Int.toNat_natCast]
  rw[show(true&&decide (j<M))=true by simp;omega,cond_true,hg,Option.bind_some,Int.tdiv_eq_ediv_of_nonneg (by omega),Int.tmod_eq_emod_of_nonneg (by omega),←Int.natCast_ediv,←Int.natCast_emod,
   Qbh (x:=((c/n.Table.length:Nat):Int)) (by omega) (by omega),Option.bind_some,Qbh (x:=(j:Int)-1) (by omega) (by omega),ih (c/n.Table.length) m _ (by omega) (by simp[hy]) (by omega) (by omega),digL]
  rw[List.append_assoc,List.singleton_append]
  congr 2
  rw[List.drop_eq_getElem_cons (by rw[List.length_set];omega),List.getElem_set_self,List.drop_set_of_lt (by omega)]
def stpR (n:GNet) (st:List Int) (l:List (List Qaa)) (a:List Int×Int) (v:List Int):List Int×Int:=if stmA n st l v>a.2 then(v,stmA n st l v) else a
theorem Qzb (n:GNet) (st:List Int) (l:List (List Qaa)):∀(L:List (List Int)) (a:BS),-1≤a.1→a.2.2=decide (0≤a.1)→L.foldl (stpR n st l) (a.2.1,a.1)=((L.foldl (stp n st l) a).2.1,(L.foldl (stp n st l) a).1)∧(L.foldl (stp n st l) a).2.2=decide (0≤(L.foldl (stp n st l) a).1)
 |[],a,_,h=>⟨rfl,h⟩
 |v::L,a,h,h2=>by
  rw[List.foldl_cons,List.foldl_cons]
  unfold stp stpR
  by_cases hv:stmA n st l v>a.1
  ·rw[if_pos hv,if_pos hv]
   exact Qzb n st l L (stmA n st l v,v,true) (by dsimp only;omega) (by dsimp only;rw[decide_eq_true (show 0≤stmA n st l v by omega)])
  ·rw[if_neg hv,if_neg hv]
   exact Qzb n st l L a h h2
theorem Q88 {N:Nat}{n:GNet}(hs:Qim n) (hN:1001≤N) {st:List Int}{l:List (List Qaa)}(hl:l.length≤1000) (hg:Qj8 n st l=0) {A:Nat}(hA:A≤1000) (k:List Int×Int→Option (List Int×Int)):∀(d c m:Nat) (b:List Int) (y:Int),c+d=A→d<m →
  Qed N n st l ((ofL 4 0 n.Elements).length:Int) (A:Int) k m b y c=k (((List.range' c d).map (digL n.Table.length (ofL 4 0 n.Elements).length)).foldl (stpR n st l) (b,y)):=by
 have e0:=hs.e
 have e1:(ofL 4 0 n.Elements).length≤n.Elements.length:=by rw[Qjc];exact List.length_filter_le _ _
 obtain⟨hv0,_⟩:=Qwe hg
 have hT:0<n.Table.length:=by
  have h:=hv0.tab
  unfold tabB at h
  simp only[Bool.and_eq_true] at h
  have:=Qf4.1 h.1.1
  omega
 intro d
 induction d with
 |zero=>
  intro c m b y hcd hm
  obtain⟨m,rfl⟩:∃G,m=G+1:=⟨m-1,by omega⟩
  rw[Qed,decide_eq_false (show ¬((c:Int)<(A:Int)) by omega),cond_false]
  rfl
 |succ d ih=>
  intro c m b y hcd hm
  obtain⟨m,rfl⟩:∃G,m=G+1:=⟨m-1,by omega⟩
  have hlen:=Q7f n.Table.length (ofL 4 0 n.Elements).length c
  have hsteam:=Zcf hs hN hl hg (v:=digL n.Table.length (ofL 4 0 n.Elements).length c) hlen
  rw[hlen] at hsteam
  rw[Qed,decide_eq_true (show(c:Int)<(A:Int) by omega),cond_true,Qej]
  simp only[chk]
  rw[show(decide ((0:Int)≤((ofL 4 0 n.Elements).length:Int))&&decide (8*((ofL 4 0 n.Elements).length:Int)≤281474976710656)&&decide (((ofL 4 0 n.Elements).length:Int)≤9223372036854775807))=true by simp;omega,cond_true,Qej,Int.toNat_natCast,
   Qbh (x:=((ofL 4 0 n.Elements).length:Int)-1) (by omega) (by omega),w64S (i:=c) (by omega)]
  refine(Zi4 hT hs.t (M:=(ofL 4 0 n.Elements).length) (by omega) _ (ofL 4 0 n.Elements).length c N _ (Nat.le_refl _) (by simp) (by omega) (by omega)).trans ?_
  rw[List.drop_of_length_le (by simp),List.append_nil]
  rw[hsteam,Option.bind_some,List.range'_succ,List.map_cons,List.foldl_cons]
  by_cases hy:stmA n st l (digL n.Table.length (ofL 4 0 n.Elements).length c)>y
  ·rw[decide_eq_true hy,cond_true,hlen,decide_eq_true (Nat.le_refl _),cond_true,List.take_of_length_le (by omega)]
   refine(ih (c+1) m _ _ (by omega) (by omega)).trans ?_
   rw[show stpR n st l (b,y) (digL n.Table.length (ofL 4 0 n.Elements).length c)=(digL n.Table.length (ofL 4 0 n.Elements).length c,stmA n st l (digL n.Table.length (ofL 4 0 n.Elements).length c)) by unfold stpR;rw[if_pos hy]]
  ·rw[decide_eq_false hy,cond_false]
   refine(ih (c+1) m _ _ (by omega) (by omega)).trans ?_
   rw[show stpR n st l (b,y) (digL n.Table.length (ofL 4 0 n.Elements).length c)=(b,y) by unfold stpR;rw[if_neg hy]]
theorem Zrg {T:Nat}(hT:T≤25) {i M:Nat}(hM:M≤3) (hi:i≤M):T ^ i≤15625:=by
 have h1:T ^ i≤25 ^ i:=Nat.pow_le_pow_left hT i
 have h2:25 ^ i≤25 ^ 3:=Nat.pow_le_pow_right (by omega) (by omega)
 omega
theorem Zcz {N:Nat}{n:GNet}(hT:n.Table.length≤25) {M:Nat}(hM:M≤3) (k:Int→Option (List Int×Int)):∀(d i m:Nat),i+d=M→d<m→Qeb N n (M:Int) k m ((n.Table.length ^ i:Nat):Int) i=k ((n.Table.length ^ M:Nat):Int):=by
 intro d
 induction d with
 |zero=>
  intro i m hid hm
  obtain⟨m,rfl⟩:∃G,m=G+1:=⟨m-1,by omega⟩
  rw[Qeb,decide_eq_false (show ¬((i:Int)<(M:Int)) by omega),cond_false,show i=M by omega]
 |succ d ih=>
  intro i m hid hm
  obtain⟨m,rfl⟩:∃G,m=G+1:=⟨m-1,by omega⟩
  have hb:=Zrg hT hM (i:=i+1) (by omega)
  have e:((n.Table.length ^ i:Nat):Int)*(n.Table.length:Int)=((n.Table.length ^ (i+1):Nat):Int):=by rw[Nat.pow_succ];push_cast;rfl
  rw[Qeb,decide_eq_true (show(i:Int)<(M:Int) by omega),cond_true,e,Qbh (x:=((n.Table.length ^ (i+1):Nat):Int)) (by omega) (by omega),Option.bind_some,w64S (i:=i) (by omega)]
  exact ih (i+1) m (by omega) (by omega)
theorem Q7h (n:GNet):cntK n 4=(ofL 4 0 n.Elements).length:=by rw[Qjc];rfl
theorem Zjb {N:Nat}{n:GNet}(hs:Qim n) (hN:1001≤N) {st:List Int}{l:List (List Qaa)}(hl:l.length≤1000) (hg:Qj8 n st l=0) (hM:(ofL 4 0 n.Elements).length≤3) (hA:n.Table.length ^ (ofL 4 0 n.Elements).length≤150) :
  Qkh N n st l=some ((bstF n st l).2.1,(bstF n st l).1)∧(bstF n st l).2.2=decide (0≤(bstF n st l).1):=by
 have e0:=hs.e
 obtain⟨h1,h2⟩:=Qzb n st l (Qmj n.Table.length (ofL 4 0 n.Elements).length) (-1,[],false) (Int.le_refl _) rfl
 refine⟨?_,h2⟩
 unfold Qkh
 rw[Qut 4 (by omega) hN,Option.bind_some,Q7h,Qej]
 refine(Zcz hs.t hM _ (ofL 4 0 n.Elements).length 0 N (by omega) (by omega)).trans ?_
 show Qbc _ _=_
 rw[Qej]
 refine(Q88 hs hN hl hg (by omega) _ (n.Table.length ^ (ofL 4 0 n.Elements).length) 0 N [] (-1) (by omega) (by omega)).trans ?_
 rw[←List.range_eq_range',Q7e,←Q4n,h1]
 rfl
theorem Zb2 {N:Nat}{n:GNet}(hs:Qim n) (hN:1001≤N) (k:Int→Option Bool):∀(d i m:Nat),i+d=(ofL 4 0 n.Elements).length→d<m→n.Table.length ^ i≤3750→∃z:Int,Qei N n k m ((n.Table.length ^ i:Nat):Int) i=k z∧(z≤150→z=((n.Table.length ^ (ofL 4 0 n.Elements).length:Nat):Int)):=by
 have e0:=hs.e
 have t0:=hs.t
 have e1:(ofL 4 0 n.Elements).length≤n.Elements.length:=by rw[Qjc];exact List.length_filter_le _ _
 intro d
 induction d with
 |zero=>
  intro i m hid hm hb
  obtain⟨m,rfl⟩:∃G,m=G+1:=⟨m-1,by omega⟩
  rw[Qei,Qej,Qut 4 (by omega) hN,Option.bind_some,Q7h,decide_eq_false (show ¬((i:Int)<((ofL 4 0 n.Elements).length:Int)) by omega),cond_false]
  exact⟨_,rfl,fun _=>by rw[show i=(ofL 4 0 n.Elements).length by omega]⟩
 |succ d ih=>
  intro i m hid hm hb
  obtain⟨m,rfl⟩:∃G,m=G+1:=⟨m-1,by omega⟩
  have e:((n.Table.length ^ i:Nat):Int)*(n.Table.length:Int)=((n.Table.length ^ (i+1):Nat):Int):=by rw[Nat.pow_succ];push_cast;rfl
  rw[Qei,Qej,Qut 4 (by omega) hN,Option.bind_some,Q7h,decide_eq_true (show(i:Int)<((ofL 4 0 n.Elements).length:Int) by omega),cond_true]
  by_cases h:n.Table.length ^ i≤150
  ·have hb2:n.Table.length ^ (i+1)≤3750:=by
    rw[Nat.pow_succ]
    have:=Nat.mul_le_mul h t0
    omega
   rw[decide_eq_true (show((n.Table.length ^ i:Nat):Int)≤150 by omega),cond_true,e,Qbh (x:=((n.Table.length ^ (i+1):Nat):Int)) (by omega) (by omega),Option.bind_some,w64S (i:=i) (by omega)]
   exact ih (i+1) m (by omega) (by omega) hb2
  ·rw[decide_eq_false (show ¬((n.Table.length ^ i:Nat):Int)≤150 by omega),cond_false]
   exact⟨_,rfl,fun h2=>absurd h2 (by omega)⟩
theorem Zmd {N:Nat}{n:GNet}(hs:Qim n) (hN:1001≤N):Qki N n=some true∨(Qki N n=some false∧n.Table.length ^ (ofL 4 0 n.Elements).length≤150):=by
 have e0:=hs.e
 have e1:(ofL 4 0 n.Elements).length≤n.Elements.length:=by rw[Qjc];exact List.length_filter_le _ _
 unfold Qki
 rw[Qej]
 obtain⟨z,e,hz⟩:=Zb2 hs hN (fun y1=>some (decide (y1>150))) (ofL 4 0 n.Elements).length 0 N (by omega) (by omega) (by simp)
 rw[show((n.Table.length ^ 0:Nat):Int)=1 from rfl] at e
 by_cases h:z>150
 ·exact .inl (e.trans (by rw[decide_eq_true h]))
 ·exact .inr ⟨e.trans (by rw[decide_eq_false h]),by have:=hz (by omega);omega⟩
theorem Zep {N:Nat}{n:GNet}(c:Int) (hl:(n.Elements.length:Int)≤9223372036854775807) (hN:n.Elements.length<N):Qgc N n c=some (cntK n c:Int):=by
 have loop:∀(k:Int→Option Int) (m i:Nat) (a:Int),(n.Elements.drop i).length<m→0≤a→a≤i→Qc0 N n c k m a i=k (a+(((n.Elements.drop i).filter fun x=>decide (x.Kind=c)).length:Int)):=by
  intro k m
  induction m with
  |zero=>intro i _ h;cases h
  |succ m ih=>
   intro i a h a0 a1
   rw[Qc0]
   cases hd:n.Elements.drop i with
   |nil=>
    have:=Qbs hd
    simp[show ¬((i:Int)<n.Elements.length) from by omega]
   |cons x q=>
    obtain⟨hg,hd',hlt⟩:=Qbg hd
    simp only[dlI hlt,cond_true,Qbu hg,Option.bind_some]
    rw[w64S (i:=i) (by omega),List.filter_cons]
    by_cases hk:x.Kind=c
    ·rw[show(x.Kind==c)=true by simpa using hk,cond_true,Qbh (x:=a+1) (by omega) (by omega),ih (i+1) _ (dlt hd hd' h) (by omega) (by omega),hd',if_pos (by simpa using hk),List.length_cons]
     congr 1
     omega
    ·rw[show(x.Kind==c)=false by simpa using hk,cond_false,ih (i+1) _ (dlt hd hd' h) (by omega) (by omega),hd',if_neg (by simpa using hk)]
 unfold Qgc
 rw[Qej]
 refine(loop _ N 0 0 (by simp;omega) (Int.le_refl _) (by simp)).trans ?_
 rw[List.drop_zero,Int.zero_add]
 rfl
theorem Zcd (n:GNet) (st:List Int) (l:List (List Qaa)):∀(L:List (List Int)) (a:BS),(L.foldl (stp n st l) a).2.1=a.2.1∨(L.foldl (stp n st l) a).2.1∈L
 |[],_=>.inl rfl
 |v::L,a=>by
  rw[List.foldl_cons]
  rcases Zcd n st l L (stp n st l a v) with h |h
  ·unfold stp at h ⊢
   by_cases hv:stmA n st l v>a.1
   ·rw[if_pos hv] at h ⊢;exact .inr (by rw[h];exact List.mem_cons_self)
   ·rw[if_neg hv] at h ⊢;exact .inl h
  ·exact .inr (List.mem_cons_of_mem _ h)
theorem Zov (n:GNet) (st:List Int) (l:List (List Qaa)):(bstF n st l).2.1.length≤(ofL 4 0 n.Elements).length:=by
 unfold bstF
 rcases Zcd n st l (Qmj n.Table.length (ofL 4 0 n.Elements).length) (-1,[],false) with h |h
 ·rw[h];simp
 ·rw[Q2o _ _ _ h];exact Nat.le_refl _
theorem Zey (n:GNet) (s:List Int) (l:List (List Qaa)) (gn:Zd1 n) (_:Q4f s) (gl:Qt0 l):Qi7 (n.Elements.length+s.length+l.length+2000) n s l=some true:=by
 generalize hNN:n.Elements.length+s.length+l.length+2000=N
 have hN:1001≤N:=by omega
 have hn:(n.Elements.length:Int)≤9223372036854775807:=by
  have:=gn.2.1
  rw[Q16] at this
  omega
 have hll:l.length≤9223372036854775807:=by
  have:=gl.1
  rw[Q16] at this
  omega
 unfold Qi7
 simp only[Zb3,Option.bind_some]
 rw[Zep 4 hn (by omega),Option.bind_some,Q7h]
 refine Qr4 fun k3 hk3=>?_
 rcases Znj (N:=N) (n:=n) (l:=l) hn hll (by omega) (by omega) with e |⟨e,hs,h8,hc⟩
 ·rw[e,Option.bind_some,Bool.not_false,cond_true]
 rw[e,Option.bind_some,Bool.not_true,cond_false]
 by_cases h25:(s.length:Int)>25
 ·rw[decide_eq_true h25,cond_true]
 have s1:s.length≤1000:=by omega
 have hc':∀c∈l,c.length≤1000:=fun c h=>by have:=hc c h;omega
 have e0:=hs.e
 have e1:(ofL 4 0 n.Elements).length≤n.Elements.length:=by rw[Qjc];exact List.length_filter_le _ _
 have key:((ofL 4 0 n.Elements).length≤3→n.Table.length ^ (ofL 4 0 n.Elements).length≤150)→k3 ()=some true:=by
  intro hw
  rw[hk3]
  show((Ql0 N n).bind fun _=>_)=_
  rw[Zrp hs hN,Option.bind_some,Znd N s1,Option.bind_some,Zi7 hN (by omega) hc',Option.bind_some,Zox hs (by omega) (by omega) hc' s1,Option.bind_some,Zd5 hs hN (by omega) hc' s1,Option.bind_some]
  refine Qr4 fun k15 h15=>?_
  by_cases hg:Qj8 n s l=0
  ·rw[hg,beq_self_eq_true,cond_true]
   by_cases h3:(ofL 4 0 n.Elements).length>3
   ·rw[decide_eq_true (show((ofL 4 0 n.Elements).length:Int)>3 by omega),cond_true,h15,show Q2x n s l=([],0,3) by unfold Q2x;rw[if_pos hg,if_pos h3]]
    rfl
   ·obtain⟨r1,r2⟩:=Zjb hs hN (show l.length≤1000 by omega) hg (by omega) (hw (by omega))
    have hbl:=Zov n s l
    rw[decide_eq_false (show ¬((ofL 4 0 n.Elements).length:Int)>3 by omega),cond_false,h15]
    have hb:Q2x n s l=(bif (bstF n s l).2.2 then((bstF n s l).2.1,(bstF n s l).1,0) else([],0,7)):=by unfold Q2x;rw[if_pos hg,if_neg h3]
    rw[hb]
    show((Qkh N n s l).bind fun _=>_)=_
    rw[r1,Option.bind_some,r2]
    generalize (bstF n s l).1=mo
    generalize (bstF n s l).2.1=be at hbl
    by_cases hm:0≤mo
    ·rw[decide_eq_true hm,cond_true]
     show(bif decide (mo<0) then _ else bif ((0:Int)==0) then(Qkj N be be).bind _ else _)=_
     rw[decide_eq_false (show ¬mo<0 by omega),cond_false,beq_self_eq_true,cond_true,Zne (by omega) hN,Option.bind_some,cond_true]
     show(bif (mo==mo) then _ else _)=_
     rw[beq_self_eq_true,cond_true]
    ·rw[decide_eq_false hm,cond_false]
     show(bif decide (mo<0) then _ else _)=_
     rw[decide_eq_true (show mo<0 by omega),cond_true]
     rfl
  ·rw[show(Qj8 n s l==0)=false by simpa using hg,cond_false,h15,show Q2x n s l=([],0,Qj8 n s l) by unfold Q2x;rw[if_neg hg]]
   dsimp only
   rw[show(Qj8 n s l != 0)=true by simpa using hg,cond_true,beq_self_eq_true,cond_true]
   rfl
 rw[decide_eq_false h25,cond_false]
 by_cases h3:(ofL 4 0 n.Elements).length≤3
 ·rw[decide_eq_true (show((ofL 4 0 n.Elements).length:Int)≤3 by omega),cond_true]
  rcases Zmd hs hN with e |⟨e,hw⟩
  ·rw[e,Option.bind_some,cond_true]
  ·rw[e,Option.bind_some,cond_false]
   exact key fun _=>hw
 ·rw[decide_eq_false (show ¬((ofL 4 0 n.Elements).length:Int)≤3 by omega),cond_false]
  exact key fun h=>absurd h h3
end
end Go.Proofs.YtmbhnllcfmiajaaGreat
