/-
  PipeSets: the plain law. No conditions.
-/
import Derived.Test.YtmbhnllcfmiajaaGreatPFt6
import Derived.Test.YtmbhnllcfmiajaaGreatX12
namespace Go.Proofs.YtmbhnllcfmiajaaGreat
open Go.RowKit
theorem Qmg {α:Type} (l:List α) (c:Nat) (hc:c≤100) (h:l.length≤1000):(bif l.isEmpty then some ([]:List α) else chk (decide ((([]:List α).length+l.length) * c≤140737488355328))<|some ([]++l))=some l:=by
 cases l with
 | nil=>rfl
 | cons x q=>
  have h1:(([]:List α).length+(x::q).length) * c≤1000 * 100:=Nat.mul_le_mul (by simpa using h) hc
  rw [show (x::q).isEmpty=false from rfl,cond_false,List.nil_append]
  unfold chk
  rw [decide_eq_true (show (([]:List α).length+(x::q).length) * c≤140737488355328 by omega),cond_true]
theorem Q6c (N:Nat) {l:List GRow} (h:l.length≤1000):Qck N l=some l:=Qmg l 40 (by omega) h
theorem Q6d (N:Nat) {l:List GPort} (h:l.length≤1000):Qcr N l=some l:=Qmg l 16 (by omega) h
theorem Q6e (N:Nat) {l:List Int} (h:l.length≤1000):Qfa N l=some l:=Qmg l 8 (by omega) h
def lev (x:GElement) (v:Int):GElement:=⟨x.Kind,x.From,v,x.Amount,x.Wide,x.Narrow,x.Weights⟩
def putL:List GElement→List (Int×Int)→List GElement
 | acc,[]=>acc
 | acc,(i,v)::q=>putL (match acc[i.toNat]? with | some x=>acc.set i.toNat (lev x v) | none=>acc) q
theorem Qlf:∀ (q:List (Int×Int)) (acc:List GElement),(putL acc q).length=acc.length
 | [],_=>rfl
 | (i,v)::q,acc=>by
  rw [putL,Qlf q]
  split<;>simp
theorem Qzd:∀ (q:List (Int×Int)) (acc:List GElement),∀ y ∈ putL acc q,∃ x ∈ acc,y.From=x.From∧y.Weights=x.Weights
 | [],_,y,h=>⟨y,h,rfl,rfl⟩
 | (i,v)::q,acc,y,h=>by
  rw [putL] at h
  obtain ⟨x,hx,h1,h2⟩:=Qzd q _ y h
  cases hg:acc[i.toNat]? with
  | none=>rw [hg] at hx; exact ⟨x,hx,h1,h2⟩
  | some z=>
   rw [hg] at hx
   dsimp only at hx
   rcases List.mem_or_eq_of_mem_set hx with hx | rfl
   ·exact ⟨x,hx,h1,h2⟩
   ·exact ⟨z,List.mem_of_getElem? hg,h1,h2⟩
def setN (n:GNet) (v:List Int):GNet:=⟨n.Table,putL n.Elements ((ofL 4 0 n.Elements).zip v)⟩
theorem Qn2 {n:GNet} (hs:Small n) (v:List Int):Small (setN n v):=by
 refine ⟨hs.t,?_,fun y hy=>?_⟩
 ·unfold setN
  rw [Qlf]
  exact hs.e
 ·obtain ⟨x,hx,h1,h2⟩:=Qzd _ _ y hy
  rw [h1,h2]
  exact hs.x x hx
theorem Zg5 {n:GNet} {z:Int} (h:z ∈ ofL 4 0 n.Elements):0≤z∧z.toNat<n.Elements.length:=by
 have:=Qw7 4 n.Elements 0 z h
 omega
section
variable {N : Nat} {n : GNet} (hs : Small n) (hN : 1001 ≤ N)
include hs
theorem Q4u (k:List GElement→Option GNet):∀ (m i:Nat),(n.Elements.drop i).length<m→Qde N n k m i n.Elements=k n.Elements:=by
 have e0:=hs.e
 intro m
 induction m with
 | zero=>intro i h; exact absurd h (Nat.not_lt_zero _)
 | succ m ih=>
  intro i h
  rw [Qde]
  cases hd:n.Elements.drop i with
  | nil=>
   have:=Qdd hd
   simp [show ¬ ((i:Int)<n.Elements.length) from by omega]
  | cons x q=>
   obtain ⟨hg,hd',hlt⟩:=Qce hd
   have hx:=hs.x x (List.mem_of_getElem? hg)
   have hset:n.Elements.set i x=n.Elements:=by
    rw [List.getElem?_eq_getElem hlt] at hg
    cases hg
    exact List.set_getElem_self hlt
   simp only [show decide ((i:Int)<n.Elements.length)=true from by simpa using hlt,cond_true,Qd1 hg,Option.bind_some,Q6d N (show x.From.length≤1000 by omega),Q6e N (show x.Weights.length≤1000 by omega),Int.toNat_natCast,chk,hg]
   rw [show (decide ((0:Int)≤(i:Int))&&decide (i<n.Elements.length))=true by simp; omega]
   simp only [cond_true,show (⟨x.Kind,x.From,x.Level,x.Amount,x.Wide,x.Narrow,x.Weights⟩:GElement)=x from rfl,hset,hg,Option.bind_some]
   rw [Qd8 (x:=(i:Int)+1) (by omega) (by omega),show (i:Int)+1=((i+1:Nat):Int) by omega]
   exact ih (i+1) (by rw [hd']; rw [hd] at h; simp at h; omega)
theorem Q8h (v:List Int) (hv:v.length=(ofL 4 0 n.Elements).length) (k:List GElement→Option GNet):∀ (m j:Nat) (acc:List GElement),((ofL 4 0 n.Elements).drop j).length<m→acc.length=n.Elements.length →
  Qdf N n v k (ofL 4 0 n.Elements) m j acc=k (putL acc (((ofL 4 0 n.Elements).drop j).zip (v.drop j))):=by
 have e0:=hs.e
 have e1:(ofL 4 0 n.Elements).length≤n.Elements.length:=by rw [Qn8]; exact List.length_filter_le _ _
 intro m
 induction m with
 | zero=>intro j _ h; exact absurd h (Nat.not_lt_zero _)
 | succ m ih=>
  intro j acc h ha
  rw [Qdf]
  cases hd:(ofL 4 0 n.Elements).drop j with
  | nil=>
   have:=Qdd hd
   simp [show ¬ ((j:Int)<(ofL 4 0 n.Elements).length) from by omega,putL]
  | cons z q=>
   obtain ⟨hg,hd',hlt⟩:=Qce hd
   obtain ⟨z0,z1⟩:=Zg5 (List.mem_of_getElem? hg)
   have hgv:v[j]? = some (v[j]'(by omega)):=List.getElem?_eq_getElem _
   have hgx:acc[z.toNat]? = some (acc[z.toNat]'(by omega)):=List.getElem?_eq_getElem _
   rw [show v.drop j=v[j]'(by omega)::v.drop (j+1) from List.drop_eq_getElem_cons (by omega),List.zip_cons_cons,putL,hgx]
   simp only [show decide ((j:Int)<(ofL 4 0 n.Elements).length)=true from by simpa using hlt,cond_true,Qd1 hg,Qd1 hgv,Option.bind_some,chk,hgx]
   rw [show (decide ((0:Int)≤z)&&decide (z.toNat<n.Elements.length))=true by simp; omega,cond_true,Qd8 (x:=(j:Int)+1) (by omega) (by omega),show (j:Int)+1=((j+1:Nat):Int) by omega]
   rw [← hd']
   exact ih (j+1) _ (by rw [hd']; rw [hd] at h; simp at h; omega) (by rw [List.length_set]; exact ha)
include hN
theorem Zec {v:List Int} (hv:v.length=(ofL 4 0 n.Elements).length) (hne:1≤n.Elements.length):Qhg N n v=some (setN n v):=by
 have e0:=hs.e
 have t0:=hs.t
 have e1:(ofL 4 0 n.Elements).length≤n.Elements.length:=by rw [Qn8]; exact List.length_filter_le _ _
 have hE:(!n.Elements.isEmpty)=true:=by
  cases h:n.Elements with
  | nil=>rw [h] at hne; simp at hne
  | cons=>rfl
 unfold Qhg Qbz
 simp only [Q6c N (show n.Table.length≤1000 by omega),Option.bind_some,chk,hE,cond_true]
 rw [show decide ((0+n.Elements.length) * 88≤140737488355328)=true by simp; omega,cond_true,Option.bind_some,Qjg]
 refine (Q4u hs _ N 0 (by simp; omega)).trans ?_
 rw [Qjg,Zbs hs hN 4,Option.bind_some]
 refine (Q8h hs v hv _ N 0 _ (by simp; omega) rfl).trans ?_
 rw [List.drop_zero,List.drop_zero]
 show (bif decide (n.Elements.length≤(putL n.Elements _).length) then _ else _)=_
 rw [Qlf,decide_eq_true (Nat.le_refl _),cond_true,List.take_of_length_le (by rw [Qlf]; exact Nat.le_refl _)]
 rfl
omit hN in
theorem Q4t (v:List Int) (hv:v.length=(ofL 4 0 n.Elements).length) (k:List GElement→Option GNet):∀ (m i j:Nat) (acc:List GElement),(n.Elements.drop i).length<m→acc.length=n.Elements.length→acc.drop i=n.Elements.drop i→ofL 4 i (n.Elements.drop i)=(ofL 4 0 n.Elements).drop j→j≤i →
  Qdq N n v k m j i acc=k (putL acc (((ofL 4 0 n.Elements).drop j).zip (v.drop j))):=by
 have e0:=hs.e
 intro m
 induction m with
 | zero=>intro i j _ h; exact absurd h (Nat.not_lt_zero _)
 | succ m ih=>
  intro i j acc h ha hr ho hji
  rw [Qdq]
  cases hd:n.Elements.drop i with
  | nil=>
   have:=Qdd hd
   rw [hd,ofL] at ho
   rw [← ho,List.zip_nil_left,putL]
   simp [show ¬ ((i:Int)<n.Elements.length) from by omega]
  | cons x q=>
   obtain ⟨hg,hd',hlt⟩:=Qce hd
   rw [hd] at hr
   obtain ⟨hga,hra,_⟩:=Qce hr
   simp only [show decide ((i:Int)<((n.Elements.length:Nat):Int))=true from by simpa using hlt,cond_true,Option.bind_some,chk,Int.toNat_natCast,hga]
   rw [show (decide ((0:Int)≤(i:Int))&&decide (i<n.Elements.length))=true by simp; omega,Qd8 (x:=(i:Int)+1) (by omega) (by omega),show (i:Int)+1=((i+1:Nat):Int) by omega]
   simp only [cond_true]
   rw [hd,ofL] at ho
   have hlen:(n.Elements.drop (i+1)).length<m:=by rw [hd']; rw [hd] at h; simp at h; omega
   by_cases hk:x.Kind=4
   ·rw [if_pos hk] at ho
    obtain ⟨hgo,hdo,hlo⟩:=Qce ho.symm
    have hgv:v[j]? = some (v[j]'(by omega)):=List.getElem?_eq_getElem _
    rw [show (x.Kind==4)=true by simpa using hk,cond_true,Qd1 hgv,Option.bind_some,Qd8 (x:=(j:Int)+1) (by omega) (by omega),show (j:Int)+1=((j+1:Nat):Int) by omega,
     ← ho,show v.drop j=v[j]'(by omega)::v.drop (j+1) from List.drop_eq_getElem_cons (by omega),List.zip_cons_cons,putL,Int.toNat_natCast,hga,← hdo]
    refine ih (i+1) (j+1) _ hlen (by rw [List.length_set]; exact ha) ?_ ?_ (by omega)
    ·rw [List.drop_set_of_lt (by omega),hra,hd']
    ·rw [hd',hdo]
   ·rw [if_neg hk] at ho
    rw [show (x.Kind==4)=false by simpa using hk,cond_false]
    exact ih (i+1) j acc hlen ha (by rw [hra,hd']) (by rw [hd',ho]) (by omega)
theorem Zeb {v:List Int} (hv:v.length=(ofL 4 0 n.Elements).length) (hne:1≤n.Elements.length):Qip N n v=some (setN n v):=by
 have e0:=hs.e
 have hE:(!n.Elements.isEmpty)=true:=by
  cases h:n.Elements with
  | nil=>rw [h] at hne; simp at hne
  | cons=>rfl
 unfold Qip
 simp only [chk,hE,cond_true]
 rw [show decide ((0+n.Elements.length) * 88≤140737488355328)=true by simp; omega,cond_true,Qjg]
 refine (Q4t hs v hv _ N 0 0 _ (by simp; omega) rfl rfl (by rw [List.drop_zero,List.drop_zero]) (Nat.le_refl _)).trans ?_
 rw [List.drop_zero,List.drop_zero,Qlf,decide_eq_true (Nat.le_refl _),cond_true,List.take_of_length_le (by rw [Qlf]; exact Nat.le_refl _)]
 rfl
end
theorem Q05 (N:Nat) (x:GElement) (k:Unit→Option Bool) (hl:x.From.length≤1000):∀ (m i:Nat),(x.From.drop i).length<m→Qc2 N k x x m i=k ():=by
 intro m
 induction m with
 | zero=>intro i h; exact absurd h (Nat.not_lt_zero _)
 | succ m ih=>
  intro i h
  rw [Qc2]
  cases hd:x.From.drop i with
  | nil=>
   have:=Qdd hd
   simp [show ¬ ((i:Int)<x.From.length) from by omega]
  | cons y q=>
   obtain ⟨hg,hd',hlt⟩:=Qce hd
   simp only [show decide ((i:Int)<x.From.length)=true from by simpa using hlt,cond_true,Qd1 hg,Option.bind_some,bne_self_eq_false,cond_false]
   rw [Qd8 (x:=(i:Int)+1) (by omega) (by omega),show (i:Int)+1=((i+1:Nat):Int) by omega,ih (i+1) (by rw [hd']; rw [hd] at h; simp at h; omega)]
theorem Q06 {N:Nat} {n:GNet} (hs:Small n) (hN:1001≤N) (k:Unit→Option Bool):∀ (m i:Nat),(n.Elements.drop i).length<m→Qc3 N n n k m i=k ():=by
 have e0:=hs.e
 intro m
 induction m with
 | zero=>intro i h; exact absurd h (Nat.not_lt_zero _)
 | succ m ih=>
  intro i h
  rw [Qc3]
  cases hd:n.Elements.drop i with
  | nil=>
   have:=Qdd hd
   simp [show ¬ ((i:Int)<n.Elements.length) from by omega]
  | cons x q=>
   obtain ⟨hg,hd',hlt⟩:=Qce hd
   have hx:=hs.x x (List.mem_of_getElem? hg)
   simp only [show decide ((i:Int)<n.Elements.length)=true from by simpa using hlt,cond_true,Qjg,Qd1 hg,Option.bind_some,bne_self_eq_false,cond_false,Zes (show x.Weights.length≤1000 by omega) hN,Bool.not_true]
   refine (Q05 N x _ (by omega) N 0 (by simp; omega)).trans ?_
   rw [Qd8 (x:=(i:Int)+1) (by omega) (by omega),show (i:Int)+1=((i+1:Nat):Int) by omega]
   exact ih (i+1) (by rw [hd']; rw [hd] at h; simp at h; omega)
theorem Q04 (N:Nat) (n:GNet) (k:Unit→Option Bool) (hl:n.Table.length≤1000):∀ (m i:Nat),(n.Table.drop i).length<m→Qc1 N n n k m i=k ():=by
 intro m
 induction m with
 | zero=>intro i h; exact absurd h (Nat.not_lt_zero _)
 | succ m ih=>
  intro i h
  rw [Qc1]
  cases hd:n.Table.drop i with
  | nil=>
   have:=Qdd hd
   simp [show ¬ ((i:Int)<n.Table.length) from by omega]
  | cons y q=>
   obtain ⟨hg,hd',hlt⟩:=Qce hd
   simp only [show decide ((i:Int)<n.Table.length)=true from by simpa using hlt,cond_true,Qd1 hg,Option.bind_some,bne_self_eq_false,cond_false]
   rw [Qd8 (x:=(i:Int)+1) (by omega) (by omega),show (i:Int)+1=((i+1:Nat):Int) by omega,ih (i+1) (by rw [hd']; rw [hd] at h; simp at h; omega)]
theorem Qru {N:Nat} {n:GNet} (hs:Small n) (hN:1001≤N):Qdc N n n=some true:=by
 have e0:=hs.e
 have t0:=hs.t
 unfold Qdc
 simp only [bne_self_eq_false,cond_false,Qjg]
 refine (Q04 N n _ (by omega) N 0 (by simp; omega)).trans ?_
 exact Q06 hs hN _ N 0 (by simp; omega)
def netZ:GNet:=⟨[],[]⟩
theorem Q1c:Small netZ:=⟨by decide,by decide,fun x h=>by cases h⟩
def setA (n:GNet) (v:List Int):GNet×Int:=
 if netB n=true∧v.length=cntK n 4∧netB (setN n v)=true then (setN n v,0) else (netZ,1)
theorem Zg3 {N:Nat} {n:GNet} (hs:Small n) (hN:1001≤N) {v:List Int}:Qk6 N n v=some (setA n v):=by
 have hof:(ofL 4 0 n.Elements).length=cntK n 4:=Qn8 4 _ _
 unfold Qk6 setA
 rw [Qjg,Q5e hs hN,Option.bind_some]
 cases hb:netB n with
 | false=>rfl
 | true=>
  have hv:=Q5c hb
  rw [Bool.not_true,cond_false,Zbs hs hN 4,Option.bind_some,hof]
  by_cases hl:v.length=cntK n 4
  ·rw [show ((v.length:Int) != (cntK n 4:Int))=false by rw [hl]; simp,cond_false,Zec hs hN (by rw [hof,hl]) hv.len.1,Option.bind_some,Q5e (Qn2 hs v) hN,Option.bind_some]
   cases hb2:netB (setN n v) with
   | false=>rw [if_neg (by simp)]; rfl
   | true=>rw [if_pos ⟨rfl,hl,rfl⟩]; rfl
  ·rw [show ((v.length:Int) != (cntK n 4:Int))=true by rw [bne_iff_ne]; omega,cond_true,if_neg (by simp [hl])]
   rfl
theorem Q8f (n:GNet) (s:List Int) (gn:Q5v n) (_:Qxc s):Qhi (n.Elements.length+s.length+2000) n s=some true:=by
 generalize hNN:n.Elements.length+s.length+2000=N
 have hN:1001≤N:=by omega
 have hl:(n.Elements.length:Int)≤9223372036854775807:=by
  have:=gn.2.1
  rw [Q5k] at this
  omega
 unfold Qhi
 rw [Qjg]
 rcases Zhf (N:=N) (n:=n) (ws:=[]) hl (by omega) with e | ⟨e,hs,_⟩
 ·rw [e,Option.bind_some,Bool.not_false,cond_true,Qmp]; rfl
 rw [e,Option.bind_some,Bool.not_true,cond_false]
 by_cases h25:(s.length:Int)>25
 ·rw [decide_eq_true h25,cond_true,Qmp]; rfl
 rw [decide_eq_false h25,cond_false,Zhb hs hN,Zer N (show s.length≤1000 by omega),Option.bind_some,Option.bind_some,Zg3 hs hN,Option.bind_some,Qjg,Q5d hs hN,Option.bind_some]
 have hz:(bif (((netZ,1):GNet×Int).2==1) then (Qdc N (⟨netZ.Table,netZ.Elements⟩:GNet) (⟨[],[]⟩:GNet)).bind fun x22=>bif x22 then (Qem 2000).bind fun x25=>some x25 else some false else some false)=some true:=by
  show (Qdc N netZ netZ).bind _=_
  rw [Qru Q1c hN,Qmp]
  rfl
 cases hb:netB n with
 | false=>
  rw [show setA n s=(netZ,1) by unfold setA; rw [if_neg (by simp [hb])]]
  exact hz
 | true=>
  have hv:=Q5c hb
  show (bif !true then _ else _)=_
  rw [Bool.not_true,cond_false,Zab 4 (show n.Elements.length≤1000 by have:=hs.e; omega) hN,Option.bind_some]
  by_cases hc:s.length=cntK n 4
  ·have hof:(ofL 4 0 n.Elements).length=cntK n 4:=Qn8 4 _ _
   rw [show ((s.length:Int) != (cntK n 4:Int))=false by rw [hc]; simp,cond_false,Zeb hs hN (by rw [hof,hc]) hv.len.1,Option.bind_some,Q5d (Qn2 hs s) hN,Option.bind_some]
   cases hb2:netB (setN n s) with
   | false=>
    rw [show setA n s=(netZ,1) by unfold setA; rw [if_neg (by simp [hb2])]]
    exact hz
   | true=>
    rw [Bool.not_true,cond_false,show setA n s=(setN n s,0) by unfold setA; rw [if_pos ⟨hb,hc,hb2⟩]]
    show (Qdc N (setN n s) (setN n s)).bind _=_
    rw [Qru (Qn2 hs s) hN,Qmp]
    rfl
  ·rw [show ((s.length:Int) != (cntK n 4:Int))=true by rw [bne_iff_ne]; omega,cond_true,show setA n s=(netZ,1) by unfold setA; rw [if_neg (by simp [hc])]]
   exact hz
end Go.Proofs.YtmbhnllcfmiajaaGreat
