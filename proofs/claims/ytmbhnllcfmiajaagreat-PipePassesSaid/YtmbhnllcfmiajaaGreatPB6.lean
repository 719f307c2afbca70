/-
  Plain laws on numbers, streams, tables and flashes, for layer 6. No conditions.
-/
import Derived.Test.YtmbhnllcfmiajaaGreatX6
import Derived.Test.YtmbhnllcfmiajaaGreatXo
namespace Go.Proofs.YtmbhnllcfmiajaaGreat
open Go.RowKit
theorem Qbd {x:Int} (h:-9223372036854775808≤x) (h':x≤9223372036854775807):w64 x=x:=by
 unfold w64
 rw [IntKind.wrap_i64]
 omega
theorem Qck {α:Type} {l:List α} {i:Nat} {x:α} (h:l[i]? = some x):getI l (i:Int)=some x:=by
 simp [getI,h]
def btw (a lo hi:Int):Bool:=decide (lo≤a)&&decide (a≤hi)
theorem Qeq {a lo hi:Int}:btw a lo hi=true ↔ lo≤a∧a≤hi:=by simp [btw]
theorem Qlp (a b:Int):w64 (w64 a+b)=w64 (a+b):=by
 unfold w64
 rw [IntKind.wrap_i64,IntKind.wrap_i64,IntKind.wrap_i64]
 omega
theorem Q85:maxLen=9223372036854775807:=rfl
theorem Qkc {κ β:Type} (k:κ) (f:κ→Option β):Qbp k f=f k:=by rw [Qbp]
def rowB (r:GRow):Bool:=btw r.T 0 400&&btw r.P 1 10000&&btw r.Liquid 0 4000&&btw r.Silica 0 2000&&decide (r.Liquid<r.Vapour)&&decide (r.Vapour≤4000)
def Q78 (o r:GRow):Bool:=decide (o.T<r.T)&&decide (o.P<r.P)&&decide (o.Liquid<r.Liquid)&&decide (o.Silica≤r.Silica)
def Qnu:List GRow→Bool
 | a::b::l=>Q78 a b&&Qnu (b::l)
 | _=>true
def tabB (t:List GRow):Bool:=btw t.length 2 20&&t.all rowB&&Qnu t
theorem Qz2 (N:Nat) (a lo hi:Int):Qdn N a lo hi=some (btw a lo hi):=by
 unfold Qdn btw
 by_cases h:lo≤a<;>simp [h]
theorem Qkm (N:Nat) (a lo hi:Int):Qcy N a lo hi=some (btw a lo hi):=by
 unfold Qcy btw
 by_cases h:lo≤a<;>simp [h]
theorem Zes (N:Nat) (r:GRow):Qgi N r=some (rowB r):=by
 unfold Qgi rowB
 simp only [Qkm,Option.bind_some]
 cases btw r.T 0 400<;>cases btw r.P 1 10000<;>cases btw r.Liquid 0 4000<;>cases btw r.Silica 0 2000<;>by_cases h:r.Liquid<r.Vapour<;>simp [h]
theorem Qb8 {α:Type} {t:List α} {i:Nat} {a:α} {l:List α} (h:t.drop i=a::l):t[i]? = some a∧t.drop (i+1)=l∧i<t.length:=by
 have hlt:i<t.length:=by
  rcases Nat.lt_or_ge i t.length with h' | h'
  ·exact h'
  ·rw [List.drop_eq_nil_of_le h'] at h; cases h
 rw [List.drop_eq_getElem_cons hlt] at h
 injection h with h1 h2
 exact ⟨by rw [List.getElem?_eq_getElem hlt,h1],h2,hlt⟩
theorem Qcp {α:Type} {t:List α} {i:Nat} (h:t.drop i=[]):t.length≤i:=List.drop_eq_nil_iff.1 h
theorem Q0c (N:Nat) (t:List GRow) (k:Unit→Option Int) (hl:t.length≤1000):∀ (n i:Nat),(t.drop i).length<n→i≤t.length →
  Qa4 N t k n i=bif (t.drop i).all rowB then k () else some ((i:Int)+((t.drop i).findIdx fun r=>!rowB r:Nat)):=by
 intro n
 induction n with
 | zero=>intro i h; omega
 | succ n ih=>
  intro i h hi
  unfold Qa4
  cases hd:t.drop i with
  | nil=>
   have:=Qcp hd
   rw [show (decide ((i:Int)<(t.length:Int)))=false by simp; omega]
   rfl
  | cons a l=>
   obtain ⟨h1,h2,h3⟩:=Qb8 hd
   rw [show (decide ((i:Int)<(t.length:Int)))=true by simp; omega]
   simp only [cond_true,Qck h1,Option.bind_some,Qes,Zes]
   cases hr:rowB a with
   | false=>simp [hr,List.findIdx_cons]
   | true=>
    have e:w64 ((i:Int)+1)=((i+1:Nat):Int):=by rw [Qbd]<;>omega
    rw [e]
    have:=ih (i+1) (by rw [h2]; rw [hd] at h; simpa using h) (by omega)
    simp only [Bool.not_true,cond_false,this,h2,List.all_cons,hr,Bool.true_and,List.findIdx_cons]
    congr 2
    push_cast
    omega
theorem Zav {N:Nat} {t:List GRow} (hl:t.length≤1000) (hN:1001≤N):Qed N t=some (t.all rowB):=by
 have:=Q0c N t (fun _=>some (-1)) hl N 0 (by simp; omega) (Nat.zero_le _)
 rw [show ((0:Nat):Int)=0 from rfl,List.drop_zero] at this
 unfold Qed Qcd Qcm Qbp
 dsimp only
 rw [this]
 cases h:t.all rowB with
 | true=>simp
 | false=>simp
theorem Q4b (N:Nat) (t:List GRow) (k:Unit→Option Bool) (hl:t.length≤1000):∀ (n i:Nat),(t.drop i).length<n→i<t.length →
  Qcs N t k n i=bif Qnu (t.drop i) then k () else some false:=by
 intro n
 induction n with
 | zero=>intro i h; omega
 | succ n ih=>
  intro i h hi
  unfold Qcs
  have hdr:∀ x,(t.drop (1:Int).toNat)[i]? = some x ↔ t[i+1]? = some x:=fun x=>by
   rw [show (1:Int).toNat=1 from rfl,List.getElem?_drop,Nat.add_comm]
  have hlen:(t.drop (1:Int).toNat).length=t.length - 1:=by simp
  cases hd:t.drop i with
  | nil=>have:=Qcp hd; omega
  | cons a l=>
   obtain ⟨h1,h2,h3⟩:=Qb8 hd
   cases l with
   | nil=>
    have:=Qcp h2
    rw [show (decide ((i:Int)<((t.drop (1:Int).toNat).length:Int)))=false by rw [hlen]; simp; omega]
    rfl
   | cons b l=>
    obtain ⟨h4,h5,h6⟩:=Qb8 h2
    rw [show (decide ((i:Int)<((t.drop (1:Int).toNat).length:Int)))=true by rw [hlen]; simp; omega]
    have e:w64 ((i:Int)+1)=((i+1:Nat):Int):=by rw [Qbd]<;>omega
    simp only [cond_true,Qck ((hdr b).2 h4),Qck h1,Option.bind_some,e]
    have:=ih (i+1) (by rw [h2]; rw [hd] at h; simpa using h) (by omega)
    simp only [this,h2,Qnu,Q78]
    by_cases c1:b.T≤a.T
    ·simp [c1,Int.not_lt.2 c1]
    ·by_cases c2:b.P≤a.P
     ·simp [c1,c2,Int.not_lt.2 c2]
     ·by_cases c3:b.Liquid≤a.Liquid
      ·simp [c1,c2,c3,Int.not_lt.2 c3]
      ·by_cases c4:b.Silica<a.Silica
       ·simp [c1,c2,c3,c4,Int.not_le.2 c4]
       ·simp [c1,c2,c3,c4,Int.not_le.1 c1,Int.not_le.1 c2,Int.not_le.1 c3,Int.not_lt.1 c4]
theorem Qws {N:Nat} {t:List GRow} (hl:t.length≤1000) (hN:1001≤N):Qet N t=some (tabB t):=by
 unfold Qet tabB
 rw [Qkm,Zav hl hN]
 cases hb:btw t.length 2 20 with
 | false=>rfl
 | true=>
  have h2:2≤t.length:=by simp [btw] at hb; omega
  cases ha:t.all rowB with
  | false=>rfl
  | true=>
   have:=Q4b N t (fun _=>some true) hl N 0 (by simp; omega) (by omega)
   rw [show ((0:Nat):Int)=0 from rfl,List.drop_zero] at this
   simp only [Option.bind_some,Bool.not_true,cond_false,Qbp,Bool.true_and]
   rw [this]
   rw [show (decide ((1:Int)≤(t.length:Int)))=true by rw [decide_eq_true_eq]; omega]
   cases Qnu t<;>simp [chk]
def Qzy:Option GRow→List GRow→Bool
 | _,[]=>true
 | o,a::l=>rowB a&&(match o with | none=>true | some p=>Q78 p a)&&Qzy (some a) l
theorem Qtr:∀ (a:GRow) (l:List GRow),Qzy (some a) l=(l.all rowB&&Qnu (a::l))
 | _,[]=>rfl
 | a,b::l=>by
  rw [Qzy,Qtr b l,List.all_cons,Qnu]
  cases rowB b<;>cases l.all rowB<;>cases Q78 a b<;>simp
theorem Q4o:∀ (t:List GRow),Qzy none t=(t.all rowB&&Qnu t)
 | []=>rfl
 | a::l=>by
  rw [Qzy,Qtr a l,List.all_cons]
  cases rowB a<;>simp
theorem Qzk (N:Nat) (t:List GRow) (k:Unit→Option Bool) (hl:t.length≤9223372036854775807):∀ (n i:Nat),(t.drop i).length<n→i≤t.length →
  Qdk N t k n i=bif Qzy (if i=0 then none else t[i - 1]?) (t.drop i) then k () else some false:=by
 intro n
 induction n with
 | zero=>intro i h; omega
 | succ n ih=>
  intro i h hi
  unfold Qdk
  cases hd:t.drop i with
  | nil=>
   have:=Qcp hd
   rw [show (decide ((i:Int)<(t.length:Int)))=false by simp; omega]
   rfl
  | cons a l=>
   obtain ⟨h1,h2,h3⟩:=Qb8 hd
   rw [show (decide ((i:Int)<(t.length:Int)))=true by simp; omega]
   have e:w64 ((i:Int)+1)=((i+1:Nat):Int):=by rw [Qbd]<;>omega
   have:=ih (i+1) (by rw [h2]; rw [hd] at h; simpa using h) (by omega)
   simp only [Nat.add_sub_cancel,Nat.succ_ne_zero,if_false,h1,h2] at this
   simp only [cond_true,Qck h1,Option.bind_some,e,Qz2,this,Qzy,rowB,Qbp]
   cases btw a.T 0 400
   ·rfl
   cases btw a.P 1 10000
   ·rfl
   cases btw a.Liquid 0 4000
   ·rfl
   cases btw a.Silica 0 2000
   ·rfl
   by_cases c1:a.Vapour≤a.Liquid
   ·simp [c1,Int.not_lt.2 c1]
   by_cases c2:a.Vapour>4000
   ·simp [c1,c2,Int.not_le.2 c2]
   cases i with
   | zero=>simp [c1,c2,Int.not_le.1 c1,Int.not_lt.1 c2]
   | succ i=>
    have hp:t[i]? = some t[i]:=List.getElem?_eq_getElem (by omega)
    have e2:w64 (((i+1:Nat):Int) - 1)=(i:Int):=by rw [Qbd]<;>omega
    have e3:(decide (((i+1:Nat):Int)>0))=true:=by rw [decide_eq_true_eq]; omega
    generalize t[i]=b at hp
    simp only [Bool.not_true,cond_false,e3,cond_true,e2,Qck hp,Option.bind_some,Nat.add_sub_cancel,hp,Q78,show ¬ (i+1=0) by omega,if_false,decide_eq_false c1,decide_eq_false c2,decide_eq_true (Int.not_le.1 c1),decide_eq_true (Int.not_lt.1 c2),Bool.true_and]
    by_cases d1:a.T≤b.T
    ·simp [d1,Int.not_lt.2 d1]
    ·by_cases d2:a.P≤b.P
     ·simp [d1,d2,Int.not_lt.2 d2]
     ·by_cases d3:a.Liquid≤b.Liquid
      ·simp [d1,d2,d3,Int.not_lt.2 d3]
      ·by_cases d4:a.Silica<b.Silica
       ·simp [d1,d2,d3,d4,Int.not_le.2 d4]
       ·simp [d1,d2,d3,d4,Int.not_le.1 d1,Int.not_le.1 d2,Int.not_le.1 d3,Int.not_lt.1 d4]
theorem Q8i {N:Nat} {t:List GRow} (hl:t.length≤9223372036854775807) (hN:t.length<N):Qiy N t=some (tabB t):=by
 have:=fun k=>Qzk N t k hl N 0 (by simp; omega) (Nat.zero_le _)
 unfold Qiy Qbp tabB
 rw [show ((0:Nat):Int)=0 from rfl] at this
 dsimp only
 rw [this]
 simp only [List.drop_zero,if_true,Q4o,btw]
 by_cases h:(2:Int)≤t.length<;>cases t.all rowB<;>cases Qnu t<;>simp [h]
theorem Q4v (N:Nat) (t:List GRow) (k:List GRow→Option (List GRow)) (hl:t.length≤1000):∀ (n i:Nat) (acc:List GRow),(t.drop i).length<n→i≤t.length→acc.length=i →
  Qd8 N t k n acc i=k (acc++t.drop i):=by
 intro n
 induction n with
 | zero=>intro i acc h; omega
 | succ n ih=>
  intro i acc h hi ha
  unfold Qd8
  cases hd:t.drop i with
  | nil=>
   have:=Qcp hd
   rw [show (decide ((i:Int)<(t.length:Int)))=false by simp; omega]
   simp
  | cons a l=>
   obtain ⟨h1,h2,h3⟩:=Qb8 hd
   rw [show (decide ((i:Int)<(t.length:Int)))=true by simp; omega]
   have e:w64 ((i:Int)+1)=((i+1:Nat):Int):=by rw [Qbd]<;>omega
   have hc:decide ((acc.length+[a].length) * 40≤140737488355328)=true:=by simp; omega
   simp only [cond_true,Qck h1,Option.bind_some,e,hc,chk]
   rw [ih (i+1) _ (by rw [h2]; rw [hd] at h; simpa using h) (by omega) (by simp [ha]),h2]
   simp
theorem Zb0 {N:Nat} {t:List GRow} (hl:t.length≤1000) (hN:1001≤N):Qi4 N t=some t:=by
 have:=Q4v N t (fun y=>some y) hl N 0 [] (by simp; omega) (Nat.zero_le _) rfl
 rw [show ((0:Nat):Int)=0 from rfl] at this
 unfold Qi4 Qbp
 dsimp only
 rw [this]
 simp
def strB (s:GStream):Bool:=btw s.Mass 0 1000000&&btw s.Heat 0 (4000 * s.Mass)&&btw s.Silica 0 (10000 * s.Mass)&&btw s.Gas 0 1000000000
theorem Qqi {s:GStream} (h:btw s.Mass 0 1000000=true):w64 (4000 * s.Mass)=4000 * s.Mass∧w64 (10000 * s.Mass)=10000 * s.Mass:=by
 simp only [btw,Bool.and_eq_true,decide_eq_true_eq] at h
 exact ⟨Qbd (by omega) (by omega),Qbd (by omega) (by omega)⟩
theorem Q8j (N:Nat) (s:GStream):Qft N s=some (strB s):=by
 unfold Qft strB
 simp only [Qz2,Option.bind_some]
 cases h:btw s.Mass 0 1000000 with
 | false=>rfl
 | true=>
  rw [(Qqi h).1,(Qqi h).2]
  cases btw s.Heat 0 (4000 * s.Mass)<;>cases btw s.Silica 0 (10000 * s.Mass)<;>cases btw s.Gas 0 1000000000<;>rfl
theorem Qu0 (N:Nat) (s:GStream):Qdt N s=some (strB s):=by
 unfold Qdt strB
 simp only [Qkm,Option.bind_some]
 cases h:btw s.Mass 0 1000000 with
 | false=>rfl
 | true=>
  rw [(Qqi h).1,(Qqi h).2]
  cases btw s.Heat 0 (4000 * s.Mass)<;>cases btw s.Silica 0 (10000 * s.Mass)<;>cases btw s.Gas 0 1000000000<;>rfl
structure RowV (r:GRow):Prop where
 l0:0≤r.Liquid
 l1:r.Liquid≤4000
 lv:r.Liquid<r.Vapour
 v1:r.Vapour≤4000
 s0:0≤r.Silica
 s1:r.Silica≤2000
theorem Zin {r:GRow} (h:rowB r=true):RowV r:=by
 simp [rowB,btw] at h
 exact ⟨by omega,by omega,by omega,by omega,by omega,by omega⟩
structure StrV (s:GStream):Prop where
 m0:0≤s.Mass
 m1:s.Mass≤1000000
 h0:0≤s.Heat
 h1:s.Heat≤4000 * s.Mass
 s0:0≤s.Silica
 s1:s.Silica≤10000 * s.Mass
 g0:0≤s.Gas
 g1:s.Gas≤1000000000
theorem Ql6 {s:GStream}:strB s=true ↔ StrV s:=by
 simp only [strB,btw,Bool.and_eq_true,decide_eq_true_eq]
 exact ⟨fun h=>⟨by omega,by omega,by omega,by omega,by omega,by omega,by omega,by omega⟩,fun h=>by obtain ⟨_,_,_,_,_,_,_,_⟩:=h; omega⟩
theorem bdp {x y a b:Int} (hx:0≤x) (hx':x≤a) (hy:0≤y) (hy':y≤b) (ha:0≤a):0≤x * y∧x * y≤a * b:=
 ⟨Int.mul_nonneg hx hy,Int.mul_le_mul hx' hy' hy ha⟩
def stm (r:GRow) (s:GStream):Int:=
 if s.Heat - s.Mass * r.Liquid≤0 then 0 else if s.Mass * r.Vapour≤s.Heat then s.Mass else (s.Heat - s.Mass * r.Liquid).tdiv (r.Vapour - r.Liquid)
def flG (r:GRow) (s:GStream):GParts:=
 if stm r s=0 then ⟨⟨0,0,0,0⟩,⟨s.Mass,s.Heat,min (s.Mass * r.Silica) s.Silica,s.Gas⟩,if 0<s.Mass then max (s.Heat - s.Mass * r.Liquid) 0 else 0,s.Silica - min (s.Mass * r.Silica) s.Silica⟩
 else if stm r s=s.Mass then ⟨⟨s.Mass,s.Heat,0,s.Gas⟩,⟨0,0,0,0⟩,0,s.Silica⟩
 else ⟨⟨stm r s,stm r s * r.Vapour,0,s.Gas⟩,⟨s.Mass - stm r s,s.Heat - stm r s * r.Vapour,min ((s.Mass - stm r s) * r.Silica) s.Silica,0⟩,s.Heat - stm r s * r.Vapour - (s.Mass - stm r s) * r.Liquid,s.Silica - min ((s.Mass - stm r s) * r.Silica) s.Silica⟩
theorem Qq5 {r:GRow} {s:GStream} (hr:RowV r) (hs:StrV s) :
  (s.Heat - s.Mass * r.Liquid≤0∧stm r s=0) ∨
  (0<s.Heat - s.Mass * r.Liquid∧s.Mass * r.Vapour≤s.Heat∧stm r s=s.Mass∧0<s.Mass) ∨
  (0<s.Heat - s.Mass * r.Liquid∧s.Heat<s.Mass * r.Vapour∧stm r s=(s.Heat - s.Mass * r.Liquid).tdiv (r.Vapour - r.Liquid)∧0≤stm r s∧stm r s<s.Mass∧stm r s * (r.Vapour - r.Liquid)≤s.Heat - s.Mass * r.Liquid∧s.Heat - s.Mass * r.Liquid<stm r s * (r.Vapour - r.Liquid)+(r.Vapour - r.Liquid)):=by
 obtain ⟨l0,l1,lv,v1,s0,s1⟩:=hr
 obtain ⟨m0,m1,h0,h1,_,_,_,_⟩:=hs
 by_cases c1:s.Heat - s.Mass * r.Liquid≤0
 ·exact .inl ⟨c1,by unfold stm; rw [if_pos c1]⟩
 ·by_cases c2:s.Mass * r.Vapour≤s.Heat
  ·refine .inr (.inl ⟨by omega,c2,by unfold stm; rw [if_neg c1,if_pos c2],?_⟩)
   rcases Int.lt_or_eq_of_le m0 with h | h
   ·exact h
   ·rw [← h] at h1 c1
    simp at h1 c1
    omega
  ·have e:stm r s=(s.Heat - s.Mass * r.Liquid).tdiv (r.Vapour - r.Liquid):=by unfold stm; rw [if_neg c1,if_neg c2]
   have e2:stm r s=(s.Heat - s.Mass * r.Liquid) / (r.Vapour - r.Liquid):=by rw [e,Int.tdiv_eq_ediv_of_nonneg (by omega)]
   have d0:0<r.Vapour - r.Liquid:=by omega
   have q1:=Int.ediv_mul_le (s.Heat - s.Mass * r.Liquid) (b:=r.Vapour - r.Liquid) (by omega)
   have q2:=Int.lt_mul_ediv_self_add (x:=s.Heat - s.Mass * r.Liquid) (k:=r.Vapour - r.Liquid) d0
   have q3:0≤stm r s:=by rw [e2]; exact Int.ediv_nonneg (by omega) (by omega)
   rw [← e2] at q1 q2
   rw [Int.mul_comm (r.Vapour - r.Liquid)] at q2
   refine .inr (.inr ⟨by omega,by omega,e,q3,?_,q1,q2⟩)
   rw [e2]
   refine Int.ediv_lt_of_lt_mul d0 ?_
   rw [Int.mul_sub]
   omega
structure Words (r:GRow) (s:GStream):Prop where
 a:w64 (s.Mass * r.Liquid)=s.Mass * r.Liquid
 b:w64 (s.Heat - s.Mass * r.Liquid)=s.Heat - s.Mass * r.Liquid
 c:w64 (s.Mass * r.Vapour)=s.Mass * r.Vapour
 d:w64 (r.Vapour - r.Liquid)=r.Vapour - r.Liquid
theorem Zic {r:GRow} {s:GStream} (hr:RowV r) (hs:StrV s):Words r s:=by
 obtain ⟨l0,l1,lv,v1,s0,s1⟩:=hr
 obtain ⟨m0,m1,h0,h1,_,_,_,_⟩:=hs
 have p1:=bdp m0 m1 l0 l1 (by omega)
 have p2:=bdp (y:=r.Vapour) m0 m1 (by omega) v1 (by omega)
 exact ⟨Qbd (by omega) (by omega),Qbd (by omega) (by omega),Qbd (by omega) (by omega),Qbd (by omega) (by omega)⟩
theorem Zb2 (N:Nat) {r:GRow} {s:GStream} (hr:RowV r) (hs:StrV s):Qfn N ⟨r⟩ s=some (stm r s):=by
 obtain ⟨wa,wb,wc,wd⟩:=Zic hr hs
 have hlv:=hr.lv
 have hd:((r.Vapour - r.Liquid) != 0)=true:=by simp; omega
 have hs':=hs
 obtain ⟨m0,m1,h0,h1,_,_,_,_⟩:=hs'
 unfold Qfn
 simp only [wa,wb,wc,wd,Option.bind_some,hd,chk,cond_true]
 rcases Qq5 hr hs with ⟨a,b⟩ | ⟨a,b,c,d⟩ | ⟨a,b,c,d,e,_,_⟩
 ·rw [decide_eq_true a,b]; rfl
 ·rw [decide_eq_false (show ¬ s.Heat - s.Mass * r.Liquid≤0 by omega),decide_eq_true (show s.Heat≥s.Mass * r.Vapour from b),c]; rfl
 ·rw [decide_eq_false (show ¬ s.Heat - s.Mass * r.Liquid≤0 by omega),decide_eq_false (show ¬ s.Heat≥s.Mass * r.Vapour by omega),← c,Qbd (by omega) (by omega)]; rfl
theorem Znr (N:Nat) {r:GRow} {s:GStream} (hr:RowV r) (hs:StrV s):Qf4 N ⟨r⟩ s=some (flG r s):=by
 have hw:=Zic hr hs
 have hc:=Qq5 hr hs
 have he:=Zb2 N hr hs
 obtain ⟨l0,l1,lv,v1,s0,s1⟩:=hr
 obtain ⟨m0,m1,h0,h1,q0,q1,_,_⟩:=hs
 unfold Qf4
 have:(⟨⟨r.T,r.P,r.Liquid,r.Vapour,r.Silica⟩⟩:GFlash)=⟨r⟩:=rfl
 dsimp only at this ⊢
 rw [he]
 have p1:=bdp m0 m1 s0 s1 (by omega)
 simp only [Option.bind_some,Qbp]
 unfold flG
 generalize hm:stm r s=m at *
 by_cases z:m=0
 ·subst z
  rw [if_pos rfl,hw.a,Qbd (x:=s.Mass * r.Silica) (by omega) (by omega),hw.b]
  simp only [beq_self_eq_true,cond_true]
  have:w64 (s.Silica - (if s.Mass * r.Silica<s.Silica then s.Mass * r.Silica else s.Silica))=s.Silica - min (s.Mass * r.Silica) s.Silica:=by
   rw [Qbd]<;>(repeat split)<;>omega
  rw [this]
  by_cases c:0<s.Mass
  ·rw [decide_eq_true (show s.Mass>0 from c),if_pos c]
   simp only [cond_true]
   congr 2
   ·congr 1; split<;>omega
   ·split<;>omega
  ·rw [decide_eq_false (show ¬ s.Mass>0 from c),if_neg c]
   simp only [cond_false]
   congr 2
   congr 1; split<;>omega
 ·have z1:(m==0)=false:=by simpa using z
  rw [if_neg z,z1]
  by_cases f:m=s.Mass
  ·have f1:(m==s.Mass)=true:=by simpa using f
   rw [f1,if_pos f]
   have:w64 (0 * r.Silica)=0:=by rw [Int.zero_mul]; rfl
   simp only [cond_false,cond_true,this]
   have:w64 (s.Silica - (if 0<s.Silica then 0 else s.Silica))=s.Silica:=by rw [Qbd]<;>split<;>omega
   rw [this]
   simp only [show decide ((0:Int)>0)=false from rfl,cond_false]
   congr 2
   ·rw [f]
   ·congr 1; split<;>omega
  ·have f1:(m==s.Mass)=false:=by simpa using f
   rw [f1,if_neg f]
   rcases hc with ⟨a,b⟩ | ⟨a,b,c,d⟩ | ⟨a,b,c,d,e,g1,g2⟩
   ·exact absurd b z
   ·exact absurd c f
   ·have k1:=bdp d (show m≤1000000 by omega) (show 0≤r.Vapour by omega) v1 (by omega)
    have k2:=bdp (show 0≤s.Mass - m by omega) (show s.Mass - m≤1000000 by omega) s0 s1 (by omega)
    have k3:=bdp (show 0≤s.Mass - m by omega) (show s.Mass - m≤1000000 by omega) l0 l1 (by omega)
    rw [Int.mul_sub] at g1
    have k4:0≤s.Heat - m * r.Vapour - (s.Mass - m) * r.Liquid:=by rw [Int.sub_mul]; omega
    simp only [cond_false]
    rw [Qbd (x:=s.Mass - m) (by omega) (by omega),Qbd (x:=m * r.Vapour) (by omega) (by omega),Qbd (x:=s.Heat - m * r.Vapour) (by omega) (by omega),Qbd (x:=(s.Mass - m) * r.Silica) (by omega) (by omega),Qbd (x:=(s.Mass - m) * r.Liquid) (by omega) (by omega),Qbd (x:=s.Heat - m * r.Vapour - (s.Mass - m) * r.Liquid) (by omega) (by omega),decide_eq_true (show s.Mass - m>0 by omega)]
    have:w64 (s.Silica - (if (s.Mass - m) * r.Silica<s.Silica then (s.Mass - m) * r.Silica else s.Silica))=s.Silica - min ((s.Mass - m) * r.Silica) s.Silica:=by
     rw [Qbd]<;>(repeat split)<;>omega
    rw [this]
    simp only [cond_true]
    congr 2
    ·congr 1; split<;>omega
    ·split<;>omega
structure KeptF (s:GStream) (p:GParts):Prop where
 st:StrV p.Steam
 wa:StrV p.Water
 km:p.Steam.Mass+p.Water.Mass=s.Mass
 kh:p.Steam.Heat+p.Water.Heat=s.Heat
 ks:p.Water.Silica+p.Scale=s.Silica
 kg:p.Steam.Gas+p.Water.Gas=s.Gas
 z:p.Steam.Silica=0
 sc:0≤p.Scale
theorem Q2q {r:GRow} {s:GStream} (hr:RowV r) (hs:StrV s):KeptF s (flG r s):=by
 have hc:=Qq5 hr hs
 obtain ⟨l0,l1,lv,v1,s0,s1⟩:=hr
 obtain ⟨m0,m1,h0,h1,q0,q1,y0,y1⟩:=hs
 have p1:=bdp m0 m1 s0 s1 (by omega)
 unfold flG
 by_cases z:stm r s=0
 ·rw [if_pos z]
  refine ⟨⟨?_,?_,?_,?_,?_,?_,?_,?_⟩,⟨?_,?_,?_,?_,?_,?_,?_,?_⟩,?_,?_,?_,?_,?_,?_⟩<;>dsimp only<;>omega
 ·rw [if_neg z]
  by_cases f:stm r s=s.Mass
  ·rw [if_pos f]
   refine ⟨⟨?_,?_,?_,?_,?_,?_,?_,?_⟩,⟨?_,?_,?_,?_,?_,?_,?_,?_⟩,?_,?_,?_,?_,?_,?_⟩<;>dsimp only<;>omega
  ·rw [if_neg f]
   rcases hc with ⟨a,b⟩ | ⟨a,b,c,d⟩ | ⟨a,b,c,d,e,g1,g2⟩
   ·exact absurd b z
   ·exact absurd c f
   ·generalize stm r s=m at *
    have k1:=bdp d (show m≤1000000 by omega) (show 0≤r.Vapour by omega) v1 (by omega)
    have k2:=bdp (show 0≤s.Mass - m by omega) (show s.Mass - m≤1000000 by omega) s0 s1 (by omega)
    have k5:m * r.Vapour≤m * 4000:=Int.mul_le_mul_of_nonneg_left v1 d
    have k6:(s.Mass - m) * r.Silica≤(s.Mass - m) * 2000:=Int.mul_le_mul_of_nonneg_left s1 (by omega)
    have k7:(s.Mass - m - 1) * (r.Vapour - r.Liquid)≥0:=Int.mul_nonneg (by omega) (by omega)
    have k8:(s.Mass - m) * r.Vapour≤(s.Mass - m) * 4000:=Int.mul_le_mul_of_nonneg_left v1 (by omega)
    have k9:0≤s.Mass * r.Liquid - m * r.Liquid:=by rw [← Int.sub_mul]; exact Int.mul_nonneg (by omega) l0
    simp only [Int.mul_sub,Int.sub_mul,Int.one_mul] at g1 g2 k7 k8 k6 k2
    refine ⟨⟨?_,?_,?_,?_,?_,?_,?_,?_⟩,⟨?_,?_,?_,?_,?_,?_,?_,?_⟩,?_,?_,?_,?_,?_,?_⟩<;>dsimp only<;>(try simp only [Int.sub_mul])<;>omega
theorem Q8e {t:List GRow} (ht:tabB t=true) {l:Int} (h:btw l 0 (t.length - 1)=true):getI t l=some ((getI t l).getD ⟨0,0,0,0,0⟩)∧RowV ((getI t l).getD ⟨0,0,0,0,0⟩):=by
 simp only [btw,Bool.and_eq_true,decide_eq_true_eq] at h
 have hi:l.toNat<t.length:=by omega
 have e:getI t l=some t[l.toNat]:=by unfold getI; rw [if_pos h.1,List.getElem?_eq_getElem hi]
 rw [e]
 refine ⟨rfl,?_⟩
 simp only [tabB,Bool.and_eq_true] at ht
 exact Zin (List.all_eq_true.1 ht.1.2 _ (List.getElem_mem hi))
def Ziu:GParts:=⟨⟨0,0,0,0⟩,⟨0,0,0,0⟩,0,0⟩
def Q2p (t:List GRow) (l:Int) (s:GStream):GParts×Int:=
 bif !tabB t then (Ziu,1) else bif !btw l 0 (t.length - 1) then (Ziu,2) else bif !strB s then (Ziu,1) else (flG ((getI t l).getD ⟨0,0,0,0,0⟩) s,0)
theorem Zcr {N:Nat} (hN:1001≤N) {t:List GRow} (ht:t.length≤1000) (l:Int) (s:GStream):Qim N t l s=some (Q2p t l s):=by
 have e0:w64 ((t.length:Int) - 1)=(t.length:Int) - 1:=by rw [Qbd]<;>omega
 unfold Qim Q2p
 rw [Qws ht hN]
 cases hT:tabB t with
 | false=>rfl
 | true=>
  simp only [Option.bind_some,Bool.not_true,cond_false,Qha,Qkm,e0,Qu0]
  cases h1:btw l 0 ((t.length:Int) - 1) with
  | false=>rfl
  | true=>
   cases h2:strB s with
   | false=>rfl
   | true=>
    obtain ⟨g1,g2⟩:=Q8e hT h1
    simp only [Bool.not_true,cond_false,Qhp]
    rw [g1]
    simp only [Option.getD_some,Option.bind_some]
    generalize (getI t l).getD ⟨0,0,0,0,0⟩=r at g2
    have ho:Qf4 N ⟨⟨r.T,r.P,r.Liquid,r.Vapour,r.Silica⟩⟩ s=some (flG r s):=Znr N g2 (Ql6.1 h2)
    rw [ho]
    rfl
end Go.Proofs.YtmbhnllcfmiajaaGreat
