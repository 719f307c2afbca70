/-
  The texts PB6, PV6, PN6, POpn, PE6, PSa6, PSb6, PSc6, PTa6, PTb6, PTc6, PHa, PSt6, PRd6, PKo6, PNet, PFt6, PSe6, PCa6, PCb6, PCc6, PCd6, PCe6, PLf6, PCf6, PBa6, PDp, X8, PDl of the proof, one behind the other. No conditions.
-/
import Derived.Test.YtflmombnmnblnaaGreatG4
namespace Go.Proofs.YtflmombnmnblnaaGreat
open _root_.Go.Proofs.Tryz
open Go.RowKit
set_option maxRecDepth 100000
set_option maxHeartbeats 4000000
set_option synthInstance.maxSize 4000
set_option synthInstance.maxHeartbeats 400000
section
theorem Qbs {x:Int}(h:-9223372036854775808≤x) (h':x≤9223372036854775807):w64 x=x:=by
 unfold w64
 rw[IntKind.wrap_i64]
 omega
theorem w64S {i:Nat}(h:(i:Int)+1≤9223372036854775807):w64 ((i:Int)+1)=((i+1:Nat):Int):=Qbs (by omega) h
theorem dlt {α:Type}{l q:List α}{x:α}{i m:Nat}(hd:l.drop i=x::q) (hd':l.drop (i+1)=q) (h:(l.drop i).length<m+1):(l.drop (i+1)).length<m:=by
 rw[hd']
 rw[hd] at h
 simp at h
 omega
theorem dlI {α:Type}{l:List α}{i:Nat}(h:i<l.length):decide ((i:Int)<(l.length:Int))=true:=by simpa using h
theorem Qcu {α:Type}{l:List α}{i:Nat}{x:α}(h:l[i]? = some x):getI l (i:Int)=some x:=by
 simp[getI,h]
def btw (a lo hi:Int):Bool:=decide (lo≤a)&&decide (a≤hi)
theorem Qep {a lo hi:Int}:btw a lo hi=true↔lo≤a∧a≤hi:=by simp[btw]
theorem Qql (a b:Int):w64 (w64 a+b)=w64 (a+b):=by
 unfold w64
 rw[IntKind.wrap_i64,IntKind.wrap_i64,IntKind.wrap_i64]
 omega
theorem Q7m:maxLen=9223372036854775807:=rfl
theorem Qhp {κ β:Type}(k:κ) (f:κ→Option β):Qcf k f=f k:=by rw[Qcf]
def rowB (r:GRow):Bool:=btw r.T 0 400&&btw r.P 1 10000&&btw r.Liquid 0 4000&&btw r.Silica 0 2000&&decide (r.Liquid<r.Vapour)&&decide (r.Vapour≤4000)
def Q6i (o r:GRow):Bool:=decide (o.T<r.T)&&decide (o.P<r.P)&&decide (o.Liquid<r.Liquid)&&decide (o.Silica≤r.Silica)
def Qox:List GRow→Bool
 |a::b::l=>Q6i a b&&Qox (b::l)
 |_=>true
def tabB (t:List GRow):Bool:=btw t.length 2 20&&t.all rowB&&Qox t
theorem Zjs (N:Nat) (a lo hi:Int):Qgs N a lo hi=some (btw a lo hi):=by
 unfold Qgs btw
 by_cases h:lo≤a<;>simp[h]
theorem Qlg (N:Nat) (a lo hi:Int):Qcz N a lo hi=some (btw a lo hi):=by
 unfold Qcz btw
 by_cases h:lo≤a<;>simp[h]
theorem Zcr (N:Nat) (r:GRow):Qgq N r=some (rowB r):=by
 unfold Qgq rowB
 simp only[Qlg,Option.bind_some]
 cases btw r.T 0 400<;>cases btw r.P 1 10000<;>cases btw r.Liquid 0 4000<;>cases btw r.Silica 0 2000<;>by_cases h:r.Liquid<r.Vapour<;>simp[h]
theorem Qcl {α:Type}{t:List α}{i:Nat}{a:α}{l:List α}(h:t.drop i=a::l):t[i]? = some a∧t.drop (i+1)=l∧i<t.length:=by
 have hlt:i<t.length:=by
  rcases Nat.lt_or_ge i t.length with h' |h'
  ·exact h'
  ·rw[List.drop_eq_nil_of_le h'] at h;cases h
 rw[List.drop_eq_getElem_cons hlt] at h
 injection h with h1 h2
 exact⟨by rw[List.getElem?_eq_getElem hlt,h1],h2,hlt⟩
theorem Qc9 {α:Type}{t:List α}{i:Nat}(h:t.drop i=[]):t.length≤i:=List.drop_eq_nil_iff.1 h
theorem Qzr (N:Nat) (t:List GRow) (k:Unit→Option Int) (hl:t.length≤1000):∀(n i:Nat),(t.drop i).length<n→i≤t.length →
  Qa7 N t k n i=bif (t.drop i).all rowB then k () else some ((i:Int)+((t.drop i).findIdx fun r=>!rowB r:Nat)):=by
 intro n
 induction n with
 |zero=>intro i h;omega
 |succ n ih=>
  intro i h hi
  unfold Qa7
  cases hd:t.drop i with
  |nil=>
   have:=Qc9 hd
   rw[show(decide ((i:Int)<(t.length:Int)))=false by simp;omega]
   rfl
  |cons a l=>
   obtain⟨h1,h2,h3⟩:=Qcl hd
   rw[show(decide ((i:Int)<(t.length:Int)))=true by simp;omega]
   simp only[cond_true,Qcu h1,Option.bind_some,Qex,Zcr]
   cases hr:rowB a with
   |false=>simp[hr,List.findIdx_cons]
   |true=>
    have e:w64 ((i:Int)+1)=((i+1:Nat):Int):=by rw[Qbs]<;>omega
    rw[e]
    have:=ih (i+1) (by rw[h2];rw[hd] at h;simpa using h) (by omega)
    simp only[Bool.not_true,cond_false,this,h2,List.all_cons,hr,Bool.true_and,List.findIdx_cons]
    congr 2
    push_cast
    omega
theorem Q9d {N:Nat}{t:List GRow}(hl:t.length≤1000) (hN:1001≤N):Qei N t=some (t.all rowB):=by
 have:=Qzr N t (fun _=>some (-1)) hl N 0 (by simp;omega) (Nat.zero_le _)
 rw[show((0:Nat):Int)=0 from rfl,List.drop_zero] at this
 unfold Qei Qca Qci Qcf
 dsimp only
 rw[this]
 cases h:t.all rowB with
 |true=>simp
 |false=>simp
theorem Q3i (N:Nat) (t:List GRow) (k:Unit→Option Bool) (hl:t.length≤1000):∀(n i:Nat),(t.drop i).length<n→i<t.length →
  Qcp N t k n i=bif Qox (t.drop i) then k () else some false:=by
 intro n
 induction n with
 |zero=>intro i h;omega
 |succ n ih=>
  intro i h hi
  unfold Qcp
  have hdr:∀x,(t.drop (1:Int).toNat)[i]? = some x↔t[i+1]? = some x:=fun x=>by
   rw[show(1:Int).toNat=1 from rfl,List.getElem?_drop,Nat.add_comm]
  have hlen:(t.drop (1:Int).toNat).length=t.length-1:=by simp
  cases hd:t.drop i with
  |nil=>have:=Qc9 hd;omega
  |cons a l=>
   obtain⟨h1,h2,h3⟩:=Qcl hd
   cases l with
   |nil=>
    have:=Qc9 h2
    rw[show(decide ((i:Int)<((t.drop (1:Int).toNat).length:Int)))=false by rw[hlen];simp;omega]
    rfl
   |cons b l=>
    obtain⟨h4,h5,h6⟩:=Qcl h2
    rw[show(decide ((i:Int)<((t.drop (1:Int).toNat).length:Int)))=true by rw[hlen];simp;omega]
    have e:w64 ((i:Int)+1)=((i+1:Nat):Int):=by rw[Qbs]<;>omega
    simp only[cond_true,Qcu ((hdr b).2 h4),Qcu h1,Option.bind_some,e]
    have:=ih (i+1) (by rw[h2];rw[hd] at h;simpa using h) (by omega)
    simp only[this,h2,Qox,Q6i]
    by_cases c1:b.T≤a.T
    ·simp[c1,Int.not_lt.2 c1]
    ·by_cases c2:b.P≤a.P
     ·simp[c1,c2,Int.not_lt.2 c2]
     ·by_cases c3:b.Liquid≤a.Liquid
      ·simp[c1,c2,c3,Int.not_lt.2 c3]
      ·by_cases c4:b.Silica<a.Silica
       ·simp[c1,c2,c3,c4,Int.not_le.2 c4]
       ·simp[c1,c2,c3,c4,Int.not_le.1 c1,Int.not_le.1 c2,Int.not_le.1 c3,Int.not_lt.1 c4]
theorem Qrn {N:Nat}{t:List GRow}(hl:t.length≤1000) (hN:1001≤N):Qd2 N t=some (tabB t):=by
 unfold Qd2 tabB
 rw[Qlg,Q9d hl hN]
 cases hb:btw t.length 2 20 with
 |false=>rfl
 |true=>
  have h2:2≤t.length:=by simp[btw] at hb;omega
  cases ha:t.all rowB with
  |false=>rfl
  |true=>
   have:=Q3i N t (fun _=>some true) hl N 0 (by simp;omega) (by omega)
   rw[show((0:Nat):Int)=0 from rfl,List.drop_zero] at this
   simp only[Option.bind_some,Bool.not_true,cond_false,Qcf,Bool.true_and]
   rw[this]
   rw[show(decide ((1:Int)≤(t.length:Int)))=true by rw[decide_eq_true_eq];omega]
   cases Qox t<;>simp[chk]
def Qy9:Option GRow→List GRow→Bool
 |_,[]=>true
 |o,a::l=>rowB a&&(match o with |none=>true |some p=>Q6i p a)&&Qy9 (some a) l
theorem Qtm:∀(a:GRow) (l:List GRow),Qy9 (some a) l=(l.all rowB&&Qox (a::l))
 |_,[]=>rfl
 |a,b::l=>by
  rw[Qy9,Qtm b l,List.all_cons,Qox]
  cases rowB b<;>cases l.all rowB<;>cases Q6i a b<;>simp
theorem Q3t:∀(t:List GRow),Qy9 none t=(t.all rowB&&Qox t)
 |[]=>rfl
 |a::l=>by
  rw[Qy9,Qtm a l,List.all_cons]
  cases rowB a<;>simp
theorem Qyx (N:Nat) (t:List GRow) (k:Unit→Option Bool) (hl:t.length≤9223372036854775807):∀(n i:Nat),(t.drop i).length<n→i≤t.length →
  Qdq N t k n i=bif Qy9 (if i=0 then none else t[i-1]?) (t.drop i) then k () else some false:=by
 intro n
 induction n with
 |zero=>intro i h;omega
 |succ n ih=>
  intro i h hi
  unfold Qdq
  cases hd:t.drop i with
  |nil=>
   have:=Qc9 hd
   rw[show(decide ((i:Int)<(t.length:Int)))=false by simp;omega]
   rfl
  |cons a l=>
   obtain⟨h1,h2,h3⟩:=Qcl hd
   rw[show(decide ((i:Int)<(t.length:Int)))=true by simp;omega]
   have e:w64 ((i:Int)+1)=((i+1:Nat):Int):=by rw[Qbs]<;>omega
   have:=ih (i+1) (by rw[h2];rw[hd] at h;simpa using h) (by omega)
   simp only[Nat.add_sub_cancel,Nat.succ_ne_zero,if_false,h1,h2] at this
   simp only[cond_true,Qcu h1,Option.bind_some,e,Zjs,this,Qy9,rowB,Qcf]
   cases btw a.T 0 400
   ·rfl
   cases btw a.P 1 10000
   ·rfl
   cases btw a.Liquid 0 4000
   ·rfl
   cases btw a.Silica 0 2000
   ·rfl
   by_cases c1:a.Vapour≤a.Liquid
   ·simp[c1,Int.not_lt.2 c1]
   by_cases c2:a.Vapour>4000
   ·simp[c1,c2,Int.not_le.2 c2]
   cases i with
   |zero=>simp[c1,c2,Int.not_le.1 c1,Int.not_lt.1 c2]
   |succ i=>
    have hp:t[i]? = some t[i]:=List.getElem?_eq_getElem (by omega)
    have e2:w64 (((i+1:Nat):Int)-1)=(i:Int):=by rw[Qbs]<;>omega
    have e3:(decide (((i+1:Nat):Int)>0))=true:=by rw[decide_eq_true_eq];omega
    generalize t[i]=b at hp
    simp only[Bool.not_true,cond_false,e3,cond_true,e2,Qcu hp,Option.bind_some,Nat.add_sub_cancel,hp,Q6i,show ¬(i+1=0) by omega,if_false,decide_eq_false c1,decide_eq_false c2,decide_eq_true (Int.not_le.1 c1),decide_eq_true (Int.not_lt.1 c2),Bool.true_and]
    by_cases d1:a.T≤b.T
    ·simp[d1,Int.not_lt.2 d1]
    ·by_cases d2:a.P≤b.P
     ·simp[d1,d2,Int.not_lt.2 d2]
     ·by_cases d3:a.Liquid≤b.Liquid
      ·simp[d1,d2,d3,Int.not_lt.2 d3]
      ·by_cases d4:a.Silica<b.Silica
       ·simp[d1,d2,d3,d4,Int.not_le.2 d4]
       ·simp[d1,d2,d3,d4,Int.not_le.1 d1,Int.not_le.1 d2,Int.not_le.1 d3,Int.not_lt.1 d4]
theorem Q6u {N:Nat}{t:List GRow}(hl:t.length≤9223372036854775807) (hN:t.length<N):Qjb N t=some (tabB t):=by
 have:=fun k=>Qyx N t k hl N 0 (by simp;omega) (Nat.zero_le _)
 unfold Qjb Qcf tabB
 rw[show((0:Nat):Int)=0 from rfl] at this
 dsimp only
 rw[this]
 simp only[List.drop_zero,if_true,Q3t,btw]
 by_cases h:(2:Int)≤t.length<;>cases t.all rowB<;>cases Qox t<;>simp[h]
theorem Q3y (N:Nat) (t:List GRow) (k:List GRow→Option (List GRow)) (hl:t.length≤1000):∀(n i:Nat) (acc:List GRow),(t.drop i).length<n→i≤t.length→acc.length=i →
  Qec N t k n acc i=k (acc++t.drop i):=by
 intro n
 induction n with
 |zero=>intro i acc h;omega
 |succ n ih=>
  intro i acc h hi ha
  unfold Qec
  cases hd:t.drop i with
  |nil=>
   have:=Qc9 hd
   rw[show(decide ((i:Int)<(t.length:Int)))=false by simp;omega]
   simp
  |cons a l=>
   obtain⟨h1,h2,h3⟩:=Qcl hd
   rw[show(decide ((i:Int)<(t.length:Int)))=true by simp;omega]
   have e:w64 ((i:Int)+1)=((i+1:Nat):Int):=by rw[Qbs]<;>omega
   have hc:decide ((acc.length+[a].length)*40≤140737488355328)=true:=by simp;omega
   simp only[cond_true,Qcu h1,Option.bind_some,e,hc,chk]
   rw[ih (i+1) _ (by rw[h2];rw[hd] at h;simpa using h) (by omega) (by simp[ha]),h2]
   simp
theorem Zae {N:Nat}{t:List GRow}(hl:t.length≤1000) (hN:1001≤N):Qjd N t=some t:=by
 have:=Q3y N t (fun y=>some y) hl N 0 [] (by simp;omega) (Nat.zero_le _) rfl
 rw[show((0:Nat):Int)=0 from rfl] at this
 unfold Qjd Qcf
 dsimp only
 rw[this]
 simp
theorem Q3g (N:Nat) (s:Qaa):Qhf N s=some s:=rfl
def strB (s:Qaa):Bool:=btw s.Mass 0 1000000&&btw s.Heat 0 (4000*s.Mass)&&btw s.Silica 0 (10000*s.Mass)&&btw s.Gas 0 1000000000
theorem Qq2 {s:Qaa}(h:btw s.Mass 0 1000000=true):w64 (4000*s.Mass)=4000*s.Mass∧w64 (10000*s.Mass)=10000*s.Mass:=by
 simp only[btw,Bool.and_eq_true,decide_eq_true_eq] at h
 exact⟨Qbs (by omega) (by omega),Qbs (by omega) (by omega)⟩
theorem Q6v (N:Nat) (s:Qaa):Qfy N s=some (strB s):=by
 unfold Qfy strB
 simp only[Zjs,Option.bind_some]
 cases h:btw s.Mass 0 1000000 with
 |false=>rfl
 |true=>
  rw[(Qq2 h).1,(Qq2 h).2]
  cases btw s.Heat 0 (4000*s.Mass)<;>cases btw s.Silica 0 (10000*s.Mass)<;>cases btw s.Gas 0 1000000000<;>rfl
theorem Qq0 (N:Nat) (s:Qaa):Qde N s=some (strB s):=by
 unfold Qde strB
 simp only[Qlg,Option.bind_some]
 cases h:btw s.Mass 0 1000000 with
 |false=>rfl
 |true=>
  rw[(Qq2 h).1,(Qq2 h).2]
  cases btw s.Heat 0 (4000*s.Mass)<;>cases btw s.Silica 0 (10000*s.Mass)<;>cases btw s.Gas 0 1000000000<;>rfl
structure RowV (r:GRow):Prop where
 l0:0≤r.Liquid
 l1:r.Liquid≤4000
 lv:r.Liquid<r.Vapour
 v1:r.Vapour≤4000
 s0:0≤r.Silica
 s1:r.Silica≤2000
theorem Zfq {r:GRow}(h:rowB r=true):RowV r:=by
 simp[rowB,btw] at h
 exact⟨by omega,by omega,by omega,by omega,by omega,by omega⟩
structure StrV (s:Qaa):Prop where
 m0:0≤s.Mass
 m1:s.Mass≤1000000
 h0:0≤s.Heat
 h1:s.Heat≤4000*s.Mass
 s0:0≤s.Silica
 s1:s.Silica≤10000*s.Mass
 g0:0≤s.Gas
 g1:s.Gas≤1000000000
theorem Qit {s:Qaa}:strB s=true↔StrV s:=by
 simp only[strB,btw,Bool.and_eq_true,decide_eq_true_eq]
 exact⟨fun h=>⟨by omega,by omega,by omega,by omega,by omega,by omega,by omega,by omega⟩,fun h=>by obtain⟨_,_,_,_,_,_,_,_⟩:=h;omega⟩
theorem bdp {x y a b:Int}(hx:0≤x) (hx':x≤a) (hy:0≤y) (hy':y≤b) (ha:0≤a):0≤x*y∧x*y≤a*b:=
 ⟨Int.mul_nonneg hx hy,Int.mul_le_mul hx' hy' hy ha⟩
def stm (r:GRow) (s:Qaa):Int:=
 if s.Heat-s.Mass*r.Liquid≤0 then 0 else if s.Mass*r.Vapour≤s.Heat then s.Mass else(s.Heat-s.Mass*r.Liquid).tdiv (r.Vapour-r.Liquid)
def flG (r:GRow) (s:Qaa):Qgv:=
 if stm r s=0 then⟨⟨0,0,0,0⟩,⟨s.Mass,s.Heat,min (s.Mass*r.Silica) s.Silica,s.Gas⟩,if 0<s.Mass then max (s.Heat-s.Mass*r.Liquid) 0 else 0,s.Silica-min (s.Mass*r.Silica) s.Silica⟩
 else if stm r s=s.Mass then⟨⟨s.Mass,s.Heat,0,s.Gas⟩,⟨0,0,0,0⟩,0,s.Silica⟩
 else⟨⟨stm r s,stm r s*r.Vapour,0,s.Gas⟩,⟨s.Mass-stm r s,s.Heat-stm r s*r.Vapour,min ((s.Mass-stm r s)*r.Silica) s.Silica,0⟩,s.Heat-stm r s*r.Vapour-(s.Mass-stm r s)*r.Liquid,s.Silica-min ((s.Mass-stm r s)*r.Silica) s.Silica⟩
theorem Qrq {r:GRow}{s:Qaa}(hr:RowV r) (hs:StrV s) :
  (s.Heat-s.Mass*r.Liquid≤0∧stm r s=0) ∨
  (0<s.Heat-s.Mass*r.Liquid∧s.Mass*r.Vapour≤s.Heat∧stm r s=s.Mass∧0<s.Mass) ∨
  (0<s.Heat-s.Mass*r.Liquid∧s.Heat<s.Mass*r.Vapour∧stm r s=(s.Heat-s.Mass*r.Liquid).tdiv (r.Vapour-r.Liquid)∧0≤stm r s∧stm r s<s.Mass∧stm r s*(r.Vapour-r.Liquid)≤s.Heat-s.Mass*r.Liquid∧s.Heat-s.Mass*r.Liquid<stm r s*(r.Vapour-r.Liquid)+(r.Vapour-r.Liquid)):=by
 obtain⟨l0,l1,lv,v1,s0,s1⟩:=hr
 obtain⟨m0,m1,h0,h1,_,_,_,_⟩:=hs
 by_cases c1:s.Heat-s.Mass*r.Liquid≤0
 ·exact .inl ⟨c1,by unfold stm;rw[if_pos c1]⟩
 ·by_cases c2:s.Mass*r.Vapour≤s.Heat
  ·refine .inr (.inl ⟨by omega,c2,by unfold stm;rw[if_neg c1,if_pos c2],?_⟩)
   rcases Int.lt_or_eq_of_le m0 with h |h
   ·exact h
   ·rw[←h] at h1 c1
    simp at h1 c1
    omega
  ·have e:stm r s=(s.Heat-s.Mass*r.Liquid).tdiv (r.Vapour-r.Liquid):=by unfold stm;rw[if_neg c1,if_neg c2]
   have e2:stm r s=(s.Heat-s.Mass*r.Liquid)/(r.Vapour-r.Liquid):=by rw[e,Int.tdiv_eq_ediv_of_nonneg (by omega)]
   have d0:0<r.Vapour-r.Liquid:=by omega
   have q1:=Int.ediv_mul_le (s.Heat-s.Mass*r.Liquid) (b:=r.Vapour-r.Liquid) (by omega)
   have q2:=Int.lt_mul_ediv_self_add (x:=s.Heat-s.Mass*r.Liquid) (k:=r.Vapour-r.Liquid) d0
   have q3:0≤stm r s:=by rw[e2];exact Int.ediv_nonneg (by omega) (by omega)
   rw[←e2] at q1 q2
   rw[Int.mul_comm (r.Vapour-r.Liquid)] at q2
   refine .inr (.inr ⟨by omega,by omega,e,q3,?_,q1,q2⟩)
   rw[e2]
   refine Int.ediv_lt_of_lt_mul d0 ?_
   rw[Int.mul_sub]
   omega
structure Zlj (r:GRow) (s:Qaa):Prop where
 a:w64 (s.Mass*r.Liquid)=s.Mass*r.Liquid
 b:w64 (s.Heat-s.Mass*r.Liquid)=s.Heat-s.Mass*r.Liquid
 c:w64 (s.Mass*r.Vapour)=s.Mass*r.Vapour
 d:w64 (r.Vapour-r.Liquid)=r.Vapour-r.Liquid
theorem Zfa {r:GRow}{s:Qaa}(hr:RowV r) (hs:StrV s):Zlj r s:=by
 obtain⟨l0,l1,lv,v1,s0,s1⟩:=hr
 obtain⟨m0,m1,h0,h1,_,_,_,_⟩:=hs
 have p1:=bdp m0 m1 l0 l1 (by omega)
 have p2:=bdp (y:=r.Vapour) m0 m1 (by omega) v1 (by omega)
 exact⟨Qbs (by omega) (by omega),Qbs (by omega) (by omega),Qbs (by omega) (by omega),Qbs (by omega) (by omega)⟩
theorem Zag (N:Nat) {r:GRow}{s:Qaa}(hr:RowV r) (hs:StrV s):Qfq N ⟨r⟩ s=some (stm r s):=by
 obtain⟨wa,wb,wc,wd⟩:=Zfa hr hs
 have hlv:=hr.lv
 have hd:((r.Vapour-r.Liquid) != 0)=true:=by simp;omega
 have hs':=hs
 obtain⟨m0,m1,h0,h1,_,_,_,_⟩:=hs'
 unfold Qfq
 simp only[wa,wb,wc,wd,Option.bind_some,hd,chk,cond_true]
 rcases Qrq hr hs with ⟨a,b⟩ |⟨a,b,c,d⟩ |⟨a,b,c,d,e,_,_⟩
 ·rw[decide_eq_true a,b];rfl
 ·rw[decide_eq_false (show ¬s.Heat-s.Mass*r.Liquid≤0 by omega),decide_eq_true (show s.Heat≥s.Mass*r.Vapour from b),c];rfl
 ·rw[decide_eq_false (show ¬s.Heat-s.Mass*r.Liquid≤0 by omega),decide_eq_false (show ¬s.Heat≥s.Mass*r.Vapour by omega),←c,Qbs (by omega) (by omega)];rfl
theorem Zjn (N:Nat) {r:GRow}{s:Qaa}(hr:RowV r) (hs:StrV s):Qfa N ⟨r⟩ s=some (flG r s):=by
 have hw:=Zfa hr hs
 have hc:=Qrq hr hs
 have he:=Zag N hr hs
 obtain⟨l0,l1,lv,v1,s0,s1⟩:=hr
 obtain⟨m0,m1,h0,h1,q0,q1,_,_⟩:=hs
 unfold Qfa
 have:(⟨⟨r.T,r.P,r.Liquid,r.Vapour,r.Silica⟩⟩:Qjp)=⟨r⟩:=rfl
 dsimp only at this ⊢
 rw[he]
 have p1:=bdp m0 m1 s0 s1 (by omega)
 simp only[Option.bind_some,Qcf]
 unfold flG
 generalize hm:stm r s=m at *
 by_cases z:m=0
 ·subst z
  rw[if_pos rfl,hw.a,Qbs (x:=s.Mass*r.Silica) (by omega) (by omega),hw.b]
  simp only[beq_self_eq_true,cond_true]
  have:w64 (s.Silica-(if s.Mass*r.Silica<s.Silica then s.Mass*r.Silica else s.Silica))=s.Silica-min (s.Mass*r.Silica) s.Silica:=by
   rw[Qbs]<;>(repeat split)<;>omega
  rw[this]
  by_cases c:0<s.Mass
  ·rw[decide_eq_true (show s.Mass>0 from c),if_pos c]
   simp only[cond_true]
   congr 2
   ·congr 1;split<;>omega
   ·split<;>omega
  ·rw[decide_eq_false (show ¬s.Mass>0 from c),if_neg c]
   simp only[cond_false]
   congr 2
   congr 1;split<;>omega
 ·have z1:(m==0)=false:=by simpa using z
  rw[if_neg z,z1]
  by_cases f:m=s.Mass
  ·have f1:(m==s.Mass)=true:=by simpa using f
   rw[f1,if_pos f]
   have:w64 (0*r.Silica)=0:=by rw[Int.zero_mul];rfl
   simp only[cond_false,cond_true,this]
   have:w64 (s.Silica-(if 0<s.Silica then 0 else s.Silica))=s.Silica:=by rw[Qbs]<;>split<;>omega
   rw[this]
   simp only[show decide ((0:Int)>0)=false from rfl,cond_false]
   congr 2
   ·rw[f]
   ·congr 1;split<;>omega
  ·have f1:(m==s.Mass)=false:=by simpa using f
   rw[f1,if_neg f]
   rcases hc with ⟨a,b⟩ |⟨a,b,c,d⟩ |⟨a,b,c,d,e,g1,g2⟩
   ·exact absurd b z
   ·exact absurd c f
   ·have k1:=bdp d (show m≤1000000 by omega) (show 0≤r.Vapour by omega) v1 (by omega)
    have k2:=bdp (show 0≤s.Mass-m by omega) (show s.Mass-m≤1000000 by omega) s0 s1 (by omega)
    have k3:=bdp (show 0≤s.Mass-m by omega) (show s.Mass-m≤1000000 by omega) l0 l1 (by omega)
    rw[Int.mul_sub] at g1
    have k4:0≤s.Heat-m*r.Vapour-(s.Mass-m)*r.Liquid:=by rw[Int.sub_mul];omega
    simp only[cond_false]
    rw[Qbs (x:=s.Mass-m) (by omega) (by omega),Qbs (x:=m*r.Vapour) (by omega) (by omega),Qbs (x:=s.Heat-m*r.Vapour) (by omega) (by omega),Qbs (x:=(s.Mass-m)*r.Silica) (by omega) (by omega),Qbs (x:=(s.Mass-m)*r.Liquid) (by omega) (by omega),Qbs (x:=s.Heat-m*r.Vapour-(s.Mass-m)*r.Liquid) (by omega) (by omega),decide_eq_true (show s.Mass-m>0 by omega)]
    have:w64 (s.Silica-(if (s.Mass-m)*r.Silica<s.Silica then(s.Mass-m)*r.Silica else s.Silica))=s.Silica-min ((s.Mass-m)*r.Silica) s.Silica:=by
     rw[Qbs]<;>(repeat split)<;>omega
    rw[this]
    simp only[cond_true]
    congr 2
    ·congr 1;split<;>omega
    ·split<;>omega
structure Zkb (s:Qaa) (p:Qgv):Prop where
 st:StrV p.Steam
 wa:StrV p.Water
 km:p.Steam.Mass+p.Water.Mass=s.Mass
 kh:p.Steam.Heat+p.Water.Heat=s.Heat
 ks:p.Water.Silica+p.Scale=s.Silica
 kg:p.Steam.Gas+p.Water.Gas=s.Gas
 z:p.Steam.Silica=0
 sc:0≤p.Scale
theorem Qu9 {r:GRow}{s:Qaa}(hr:RowV r) (hs:StrV s):Zkb s (flG r s):=by
 have hc:=Qrq hr hs
 obtain⟨l0,l1,lv,v1,s0,s1⟩:=hr
 obtain⟨m0,m1,h0,h1,q0,q1,y0,y1⟩:=hs
 have p1:=bdp m0 m1 s0 s1 (by omega)
 unfold flG
 by_cases z:stm r s=0
 ·rw[if_pos z]
  refine⟨⟨?_,?_,?_,?_,?_,?_,?_,?_⟩,⟨?_,?_,?_,?_,?_,?_,?_,?_⟩,?_,?_,?_,?_,?_,?_⟩<;>dsimp only<;>omega
 ·rw[if_neg z]
  by_cases f:stm r s=s.Mass
  ·rw[if_pos f]
   refine⟨⟨?_,?_,?_,?_,?_,?_,?_,?_⟩,⟨?_,?_,?_,?_,?_,?_,?_,?_⟩,?_,?_,?_,?_,?_,?_⟩<;>dsimp only<;>omega
  ·rw[if_neg f]
   rcases hc with ⟨a,b⟩ |⟨a,b,c,d⟩ |⟨a,b,c,d,e,g1,g2⟩
   ·exact absurd b z
   ·exact absurd c f
   ·generalize stm r s=m at *
    have k1:=bdp d (show m≤1000000 by omega) (show 0≤r.Vapour by omega) v1 (by omega)
    have k2:=bdp (show 0≤s.Mass-m by omega) (show s.Mass-m≤1000000 by omega) s0 s1 (by omega)
    have k5:m*r.Vapour≤m*4000:=Int.mul_le_mul_of_nonneg_left v1 d
    have k6:(s.Mass-m)*r.Silica≤(s.Mass-m)*2000:=Int.mul_le_mul_of_nonneg_left s1 (by omega)
    have k7:(s.Mass-m-1)*(r.Vapour-r.Liquid)≥0:=Int.mul_nonneg (by omega) (by omega)
    have k8:(s.Mass-m)*r.Vapour≤(s.Mass-m)*4000:=Int.mul_le_mul_of_nonneg_left v1 (by omega)
    have k9:0≤s.Mass*r.Liquid-m*r.Liquid:=by rw[←Int.sub_mul];exact Int.mul_nonneg (by omega) l0
    simp only[Int.mul_sub,Int.sub_mul,Int.one_mul] at g1 g2 k7 k8 k6 k2
    refine⟨⟨?_,?_,?_,?_,?_,?_,?_,?_⟩,⟨?_,?_,?_,?_,?_,?_,?_,?_⟩,?_,?_,?_,?_,?_,?_⟩<;>dsimp only<;>(try simp only[Int.sub_mul])<;>omega
theorem Qwp {t:List GRow}(ht:tabB t=true) {l:Int}(h:btw l 0 (t.length-1)=true):getI t l=some ((getI t l).getD ⟨0,0,0,0,0⟩)∧RowV ((getI t l).getD ⟨0,0,0,0,0⟩):=by
 simp only[btw,Bool.and_eq_true,decide_eq_true_eq] at h
 have hi:l.toNat<t.length:=by omega
 have e:getI t l=some t[l.toNat]:=by unfold getI;rw[if_pos h.1,List.getElem?_eq_getElem hi]
 rw[e]
 refine⟨rfl,?_⟩
 simp only[tabB,Bool.and_eq_true] at ht
 exact Zfq (List.all_eq_true.1 ht.1.2 _ (List.getElem_mem hi))
def Zfx:Qgv:=⟨⟨0,0,0,0⟩,⟨0,0,0,0⟩,0,0⟩
def Q12 (t:List GRow) (l:Int) (s:Qaa):Qgv×Int:=
 bif !tabB t then(Zfx,1) else bif !btw l 0 (t.length-1) then(Zfx,2) else bif !strB s then(Zfx,1) else(flG ((getI t l).getD ⟨0,0,0,0,0⟩) s,0)
theorem Za3 {N:Nat}(hN:1001≤N) {t:List GRow}(ht:t.length≤1000) (l:Int) (s:Qaa):Qi4 N t l s=some (Q12 t l s):=by
 have e0:w64 ((t.length:Int)-1)=(t.length:Int)-1:=by rw[Qbs]<;>omega
 unfold Qi4 Q12
 rw[Qrn ht hN]
 cases hT:tabB t with
 |false=>rfl
 |true=>
  simp only[Option.bind_some,Bool.not_true,cond_false,Qho,Qlg,e0,Qq0]
  cases h1:btw l 0 ((t.length:Int)-1) with
  |false=>rfl
  |true=>
   cases h2:strB s with
   |false=>rfl
   |true=>
    obtain⟨g1,g2⟩:=Qwp hT h1
    simp only[Bool.not_true,cond_false,Qf9]
    rw[g1]
    simp only[Option.getD_some,Option.bind_some]
    generalize (getI t l).getD ⟨0,0,0,0,0⟩=r at g2
    have ho:Qfa N ⟨⟨r.T,r.P,r.Liquid,r.Vapour,r.Silica⟩⟩ s=some (flG r s):=Zjn N g2 (Qit.1 h2)
    rw[ho]
    rfl
end
section
theorem Qxr {α:Type}{F:Nat→Int→Option Int}{p:List α}{q:α→Option Bool}{b:α→Bool}{k:Unit→Option Int}
  (h:∀n y,F (n+1) y=bif decide (y<(p.length:Int)) then(getI p y).bind fun x=>(q x).bind fun c=>bif c then some y else F n (w64 (y+1)) else k ())
  (hq:∀x,q x=some (b x)) (hk:k ()=some (-1)) (hl:p.length≤1000000):∀(n i:Nat),(p.drop i).length<n→(F n i).bind (fun x=>some (decide (x≥0)))=some ((p.drop i).any b):=by
 intro n
 induction n with
 |zero=>intro i h;cases h
 |succ n ih=>
  intro i hn
  rw[h]
  cases hd:p.drop i with
  |nil=>
   have:=Qc9 hd
   rw[show decide ((i:Int)<(p.length:Int))=false by simp;omega,cond_false,hk]
   rfl
  |cons a l=>
   obtain⟨h1,h2,h3⟩:=Qcl hd
   rw[show decide ((i:Int)<(p.length:Int))=true by simp;omega,cond_true,Qcu h1,Option.bind_some,hq,Option.bind_some]
   cases hb:b a with
   |true=>simp[hb]
   |false=>
    rw[cond_false,show w64 ((i:Int)+1)=((i+1:Nat):Int) by rw[Qbs]<;>omega,ih (i+1) (by rw[h2];rw[hd] at hn;simp at hn;omega),h2]
    simp[hb]
theorem Qg8 {α:Type}{F:Nat→Int→Option Int}{p:List α}{q:α→Option Bool}{b:α→Bool}{k:Unit→Option Int}{N:Nat}
  (h:∀n y,F (n+1) y=bif decide (y<(p.length:Int)) then(getI p y).bind fun x=>(q x).bind fun c=>bif c then some y else F n (w64 (y+1)) else k ())
  (hq:∀x,q x=some (b x)) (hk:k ()=some (-1)) (hl:p.length≤1000000) (hN:p.length<N):(F N 0).bind (fun x=>some (decide (x≥0)))=some (p.any b):=by
 have:=Qxr h hq hk hl N 0 (by simpa using hN)
 simpa using this
theorem Qil (N:Nat) (a lo hi:Int):Qck N a lo hi=some (btw a lo hi):=by
 unfold Qck btw
 by_cases h:lo≤a<;>simp[h]
theorem Qoh {α:Type}(l:List α) (b:α→Bool):(!l.any fun x=>!b x)=l.all b:=by
 induction l with
 |nil=>rfl
 |cons a l ih=>simp only[List.any_cons,List.all_cons,Bool.not_or,Bool.not_not,ih]
def wtsB (w:List Int):Bool:=btw w.length 1 20&&(w.all (fun x=>btw x 0 1000)&&w.any fun x=>decide (x>0))
def outl (x:Qad):Int:=if x.Kind=4 then 2 else if x.Kind=5 then x.Weights.length else 1
def Qhz (x:Qad):Bool:=
 btw x.Kind 1 6&&btw x.Wide 0 1000000&&btw x.Narrow 1 1000000000&&btw x.From.length (if x.Kind=1 then 0 else 1) (if x.Kind=1 then 0 else if x.Kind=2 then 6 else 1) &&
 btw x.Amount 0 (if x.Kind=3 then 1000000000 else if x.Kind=4 then 1000 else 0)&&(if x.Kind=5 then wtsB x.Weights else decide (x.Weights.length=0))
theorem Zhf {N:Nat}{w:List Int}(hl:w.length≤1000) (hN:1001≤N):Qgf N w=some (w.all fun x=>btw x 0 1000):=by
 have hc:Qcx N w=some (w.any fun x=>!btw x 0 1000):=by
  unfold Qcx Qd9 Qcf
  refine Qg8 (F:=Qb2 N w fun _=>some (-1)) (k:=fun _=>some (-1)) (q:=Qge N) (fun n y=>rfl) (fun x=>?_) rfl (by omega) (by omega)
  simp only[Qge,Qf1,Qil,Option.bind_some]
 unfold Qgf
 rw[hc,Option.bind_some,Qoh]
theorem Zhd {N:Nat}{w:List Int}(hl:w.length≤1000) (hN:1001≤N):Qce N w=some (w.any fun x=>decide (x>0)):=by
 unfold Qce Qd8 Qcf
 exact Qg8 (F:=Qb1 N w fun _=>some (-1)) (k:=fun _=>some (-1)) (q:=Qf0 N) (fun n y=>rfl) (fun x=>rfl) rfl (by omega) (by omega)
theorem Q9c {N:Nat}{x:Qad}(hw:x.Weights.length≤1000) (hN:1001≤N):Qfh N x=some (Qhz x):=by
 have key:∀(a b:Int),(bif ((x.From.length:Int) != a) then some false else
   (Qck N x.Amount 0 b).bind fun x16=>bif (!x16) then some false else(Qck N x.Wide 0 1000000).bind fun x19=>bif (!x19) then some false else
    (Qck N x.Narrow 1 1000000000).bind fun x22=>bif (!x22) then some false else
    bif (x.Kind != 5) then some ((x.Weights.length:Int)==0) else(Qck N (x.Weights.length:Int) 1 20).bind fun x7=>bif x7 then(Qgf N x.Weights).bind fun x10=>
    bif x10 then(Qce N x.Weights).bind fun x13=>some x13 else some false else some false) =
   some (decide ((x.From.length:Int)=a)&&btw x.Amount 0 b&&btw x.Wide 0 1000000&&btw x.Narrow 1 1000000000&&(if x.Kind=5 then wtsB x.Weights else decide (x.Weights.length=0))):=fun a b=>by
  simp only[Qil,Zhf hw hN,Zhd hw hN,Option.bind_some]
  by_cases h1:(x.From.length:Int)=a
  ·rw[show((x.From.length:Int) != a)=false by simpa using h1,cond_false,decide_eq_true h1]
   cases btw x.Amount 0 b<;>cases btw x.Wide 0 1000000<;>cases btw x.Narrow 1 1000000000<;>simp only[Bool.not_true,Bool.not_false,cond_true,cond_false,Bool.and_true,Bool.true_and,Bool.false_and,Bool.and_false]
   by_cases h5:x.Kind=5
   ·rw[show(x.Kind != 5)=false by simpa using h5,if_pos h5,wtsB]
    cases btw x.Weights.length 1 20<;>cases (x.Weights.all fun x=>btw x 0 1000)<;>cases (x.Weights.any fun x=>decide (x>0))<;>rfl
   ·rw[show(x.Kind != 5)=true by simpa using h5,if_neg h5,cond_true]
    congr 1
    by_cases h0:x.Weights.length=0
    ·rw[h0];rfl
    ·rw[decide_eq_false h0,beq_eq_false_iff_ne];omega
  ·rw[show((x.From.length:Int) != a)=true by simpa using h1,cond_true,decide_eq_false h1]
   simp
 unfold Qfh Qhz
 simp only[Qcf]
 simp only[key]
 have hkd:∀a b:Int,decide (((x.From.length:Int))=a)=btw x.From.length a a:=fun a _=>by
  unfold btw
  by_cases h:(x.From.length:Int)=a
  ·rw[h];simp
  ·rw[decide_eq_false h]
   symm
   rw[Bool.and_eq_false_iff,decide_eq_false_iff_not,decide_eq_false_iff_not];omega
 have fin:∀(a b c d e:Bool),some (a&&b&&c&&d&&e)=some (true&&c&&d&&a&&b&&e):=by
  intro a b c d e;cases a<;>cases b<;>cases c<;>cases d<;>rfl
 by_cases h1:x.Kind=1
 ·rw[h1]
  simp only[beq_self_eq_true,cond_true,hkd 0 0]
  exact fin _ _ _ _ _
 ·have b1:(x.Kind==1)=false:=by simpa using h1
  by_cases h2:x.Kind=2
  ·rw[h2]
   have e:∀c:Int,decide (((x.From.length:Int))=(if (if (6:Int)<x.From.length then 6 else(x.From.length:Int))>1 then(if (6:Int)<x.From.length then 6 else(x.From.length:Int)) else 1))=btw x.From.length 1 6:=fun _=>by
    unfold btw
    by_cases h6:(6:Int)<x.From.length
    ·rw[if_pos h6,if_pos (by decide),decide_eq_false (by omega)]
     symm;rw[Bool.and_eq_false_iff,decide_eq_false_iff_not,decide_eq_false_iff_not];omega
    ·rw[if_neg h6]
     by_cases h7:(x.From.length:Int)>1
     ·rw[if_pos h7];simp;omega
     ·rw[if_neg h7]
      by_cases h8:(x.From.length:Int)=1
      ·rw[h8];rfl
      ·rw[decide_eq_false h8]
       symm;rw[Bool.and_eq_false_iff,decide_eq_false_iff_not,decide_eq_false_iff_not];omega
   simp only[show((2:Int)==1)=false from rfl,beq_self_eq_true,cond_true,cond_false,Option.bind_some,e 0]
   exact fin _ _ _ _ _
  ·have b2:(x.Kind==2)=false:=by simpa using h2
   by_cases h3:x.Kind=3
   ·rw[h3]
    simp only[show((3:Int)==1)=false from rfl,show((3:Int)==2)=false from rfl,beq_self_eq_true,cond_true,cond_false,hkd 1 0]
    exact fin _ _ _ _ _
   ·have b3:(x.Kind==3)=false:=by simpa using h3
    by_cases h4:x.Kind=4
    ·rw[h4]
     simp only[show((4:Int)==1)=false from rfl,show((4:Int)==2)=false from rfl,show((4:Int)==3)=false from rfl,beq_self_eq_true,cond_true,cond_false,hkd 1 0]
     exact fin _ _ _ _ _
    ·have b4:(x.Kind==4)=false:=by simpa using h4
     by_cases h5:x.Kind=5
     ·rw[h5]
      simp only[show((5:Int)==1)=false from rfl,show((5:Int)==2)=false from rfl,show((5:Int)==3)=false from rfl,show((5:Int)==4)=false from rfl,beq_self_eq_true,cond_true,cond_false,hkd 1 0]
      exact fin _ _ _ _ _
     ·have b5:(x.Kind==5)=false:=by simpa using h5
      by_cases h6:x.Kind=6
      ·rw[h6]
       simp only[show((6:Int)==1)=false from rfl,show((6:Int)==2)=false from rfl,show((6:Int)==3)=false from rfl,show((6:Int)==4)=false from rfl,show((6:Int)==5)=false from rfl,beq_self_eq_true,cond_true,cond_false,hkd 1 0]
       exact fin _ _ _ _ _
      ·have b6:(x.Kind==6)=false:=by simpa using h6
       simp only[b1,b2,b3,b4,b5,b6,cond_false]
       have:btw x.Kind 1 6=false:=by
        unfold btw
        rw[Bool.and_eq_false_iff,decide_eq_false_iff_not,decide_eq_false_iff_not];omega
       rw[this];simp
theorem Q6f {w:List Int}(h:∀x∈w,0≤x):0≤w.sum∧(w.sum>0↔∃x∈w,x>0):=by
 induction w with
 |nil=>simp
 |cons a l ih=>
  obtain⟨h1,h2⟩:=ih fun x hx=>h x (List.mem_cons_of_mem _ hx)
  have ha:=h a List.mem_cons_self
  simp only[List.sum_cons,List.mem_cons,exists_eq_or_imp]
  refine⟨by omega,⟨fun hs=>?_,fun hs=>?_⟩⟩
  ·by_cases h3:a>0
   ·exact .inl h3
   ·exact .inr (h2.1 (by omega))
  ·rcases hs with hs |hs
   ·omega
   ·have:=h2.2 hs;omega
theorem Zfz (N:Nat) (x:Qad):Qew N x=some (outl x):=by
 unfold Qew outl
 by_cases h4:x.Kind=4
 ·rw[h4];rfl
 ·by_cases h5:x.Kind=5
  ·rw[h5];rfl
  ·rw[show(x.Kind==4)=false by simpa using h4,show(x.Kind==5)=false by simpa using h5,if_neg h4,if_neg h5];rfl
end
section
def pq (p:Qeg):Int×Int:=(p.Element,p.Outlet)
def Qrz (els:List Qad) (i:Nat) (lv:Int) (u:List (Int×Int)) (p:Qeg):Bool:=
 btw p.Element 0 ((i:Int)-1)&&(match getI els p.Element with |some y=>btw p.Outlet 0 (outl y-1)&&decide (lv≤y.Level) |none=>false)&&!u.contains (pq p)
def Ql1 (els:List Qad) (i:Nat) (lv:Int):List (Int×Int)→List Qeg→Bool
 |_,[]=>true
 |u,p::l=>Qrz els i lv u p&&Ql1 els i lv (u++[pq p]) l
def Qvi (n:Int) (els:List Qad):Nat→List (Int×Int)→List Qad→Bool
 |_,_,[]=>true
 |i,u,x::l=>btw x.Level 0 (n-1)&&Ql1 els i x.Level u x.From&&Qvi n els (i+1) (u++x.From.map pq) l
def netB (n:GNet):Bool:=tabB n.Table&&btw n.Elements.length 1 16&&n.Elements.all Qhz&&Qvi n.Table.length n.Elements 0 [] n.Elements
structure Qjw (n:GNet):Prop where
 t:n.Table.length≤25
 e:n.Elements.length≤18
 x:∀x∈n.Elements,x.From.length≤25∧x.Weights.length≤25
theorem Zfy {x:Qad}(h:x.Weights.length≤25):0≤outl x∧outl x≤25:=by
 unfold outl
 split
 ·omega
 ·split<;>omega
theorem Zgb {els:List Qad}{a:Int}{i:Nat}(h:btw a 0 ((i:Int)-1)=true) (hi:i≤els.length):∃y,getI els a=some y∧y∈els:=by
 obtain⟨h1,h2⟩:=Qep.1 h
 have hlt:a.toNat<els.length:=by omega
 exact⟨els[a.toNat],by unfold getI;rw[if_pos h1,List.getElem?_eq_getElem hlt],List.getElem_mem hlt⟩
section
variable {N : Nat} {n : GNet} (hs : Qjw n) (hN : 1001 ≤ N)
include hs hN
omit hN in
theorem Q3n {i:Nat}(hi:i<n.Elements.length) {x:Qad}(hx:x.From.length≤25) (k:List (Int×Int)→Option Bool):∀(m j:Nat) (u:List (Int×Int)),(x.From.drop j).length<m →
  Qdg N n i k x m j u=bif Ql1 n.Elements i x.Level u (x.From.drop j) then k (u++(x.From.drop j).map pq) else some false:=by
 intro m
 induction m with
 |zero=>intro j _ h;cases h
 |succ m ih=>
  intro j u h
  rw[Qdg]
  cases hd:x.From.drop j with
  |nil=>
   have:=Qc9 hd
   simp[show ¬((j:Int)<x.From.length) from by omega,Ql1]
  |cons p l=>
   obtain⟨hg,hd',hlt⟩:=Qcl hd
   have e0:=hs.e
   simp only[dlI hlt,cond_true,Qcu hg,Option.bind_some,Qil,Ql1,Qrz]
   rw[Qbs (x:=(i:Int)-1) (by omega) (by omega)]
   cases hb:btw p.Element 0 ((i:Int)-1) with
   |false=>rfl
   |true=>
    obtain⟨y,hy,hym⟩:=Zgb hb (Nat.le_of_lt hi)
    obtain⟨o0,o1⟩:=Zfy (hs.x y hym).2
    simp only[Bool.not_true,cond_false,hy,Option.bind_some,Zfz,Bool.true_and]
    rw[Qbs (x:=outl y-1) (by omega) (by omega)]
    cases hc:btw p.Outlet 0 (outl y-1) with
    |false=>rfl
    |true=>
     simp only[Bool.not_true,cond_false,Bool.true_and]
     show(bif u.contains (pq p) then some false else _)=_
     cases hu:u.contains (pq p) with
     |true=>simp
     |false=>
      simp only[cond_false,Bool.not_false,Bool.and_true]
      by_cases hl:x.Level>y.Level
      ·rw[decide_eq_true hl,decide_eq_false (by omega)];rfl
      ·rw[decide_eq_false hl,decide_eq_true (by omega),cond_false,w64S (i:=j) (by omega),
        ih (j+1) _ (dlt hd hd' h),hd']
       have ea:addQ u (p.Element,p.Outlet)=u++[pq p]:=by
        unfold addQ
        rw[show u.contains (p.Element,p.Outlet)=false from hu];rfl
       rw[ea,Bool.true_and,List.map_cons,List.append_assoc]
       rfl
theorem Q8i (k:Unit→Option Bool):∀(m i:Nat) (u:List (Int×Int)),(n.Elements.drop i).length<m →
  Qcy N n k m i u=bif Qvi n.Table.length n.Elements i u (n.Elements.drop i) then k () else some false:=by
 intro m
 induction m with
 |zero=>intro i _ h;cases h
 |succ m ih=>
  intro i u h
  rw[Qcy]
  cases hd:n.Elements.drop i with
  |nil=>
   have:=Qc9 hd
   simp[show ¬((i:Int)<n.Elements.length) from by omega,Qvi]
  |cons x l=>
   obtain⟨hg,hd',hlt⟩:=Qcl hd
   have e0:=hs.e
   have e1:=hs.t
   have hx:=hs.x x (List.mem_of_getElem? hg)
   simp only[dlI hlt,cond_true,Qcf,Qcu hg,Option.bind_some,Qil,Qvi]
   rw[Qbs (x:=(n.Table.length:Int)-1) (by omega) (by omega)]
   cases hb:btw x.Level 0 ((n.Table.length:Int)-1) with
   |false=>rfl
   |true=>
    have:=Q3n (N:=N) hs hlt hx.1 (fun y9=>Qcy N n k m (w64 ((i:Int)+1)) y9) N 0 u (by simp;omega)
    rw[List.drop_zero] at this
    simp only[Bool.not_true,cond_false,Bool.true_and]
    refine this.trans ?_
    cases Ql1 n.Elements i x.Level u x.From with
    |false=>rfl
    |true=>
     rw[cond_true,w64S (i:=i) (by omega),ih (i+1) _ (dlt hd hd' h),hd',Bool.true_and]
theorem Zhg:Qd1 N n.Elements=some (n.Elements.all Qhz):=by
 have e0:=hs.e
 have hc:Qbh N n.Elements=some (n.Elements.any fun x=>!Qhz x):=by
  unfold Qbh Qbx Qcf
  have gen:∀(m j:Nat),(n.Elements.drop j).length<m→(Qax N n.Elements (fun _=>some (-1)) m j).bind (fun x=>some (decide (x≥0)))=some ((n.Elements.drop j).any fun x=>!Qhz x):=by
   intro m
   induction m with
   |zero=>intro j h;cases h
   |succ m ih=>
    intro j h
    rw[Qax]
    cases hd:n.Elements.drop j with
    |nil=>
     have:=Qc9 hd
     simp[show ¬((j:Int)<n.Elements.length) from by omega]
    |cons x l=>
     obtain⟨hg,hd',hlt⟩:=Qcl hd
     have hx:=hs.x x (List.mem_of_getElem? hg)
     simp only[dlI hlt,cond_true,Qcu hg,Option.bind_some,Qeh,Q9c (show x.Weights.length≤1000 by omega) hN,List.any_cons]
     cases Qhz x with
     |false=>simp
     |true=>
      rw[Bool.not_true,cond_false,w64S (i:=j) (by omega),ih (j+1) (dlt hd hd' h),hd',Bool.false_or]
  have:=gen N 0 (by simp;omega)
  rw[List.drop_zero] at this
  exact this
 unfold Qd1
 rw[hc,Option.bind_some,Qoh]
theorem Q7g:Qgg N n=some (netB n):=by
 have e0:=hs.e
 have e1:=hs.t
 unfold Qgg netB Qhb
 simp only[Qcf,Qrn (show n.Table.length≤1000 by omega) hN,Option.bind_some,Qil,Zhg hs hN]
 cases tabB n.Table with
 |false=>rfl
 |true=>
  simp only[Bool.not_true,cond_false,Option.bind_some,Bool.true_and,show((0:Int) != 0)=false from rfl]
  cases btw n.Elements.length 1 16 with
  |false=>rfl
  |true=>
   cases n.Elements.all Qhz with
   |false=>rfl
   |true=>
    have:=Q8i hs hN (fun _=>some true) N 0 [] (by simp;omega)
    rw[List.drop_zero] at this
    simp only[Bool.not_true,cond_false,Bool.true_and]
    refine this.trans ?_
    cases Qvi n.Table.length n.Elements 0 [] n.Elements<;>rfl
omit hs hN in
end
end
section
def Qob {α:Type}(i:Nat):Nat→List α→List ((Int×Int)×α)
 |_,[]=>[]
 |j,a::l=>(((i:Int),(j:Int)),a)::Qob i (j+1) l
def Qg7 {α:Type}:Nat→List (List α)→List ((Int×Int)×α)
 |_,[]=>[]
 |i,r::o=>Qob i 0 r++Qg7 (i+1) o
def Qgt {α:Type}(f:α→Int) (U:List (Int×Int)) (l:List ((Int×Int)×α)):Int:=((l.filter fun x=>!U.contains x.1).map fun x=>f x.2).sum
section
variable {α : Type}
theorem Qo9 {i:Nat}{a b:Int}{s:α}:∀{l:List α}{j:Nat},((a,b),s)∈Qob i j l↔a=i∧(j:Int)≤b∧l[(b-j).toNat]? = some s
 |[],j=>by simp[Qob]
 |x::l,j=>by
  rw[Qob,List.mem_cons,Qo9 (l:=l) (j:=j+1)]
  constructor
  ·rintro (h |⟨h1,h2,h3⟩)
   ·simp only[Prod.mk.injEq] at h
    obtain⟨⟨rfl,rfl⟩,rfl⟩:=h
    exact⟨rfl,Int.le_refl _,by simp⟩
   ·refine⟨h1,by omega,?_⟩
    rw[show(b-(j:Int)).toNat=(b-((j+1:Nat):Int)).toNat+1 by omega]
    simpa using h3
  ·rintro ⟨h1,h2,h3⟩
   by_cases e:b=j
   ·subst e;subst h1
    simp at h3
    exact .inl (by rw[h3])
   ·refine .inr ⟨h1,by omega,?_⟩
    rw[show(b-(j:Int)).toNat=(b-((j+1:Nat):Int)).toNat+1 by omega] at h3
    simpa using h3
theorem Qm1 {a b:Int}{s:α}:∀{o:List (List α)}{i:Nat},((a,b),s)∈Qg7 i o↔(i:Int)≤a∧0≤b∧∃r,o[(a-i).toNat]? = some r∧r[b.toNat]? = some s
 |[],i=>by simp[Qg7]
 |r::o,i=>by
  rw[Qg7,List.mem_append,Qo9,Qm1 (o:=o) (i:=i+1)]
  constructor
  ·rintro (⟨rfl,h2,h3⟩ |⟨h1,h2,q,h3,h4⟩)
   ·exact⟨Int.le_refl _,by omega,r,by simp,by simpa using h3⟩
   ·refine⟨by omega,h2,q,?_,h4⟩
    rw[show(a-(i:Int)).toNat=(a-((i+1:Nat):Int)).toNat+1 by omega]
    simpa using h3
  ·rintro ⟨h1,h2,q,h3,h4⟩
   by_cases e:a=i
   ·subst e
    simp at h3
    subst h3
    exact .inl ⟨rfl,by omega,by simpa using h4⟩
   ·refine .inr ⟨by omega,h2,q,?_,h4⟩
    rw[show(a-(i:Int)).toNat=(a-((i+1:Nat):Int)).toNat+1 by omega] at h3
    simpa using h3
theorem Qsh {i:Nat}:∀(l:List α) (j:Nat),((Qob i j l).map fun x=>x.1).Nodup
 |[],j=>by simp[Qob]
 |x::l,j=>by
  rw[Qob,List.map_cons,List.nodup_cons]
  refine⟨fun h=>?_,Qsh l (j+1)⟩
  obtain⟨⟨⟨a,b⟩,s⟩,h1,h2⟩:=List.mem_map.1 h
  have:=(Qo9.1 h1).2.1
  simp only[Prod.mk.injEq] at h2
  omega
theorem Qsi:∀(o:List (List α)) (i:Nat),((Qg7 i o).map fun x=>x.1).Nodup
 |[],i=>by simp[Qg7]
 |r::o,i=>by
  rw[Qg7,List.map_append,List.nodup_append]
  refine⟨Qsh r 0,Qsi o (i+1),fun x hx y hy=>?_⟩
  obtain⟨⟨⟨a,b⟩,s⟩,h1,rfl⟩:=List.mem_map.1 hx
  obtain⟨⟨⟨a',b'⟩,s'⟩,h2,rfl⟩:=List.mem_map.1 hy
  have h3:=(Qo9.1 h1).1
  have h4:=(Qm1.1 h2).1
  intro e
  simp only[Prod.mk.injEq] at e
  omega
theorem Qqq:∀(o o':List (List α)) (i:Nat),Qg7 i (o++o')=Qg7 i o++Qg7 (i+o.length) o'
 |[],o',i=>by simp[Qg7]
 |r::o,o',i=>by
  rw[List.cons_append,Qg7,Qqq o o' (i+1),Qg7,List.append_assoc,List.length_cons,show i+1+o.length=i+(o.length+1) by omega]
theorem Qw7 (f:α→Int) (U:List (Int×Int)) (l l':List ((Int×Int)×α)):Qgt f U (l++l')=Qgt f U l+Qgt f U l':=by
 simp[Qgt,List.filter_append]
theorem Qr5 {f:α→Int}{U V:List (Int×Int)}{l:List ((Int×Int)×α)}(h:∀x∈l,(x.1∈U↔x.1∈V)):Qgt f U l=Qgt f V l:=by
 unfold Qgt
 have:(l.filter fun x=>!U.contains x.1)=l.filter fun x=>!V.contains x.1:=List.filter_congr fun x hx=>by
  have:=h x hx
  by_cases h1:x.1∈U
  ·have h2:=this.1 h1
   simp[h1,h2]
  ·have h2:¬x.1∈V:=fun h=>h1 (this.2 h)
   simp[h1,h2]
 rw[this]
theorem Qti (f:α→Int) {U:List (Int×Int)}{p:Int×Int}{s:α}:∀{l:List ((Int×Int)×α)},(l.map fun x=>x.1).Nodup→(p,s)∈l→p∉U→Qgt f (p::U) l=Qgt f U l-f s
 |[],_,h,_=>by simp at h
 |x::l,hn,h,hp=>by
  rw[List.map_cons,List.nodup_cons] at hn
  have e:∀V,Qgt f V (x::l)=(if x.1∈V then 0 else f x.2)+Qgt f V l:=fun V=>by
   unfold Qgt
   by_cases hv:x.1∈V<;>simp[hv]
  rw[e,e]
  rcases List.mem_cons.1 h with h |h
  ·subst h
   rw[if_pos (by simp),if_neg hp]
   have:Qgt f (p::U) l=Qgt f U l:=Qr5 fun y hy=>by
    rw[List.mem_cons]
    refine⟨fun h=>h.resolve_left fun e=>hn.1 ?_,.inr⟩
    rw[←e]
    exact List.mem_map.2 ⟨y,hy,rfl⟩
   rw[this]
   dsimp only
   omega
  ·rw[Qti f hn.2 h hp]
   have hx:x.1≠p:=fun e=>hn.1 (by rw[e];exact List.mem_map.2 ⟨_,h,rfl⟩)
   have:(x.1∈p::U)↔x.1∈U:=by simp[hx]
   by_cases hv:x.1∈U
   ·rw[if_pos (this.2 hv),if_pos hv];omega
   ·rw[if_neg (fun h=>hv (this.1 h)),if_neg hv];omega
theorem Qr4 (f:α→Int) {l:List ((Int×Int)×α)}(hl:(l.map fun x=>x.1).Nodup):∀(P:List (Int×Int)) (S:List α) (U:List (Int×Int)),P.length=S.length→(∀(i:Nat) p s,P[i]? = some p→S[i]? = some s→(p,s)∈l)→P.Nodup→(∀p∈P,p∉U) →
  Qgt f (P++U) l=Qgt f U l-(S.map f).sum
 |[],[],U,_,_,_,_=>by simp
 |p::P,s::S,U,hlen,hm,hn,hu=>by
  rw[List.nodup_cons] at hn
  have h1:=Qr4 f hl P S U (by simpa using hlen) (fun i q t h1 h2=>hm (i+1) q t (by simpa using h1) (by simpa using h2)) hn.2 fun q hq=>hu q (List.mem_cons_of_mem _ hq)
  rw[List.cons_append,Qti f hl (hm 0 p s rfl rfl),h1]
  ·simp only[List.map_cons,List.sum_cons];omega
  ·intro h
   rcases List.mem_append.1 h with h |h
   ·exact hn.1 h
   ·exact hu p List.mem_cons_self h
 |[],_::_,_,h,_,_,_=>by simp at h
 |_::_,[],_,h,_,_,_=>by simp at h
theorem Qw6 (f:α→Int) {U:List (Int×Int)}{i:Nat}(hU:∀p∈U,p.1≠i):∀(r:List α) (j:Nat),Qgt f U (Qob i j r)=(r.map f).sum
 |[],j=>rfl
 |x::r,j=>by
  have hx:((i:Int),(j:Int))∉U:=fun h=>hU _ h rfl
  have:Qgt f U (Qob i j (x::r))=f x+Qgt f U (Qob i (j+1) r):=by
   unfold Qgt
   rw[Qob,List.filter_cons,if_pos (by simpa using hx),List.map_cons,List.sum_cons]
  rw[this,Qw6 f hU r (j+1),List.map_cons,List.sum_cons]
theorem Qqn {f:α→Int}{U:List (Int×Int)}:∀{l:List ((Int×Int)×α)},(∀x∈l,0≤f x.2)→0≤Qgt f U l
 |[],_=>by simp[Qgt]
 |x::l,h=>by
  have h1:=Qqn (U:=U) fun y hy=>h y (List.mem_cons_of_mem x hy)
  have h2:=h x List.mem_cons_self
  unfold Qgt at h1 ⊢
  rw[List.filter_cons]
  split
  ·rw[List.map_cons,List.sum_cons];omega
  ·exact h1
theorem Qxn (i:Nat) (r:List α):Qg7 i [r]=Qob i 0 r:=by simp[Qg7]
end
end
section
structure NetV (n:GNet):Prop where
 tab:tabB n.Table=true
 len:1≤n.Elements.length∧n.Elements.length≤16
 alone:∀x∈n.Elements,Qhz x=true
 level:∀x∈n.Elements,0≤x.Level∧x.Level≤(n.Table.length:Int)-1
 port:∀(i:Nat) x p,n.Elements[i]? = some x→p∈x.From→0≤p.Element∧p.Element<i∧∃y,n.Elements[p.Element.toNat]? = some y∧0≤p.Outlet∧p.Outlet<outl y∧x.Level≤y.Level
 dist:(n.Elements.flatMap fun x=>x.From.map pq).Nodup
theorem Qry {els:List Qad}{i:Nat}{lv:Int}:∀{l:List Qeg}{u:List (Int×Int)},Ql1 els i lv u l=true→u.Nodup →
  (u++l.map pq).Nodup∧∀p∈l,0≤p.Element∧p.Element<i∧∃y,els[p.Element.toNat]? = some y∧0≤p.Outlet∧p.Outlet<outl y∧lv≤y.Level
 |[],u,_,hu=>⟨by simpa using hu,by simp⟩
 |p::l,u,h,hu=>by
  rw[Ql1,Bool.and_eq_true] at h
  obtain⟨h1,h2⟩:=h
  rw[Qrz,Bool.and_eq_true,Bool.and_eq_true] at h1
  obtain⟨⟨h3,h4⟩,h5⟩:=h1
  have hn:pq p∉u:=by simpa using h5
  have hu':(u++[pq p]).Nodup:=by
   rw[List.nodup_append]
   exact⟨hu,by simp,fun a ha b hb=>by simp at hb;subst hb;exact fun e=>hn (e▸ha)⟩
  obtain⟨k1,k2⟩:=Qry h2 hu'
  refine⟨by rw[List.map_cons];rw[List.append_assoc] at k1;exact k1,fun q hq=>?_⟩
  rcases List.mem_cons.1 hq with rfl |hq
  ·obtain⟨b1,b2⟩:=Qep.1 h3
   cases hg:getI els q.Element with
   |none=>rw[hg] at h4;cases h4
   |some y=>
    rw[hg] at h4
    simp only[Bool.and_eq_true,decide_eq_true_eq] at h4
    obtain⟨c1,c2⟩:=Qep.1 h4.1
    exact⟨b1,by omega,y,(Qxk hg).2,c1,by omega,h4.2⟩
  ·exact k2 q hq
theorem Qxo {t:Int}{els:List Qad}:∀{l:List Qad}{i:Nat}{u:List (Int×Int)},Qvi t els i u l=true→u.Nodup →
  (u++l.flatMap fun x=>x.From.map pq).Nodup∧(∀x∈l,0≤x.Level∧x.Level≤t-1)∧∀(j:Nat) x p,l[j]? = some x→p∈x.From→0≤p.Element∧p.Element<(i:Int)+j∧∃y,els[p.Element.toNat]? = some y∧0≤p.Outlet∧p.Outlet<outl y∧x.Level≤y.Level
 |[],i,u,_,hu=>⟨by simpa using hu,by simp,fun j x p h=>by simp at h⟩
 |x::l,i,u,h,hu=>by
  rw[Qvi,Bool.and_eq_true,Bool.and_eq_true] at h
  obtain⟨⟨h1,h2⟩,h3⟩:=h
  obtain⟨k1,k2⟩:=Qry h2 hu
  obtain⟨m1,m2,m3⟩:=Qxo h3 k1
  refine⟨by rw[List.flatMap_cons];rw[List.append_assoc] at m1;exact m1,fun y hy=>?_,fun j y p hj hp=>?_⟩
  ·rcases List.mem_cons.1 hy with rfl |hy
   ·exact Qep.1 h1
   ·exact m2 y hy
  ·cases j with
   |zero=>
    simp at hj
    subst hj
    obtain⟨a,b,c⟩:=k2 p hp
    exact⟨a,by omega,c⟩
   |succ j=>
    obtain⟨a,b,c⟩:=m3 j y p (by simpa using hj) hp
    exact⟨a,by omega,c⟩
theorem Qy6 {n:GNet}(h:netB n=true):NetV n:=by
 unfold netB at h
 simp only[Bool.and_eq_true] at h
 obtain⟨⟨⟨h1,h2⟩,h3⟩,h4⟩:=h
 obtain⟨k1,k2,k3⟩:=Qxo h4 List.nodup_nil
 have:=Qep.1 h2
 exact⟨h1,⟨by omega,by omega⟩,fun x hx=>List.all_eq_true.1 h3 x hx,k2,fun i x p hi hp=>by
  obtain⟨a,b,c⟩:=k3 i x p hi hp
  exact⟨a,by omega,c⟩,by simpa using k1⟩
def Qwz:Nat→List Qad→List Qeg
 |_,[]=>[]
 |i,x::l=>(List.range (outl x).toNat).map (fun k:Nat=>(⟨(i:Int),(k:Int)⟩:Qeg))++Qwz (i+1) l
def Zkt (n:GNet):List (Int×Int):=n.Elements.flatMap fun x=>x.From.map pq
def Zgy (n:GNet):List Qeg:=(Qwz 0 n.Elements).filter fun p=>!(Zkt n).contains (pq p)
section
variable {N : Nat} {n : GNet} (hs : Qjw n) (hv : NetV n) (hN : 1001 ≤ N)
end
def stB (n:GNet) (s:List Int):Bool:=decide (s.length=n.Elements.length)&&s.all fun x=>btw x 0 1000000000000
theorem Q6j {N:Nat}{n:GNet}(hs:Qjw n) (hN:1001≤N) {s:List Int}(hl:s.length≤1000):Qhy N n s=some (bif netB n&&stB n s then 0 else 1):=by
 have hc:Qcw N s=some (s.any fun x=>!btw x 0 1000000000000):=by
  unfold Qcw Qd7 Qcf
  refine Qg8 (F:=Qb0 N s fun _=>some (-1)) (k:=fun _=>some (-1)) (q:=Qgd N) (fun n y=>rfl) (fun x=>?_) rfl (by omega) (by omega)
  simp only[Qgd,Qiy,Qil,Option.bind_some]
 unfold Qhy Qib stB
 rw[Q7g hs hN,hc]
 simp only[Option.bind_some,Qoh]
 cases netB n with
 |false=>rfl
 |true=>
  by_cases h1:s.length=n.Elements.length
  ·rw[decide_eq_true h1,show((s.length:Int) != (n.Elements.length:Int))=false by rw[bne_eq_false_iff_eq];omega]
   cases s.all fun x=>btw x 0 1000000000000<;>rfl
  ·rw[decide_eq_false h1,show((s.length:Int) != (n.Elements.length:Int))=true by rw[bne_iff_ne];omega];rfl
def widI (x:Qad) (d:Int):Int:=if x.Wide-d/x.Narrow>0 then x.Wide-d/x.Narrow else 0
theorem Zix {x:Qad}(hx:Qhz x=true) {d:Int}(h0:0≤d) (h1:d≤9000000000000000000):(x.Narrow != 0)=true∧d.tdiv x.Narrow=d/x.Narrow∧0≤d/x.Narrow∧d/x.Narrow≤d∧w64 (d/x.Narrow)=d/x.Narrow∧w64 (x.Wide-d/x.Narrow)=x.Wide-d/x.Narrow∧0≤x.Wide∧x.Wide≤1000000∧1≤x.Narrow:=by
 unfold Qhz at hx
 simp only[Bool.and_eq_true] at hx
 obtain⟨⟨⟨⟨⟨_,hw⟩,hn⟩,_⟩,_⟩,_⟩:=hx
 obtain⟨w0,w1⟩:=Qep.1 hw
 obtain⟨n0,n1⟩:=Qep.1 hn
 have a:=Int.ediv_nonneg h0 (show 0≤x.Narrow by omega)
 have b:=Int.ediv_le_self x.Narrow h0
 exact⟨by rw[bne_iff_ne];omega,Int.tdiv_eq_ediv_of_nonneg h0,a,b,Qbs (by omega) (by omega),Qbs (by omega) (by omega),w0,w1,n0⟩
theorem Q55 (N:Nat) {x:Qad}(hx:Qhz x=true) {d:Int}(h0:0≤d) (h1:d≤9000000000000000000):Qfg N x d=some (widI x d):=by
 obtain⟨a,b,c,e,f,g,_⟩:=Zix hx h0 h1
 unfold Qfg widI
 rw[a,b,f,g]
 rfl
end
section
def Qjm (key:Int→Int) (ls:List Int) (i k:Int):Prop:=key (ls.getD k.toNat 0)<key (ls.getD i.toNat 0)∨(key (ls.getD k.toNat 0)=key (ls.getD i.toNat 0)∧i<k)
theorem Qoi {key:Int→Int}{ls:List Int}{i k:Int}(h:Qjm key ls i k) (h':Qjm key ls k i):False:=by
 unfold Qjm at h h'
 omega
theorem Qz8 {key:Int→Int}{ls:List Int}{i k m:Int}(h:Qjm key ls i k) (h':Qjm key ls k m):Qjm key ls i m:=by
 unfold Qjm at *
 omega
def ixs (n:Nat):List Int:=(List.range n).map fun j:Nat=>(j:Int)
theorem Qih (n:Nat):(ixs n).length=n:=by simp[ixs]
theorem Qu7 {n i:Nat}(h:i<n):(ixs n)[i]? = some (i:Int):=by simp[ixs,h]
theorem Qsb {n:Nat}{x:Int}:x∈ixs n↔0≤x∧x<n:=by
 unfold ixs
 rw[List.mem_map]
 constructor
 ·rintro ⟨j,hj,rfl⟩
  have:=List.mem_range.1 hj
  omega
 ·rintro ⟨h0,h1⟩
  exact⟨x.toNat,List.mem_range.2 (by omega),by omega⟩
theorem Q7v (n:Nat):(ixs n).Nodup:=List.pairwise_map.2 ((List.nodup_range (n:=n)).imp fun h e=>h (by omega))
section
variable {N L : Nat} {ws : List Int} {M W : Int}
def rkey (M W w:Int):Int:=M*w % W
structure WOk (ws:List Int) (M W:Int):Prop where
 w:∀x∈ws,0≤x∧x≤1000
 m0:0≤M
 m1:M≤1000000
 p0:0<W
 p1:W≤20000
theorem Q6t (h:WOk ws M W) (x:Int):0≤rkey M W x∧rkey M W x<20000:=by
 have:=h.p0
 have:=h.p1
 have a:=Int.emod_nonneg (M*x) (show W≠0 by omega)
 have b:=Int.emod_lt_of_pos (M*x) h.p0
 unfold rkey
 omega
theorem Q1s (h:WOk ws M W) {x:Int}(hx:x∈ws):Qe7 N x M W=some (rkey M W x):=by
 obtain⟨x0,x1⟩:=h.w x hx
 have h0:=h.m0
 have h1:=h.m1
 have p:=h.p0
 have:=bdp h0 h1 x0 x1 (by omega)
 unfold Qe7 chk rkey
 rw[show(W != 0)=true by rw[bne_iff_ne];omega,cond_true,Qbs (by omega) (by omega),Int.tmod_eq_emod_of_nonneg this.1]
theorem Zj0 (h:WOk ws M W) {a b:Int}(ha:0≤a∧a<ws.length) (hb:0≤b∧b<ws.length):Qes N a b ws M W=some (rkey M W (ws.getD b.toNat 0)-rkey M W (ws.getD a.toNat 0)):=by
 have ga:ws[a.toNat]? = some (ws.getD a.toNat 0):=by rw[List.getD_eq_getElem?_getD,List.getElem?_eq_getElem (by omega)];rfl
 have gb:ws[b.toNat]? = some (ws.getD b.toNat 0):=by rw[List.getD_eq_getElem?_getD,List.getElem?_eq_getElem (by omega)];rfl
 have ka:=Q6t h (ws.getD a.toNat 0)
 have kb:=Q6t h (ws.getD b.toNat 0)
 unfold Qes
 rw[show getI ws b=some (ws.getD b.toNat 0) from by rw[←gb];unfold getI;rw[if_pos hb.1],show getI ws a=some (ws.getD a.toNat 0) from by rw[←ga];unfold getI;rw[if_pos ha.1]]
 simp only[Option.bind_some,Q1s h (List.mem_of_getElem? ga),Q1s h (List.mem_of_getElem? gb)]
 rw[Qbs (by omega) (by omega)]
theorem Zf8 (h:WOk ws M W) (hL:L≤20) (hLw:L=ws.length) (k:List Int→Option (List Int)) (x:Int) (R:List Int) (hx:0≤x∧x<ws.length):∀(n:Nat) (P S:List Int),P.length<n→(P++x::S++R).length=L →
  (P++S).Pairwise (Qjm (rkey M W) ws)→(∀s∈S,Qjm (rkey M W) ws x s)→(∀y∈P++S,0≤y∧y<x) →
  ∃Q,Qbc N L 0 ws M W k n P.length (P++x::S++R)=k (Q++R)∧Q.Perm (P++x::S)∧Q.Pairwise (Qjm (rkey M W) ws):=by
 intro n
 induction n with
 |zero=>intro P S hn;exact absurd hn (Nat.not_lt_zero _)
 |succ n ih=>
  intro P S hn hl hp hs hb
  rw[Qbc]
  simp only[Qcf]
  rcases List.eq_nil_or_concat P with rfl |⟨P',y,rfl⟩
  ·refine⟨x::S,by simp,.refl _,?_⟩
   rw[List.pairwise_cons]
   exact⟨hs,by simpa using hp⟩
  ·simp only[List.concat_eq_append] at *
   have hlen:(P'++[y]).length=P'.length+1:=by simp
   have hl2:P'.length+1<L:=by rw[←hl];simp
   have e1:w64 (((P'++[y]).length:Nat)-1:Int)=(P'.length:Int):=by rw[hlen,Qbs (by omega) (by omega)];omega
   have e2:(((P'++[y]).length:Nat):Int).toNat=P'.length+1:=by rw[hlen];omega
   have e3:(P'.length:Int).toNat=P'.length:=by omega
   have gx:(P'++[y]++x::S++R)[P'.length+1]? = some x:=by
    rw[List.append_assoc,List.append_assoc,List.getElem?_append_right (by omega)]
    simp
   have gy:(P'++[y]++x::S++R)[P'.length]? = some y:=by
    rw[List.append_assoc,List.append_assoc,List.getElem?_append_right (by omega)]
    simp
   have hy:=hb y (by simp)
   have c1:(decide ((0:Int)≤(((P'++[y]).length:Nat):Int))&&decide (P'.length+1<L))=true:=by simp;omega
   have c2:(decide ((0:Int)≤(P'.length:Int))&&decide (P'.length<L))=true:=by simp;omega
   have hs1:((P'++[y]++x::S++R).set (P'.length+1) y)[P'.length]? = some y:=by rw[List.getElem?_set_ne (by omega)];exact gy
   have hsw:((P'++[y]++x::S++R).set (P'.length+1) y).set P'.length x=P'++x::(y::S)++R:=by
    have a1:(P'++[y]++x::S++R).set (P'.length+1) y=P'++[y]++y::S++R:=by
     rw[List.append_assoc,List.append_assoc,List.set_append_right _ _ (by omega),show P'.length+1-P'.length=1 by omega]
     simp
    rw[a1,List.append_assoc,List.append_assoc,List.set_append_right _ _ (by omega),Nat.sub_self]
    simp
   have hcmp:=Zj0 (N:=N) h hx (show 0≤y∧y<ws.length by omega)
   simp only[show decide ((((P'++[y]).length:Nat):Int)>0)=true from decide_eq_true (by rw[hlen];omega),cond_true,e1,e2,e3,chk,c1,c2,gx,gy,Option.bind_some,hcmp,hs1,hsw]
   by_cases hlt:rkey M W (ws.getD y.toNat 0)-rkey M W (ws.getD x.toNat 0)<0
   ·rw[decide_eq_true hlt,cond_true]
    obtain⟨Q,q1,q2,q3⟩:=ih P' (y::S) (by rw[hlen] at hn;omega) (by rw[←hl];simp) (by simpa using hp) (fun s hs'=>by
     rcases List.mem_cons.1 hs' with rfl |hs'
     ·exact .inl (by omega)
     ·exact hs s hs') (fun z hz=>hb z (by simpa using hz))
    refine⟨Q,q1,q2.trans ?_,q3⟩
    rw[List.append_assoc]
    exact List.Perm.append_left P' (List.Perm.swap y x S)
   ·rw[decide_eq_false hlt,cond_false]
    refine⟨P'++[y]++x::S,rfl,.refl _,?_⟩
    have hyx:Qjm (rkey M W) ws y x:=by unfold Qjm;omega
    rw[List.pairwise_append] at hp ⊢
    obtain⟨p1,p2,p3⟩:=hp
    refine⟨p1,List.pairwise_cons.2 ⟨hs,p2⟩,fun a ha b hb'=>?_⟩
    have hax:Qjm (rkey M W) ws a x:=by
     rcases List.mem_append.1 ha with ha |ha
     ·rw[List.pairwise_append] at p1
      exact Qz8 (p1.2.2 a ha y (by simp)) hyx
     ·simp at ha;subst ha;exact hyx
    rcases List.mem_cons.1 hb' with rfl |hb'
    ·exact hax
    ·exact p3 a ha b hb'
theorem Zas (h:WOk ws M W) (hL:L≤20) (hLw:L=ws.length) (hN:1000≤N):∀(n i:Nat) (Q:List Int),L-i<n→i≤L→Q.Perm ((ixs L).take i)→Q.Pairwise (Qjm (rkey M W) ws) →
  ∃Q',Qa0 N L 0 L ws M W n i (Q++(ixs L).drop i)=some Q'∧Q'.Perm (ixs L)∧Q'.Pairwise (Qjm (rkey M W) ws):=by
 intro n
 induction n with
 |zero=>intro i _ h;cases h
 |succ n ih=>
  intro i Q hn hi hp hq
  rw[Qa0]
  simp only[Qcf]
  by_cases hlt:i<L
  ·have hql:Q.length=i:=by rw[hp.length_eq,List.length_take,Qih];omega
   have hd:(ixs L).drop i=(i:Int)::(ixs L).drop (i+1):=by
    have:=Qu7 hlt
    have hi2:i<(ixs L).length:=by rw[Qih];exact hlt
    rw[List.drop_eq_getElem_cons hi2]
    rw[List.getElem?_eq_getElem hi2] at this
    rw[Option.some.inj this]
   rw[show decide ((i:Int)<(L:Int))=true from by simpa using hlt,cond_true]
   have hmem:∀y∈Q,0≤y∧y<(i:Int):=fun y hy=>by
    have h1:=hp.mem_iff.1 hy
    obtain⟨j,hj,e⟩:=List.mem_take_iff_getElem.1 h1
    have hj2:j<L:=by rw[Qih] at hj;omega
    have:=Qu7 hj2
    rw[List.getElem?_eq_getElem (by rw[Qih];exact hj2),e] at this
    cases this
    omega
   obtain⟨Q',q1,q2,q3⟩:=Zf8 (N:=N) h hL hLw (fun y8=>Qa0 N L 0 L ws M W n (w64 ((i:Int)+1)) y8) (i:Int) ((ixs L).drop (i+1)) (by omega) N Q [] (by omega) (by simp[Qih,hql];omega) (by simpa using hq) (by simp) (by simpa using hmem)
   rw[hql] at q1
   rw[hd]
   have e:Q++(i:Int)::(ixs L).drop (i+1)=Q++[(i:Int)]++(ixs L).drop (i+1):=by simp
   rw[e]
   have t:(ixs L).take (i+1)=(ixs L).take i++[(i:Int)]:=by
    rw[List.take_add_one,Qu7 hlt];rfl
   obtain⟨Q2,r1,r2,r3⟩:=ih (i+1) Q' (by omega) (by omega) (q2.trans (by rw[t];exact hp.append_right _)) q3
   refine⟨Q2,q1.trans ?_,r2,r3⟩
   rw[w64S (i:=i) (by omega)]
   exact r1
  ·rw[show decide ((i:Int)<(L:Int))=false from by simpa using hlt,cond_false]
   have hiL:i=L:=by omega
   subst hiL
   rw[List.take_of_length_le (by rw[Qih];exact Nat.le_refl _)] at hp
   exact⟨Q,by rw[List.drop_of_length_le (by rw[Qih];exact Nat.le_refl _),List.append_nil],hp,hq⟩
theorem Zai (h:WOk ws M W) (hL:ws.length≤20) (h1:1≤ws.length) (hN:1000≤N):∃Q,Qb5 N ws.length (ixs ws.length) ws M W=some Q∧Q.Perm (ixs ws.length)∧Q.Pairwise (Qjm (rkey M W) ws):=by
 have ht:(ixs ws.length).take 1=[0]:=by
  rw[List.take_add_one,Qu7 (by omega)];rfl
 have hd:(ixs ws.length)=[0]++(ixs ws.length).drop 1:=by rw[←ht,List.take_append_drop]
 obtain⟨Q,q1,q2,q3⟩:=Zas (N:=N) (L:=ws.length) h hL rfl hN N 1 [0] (by omega) h1 (by rw[ht]) (by simp)
 rw[←hd] at q1
 refine⟨Q,?_,q2,q3⟩
 obtain⟨m,rfl⟩:∃m,N=m+2:=⟨N-2,by omega⟩
 have hins:Qbe (m+2) ws.length 0 (ws.length:Int) (ixs ws.length) ws M W=some Q:=by
  unfold Qbe
  rw[show w64 ((0:Int)+1)=((1:Nat):Int) from Qbs (by decide) (by decide)]
  exact q1
 unfold Qb5 Qd4
 simp only[Qcf]
 rw[Qbj]
 by_cases h20:ws.length=20
 ·rw[show decide ((20:Int)≤(ws.length:Int))=true from by simp;omega,cond_true]
  have e20:(20:Int)=(ws.length:Int):=by omega
  rw[show Qbe (m+2) ws.length 0 20 (ixs ws.length) ws M W=some Q from by rw[e20];exact hins,Option.bind_some,Qbj,show w64 ((20:Int)+20)=40 from Qbs (by decide) (by decide),show decide ((40:Int)≤(ws.length:Int))=false from by simp;omega,cond_false]
  dsimp only
  unfold Qbe
  rw[show w64 ((20:Int)+1)=21 from Qbs (by decide) (by decide),Qa0,show decide ((21:Int)<(ws.length:Int))=false from by simp;omega,cond_false,Option.bind_some,Qbt,show decide ((20:Int)<(ws.length:Int))=false from by simp;omega,cond_false]
  rfl
 ·rw[show decide ((20:Int)≤(ws.length:Int))=false from by simp;omega,cond_false]
  dsimp only
  rw[hins,Option.bind_some,Qbt,show decide ((20:Int)<(ws.length:Int))=false from by simp;omega,cond_false]
  rfl
theorem Zau (ls:List Int) (k:List Int→Option (List Int)) (h8:ls.length≤20):∀(n i:Nat) (l:List Int),ls.length-i<n→i≤ls.length→l=ixs i →
  Qcm N ls k n i l=k (ixs ls.length):=by
 intro n
 induction n with
 |zero=>intro i _ h;cases h
 |succ n ih=>
  intro i l hn hi hl
  rw[Qcm]
  by_cases h:i<ls.length
  ·have e1:w64 ((i:Int)+1)=((i+1:Nat):Int):=Qbs (by omega) (by omega)
   rw[show decide ((i:Int)<(ls.length:Int))=true from by simpa using h,cond_true,e1]
   simp only[chk]
   rw[show decide ((l.length+[(i:Int)].length)*8≤140737488355328)=true from by rw[hl,Qih];simp;omega,cond_true]
   exact ih (i+1) _ (by omega) (by omega) (by rw[hl];simp[ixs,List.range_succ])
  ·rw[show decide ((i:Int)<(ls.length:Int))=false from by simpa using h,cond_false,hl,show i=ls.length by omega]
theorem Qwv (h:WOk ws M W) (hL:ws.length≤20) (h1:1≤ws.length) (hN:1000≤N):∃Q,Qe9 N ws M W=some Q∧Q.Perm (ixs ws.length)∧Q.Pairwise (Qjm (rkey M W) ws):=by
 obtain⟨Q,q1,q2,q3⟩:=Zai (N:=N) h hL h1 hN
 refine⟨Q,?_,q2,q3⟩
 have hlen:=q2.length_eq
 rw[Qih] at hlen
 unfold Qe9
 simp only[Qcf]
 have:=Zau (N:=N) ws (fun y3=>chk (!y3.isEmpty)<|(Qb5 N y3.length y3 ws M W).bind fun x7=>chk (decide (y3.length≤x7.length))<|some (x7.take y3.length)) hL N 0 [] (by omega) (by omega) rfl
 refine this.trans ?_
 have he:(!(ixs ws.length).isEmpty)=true:=by
  cases hh:ixs ws.length with
  |nil=>have:=Qih ws.length;rw[hh] at this;simp at this;omega
  |cons=>rfl
 simp only[chk,he,cond_true,Qih,q1,Option.bind_some]
 rw[show decide (ws.length≤Q.length)=true by simp;omega,cond_true,List.take_of_length_le (by omega)]
end
end
section
def Qs9 (key:Int→Int) (ls:List Int) (mk:List Bool):Nat→Int
 |0=>-1
 |d+1=>if mk.getD d false=false∧(Qs9 key ls mk d<0∨key (ls.getD (Qs9 key ls mk d).toNat 0)<key (ls.getD d 0)) then d else Qs9 key ls mk d
theorem Qtt (key:Int→Int) (ls:List Int) (mk:List Bool):∀d,((∀i,i<d→mk.getD i false=true)∧Qs9 key ls mk d=-1) ∨
  ∃b:Nat,b<d∧Qs9 key ls mk d=b∧mk.getD b false=false∧∀i:Nat,i<d→mk.getD i false=false→i=b∨Qjm key ls b i
 |0=>.inl ⟨fun i h=>absurd h (by omega),rfl⟩
 |d+1=>by
  unfold Qs9
  rcases Qtt key ls mk d with ⟨h1,h2⟩ |⟨b,hb,h2,h3,h4⟩
  ·rw[h2]
   cases hm:mk.getD d false with
   |true=>exact .inl ⟨fun i hi=>(Nat.lt_succ_iff_lt_or_eq.1 hi).elim (h1 i) (fun e=>e▸hm),by rw[if_neg (by simp)]⟩
   |false=>
    rw[if_pos ⟨rfl,.inl (by omega)⟩]
    refine .inr ⟨d,by omega,rfl,hm,fun i hi hn=>?_⟩
    rcases Nat.lt_succ_iff_lt_or_eq.1 hi with h |h
    ·rw[h1 i h] at hn;exact absurd hn (by simp)
    ·exact .inl h
  ·rw[h2]
   by_cases hc:mk.getD d false=false∧((b:Int)<0∨key (ls.getD (b:Int).toNat 0)<key (ls.getD d 0))
   ·rw[if_pos hc]
    have hk:key (ls.getD b 0)<key (ls.getD d 0):=hc.2.elim (fun h=>by omega) (fun h=>by simpa using h)
    refine .inr ⟨d,by omega,rfl,hc.1,fun i hi hn=>?_⟩
    rcases Nat.lt_succ_iff_lt_or_eq.1 hi with h |h
    ·rcases h4 i h hn with rfl |h5
     ·exact .inr (.inl (by simpa using hk))
     ·refine .inr (.inl ?_)
      unfold Qjm at h5
      simp only[Int.toNat_natCast] at h5 ⊢
      omega
    ·exact .inl h
   ·rw[if_neg hc]
    refine .inr ⟨b,by omega,rfl,h3,fun i hi hn=>?_⟩
    rcases Nat.lt_succ_iff_lt_or_eq.1 hi with h |rfl
    ·exact h4 i h hn
    ·refine .inr ?_
     have:¬key (ls.getD (b:Int).toNat 0)<key (ls.getD i 0):=fun h=>hc ⟨hn,.inr h⟩
     unfold Qjm
     simp only[Int.toNat_natCast] at this ⊢
     omega
theorem Q31 {key:Int→Int}{ls L:List Int}{mk:List Bool}{n k:Nat}(hL:L.Pairwise (Qjm key ls)) (hm:∀i:Nat,i<n→(i:Int)∈L) (hr:∀x∈L,0≤x∧x<n)
  (hmk:∀i:Nat,i<n→(mk.getD i false=true↔(i:Int)∈L.take k)) (hk:k<L.length):Qs9 key ls mk n=L[k]:=by
 have hd:L.Pairwise (· ≠ ·):=hL.imp (fun {a b} h e=>by subst e;exact Qoi h h)
 obtain⟨x0,x1⟩:=hr L[k] (List.getElem_mem hk)
 have hx:((L[k].toNat:Nat):Int)=L[k]:=Int.toNat_of_nonneg x0
 have hun:mk.getD L[k].toNat false=false:=by
  cases h:mk.getD L[k].toNat false with
  |false=>rfl
  |true=>
   have:=(hmk _ (by omega)).1 h
   rw[hx,List.mem_take_iff_getElem] at this
   obtain⟨i,hi,e⟩:=this
   exact absurd e ((List.pairwise_iff_getElem.1 hd) i k (by omega) hk (by omega))
 rcases Qtt key ls mk n with ⟨h1,_⟩ |⟨b,hb,h2,h3,h4⟩
 ·rw[h1 _ (by omega)] at hun
  exact absurd hun (by simp)
 ·rw[h2]
  rcases h4 L[k].toNat (by omega) hun with h |h
  ·omega
  ·exfalso
   obtain⟨j,hj,e⟩:=List.getElem_of_mem (hm b hb)
   have hjk:¬j<k:=fun hlt=>by
    have:=(hmk b hb).2 (by rw[List.mem_take_iff_getElem];exact⟨j,by omega,e⟩)
    rw[h3] at this
    exact absurd this (by simp)
   rw[hx] at h
   rcases Nat.lt_or_eq_of_le (Nat.le_of_not_lt hjk) with h5 |h5
   ·have:=(List.pairwise_iff_getElem.1 hL) k j hk hj h5
    rw[e] at this
    exact Qoi h this
   ·subst h5
    rw[e] at h
    exact Qoi h h
def mark (l:List Bool) (i:Int):List Bool:=l.set i.toNat true
theorem Qy7 (l:List Bool) (i:Int):(mark l i).length=l.length:=by simp[mark]
theorem Q3s (p:List Int):∀(l:List Bool) (i:Nat),i<l.length→(∀x∈p,0≤x)→((p.foldl mark l).getD i false=true↔((i:Int)∈p∨l.getD i false=true)):=by
 induction p with
 |nil=>exact fun l i _ _=>by simp
 |cons x r ih=>
  intro l i hi h0
  have hx:=h0 x List.mem_cons_self
  rw[List.foldl_cons,ih (mark l x) i (by rw[Qy7];exact hi) (fun y hy=>h0 y (List.mem_cons_of_mem _ hy)),List.mem_cons]
  have e:(mark l x).getD i false=true↔((i:Int)=x∨l.getD i false=true):=by
   simp only[mark,List.getD_eq_getElem?_getD,List.getElem?_set]
   by_cases h:x.toNat=i
   ·have:(i:Int)=x:=by omega
    simp[h,hi,this]
   ·have:¬(i:Int)=x:=by omega
    simp[h,this]
  rw[e]
  constructor
  ·rintro (h |h |h)
   ·exact .inl (.inr h)
   ·exact .inl (.inl h)
   ·exact .inr h
  ·rintro ((h |h) |h)
   ·exact .inr (.inl h)
   ·exact .inl h
   ·exact .inr (.inr h)
theorem Q3r {L:List Int}{n k:Nat}(hr:∀x∈L,0≤x∧x<n) (i:Nat) (hi:i<n):(((L.take k).foldl mark (List.replicate n false)).getD i false=true↔(i:Int)∈L.take k):=by
 rw[Q3s _ _ _ (by simpa using hi) (fun x hx=>(hr x (List.mem_of_mem_take hx)).1)]
 simp[hi,List.getD_eq_getElem?_getD]
def bump (l:List Int) (i:Int):List Int:=l.set i.toNat (l.getD i.toNat 0+1)
theorem Qkg (l:List Int) (i:Int):(bump l i).length=l.length:=by simp[bump]
theorem Qxy (p:List Int):∀l:List Int,(p.foldl bump l).length=l.length:=by
 induction p with
 |nil=>exact fun _=>rfl
 |cons x r ih=>exact fun l=>(ih (bump l x)).trans (Qkg l x)
theorem Qxz:∀(is l:List Int),is.Nodup→(∀x∈is,0≤x∧x<l.length)→∀i:Nat,i<l.length→(is.foldl bump l)[i]? = some (l.getD i 0+if (i:Int)∈is then 1 else 0)
 |[],l,_,_,i,hi=>by simp[List.getD_eq_getElem?_getD,hi]
 |x::is,l,hn,hb,i,hi=>by
  obtain⟨hx,hn'⟩:=List.nodup_cons.1 hn
  have hbx:=hb x (by simp)
  have ih:=Qxz is (bump l x) hn' (fun y hy=>by rw[Qkg];exact hb y (by simp[hy])) i (by rw[Qkg];exact hi)
  rw[List.foldl_cons,ih]
  congr 1
  by_cases e:(i:Int)=x
  ·subst e
   have h1:(bump l (i:Int)).getD i 0=l.getD i 0+1:=by
    unfold bump
    rw[Int.toNat_natCast,List.getD_eq_getElem?_getD,List.getElem?_set_self hi]
    rfl
   rw[h1,if_neg hx,if_pos (by simp)]
   omega
  ·have h1:(bump l x).getD i 0=l.getD i 0:=by
    unfold bump
    rw[List.getD_eq_getElem?_getD,List.getElem?_set_ne (by omega),←List.getD_eq_getElem?_getD]
   rw[h1]
   have:((i:Int)∈x::is)↔((i:Int)∈is):=by simp[e]
   simp only[this]
theorem Q6m:∀(o:List Int) (i:Nat) (x y:Int),o[i]? = some x→(o.set i y).sum=o.sum+(y-x)
 |[],_,_,_,h=>by simp at h
 |a::o,0,x,y,h=>by simp at h;subst h;simp only[List.set_cons_zero,List.sum_cons];omega
 |a::o,i+1,x,y,h=>by
  have:=Q6m o i x y (by simpa using h)
  simp only[List.set_cons_succ,List.sum_cons,this];omega
theorem Qxx:∀(is l:List Int),(∀x∈is,0≤x∧x<l.length)→(is.foldl bump l).sum=l.sum+is.length
 |[],l,_=>by simp
 |x::is,l,h=>by
  have hx:=h x (by simp)
  have hg:l[x.toNat]? = some (l.getD x.toNat 0):=by rw[List.getD_eq_getElem?_getD,List.getElem?_eq_getElem (by omega)];rfl
  rw[List.foldl_cons,Qxx is (bump l x) (fun y hy=>by rw[Qkg];exact h y (by simp[hy])),bump,Q6m l _ _ _ hg]
  simp only[List.length_cons]
  omega
def Qpk (M:Int) (ws:List Int):List Int:=ws.map fun w=>M*w/ws.sum
def Qpa (M:Int) (ws:List Int):Int:=M-(Qpk M ws).sum
def Q3o (key:Int→Int) (ls:List Int) (n:Nat):Nat→List Bool→List Int
 |0,_=>[]
 |k+1,mk=>Qs9 key ls mk n::Q3o key ls n k (mark mk (Qs9 key ls mk n))
def Qif (M:Int) (ws:List Int):List Int:=(Q3o (rkey M ws.sum) ws ws.length (Qpa M ws).toNat (List.replicate ws.length false)).foldl bump (Qpk M ws)
theorem Q1h {key:Int→Int}{ls L:List Int}(hp:L.Perm (ixs ls.length)) (hL:L.Pairwise (Qjm key ls)):∀(k j:Nat),j+k≤L.length→Q3o key ls ls.length k ((L.take j).foldl mark (List.replicate ls.length false))=(L.drop j).take k
 |0,j,_=>by simp[Q3o]
 |k+1,j,h=>by
  have hr:∀x∈L,0≤x∧x<ls.length:=fun x hx=>Qsb.1 (hp.mem_iff.1 hx)
  have hb:Qs9 key ls ((L.take j).foldl mark (List.replicate ls.length false)) ls.length=L[j]'(by omega):=Q31 hL (fun i hi=>hp.mem_iff.2 (Qsb.2 ⟨by omega,by omega⟩)) hr (fun i hi=>Q3r hr i hi) (by omega)
  have ht:mark ((L.take j).foldl mark (List.replicate ls.length false)) (L[j]'(by omega))=(L.take (j+1)).foldl mark (List.replicate ls.length false):=by
   rw[List.take_add_one,List.getElem?_eq_getElem (by omega),List.foldl_append]
   rfl
  rw[Q3o,hb,ht,Q1h hp hL k (j+1) (by omega),List.drop_eq_getElem_cons (show j<L.length by omega),List.take_succ_cons]
structure WtsV (ws:List Int):Prop where
 l1:1≤ws.length
 l2:ws.length≤20
 w:∀x∈ws,0≤x∧x≤1000
 some:∃x∈ws,x>0
theorem Ze9 {ws:List Int}(h:wtsB ws=true):WtsV ws:=by
 unfold wtsB at h
 simp only[Bool.and_eq_true] at h
 obtain⟨h1,h2,h3⟩:=h
 have:=Qep.1 h1
 refine⟨by omega,by omega,fun x hx=>Qep.1 (List.all_eq_true.1 h2 x hx),?_⟩
 obtain⟨x,hx,h4⟩:=List.any_eq_true.1 h3
 exact⟨x,hx,by simpa using h4⟩
theorem Q3e (ws:List Int) (h:∀x∈ws,0≤x∧x≤1000):0≤ws.sum∧ws.sum≤1000*ws.length:=by
 induction ws with
 |nil=>simp
 |cons a l ih=>
  have h1:=ih fun x hx=>h x (List.mem_cons_of_mem _ hx)
  have h2:=h a List.mem_cons_self
  simp only[List.sum_cons,List.length_cons]
  omega
theorem WtsV.sum {ws:List Int}(h:WtsV ws):0<ws.sum∧ws.sum≤20000:=by
 have h1:=Q3e ws h.w
 have h2:=(Q6f fun x hx=>(h.w x hx).1).2.2 h.some
 have:=h.l2
 omega
theorem WtsV.ok {ws:List Int}(h:WtsV ws) {M:Int}(h0:0≤M) (h1:M≤1000000):WOk ws M ws.sum:=⟨h.w,h0,h1,h.sum.1,h.sum.2⟩
theorem Qqa:∀(ws:List Int),(∀x∈ws,0≤x)→∀x∈ws,x≤ws.sum
 |a::l,h,x,hx=>by
  have h1:=(Q6f fun y hy=>h y (List.mem_cons_of_mem a hy)).1
  have h2:=h a List.mem_cons_self
  rw[List.sum_cons]
  rcases List.mem_cons.1 hx with rfl |hx
  ·omega
  ·have:=Qqa l (fun y hy=>h y (List.mem_cons_of_mem a hy)) x hx
   omega
theorem Q2f {M W:Int}(hM:0≤M) (hW:0<W):∀(l:List Int),(∀x∈l,0≤x)→W*(l.map fun w=>M*w/W).sum≤M*l.sum∧M*l.sum≤W*(l.map fun w=>M*w/W).sum+(W-1)*l.length∧0≤(l.map fun w=>M*w/W).sum
 |[],_=>by simp
 |x::l,h=>by
  obtain⟨h1,h2,h3⟩:=Q2f hM hW l fun y hy=>h y (List.mem_cons_of_mem _ hy)
  have b:=h x (by simp)
  have p0:=Int.mul_nonneg hM b
  have q0:=Int.ediv_nonneg p0 (show 0≤W by omega)
  have q1:=Int.emod_add_mul_ediv (M*x) W
  have q2:=Int.emod_nonneg (M*x) (show W≠0 by omega)
  have q3:=Int.emod_lt_of_pos (M*x) hW
  simp only[List.map_cons,List.sum_cons,List.length_cons,Int.mul_add,Int.natCast_add,Int.natCast_one,Int.mul_one]
  omega
theorem Qzc {M:Int}{ws:List Int}(h:WtsV ws) (h0:0≤M):0≤Qpa M ws∧Qpa M ws<ws.length∧0≤(Qpk M ws).sum:=by
 obtain⟨w0,w1⟩:=h.sum
 obtain⟨b1,b2,b3⟩:=Q2f h0 w0 ws fun x hx=>(h.w x hx).1
 have hl:=h.l1
 generalize hS:(ws.map fun w=>M*w/ws.sum).sum=S at b1 b2 b3
 have hB:(Qpk M ws).sum=S:=hS
 unfold Qpa
 rw[hB]
 rw[Int.mul_comm M] at b1 b2
 have c1:S≤M:=Int.le_of_mul_le_mul_left b1 w0
 have c2:M<S+ws.length:=by
  apply Decidable.byContradiction
  intro hc
  have:ws.sum*(S+ws.length)≤ws.sum*M:=Int.mul_le_mul_of_nonneg_left (by omega) (by omega)
  rw[Int.mul_add] at this
  rw[Int.sub_mul] at b2
  omega
 omega
theorem Qoa {M:Int}{ws L:List Int}(h:WtsV ws) (h0:0≤M) (hp:L.Perm (ixs ws.length)) (hL:L.Pairwise (Qjm (rkey M ws.sum) ws)) :
  Q3o (rkey M ws.sum) ws ws.length (Qpa M ws).toNat (List.replicate ws.length false)=L.take (Qpa M ws).toNat:=by
 have hb:=Qzc h h0
 have hlen:=hp.length_eq
 rw[Qih] at hlen
 have:=Q1h hp hL (Qpa M ws).toNat 0 (by omega)
 simpa using this
theorem Qww {M:Int}{ws:List Int}(h:WtsV ws) (h0:0≤M) (h1:M≤1000000):∃L:List Int,L.Perm (ixs ws.length)∧L.Pairwise (Qjm (rkey M ws.sum) ws):=by
 obtain⟨Q,_,q2,q3⟩:=Qwv (N:=1000) (h.ok h0 h1) h.l2 h.l1 (Nat.le_refl _)
 exact⟨Q,q2,q3⟩
theorem Qje (M:Int) (ws:List Int):(Qpk M ws).length=ws.length:=by simp[Qpk]
theorem Qg6 (M:Int) (ws:List Int):(Qif M ws).length=ws.length:=by rw[Qif,Qxy,Qje]
theorem Qr7 {M:Int}{ws:List Int}(h:WtsV ws) (h0:0≤M) (h1:M≤1000000):(Qif M ws).sum=M:=by
 obtain⟨L,hp,hL⟩:=Qww h h0 h1
 have hb:=Qzc h h0
 have hlen:=hp.length_eq
 rw[Qih] at hlen
 rw[Qif,Qoa h h0 hp hL,Qxx _ _ (fun x hx=>by rw[Qje];exact Qsb.1 (hp.mem_iff.1 (List.mem_of_mem_take hx))),List.length_take]
 unfold Qpa at hb ⊢
 omega
theorem Qvo {M:Int}{ws:List Int}(h:WtsV ws) (h0:0≤M):∀x∈Qpk M ws,0≤x∧x≤M:=by
 intro x hx
 obtain⟨w,hw,rfl⟩:=List.mem_map.1 hx
 obtain⟨w0,w1⟩:=h.sum
 have:=h.w w hw
 have hle:=Qqa ws (fun y hy=>(h.w y hy).1) w hw
 refine⟨Int.ediv_nonneg (Int.mul_nonneg h0 this.1) (by omega),Int.ediv_le_of_le_mul w0 ?_⟩
 exact Int.mul_le_mul_of_nonneg_left hle h0
theorem Qtk {M:Int}{ws:List Int}(h:WtsV ws) (h0:0≤M) (h1:M≤1000000):∀x∈Qif M ws,0≤x∧x≤M:=by
 have hs:=Qr7 h h0 h1
 obtain⟨L,hp,hL⟩:=Qww h h0 h1
 have hnd:L.Nodup:=hp.nodup_iff.2 (Q7v _)
 have hn:∀x∈Qif M ws,0≤x:=fun x hx=>by
  obtain⟨i,hi⟩:=List.mem_iff_getElem?.1 hx
  have hil:i<ws.length:=by have:=(List.getElem?_eq_some_iff.1 hi).1;rwa [Qg6] at this
  rw[Qif,Qoa h h0 hp hL,Qxz _ _ (hnd.sublist (List.take_sublist _ _)) (fun x hx=>by rw[Qje];exact Qsb.1 (hp.mem_iff.1 (List.mem_of_mem_take hx))) i (by rw[Qje];exact hil)] at hi
  have hbx:=Qvo h h0 ((Qpk M ws)[i]'(by rw[Qje];exact hil)) (List.getElem_mem _)
  have hg:(Qpk M ws).getD i 0=(Qpk M ws)[i]'(by rw[Qje];exact hil):=by rw[List.getD_eq_getElem?_getD,List.getElem?_eq_getElem (by rw[Qje];exact hil)];rfl
  rw[hg] at hi
  have:=Option.some.inj hi
  split at this<;>omega
 intro x hx
 exact⟨hn x hx,by rw[←hs];exact Qqa _ hn x hx⟩
section
variable {N : Nat} {M : Int} {ws : List Int} (h : WtsV ws) (h0 : 0 ≤ M) (h1 : M ≤ 1000000) (hN : 1001 ≤ N)
include h in
theorem Q29 (k:Int→Option (List Int)):∀(n i:Nat) (s:Int),(ws.drop i).length<n→0≤s→s≤1000*i→Qdv N ws k n i s=k (s+(ws.drop i).sum):=by
 intro n
 induction n with
 |zero=>intro i _ h;cases h
 |succ n ih=>
  intro i s hn s0 s1
  rw[Qdv]
  cases hd:ws.drop i with
  |nil=>
   have:=Qc9 hd
   simp[show ¬((i:Int)<ws.length) from by omega]
  |cons a l=>
   obtain⟨hg,hd',hlt⟩:=Qcl hd
   have ha:=h.w a (List.mem_of_getElem? hg)
   have:=h.l2
   simp only[dlI hlt,cond_true,Qcu hg,Option.bind_some,List.sum_cons]
   rw[Qbs (x:=(i:Int)+1) (by omega) (by omega),Qbs (x:=s+a) (by omega) (by omega),show(i:Int)+1=((i+1:Nat):Int) by omega,ih (i+1) (s+a) (by rw[hd'];rw[hd] at hn;simp at hn;omega) (by omega) (by omega),hd',Int.add_assoc]
include h h0 h1 in
theorem Q8u (k:Int×List Int→Option (List Int)):∀(n i:Nat) (r:Int) (o:List Int),(ws.drop i).length<n→i≤ws.length→o.length=ws.length-i→-1000000*(i:Int)≤r→r≤1000000 →
  Qdw N M ws ws.sum k n r i (((ws.take i).map fun w=>M*w/ws.sum)++o)=k (r-((ws.drop i).map fun w=>M*w/ws.sum).sum,Qpk M ws):=by
 intro n
 induction n with
 |zero=>intro i _ _ h;cases h
 |succ n ih=>
  intro i r o hn hi ho r0 r1
  rw[Qdw]
  cases hd:ws.drop i with
  |nil=>
   have:=Qc9 hd
   have e:o=[]:=List.length_eq_zero_iff.1 (by omega)
   simp[show ¬((i:Int)<ws.length) from by omega,e,List.take_of_length_le this,Qpk]
  |cons a l=>
   obtain⟨hg,hd',hlt⟩:=Qcl hd
   have ha:=h.w a (List.mem_of_getElem? hg)
   have hl2:=h.l2
   obtain⟨p0,p1⟩:=h.sum
   obtain⟨x,o',rfl⟩:∃x o',o=x::o':=by
    cases o with
    |nil=>simp at ho;omega
    |cons x o'=>exact⟨x,o',rfl⟩
   have hb:=Qvo h h0 (M*a/ws.sum) (List.mem_map.2 ⟨a,List.mem_of_getElem? hg,rfl⟩)
   have hp:=bdp h0 h1 ha.1 ha.2 (by omega)
   have hlt':((ws.take i).map fun w=>M*w/ws.sum).length=i:=by simp;omega
   have e2:∀y,(((ws.take i).map fun w=>M*w/ws.sum)++y::o')[i]? = some y:=fun y=>by rw[List.getElem?_append_right (by omega),hlt'];simp
   have e3:(((ws.take i).map fun w=>M*w/ws.sum)++x::o').set i (M*a/ws.sum)=((ws.take i).map fun w=>M*w/ws.sum)++(M*a/ws.sum)::o':=by
    rw[List.set_append_right _ _ (by omega),hlt',Nat.sub_self,List.set_cons_zero]
   have e5:((ws.take i).map fun w=>M*w/ws.sum)++(M*a/ws.sum)::o'=((ws.take (i+1)).map fun w=>M*w/ws.sum)++o':=by
    rw[List.take_add_one,hg];simp
   have e4:((i:Int):Int).toNat=i:=by omega
   have c1:(decide ((0:Int)≤(i:Int))&&decide (i<(ws.length:Int).toNat))=true:=by simp;omega
   have ev:w64 ((w64 (M*a)).tdiv ws.sum)=M*a/ws.sum:=by
    rw[Qbs (x:=M*a) (by omega) (by omega),Int.tdiv_eq_ediv_of_nonneg hp.1,Qbs (by omega) (by omega)]
   simp only[dlI hlt,cond_true,Qcu hg,Option.bind_some,chk,show(ws.sum != 0)=true from by rw[bne_iff_ne];omega,e4,c1,e2,ev,e3]
   rw[Qbs (x:=(i:Int)+1) (by omega) (by omega),Qbs (x:=r-M*a/ws.sum) (by omega) (by omega),show(i:Int)+1=((i+1:Nat):Int) by omega,e5,ih (i+1) _ o' (by rw[hd'];rw[hd] at hn;simp at hn;omega) (by omega) (by simp at ho;omega) (by omega) (by omega),hd',List.map_cons,List.sum_cons]
   congr 2
   omega
theorem Q8t (k:List Int→Option (List Int)) (x13:List Int) (y6:Int) (is:List Int) (his:x13.take (y6.toNat-0)=is) (hlen:is.length≤20) (hr:∀x∈is,0≤x∧x<ws.length):∀(n i:Nat) (o:List Int),(is.drop i).length<n→o.length=ws.length→(∀x∈o,0≤x∧x≤1000000+i) →
  Qdx N ws y6 k x13 n i o=k ((is.drop i).foldl bump o):=by
 intro n
 induction n with
 |zero=>intro i _ h;cases h
 |succ n ih=>
  intro i o hn ho hob
  rw[Qdx,his]
  cases hd:is.drop i with
  |nil=>
   have:=Qc9 hd
   simp[show ¬((i:Int)<is.length) from by omega]
  |cons b t=>
   obtain⟨hg,hd',hlt⟩:=Qcl hd
   obtain⟨b0,b1⟩:=hr b (List.mem_of_getElem? hg)
   have hx:o[b.toNat]? = some (o.getD b.toNat 0):=by rw[List.getD_eq_getElem?_getD,List.getElem?_eq_getElem (by omega)];rfl
   have hxb:=hob _ (List.mem_of_getElem? hx)
   have c1:(decide ((0:Int)≤b)&&decide (b.toNat<(ws.length:Int).toNat))=true:=by simp;omega
   simp only[dlI hlt,cond_true,Qcu hg,Option.bind_some,chk,c1,hx]
   rw[Qbs (x:=(i:Int)+1) (by omega) (by omega),Qbs (x:=o.getD b.toNat 0+1) (by omega) (by omega),show(i:Int)+1=((i+1:Nat):Int) by omega]
   have:=ih (i+1) (bump o b) (by rw[hd'];rw[hd] at hn;simp at hn;omega) (by rw[Qkg];exact ho) (fun z hz=>by
    rcases List.mem_or_eq_of_mem_set hz with hz |rfl
    ·have:=hob z hz;omega
    ·omega)
   rw[hd'] at this
   exact this
include h h0 h1 hN in
theorem Q7n:Qh2 N M ws=some (Qif M ws):=by
 have hl1:=h.l1
 have hl2:=h.l2
 unfold Qh2
 simp only[Qcf]
 refine(Q29 h _ N 0 0 (by simp;omega) (by omega) (by omega)).trans ?_
 rw[List.drop_zero,Int.zero_add]
 simp only[chk]
 rw[show(decide ((0:Int)≤(ws.length:Int))&&decide (8*(ws.length:Int)≤281474976710656)&&decide ((ws.length:Int)≤9223372036854775807))=true from by simp;omega,cond_true]
 have eo:=fun k=>Q8u (N:=N) h h0 h1 k N 0 M (List.replicate (ws.length:Int).toNat 0) (by simp;omega) (by omega) (by simp) (by omega) h1
 simp only[List.take_zero,List.map_nil,List.nil_append,List.drop_zero] at eo
 refine(eo _).trans ?_
 dsimp only
 obtain⟨Q,q1,q2,q3⟩:=Qwv (N:=N) (h.ok h0 h1) hl2 hl1 (by omega)
 have hlen:=q2.length_eq
 rw[Qih] at hlen
 have hb:=Qzc h h0
 have hL:M-(ws.map fun w=>M*w/ws.sum).sum=Qpa M ws:=rfl
 rw[q1,Option.bind_some,hL,show(decide ((0:Nat)≤0)&&decide (0≤Qpa M ws)&&decide (Qpa M ws≤(Q.length:Int)))=true from by simp;omega,cond_true]
 have hr:∀x∈Q.take ((Qpa M ws).toNat-0),0≤x∧x<ws.length:=fun x hx=>Qsb.1 (q2.mem_iff.1 (List.mem_of_mem_take hx))
 refine(Q8t _ Q (Qpa M ws) _ rfl (by rw[List.length_take];omega) hr N 0 (Qpk M ws) (by rw[List.drop_zero,List.length_take];omega) (Qje _ _) (fun x hx=>by have:=Qvo h h0 x hx;omega)).trans ?_
 have hm:(Q.take ((Qpa M ws).toNat-0)).foldl bump (Qpk M ws)=Qif M ws:=by
  rw[Qif,Qoa h h0 q2 q3,Nat.sub_zero]
 rw[List.drop_zero,hm,Qg6,show decide ((ws.length:Int).toNat≤ws.length)=true from by simp,cond_true,List.take_of_length_le (by rw[Qg6];simp)]
end
end
section
def totS (l:List Qaa):Qaa:=⟨(l.map fun s=>s.Mass).sum,(l.map fun s=>s.Heat).sum,(l.map fun s=>s.Silica).sum,(l.map fun s=>s.Gas).sum⟩
def totW (l:List Qaa):Qaa:=⟨w64 (totS l).Mass,w64 (totS l).Heat,w64 (totS l).Silica,w64 (totS l).Gas⟩
theorem Q6e (N:Nat) (l:List Qaa) (k:Int×Int×Int×Int→Option Qaa) (hl:l.length≤1000000):∀(n i:Nat) (a b c d:Int),(l.drop i).length<n →
  Qel N l k n i (w64 a) (w64 b) (w64 c) (w64 d)=k (w64 (a+(totS (l.drop i)).Mass),w64 (b+(totS (l.drop i)).Heat),w64 (c+(totS (l.drop i)).Silica),w64 (d+(totS (l.drop i)).Gas)):=by
 intro n
 induction n with
 |zero=>intro i _ _ _ _ h;cases h
 |succ n ih=>
  intro i a b c d h
  rw[Qel]
  cases hd:l.drop i with
  |nil=>
   have:=Qc9 hd
   simp[show ¬((i:Int)<l.length) from by omega,totS]
  |cons x q=>
   obtain⟨hg,hd',hlt⟩:=Qcl hd
   simp only[dlI hlt,cond_true,Qcu hg,Option.bind_some,Qql]
   rw[w64S (i:=i) (by omega),ih (i+1) _ _ _ _ (dlt hd hd' h),hd']
   simp only[totS,List.map_cons,List.sum_cons,Int.add_assoc]
theorem Q08:w64 0=0:=by decide
theorem Qyt {N:Nat}{l:List Qaa}(hl:l.length≤1000) (hN:1001≤N):Qff N l=some (totW l):=by
 unfold Qff
 simp only[Qcf]
 have:=Q6e N l (fun x=>match x with |(y1,y2,y3,y4)=>some (⟨y1,y2,y3,y4⟩:Qaa)) (by omega) N 0 0 0 0 0 (by simp;omega)
 rw[Q08,List.drop_zero] at this
 refine this.trans ?_
 simp[totW]
theorem Q6g (N:Nat) (l:List Qaa) (k:Int×Int×Int×Int→Option Qaa) (hl:l.length≤1000000):∀(n i:Nat) (a b c d:Int),(l.drop i).length<n →
  Qe0 N l k n i (w64 a) (w64 b) (w64 c) (w64 d)=k (w64 (a+(totS (l.drop i)).Mass),w64 (b+(totS (l.drop i)).Heat),w64 (c+(totS (l.drop i)).Silica),w64 (d+(totS (l.drop i)).Gas)):=by
 intro n
 induction n with
 |zero=>intro i _ _ _ _ h;cases h
 |succ n ih=>
  intro i a b c d h
  rw[Qe0]
  cases hd:l.drop i with
  |nil=>
   have:=Qc9 hd
   simp[show ¬((i:Int)<l.length) from by omega,totS]
  |cons x q=>
   obtain⟨hg,hd',hlt⟩:=Qcl hd
   simp only[dlI hlt,cond_true,Qcu hg,Qiu,Qcg,Option.bind_some,Qql]
   rw[w64S (i:=i) (by omega),ih (i+1) _ _ _ _ (dlt hd hd' h),hd']
   simp only[totS,List.map_cons,List.sum_cons,Int.add_assoc]
theorem Zfk {N:Nat}{l:List Qaa}(hl:l.length≤1000) (hN:1001≤N):Qjx N l=some (totW l):=by
 unfold Qjx
 simp only[Qcf]
 have:=Q6g N l (fun x=>match x with |(y1,y2,y3,y4)=>some (⟨y1,y2,y3,y4⟩:Qaa)) (by omega) N 0 0 0 0 0 (by simp;omega)
 rw[Q08,List.drop_zero] at this
 refine this.trans ?_
 simp[totW]
theorem Qmp (s:Qaa) (l:List Qaa):totS (s::l)=⟨s.Mass+(totS l).Mass,s.Heat+(totS l).Heat,s.Silica+(totS l).Silica,s.Gas+(totS l).Gas⟩:=by simp[totS]
theorem Qha (s:Qaa):totS [s]=s:=by simp[totS]
theorem Qys (l m:List Qaa):totS (l++m)=⟨(totS l).Mass+(totS m).Mass,(totS l).Heat+(totS m).Heat,(totS l).Silica+(totS m).Silica,(totS l).Gas+(totS m).Gas⟩:=by simp[totS]
structure TotV (t:Qaa) (n:Nat):Prop where
 m0:0≤t.Mass
 m1:t.Mass≤1000000*n
 h0:0≤t.Heat
 h1:t.Heat≤4000*t.Mass
 s0:0≤t.Silica
 s1:t.Silica≤10000*t.Mass
 g0:0≤t.Gas
 g1:t.Gas≤1000000000*n
theorem Qpv:∀{l:List Qaa},(∀s∈l,StrV s)→TotV (totS l) l.length
 |[],_=>⟨by decide,by decide,by decide,by decide,by decide,by decide,by decide,by decide⟩
 |s::l,h=>by
  obtain⟨a1,a2,a3,a4,a5,a6,a7,a8⟩:=Qpv fun x hx=>h x (List.mem_cons_of_mem s hx)
  obtain⟨b1,b2,b3,b4,b5,b6,b7,b8⟩:=h s List.mem_cons_self
  rw[Qmp]
  refine⟨?_,?_,?_,?_,?_,?_,?_,?_⟩<;>simp only[List.length_cons]<;>omega
theorem Quk {l:List Qaa}(h:∀s∈l,StrV s) (hl:l.length≤1000):totW l=totS l:=by
 obtain⟨a1,a2,a3,a4,a5,a6,a7,a8⟩:=Qpv h
 have:(l.length:Int)≤1000:=by omega
 unfold totW
 rw[Qbs (x:=(totS l).Mass) (by omega) (by omega),Qbs (x:=(totS l).Heat) (by omega) (by omega),Qbs (x:=(totS l).Silica) (by omega) (by omega),Qbs (x:=(totS l).Gas) (by omega) (by omega)]
theorem Zac {l:List Qaa}(h:∀s∈l,StrV s) (hm:(totS l).Mass≤1000000) (hg:(totS l).Gas≤1000000000):StrV (totS l):=by
 obtain⟨a1,a2,a3,a4,a5,a6,a7,a8⟩:=Qpv h
 exact⟨a1,hm,a3,a4,a5,a6,a7,hg⟩
def mx (s:Qaa):Int:=if s.Mass>1 then s.Mass else 1
def Qy4 (s:Qaa) (m:Int):Qaa:=⟨m,s.Heat*m/mx s,s.Silica*m/mx s,s.Gas*m/mx s⟩
def Qg5 (s:Qaa) (ws:List Int):List Qaa:=(Qif s.Mass ws).map (Qy4 s)
def Qle (s:Qaa) (ws:List Int):Qmm:=⟨s.Heat-(totS (Qg5 s ws)).Heat,s.Silica-(totS (Qg5 s ws)).Silica,s.Gas-(totS (Qg5 s ws)).Gas⟩
theorem Qxc (s:Qaa):0<mx s:=by unfold mx;split<;>omega
theorem Zf4 {s:Qaa}(h:0≤s.Mass):s.Mass≤mx s:=by unfold mx;split<;>omega
theorem Q63 {n m c:Int}{s:Qaa}(hM:0≤s.Mass) (hm:0≤m) (hn:n≤c*s.Mass) (hc:0≤c):n*m/mx s≤c*m:=by
 have h1:n*m≤c*s.Mass*m:=Int.mul_le_mul_of_nonneg_right hn hm
 have h2:c*s.Mass*m≤c*m*mx s:=by
  rw[Int.mul_assoc,Int.mul_assoc,Int.mul_comm s.Mass m]
  exact Int.mul_le_mul_of_nonneg_left (Int.mul_le_mul_of_nonneg_left (Zf4 hM) hm) hc
 exact Int.ediv_le_of_le_mul (Qxc s) (Int.le_trans h1 h2)
theorem Quy {n m:Int}{s:Qaa}(hM:0≤s.Mass) (hm:0≤m) (hmM:m≤s.Mass) (hn:0≤n):0≤n*m/mx s∧n*m/mx s≤n:=by
 have hp:=Qxc s
 refine⟨Int.ediv_nonneg (Int.mul_nonneg hn hm) (by omega),Int.ediv_le_of_le_mul hp ?_⟩
 have:=Zf4 hM
 exact Int.mul_le_mul_of_nonneg_left (by omega) hn
theorem Zar {s:Qaa}(hs:StrV s) {m:Int}(h0:0≤m) (h1:m≤s.Mass):StrV (Qy4 s m):=by
 obtain⟨a1,a2,a3,a4,a5,a6,a7,a8⟩:=hs
 have b1:=Quy a1 h0 h1 a3
 have b2:=Q63 a1 h0 a4 (by omega)
 have b3:=Quy a1 h0 h1 a5
 have b4:=Q63 a1 h0 a6 (by omega)
 have b5:=Quy a1 h0 h1 a7
 exact⟨h0,by dsimp only[Qy4];omega,b1.1,b2,b3.1,b4,b5.1,by dsimp only[Qy4];omega⟩
theorem Q1i {n:Int}{s:Qaa}(hn:0≤n):∀(l:List Int),(∀m∈l,0≤m)→mx s*(l.map fun m=>n*m/mx s).sum≤n*l.sum
 |[],_=>by simp
 |m::l,h=>by
  have h1:=Q1i (n:=n) (s:=s) hn l fun x hx=>h x (List.mem_cons_of_mem _ hx)
  have hp:=Qxc s
  have h2:=Int.mul_ediv_self_le (x:=n*m) (k:=mx s) (by omega)
  simp only[List.map_cons,List.sum_cons,Int.mul_add]
  omega
theorem Qux {n:Int}{s:Qaa}(hn:0≤n) (hM:0≤s.Mass) {l:List Int}(h:∀m∈l,0≤m) (hl:l.sum=s.Mass):(l.map fun m=>n*m/mx s).sum≤n:=by
 have h1:=Q1i (s:=s) hn l h
 have hp:=Qxc s
 rw[hl] at h1
 have h2:n*s.Mass≤n*mx s:=Int.mul_le_mul_of_nonneg_left (Zf4 hM) hn
 rw[Int.mul_comm n (mx s)] at h2
 exact Int.le_of_mul_le_mul_left (Int.le_trans h1 h2) hp
theorem Q3c (s:Qaa) (l:List Int):totS (l.map (Qy4 s))=⟨l.sum,(l.map fun m=>s.Heat*m/mx s).sum,(l.map fun m=>s.Silica*m/mx s).sum,(l.map fun m=>s.Gas*m/mx s).sum⟩:=by
 simp[totS,Qy4,Function.comp_def]
structure Zlk (s:Qaa) (o:List Qaa) (l:Qmm):Prop where
 v:∀x∈o,StrV x
 m:(totS o).Mass=s.Mass
 h:(totS o).Heat+l.Heat=s.Heat
 q:(totS o).Silica+l.Silica=s.Silica
 g:(totS o).Gas+l.Gas=s.Gas
 h0:0≤l.Heat
 q0:0≤l.Silica
 g0:0≤l.Gas
theorem Qlr {s:Qaa}(hs:StrV s) {ws:List Int}(h:WtsV ws):Zlk s (Qg5 s ws) (Qle s ws):=by
 have hs':=hs
 obtain⟨a1,a2,a3,a4,a5,a6,a7,a8⟩:=hs'
 have hsum:=Qr7 h a1 a2
 have hbd:=Qtk h a1 a2
 have hnn:∀m∈Qif s.Mass ws,0≤m:=fun m hm=>(hbd m hm).1
 have e:totS (Qg5 s ws)=_:=Q3c s (Qif s.Mass ws)
 have t1:=Qux (n:=s.Heat) (s:=s) a3 a1 hnn hsum
 have t2:=Qux (n:=s.Silica) (s:=s) a5 a1 hnn hsum
 have t3:=Qux (n:=s.Gas) (s:=s) a7 a1 hnn hsum
 refine⟨fun x hx=>?_,?_,?_,?_,?_,?_,?_,?_⟩
 ·obtain⟨m,hm,rfl⟩:=List.mem_map.1 hx
  exact Zar hs (hbd m hm).1 (hbd m hm).2
 ·rw[e];exact hsum
 all_goals (simp only[Qle,e];omega)
section
variable {N : Nat} {s : Qaa} {ws : List Int} (hs : StrV s) (h : WtsV ws) (hN : 1001 ≤ N)
include hs in
theorem Q7a {n m:Int}(hn:0≤n) (hn':n≤10000000000) (h0:0≤m) (h1:m≤s.Mass) (a b c:Int):Qe1 N n m s.Mass a b c=some (n*m/mx s):=by
 have hM:=hs.m1
 have hM0:=hs.m0
 have hp:=bdp hn hn' h0 (show m≤1000000 by omega) (by omega)
 have hb:=Quy hM0 h0 h1 hn
 have hx:=Qxc s
 unfold Qe1
 show chk (mx s != 0) ((some (w64 ((w64 (n*m)).tdiv (mx s)))).bind fun x2=>some x2)=_
 rw[show(mx s != 0)=true by rw[bne_iff_ne];omega,Qbs (x:=n*m) (by omega) (by omega),Int.tdiv_eq_ediv_of_nonneg hp.1,Qbs (by omega) (by omega)]
 rfl
include hs in
theorem Q3p (k:List Qaa→Option (List Qaa×Qmm×Int)) (l:List Int) (hl:l.length≤20) (hb:∀m∈l,0≤m∧m≤s.Mass):∀(n i:Nat) (acc:List Qaa),(l.drop i).length<n→acc.length=i →
  Qd3 N s k l n acc i=k (acc++(l.drop i).map (Qy4 s)):=by
 intro n
 induction n with
 |zero=>intro i _ h;cases h
 |succ n ih=>
  intro i acc h ha
  rw[Qd3]
  cases hd:l.drop i with
  |nil=>
   have:=Qc9 hd
   simp[show ¬((i:Int)<l.length) from by omega]
  |cons m q=>
   obtain⟨hg,hd',hlt⟩:=Qcl hd
   obtain⟨m0,m1⟩:=hb m (List.mem_of_getElem? hg)
   have a1:=hs.m1
   simp only[dlI hlt,cond_true,Qcu hg,Option.bind_some,Q7a (N:=N) hs hs.h0 (by have:=hs.h1;omega) m0 m1,Q7a (N:=N) hs hs.s0 (by have:=hs.s1;omega) m0 m1,Q7a (N:=N) hs hs.g0 (by have:=hs.g1;omega) m0 m1,chk]
   have hc:decide ((acc.length+[(⟨m,s.Heat*m/mx s,s.Silica*m/mx s,s.Gas*m/mx s⟩:Qaa)].length)*32≤140737488355328)=true:=by simp;omega
   rw[hc,cond_true,w64S (i:=i) (by omega),
    ih (i+1) _ (dlt hd hd' h) (by simp[ha]),hd',List.append_assoc]
   rfl
include h hN in
theorem Q54:Qgp N ws=some true∧Qcd N ws=some true:=by
 have hl:=h.l2
 have hc:Qcv N ws=some (ws.any fun x=>!btw x 0 1000):=by
  unfold Qcv Qd6 Qcf
  refine Qg8 (F:=Qbz N ws fun _=>some (-1)) (k:=fun _=>some (-1)) (q:=Qfr N) (fun n y=>rfl) (fun x=>?_) rfl (by omega) (by omega)
  simp only[Qfr,Qix,Qlg,Option.bind_some]
 constructor
 ·unfold Qgp
  rw[hc,Option.bind_some,Qoh]
  congr 1
  exact List.all_eq_true.2 fun x hx=>Qep.2 (h.w x hx)
 ·have:Qcd N ws=some (ws.any fun x=>decide (x>0)):=by
   unfold Qcd Qd5 Qcf
   exact Qg8 (F:=Qby N ws fun _=>some (-1)) (k:=fun _=>some (-1)) (q:=Qiw N) (fun n y=>rfl) (fun x=>rfl) rfl (by omega) (by omega)
  rw[this]
  congr 1
  obtain⟨x,hx,hp⟩:=h.some
  exact List.any_eq_true.2 ⟨x,hx,by simpa using hp⟩
include hs h hN in
theorem Zal:Qi3 N s ws=some (Qg5 s ws,Qle s ws,0):=by
 have hl:=h.l2
 obtain⟨w1,w2⟩:=Q54 h hN
 have hK:=Qlr hs h
 have hlen:(Qg5 s ws).length=ws.length:=by unfold Qg5;rw[List.length_map,Qg6]
 unfold Qi3
 simp only[Qcf,Qq0,Qit.2 hs,Option.bind_some,Bool.not_true,cond_false,w1,w2,show decide ((ws.length:Int)>20)=false from by simp;omega,Q7n h hs.m0 hs.m1 hN]
 refine(Q3p hs _ (Qif s.Mass ws) (by rw[Qg6];exact hl) (Qtk h hs.m0 hs.m1) N 0 [] (by rw[List.drop_zero,Qg6];omega) rfl).trans ?_
 rw[List.drop_zero,List.nil_append]
 show(Qjx N (Qg5 s ws)).bind _=_
 rw[Zfk (by omega) hN,Option.bind_some,Quk hK.v (by omega)]
 obtain⟨_,k1,k2,k3,k4,k5,k6,k7⟩:=hK
 have g1:=hs.h1
 have g2:=hs.s1
 have g3:=hs.g1
 have g4:=hs.m1
 have v:=Qpv (Qlr hs h).v
 have:=v.h0
 have:=v.s0
 have:=v.g0
 unfold Qle at *
 dsimp only at *
 rw[Qbs (x:=s.Heat-_) (by omega) (by omega),Qbs (x:=s.Silica-_) (by omega) (by omega),Qbs (x:=s.Gas-_) (by omega) (by omega)]
 rfl
end
end
section
def zs:Qaa:=⟨0,0,0,0⟩
def Qgy (t:List GRow) (l:Int):GRow:=(getI t l).getD ⟨0,0,0,0,0⟩
def Qqz (x:Qad) (s:Qaa):Int:=if s.Heat<x.Amount then s.Heat else x.Amount
def actE (t:List GRow) (x:Qad) (s:Qaa):List Qaa×Qa9×Int:=
 if x.Kind=3 then([⟨s.Mass,s.Heat-Qqz x s,s.Silica,s.Gas⟩],⟨Qqz x s,0,0,0⟩,0)
 else if x.Kind=4 then
  if x.Amount=0 then([(flG (Qgy t x.Level) s).Steam,(flG (Qgy t x.Level) s).Water],⟨0,0,0,(flG (Qgy t x.Level) s).Scale⟩,(flG (Qgy t x.Level) s).Steam.Mass)
  else([totS [(flG (Qgy t x.Level) s).Steam,(Qg5 (flG (Qgy t x.Level) s).Water [1000-x.Amount,x.Amount]).getD 1 zs],(Qg5 (flG (Qgy t x.Level) s).Water [1000-x.Amount,x.Amount]).getD 0 zs],
   ⟨(Qle (flG (Qgy t x.Level) s).Water [1000-x.Amount,x.Amount]).Heat,(Qle (flG (Qgy t x.Level) s).Water [1000-x.Amount,x.Amount]).Silica,(Qle (flG (Qgy t x.Level) s).Water [1000-x.Amount,x.Amount]).Gas,(flG (Qgy t x.Level) s).Scale⟩,(flG (Qgy t x.Level) s).Steam.Mass)
 else if x.Kind=5 then(Qg5 s x.Weights,⟨(Qle s x.Weights).Heat,(Qle s x.Weights).Silica,(Qle s x.Weights).Gas,0⟩,0)
 else([s],⟨0,0,0,0⟩,0)
structure Zhh (x:Qad) (s:Qaa) (a:List Qaa×Qa9×Int):Prop where
 v:∀y∈a.1,StrV y
 len:(a.1.length:Int)=outl x
 m:(totS a.1).Mass=s.Mass
 h:(totS a.1).Heat+a.2.1.Heat=s.Heat
 q:(totS a.1).Silica+a.2.1.Silica+a.2.1.Scale=s.Silica
 g:(totS a.1).Gas+a.2.1.Gas=s.Gas
 h0:0≤a.2.1.Heat
 q0:0≤a.2.1.Silica
 g0:0≤a.2.1.Gas
 c0:0≤a.2.1.Scale
 t0:0≤a.2.2
 t1:a.2.2≤1000000
structure Zeb (x:Qad):Prop where
 k:1≤x.Kind∧x.Kind≤6
 well:x.Kind=1→x.From=[]
 a3:x.Kind=3→0≤x.Amount
 a4:x.Kind=4→0≤x.Amount∧x.Amount≤1000
 w5:x.Kind=5→WtsV x.Weights
theorem Qpo {x:Qad}(h:Qhz x=true):Zeb x:=by
 unfold Qhz at h
 simp only[Bool.and_eq_true] at h
 obtain⟨⟨⟨⟨⟨h1,_⟩,_⟩,h4⟩,h5⟩,h6⟩:=h
 refine⟨Qep.1 h1,fun e=>?_,fun e=>?_,fun e=>?_,fun e=>?_⟩
 ·rw[e] at h4
  obtain⟨_,h7⟩:=Qep.1 h4
  rw[if_pos rfl] at h7
  exact List.length_eq_zero_iff.1 (by omega)
 ·rw[e] at h5
  have:=Qep.1 h5
  exact this.1
 ·rw[e] at h5
  have:=Qep.1 h5
  simpa using this
 ·rw[e] at h6
  exact Ze9 (by simpa using h6)
theorem Q6b {a:Int}(h0:0<a) (h1:a≤1000):WtsV [1000-a,a]:=
 ⟨by simp,by simp,fun x hx=>by simp at hx;rcases hx with rfl |rfl<;>omega,⟨a,by simp,h0⟩⟩
theorem Qwf {s:Qaa}{a b:Int}:∃p q,Qg5 s [a,b]=[p,q]:=by
 have:(Qg5 s [a,b]).length=2:=by unfold Qg5;rw[List.length_map,Qg6];rfl
 match h:Qg5 s [a,b],this with
 |[p,q],_=>exact⟨p,q,rfl⟩
theorem Q2q {t:List GRow}(ht:tabB t=true) {x:Qad}(hx:Zeb x) (hl:0≤x.Level∧x.Level≤(t.length:Int)-1) {s:Qaa}(hs:StrV s):Zhh x s (actE t x s):=by
 have hs':=hs
 obtain⟨a1,a2,a3,a4,a5,a6,a7,a8⟩:=hs'
 unfold actE
 by_cases h3:x.Kind=3
 ·rw[if_pos h3]
  have hc:0≤Qqz x s∧Qqz x s≤s.Heat:=by
   have:=hx.a3 h3
   unfold Qqz;split<;>omega
  refine⟨fun y hy=>?_,?_,?_,?_,?_,?_,?_,?_,?_,?_,?_,?_⟩
  ·simp at hy;subst hy
   exact⟨a1,a2,by dsimp only;omega,by dsimp only;omega,a5,a6,a7,a8⟩
  ·simp[outl,h3]
  all_goals (try rw[Qha])
  all_goals (dsimp only;omega)
 ·rw[if_neg h3]
  by_cases h4:x.Kind=4
  ·rw[if_pos h4]
   have hrow:=(Qwp ht (Qep.2 hl)).2
   have hk:=Qu9 (r:=Qgy t x.Level) hrow hs
   generalize flG (Qgy t x.Level) s=p at hk
   obtain⟨k1,k2,k3,k4,k5,k6,k7,k8⟩:=hk
   have k1':=k1
   obtain⟨b1,b2,b3,b4,b5,b6,b7,b8⟩:=k1'
   have k2':=k2
   obtain⟨c1,c2,c3,c4,c5,c6,c7,c8⟩:=k2'
   by_cases h0:x.Amount=0
   ·rw[if_pos h0]
    refine⟨fun y hy=>?_,?_,?_,?_,?_,?_,?_,?_,?_,?_,?_,?_⟩
    ·simp at hy;rcases hy with rfl |rfl<;>assumption
    ·simp[outl,h4]
    all_goals (try rw[Qmp,Qha])
    all_goals (dsimp only;omega)
   ·rw[if_neg h0]
    have ha:=hx.a4 h4
    have hw:=Q6b (a:=x.Amount) (by omega) ha.2
    obtain⟨u,v,hp⟩:=Qwf (s:=p.Water) (a:=1000-x.Amount) (b:=x.Amount)
    have hK:=Qlr k2 hw
    rw[hp] at hK ⊢
    simp only[show([u,v]:List Qaa).getD 1 zs=v from rfl,show([u,v]:List Qaa).getD 0 zs=u from rfl]
    generalize Qle p.Water [1000-x.Amount,x.Amount]=L at hK ⊢
    obtain⟨d0,d1,d2,d3,d4,d5,d6,d7⟩:=hK
    have hu:=d0 u (by simp)
    have hv:=d0 v (by simp)
    rw[Qmp,Qha] at d1 d2 d3 d4
    dsimp only at d1 d2 d3 d4
    obtain⟨e1,e2,e3,e4,e5,e6,e7,e8⟩:=hu
    obtain⟨f1,f2,f3,f4,f5,f6,f7,f8⟩:=hv
    have et:totS [p.Steam,v]=⟨p.Steam.Mass+v.Mass,p.Steam.Heat+v.Heat,p.Steam.Silica+v.Silica,p.Steam.Gas+v.Gas⟩:=by rw[Qmp,Qha]
    rw[et]
    refine⟨fun y hy=>?_,?_,?_,?_,?_,?_,?_,?_,?_,?_,?_,?_⟩
    ·simp at hy
     rcases hy with rfl |rfl
     ·refine⟨?_,?_,?_,?_,?_,?_,?_,?_⟩<;>dsimp only<;>omega
     ·exact⟨e1,e2,e3,e4,e5,e6,e7,e8⟩
    ·simp[outl,h4]
    all_goals (try rw[Qmp,Qha])
    all_goals (dsimp only;omega)
  ·rw[if_neg h4]
   by_cases h5:x.Kind=5
   ·rw[if_pos h5]
    have hw:=hx.w5 h5
    have hK:=Qlr hs hw
    have hlen:(Qg5 s x.Weights).length=x.Weights.length:=by unfold Qg5;rw[List.length_map,Qg6]
    generalize Qg5 s x.Weights=o at hK hlen ⊢
    generalize Qle s x.Weights=L at hK ⊢
    obtain⟨d0,d1,d2,d3,d4,d5,d6,d7⟩:=hK
    refine⟨d0,by simp[outl,h5,hlen],d1,d2,?_,d4,d5,d6,d7,?_,?_,?_⟩<;>dsimp only<;>omega
   ·rw[if_neg h5]
    refine⟨fun y hy=>?_,?_,?_,?_,?_,?_,?_,?_,?_,?_,?_,?_⟩
    ·simp at hy;subst hy;exact hs
    ·simp[outl,h4,h5]
    all_goals (try rw[Qha])
    all_goals (dsimp only;omega)
def Qg0 (o:List (List Qaa)) (p:Qeg):Qaa:=((o.getD p.Element.toNat []).getD p.Outlet.toNat zs)
def insE (o:List (List Qaa)) (ws:List Qaa) (x:Qad):List Qaa:=if x.Kind=1 then ws.take 1 else x.From.map (Qg0 o)
def Qov (t:List GRow):List (Qad×Int)→List Qaa→List (List Qaa)→List Qa9→List Int→Int→Nat⊕(List (List Qaa)×List Qa9×List Int×Int)
 |[],_,o,ls,ss,y=>.inr (o,ls,ss,y)
 |(x,d)::l,ws,o,ls,ss,y=>
  if (totS (insE o ws x)).Mass>widI x d then .inl o.length
  else Qov t l (if x.Kind=1 then ws.drop 1 else ws) (o++[(actE t x (totS (insE o ws x))).1]) (ls++[(actE t x (totS (insE o ws x))).2.1]) (ss++[d+(actE t x (totS (insE o ws x))).2.1.Scale]) (y+(actE t x (totS (insE o ws x))).2.2)
def Qij (n:GNet) (i:Nat):List (Int×Int):=(n.Elements.take i).flatMap fun x=>x.From.map pq
def wcn (n:GNet) (i:Nat):Nat:=((n.Elements.take i).filter fun x=>decide (x.Kind=1)).length
structure FedV (n:GNet) (ws:List Qaa):Prop where
 len:ws.length=wcn n n.Elements.length
 v:∀s∈ws,StrV s
 m:(totS ws).Mass≤1000000
 g:(totS ws).Gas≤1000000000
structure InvT (n:GNet) (ws:List Qaa) (i:Nat) (o:List (List Qaa)) (ls:List Qa9):Prop where
 lo:o.length=i
 ll:ls.length=i
 rows:∀(k:Nat) y r,n.Elements[k]? = some y→o[k]? = some r→(r.length:Int)=outl y
 v:∀r∈o,∀s∈r,StrV s
 m:Qgt (fun s=>s.Mass) (Qij n i) (Qg7 0 o)=(totS (ws.take (wcn n i))).Mass
 h:Qgt (fun s=>s.Heat) (Qij n i) (Qg7 0 o)+(ls.map fun l=>l.Heat).sum=(totS (ws.take (wcn n i))).Heat
 q:Qgt (fun s=>s.Silica) (Qij n i) (Qg7 0 o)+(ls.map fun l=>l.Silica).sum+(ls.map fun l=>l.Scale).sum=(totS (ws.take (wcn n i))).Silica
 g:Qgt (fun s=>s.Gas) (Qij n i) (Qg7 0 o)+(ls.map fun l=>l.Gas).sum=(totS (ws.take (wcn n i))).Gas
 l0:∀l∈ls,0≤l.Heat∧0≤l.Silica∧0≤l.Gas∧0≤l.Scale
theorem Qxi (n:GNet) (ws:List Qaa):InvT n ws 0 [] []:=
 ⟨rfl,rfl,fun k y r _ h=>by simp at h,fun r h=>by simp at h,by simp[Qgt,Qg7,wcn,totS],by simp[Qgt,Qg7,wcn,totS],by simp[Qgt,Qg7,wcn,totS],by simp[Qgt,Qg7,wcn,totS],fun l h=>by simp at h⟩
theorem Qkw {α:Type}{l:List α}{i:Nat}{x:α}(h:l[i]? = some x):l.take (i+1)=l.take i++[x]:=by rw[List.take_add_one,h];rfl
theorem Qyr {n:GNet}{i:Nat}{x:Qad}(h:n.Elements[i]? = some x):Qij n (i+1)=Qij n i++x.From.map pq:=by
 unfold Qij
 rw[Qkw h,List.flatMap_append]
 simp
theorem Qna {n:GNet}{i:Nat}{x:Qad}(h:n.Elements[i]? = some x):wcn n (i+1)=wcn n i+if x.Kind=1 then 1 else 0:=by
 unfold wcn
 rw[Qkw h,List.filter_append,List.length_append]
 by_cases hk:x.Kind=1<;>simp[hk]
theorem Q57 {n:GNet}{i:Nat}:wcn n i≤wcn n n.Elements.length:=by
 unfold wcn
 rw[List.take_length]
 exact((List.take_sublist i n.Elements).filter _).length_le
section
variable {n : GNet} (hv : NetV n) {ws : List Qaa} (hf : FedV n ws) {i : Nat} {o : List (List Qaa)} {ls : List Qa9} (hI : InvT n ws i o ls) {x : Qad} (hx : n.Elements[i]? = some x)
include hv hI hx in
theorem Qp3 {p:Qeg}(hp:p∈x.From):(pq p,Qg0 o p)∈Qg7 0 o∧StrV (Qg0 o p)∧(∃r,o[p.Element.toNat]? = some r∧r[p.Outlet.toNat]? = some (Qg0 o p)):=by
 obtain⟨h1,h2,y,h3,h4,h5,_⟩:=hv.port i x p hx hp
 have hlt:p.Element.toNat<o.length:=by rw[hI.lo];omega
 have hr:o[p.Element.toNat]? = some (o[p.Element.toNat]):=List.getElem?_eq_getElem hlt
 have hl:=hI.rows _ y _ h3 hr
 have hlt2:p.Outlet.toNat<(o[p.Element.toNat]).length:=by omega
 have hs:(o[p.Element.toNat])[p.Outlet.toNat]? = some ((o[p.Element.toNat])[p.Outlet.toNat]):=List.getElem?_eq_getElem hlt2
 have e:Qg0 o p=(o[p.Element.toNat])[p.Outlet.toNat]:=by
  unfold Qg0
  rw[List.getD_eq_getElem?_getD,List.getD_eq_getElem?_getD,hr,Option.getD_some,hs,Option.getD_some]
 rw[e]
 refine⟨Qm1.2 ⟨by simpa using h1,h4,_,?_,hs⟩,hI.v _ (List.getElem_mem hlt) _ (List.getElem_mem hlt2),_,hr,hs⟩
 rw[show(p.Element-((0:Nat):Int)).toNat=p.Element.toNat by simp]
 exact hr
include hv hx in
theorem Q3v:(x.From.map pq).Nodup∧∀p∈x.From.map pq,p∉Qij n i:=by
 have hd:=hv.dist
 have hi:=(List.getElem?_eq_some_iff.1 hx).1
 have e:n.Elements=n.Elements.take i++x::n.Elements.drop (i+1):=by
  rw[←List.take_append_drop i n.Elements]
  congr 1
  ·simp
  ·rw[List.take_append_drop,List.drop_eq_getElem_cons hi]
   rw[List.getElem?_eq_getElem hi] at hx
   cases hx
   rfl
 rw[e,List.flatMap_append,List.flatMap_cons,List.nodup_append,List.nodup_append] at hd
 obtain⟨_,⟨h2,_,_⟩,h3⟩:=hd
 exact⟨h2,fun p hp hu=>h3 p hu p (List.mem_append_left _ hp) rfl⟩
include hv hI hx in
theorem Qrp (f:Qaa→Int):Qgt f (Qij n (i+1)) (Qg7 0 o)=Qgt f (Qij n i) (Qg7 0 o)-((x.From.map (Qg0 o)).map f).sum:=by
 obtain⟨h1,h2⟩:=Q3v hv hx
 rw[Qyr hx,Qr5 (V:=x.From.map pq++Qij n i) (fun y _=>by simp[or_comm])]
 refine Qr4 f (Qsi o 0) _ _ _ (by simp) (fun j p s hp hs=>?_) h1 h2
 rw[List.getElem?_map,Option.map_eq_some_iff] at hp hs
 obtain⟨a,ha,rfl⟩:=hp
 obtain⟨b,hb,rfl⟩:=hs
 rw[ha] at hb
 cases hb
 exact(Qp3 hv hI hx (List.mem_of_getElem? ha)).1
include hv in
theorem Zaw (f:Qaa→Int) (r:List Qaa) (hlo:o.length=i):Qgt f (Qij n (i+1)) (Qg7 0 (o++[r]))=Qgt f (Qij n (i+1)) (Qg7 0 o)+(r.map f).sum:=by
 rw[Qqq,Qw7,Nat.zero_add,hlo,Qxn]
 congr 1
 refine Qw6 f (fun p hp=>?_) r 0
 unfold Qij at hp
 obtain⟨y,hy,hp⟩:=List.mem_flatMap.1 hp
 obtain⟨q,hq,rfl⟩:=List.mem_map.1 hp
 obtain⟨k,hk,e⟩:=List.mem_take_iff_getElem.1 hy
 have:=(hv.port k y q (by rw[←e];exact List.getElem?_eq_getElem (by omega)) hq).2.1
 intro he
 have:(pq q).1=q.Element:=rfl
 omega
include hI in
theorem Q68 (f:Qaa→Int) (hf0:∀s,StrV s→0≤f s) (U:List (Int×Int)):0≤Qgt f U (Qg7 0 o):=by
 refine Qqn fun y hy=>?_
 obtain⟨⟨a,b⟩,s⟩:=y
 obtain⟨_,_,r,h1,h2⟩:=Qm1.1 hy
 exact hf0 _ (hI.v r (List.mem_of_getElem? h1) s (List.mem_of_getElem? h2))
include hf in
theorem Q09 (k:Nat):(totS (ws.take k)).Mass≤1000000∧(totS (ws.take k)).Gas≤1000000000:=by
 have h:=Qys (ws.take k) (ws.drop k)
 rw[List.take_append_drop] at h
 have hm:=hf.m
 have hg:=hf.g
 rw[h] at hm hg
 have hd:=Qpv fun s hs=>hf.v s (List.mem_of_mem_drop (i:=k) hs)
 have:=hd.m0
 have:=hd.g0
 dsimp only at hm hg
 omega
theorem Qnu {α:Type}(f:α→Int):∀(l:List α),(∀x∈l,0≤f x)→0≤(l.map f).sum
 |[],_=>by simp
 |x::l,h=>by
  have h1:=Qnu f l fun y hy=>h y (List.mem_cons_of_mem x hy)
  have h2:=h x List.mem_cons_self
  simp only[List.map_cons,List.sum_cons]
  omega
include hv hf hI hx in
theorem Zd3:(∀s∈insE o (ws.drop (wcn n i)) x,StrV s)∧StrV (totS (insE o (ws.drop (wcn n i)) x)):=by
 have hxm:=List.mem_of_getElem? hx
 by_cases h1:x.Kind=1
 ·have e:insE o (ws.drop (wcn n i)) x=(ws.drop (wcn n i)).take 1:=by unfold insE;rw[if_pos h1]
  rw[e]
  have hw:=Qna hx
  rw[if_pos h1] at hw
  have hle:=Q57 (n:=n) (i:=i+1)
  have hlt:wcn n i<ws.length:=by rw[hf.len];omega
  rw[List.drop_eq_getElem_cons hlt]
  have hs:=hf.v _ (List.getElem_mem hlt)
  rw[List.take_succ_cons,List.take_zero,Qha]
  exact⟨fun s h=>by rw[List.mem_singleton] at h;rw[h];exact hs,hs⟩
 ·have e:insE o (ws.drop (wcn n i)) x=x.From.map (Qg0 o):=by unfold insE;rw[if_neg h1]
  rw[e]
  have hall:∀s∈x.From.map (Qg0 o),StrV s:=fun s hs=>by
   obtain⟨p,hp,rfl⟩:=List.mem_map.1 hs
   exact(Qp3 hv hI hx hp).2.1
  refine⟨hall,Zac hall ?_ ?_⟩
  ·have h2:=Qrp hv hI hx (fun s=>s.Mass)
   have h3:=Q68 hI (fun s=>s.Mass) (fun s hs=>hs.m0) (Qij n (i+1))
   have h4:=(Q09 hf (wcn n i)).1
   rw[←hI.m] at h4
   show((x.From.map (Qg0 o)).map fun s=>s.Mass).sum≤_
   omega
  ·have h2:=Qrp hv hI hx (fun s=>s.Gas)
   have h3:=Q68 hI (fun s=>s.Gas) (fun s hs=>hs.g0) (Qij n (i+1))
   have h4:=(Q09 hf (wcn n i)).2
   have h5:=Qnu (fun l:Qa9=>l.Gas) ls fun l hl=>(hI.l0 l hl).2.2.1
   rw[←hI.g] at h4
   show((x.From.map (Qg0 o)).map fun s=>s.Gas).sum≤_
   omega
include hv hf hI hx in
theorem Qq4 (f:Qaa→Int) (hf1:∀l m:List Qaa,((l++m).map f).sum=(l.map f).sum+(m.map f).sum) (r:List Qaa) :
  Qgt f (Qij n (i+1)) (Qg7 0 (o++[r]))=Qgt f (Qij n i) (Qg7 0 o)+((ws.take (wcn n (i+1))).map f).sum-((ws.take (wcn n i)).map f).sum-((insE o (ws.drop (wcn n i)) x).map f).sum+(r.map f).sum:=by
 rw[Zaw hv f r hI.lo,Qrp hv hI hx f]
 by_cases h1:x.Kind=1
 ·have e:insE o (ws.drop (wcn n i)) x=(ws.drop (wcn n i)).take 1:=by unfold insE;rw[if_pos h1]
  have hw:=Qna hx
  rw[if_pos h1] at hw
  have hle:=Q57 (n:=n) (i:=i+1)
  have hlt:wcn n i<ws.length:=by rw[hf.len];omega
  have hfr:=(Qpo (hv.alone x (List.mem_of_getElem? hx))).well h1
  rw[e,hfr,hw,Qkw (List.getElem?_eq_getElem hlt),hf1,List.drop_eq_getElem_cons hlt]
  simp only[List.map_nil,List.sum_nil,List.take_succ_cons,List.take_zero,List.map_cons,List.sum_cons]
  omega
 ·have e:insE o (ws.drop (wcn n i)) x=x.From.map (Qg0 o):=by unfold insE;rw[if_neg h1]
  have hw:=Qna hx
  rw[if_neg h1] at hw
  rw[e,hw,Nat.add_zero]
  omega
include hv hf hI hx in
theorem Q1x {a:List Qaa×Qa9×Int}(ha:Zhh x (totS (insE o (ws.drop (wcn n i)) x)) a):InvT n ws (i+1) (o++[a.1]) (ls++[a.2.1]):=by
 obtain⟨k1,k2,k3,k4,k5,k6,k7,k8,k9,k10,_,_⟩:=ha
 have sa:∀f:Qaa→Int,∀l m:List Qaa,((l++m).map f).sum=(l.map f).sum+(m.map f).sum:=fun f l m=>by simp
 refine⟨by simp[hI.lo],by simp[hI.ll],fun k y r hy hr=>?_,fun r hr s hs=>?_,?_,?_,?_,?_,fun l hl=>?_⟩
 ·by_cases hk:k<i
  ·rw[List.getElem?_append_left (by rw[hI.lo];exact hk)] at hr
   exact hI.rows k y r hy hr
  ·rw[List.getElem?_append_right (by rw[hI.lo];omega),hI.lo] at hr
   have:k=i:=by
    have:=(List.getElem?_eq_some_iff.1 hr).1
    simp at this
    omega
   subst this
   rw[hx] at hy
   cases hy
   simp at hr
   subst hr
   exact k2
 ·rcases List.mem_append.1 hr with hr |hr
  ·exact hI.v r hr s hs
  ·simp at hr;subst hr;exact k1 s hs
 ·rw[Qq4 hv hf hI hx _ (sa _),hI.m]
  have e1:(a.1.map fun s=>s.Mass).sum=(totS a.1).Mass:=rfl
  have e2:((insE o (ws.drop (wcn n i)) x).map fun s=>s.Mass).sum=(totS (insE o (ws.drop (wcn n i)) x)).Mass:=rfl
  have e3:∀k,((ws.take k).map fun s=>s.Mass).sum=(totS (ws.take k)).Mass:=fun _=>rfl
  rw[e1,e2,e3,e3]
  omega
 ·rw[Qq4 hv hf hI hx _ (sa _)]
  have e1:(a.1.map fun s=>s.Heat).sum=(totS a.1).Heat:=rfl
  have e2:((insE o (ws.drop (wcn n i)) x).map fun s=>s.Heat).sum=(totS (insE o (ws.drop (wcn n i)) x)).Heat:=rfl
  have e3:∀k,((ws.take k).map fun s=>s.Heat).sum=(totS (ws.take k)).Heat:=fun _=>rfl
  have h:=hI.h
  rw[e1,e2,e3,e3,List.map_append,List.sum_append]
  simp only[List.map_cons,List.map_nil,List.sum_cons,List.sum_nil]
  omega
 ·rw[Qq4 hv hf hI hx _ (sa _)]
  have e1:(a.1.map fun s=>s.Silica).sum=(totS a.1).Silica:=rfl
  have e2:((insE o (ws.drop (wcn n i)) x).map fun s=>s.Silica).sum=(totS (insE o (ws.drop (wcn n i)) x)).Silica:=rfl
  have e3:∀k,((ws.take k).map fun s=>s.Silica).sum=(totS (ws.take k)).Silica:=fun _=>rfl
  have h:=hI.q
  rw[e1,e2,e3,e3,List.map_append,List.sum_append,List.map_append,List.sum_append]
  simp only[List.map_cons,List.map_nil,List.sum_cons,List.sum_nil]
  omega
 ·rw[Qq4 hv hf hI hx _ (sa _)]
  have e1:(a.1.map fun s=>s.Gas).sum=(totS a.1).Gas:=rfl
  have e2:((insE o (ws.drop (wcn n i)) x).map fun s=>s.Gas).sum=(totS (insE o (ws.drop (wcn n i)) x)).Gas:=rfl
  have e3:∀k,((ws.take k).map fun s=>s.Gas).sum=(totS (ws.take k)).Gas:=fun _=>rfl
  have h:=hI.g
  rw[e1,e2,e3,e3,List.map_append,List.sum_append]
  simp only[List.map_cons,List.map_nil,List.sum_cons,List.sum_nil]
  omega
 ·rcases List.mem_append.1 hl with hl |hl
  ·exact hI.l0 l hl
  ·simp at hl;subst hl;exact⟨k7,k8,k9,k10⟩
include hv hf hI hx in
theorem Q1y:Zhh x (totS (insE o (ws.drop (wcn n i)) x)) (actE n.Table x (totS (insE o (ws.drop (wcn n i)) x))):=
 Q2q hv.tab (Qpo (hv.alone x (List.mem_of_getElem? hx))) (hv.level x (List.mem_of_getElem? hx)) (Zd3 hv hf hI hx).2
end
end
section
def ofL (k:Int):Nat→List Qad→List Int
 |_,[]=>[]
 |i,x::l=>if x.Kind=k then(i:Int)::ofL k (i+1) l else ofL k (i+1) l
theorem Qlc (k:Int):∀(l:List Qad) (i:Nat),(ofL k i l).length=(l.filter fun x=>decide (x.Kind=k)).length
 |[],_=>rfl
 |x::l,i=>by
  rw[ofL,List.filter_cons]
  by_cases h:x.Kind=k
  ·rw[if_pos h,if_pos (by simpa using h),List.length_cons,List.length_cons,Qlc k l]
  ·rw[if_neg h,if_neg (by simpa using h),Qlc k l]
theorem Quz (k:Int):∀(l:List Qad) (i:Nat),∀z∈ofL k i l,(i:Int)≤z∧z<(i:Int)+l.length
 |[],_,z,h=>by simp[ofL] at h
 |x::l,i,z,h=>by
  rw[ofL] at h
  simp only[List.length_cons]
  by_cases hk:x.Kind=k
  ·rw[if_pos hk] at h
   rcases List.mem_cons.1 h with rfl |h
   ·omega
   ·have:=Quz k l (i+1) z h;omega
  ·rw[if_neg hk] at h
   have:=Quz k l (i+1) z h;omega
theorem Qtj (k:Int):∀(l m:List Qad) (i:Nat),ofL k i (l++m)=ofL k i l++ofL k (i+l.length) m
 |[],m,i=>by simp[ofL]
 |x::l,m,i=>by
  rw[List.cons_append,ofL,ofL,Qtj k l m (i+1),List.length_cons,show i+1+l.length=i+(l.length+1) by omega]
  by_cases h:x.Kind=k
  ·rw[if_pos h,if_pos h,List.cons_append]
  ·rw[if_neg h,if_neg h]
section
variable {N : Nat} {n : GNet} (hs : Qjw n) (hN : 1001 ≤ N)
include hs in
theorem Zf2 (k:Int) (c:List Int→Option (List Int)):∀(m i:Nat) (acc:List Int),(n.Elements.drop i).length<m→acc.length≤i→Qdr N n k c m acc i=c (acc++ofL k i (n.Elements.drop i)):=by
 intro m
 induction m with
 |zero=>intro i _ h;cases h
 |succ m ih=>
  intro i acc h ha
  rw[Qdr]
  cases hd:n.Elements.drop i with
  |nil=>
   have:=Qc9 hd
   simp[show ¬((i:Int)<n.Elements.length) from by omega,ofL]
  |cons x l=>
   obtain⟨hg,hd',hlt⟩:=Qcl hd
   have e0:=hs.e
   simp only[dlI hlt,cond_true,Qcu hg,Option.bind_some]
   rw[w64S (i:=i) (by omega),ofL]
   by_cases hk:x.Kind=k
   ·rw[show(x.Kind==k)=true by simpa using hk,cond_true,if_pos hk]
    simp only[chk]
    rw[show decide ((acc.length+[(i:Int)].length)*8≤140737488355328)=true by simp;omega,cond_true,ih (i+1) _ (dlt hd hd' h) (by simp;omega),hd',List.append_assoc]
    rfl
   ·rw[show(x.Kind==k)=false by simpa using hk,cond_false,if_neg hk,ih (i+1) _ (dlt hd hd' h) (by omega),hd']
include hs hN in
theorem Q1n (k:Int):Qfz N n k=some (ofL k 0 n.Elements):=by
 have e0:=hs.e
 unfold Qfz
 simp only[Qcf]
 refine(Zf2 hs k _ N 0 [] (by simp;omega) (by simp)).trans ?_
 rw[List.drop_zero,List.nil_append]
theorem Q3u (P S:List Int) (p:Int) (hp:p∉P) (hl:P.length≤1000) (k:Unit→Option Int):∀(m i:Nat),P.length-i<m→i≤P.length→Qcb N (P++p::S) k p m i=some (P.length:Int):=by
 intro m
 induction m with
 |zero=>intro i h;cases h
 |succ m ih=>
  intro i h hi
  rw[Qcb]
  rw[show decide ((i:Int)<((P++p::S).length:Int))=true by simp;omega,cond_true]
  by_cases hlt:i<P.length
  ·have hg:(P++p::S)[i]? = some P[i]:=by rw[List.getElem?_append_left hlt,List.getElem?_eq_getElem hlt]
   rw[Qcu hg,Option.bind_some,show(p==P[i])=false by rw[beq_eq_false_iff_ne];intro e;exact hp (e▸List.getElem_mem hlt),cond_false,w64S (i:=i) (by omega)]
   exact ih (i+1) (by omega) (by omega)
  ·have e:i=P.length:=by omega
   subst e
   have hg:(P++p::S)[P.length]? = some p:=by rw[List.getElem?_append_right (Nat.le_refl _)];simp
   rw[Qcu hg,Option.bind_some,beq_self_eq_true,cond_true]
include hs hN in
theorem Zfb {i:Nat}{x:Qad}(hx:n.Elements[i]? = some x) (h1:x.Kind=1):Qet N (ofL 1 0 n.Elements) i=some (wcn n i:Int):=by
 have hi:=(List.getElem?_eq_some_iff.1 hx).1
 have e0:=hs.e
 have e:n.Elements=n.Elements.take i++x::n.Elements.drop (i+1):=by
  have:n.Elements.drop i=x::n.Elements.drop (i+1):=by
   rw[List.drop_eq_getElem_cons hi]
   rw[List.getElem?_eq_getElem hi] at hx
   cases hx
   rfl
  rw[←this,List.take_append_drop]
 have hlt:(n.Elements.take i).length=i:=by rw[List.length_take];omega
 have e2:ofL 1 0 n.Elements=ofL 1 0 (n.Elements.take i)++(i:Int)::ofL 1 (i+1) (n.Elements.drop (i+1)):=by
  have e3:ofL 1 0 n.Elements=ofL 1 0 (n.Elements.take i++x::n.Elements.drop (i+1)):=congrArg (ofL 1 0) e
  rw[e3,Qtj,hlt,ofL,if_pos h1,Nat.zero_add]
 have hlen:(ofL 1 0 (n.Elements.take i)).length=wcn n i:=Qlc 1 _ 0
 have hb:wcn n i≤18:=by
  rw[←hlen,Qlc]
  have:=List.length_filter_le (fun x:Qad=>decide (x.Kind=1)) (n.Elements.take i)
  omega
 unfold Qet
 simp only[Qcf]
 rw[e2]
 have:=Q3u (N:=N) (ofL 1 0 (n.Elements.take i)) (ofL 1 (i+1) (n.Elements.drop (i+1))) (i:Int) (fun hm=>by
  have:=Quz 1 _ 0 _ hm
  omega) (by omega) (fun _=>some (-1)) N 0 (by omega) (Nat.zero_le _)
 rw[hlen] at this
 exact this
theorem Qnx (k:List Qaa→Option (List Qaa)):∀(q y:List Qaa),y.length+q.length≤1000→Qau N k q y=k (y++q)
 |[],y,_=>by simp[Qau]
 |x::q,y,h=>by
  have hc:decide ((y.length+[x].length)*32≤140737488355328)=true:=by simp at h ⊢;omega
  rw[Qau]
  simp only[chk]
  rw[hc,cond_true,Qnx k q _ (by simp at h ⊢;omega)]
  simp
end
section
variable {N : Nat} {n : GNet} (hs : Qjw n) (hN : 1001 ≤ N) (hv : NetV n) {ws : List Qaa} (hf : FedV n ws) {i : Nat} {o : List (List Qaa)} {ls : List Qa9} (hI : InvT n ws i o ls) {x : Qad} (hx : n.Elements[i]? = some x)
include hv hI hx in
theorem Q7w (hfr:x.From.length≤1000) (R:List (List Qaa)):∀(m j:Nat),(x.From.drop j).length<m→Qc0 N x (o++R) m j=some ((x.From.drop j).map (Qg0 o)):=by
 intro m
 induction m with
 |zero=>intro j h;cases h
 |succ m ih=>
  intro j h
  rw[Qc0]
  cases hd:x.From.drop j with
  |nil=>
   have:=Qc9 hd
   simp[show ¬((j:Int)<x.From.length) from by omega]
  |cons p l=>
   obtain⟨hg,hd',hlt⟩:=Qcl hd
   have hpm:=List.mem_of_getElem? hg
   obtain⟨p1,_,_,_,p4,_,_⟩:=hv.port i x p hx hpm
   obtain⟨_,_,r,hr,hr2⟩:=Qp3 hv hI hx hpm
   have g1:getI (o++R) p.Element=some r:=by
    unfold getI
    rw[if_pos p1,List.getElem?_append_left (List.getElem?_eq_some_iff.1 hr).1,hr]
   have g2:getI r p.Outlet=some (Qg0 o p):=by
    unfold getI
    rw[if_pos p4,hr2]
   simp only[dlI hlt,cond_true,Qcu hg,Option.bind_some,g1,g2]
   rw[w64S (i:=j) (by omega),ih (j+1) (dlt hd hd' h),hd']
   rfl
include hs hN hv hf hI hx in
theorem Zf7 (R:List (List Qaa)) (L:List Qa9) (S:List Int) (y:Int):Qbq N n.Table n.Elements (o++R) L S ws y i=some (insE o (ws.drop (wcn n i)) x):=by
 have hxs:=hs.x x (List.mem_of_getElem? hx)
 have hS:Qgb N n.Table n.Elements (o++R) L S ws y i=some (insE o (ws.drop (wcn n i)) x):=by
  unfold Qgb insE
  rw[Qcu hx,Option.bind_some]
  by_cases h1:x.Kind=1
  ·rw[show(x.Kind==1)=true by simpa using h1,cond_true,if_pos h1]
   have hw:=Qna hx
   rw[if_pos h1] at hw
   have hle:=Q57 (n:=n) (i:=i+1)
   have hlt:wcn n i<ws.length:=by rw[hf.len];omega
   rw[Q1n hs hN 1,Option.bind_some,Zfb hs hN hx h1,Option.bind_some,Qcu (List.getElem?_eq_getElem hlt),Option.bind_some,List.drop_eq_getElem_cons hlt]
   rfl
  ·rw[show(x.Kind==1)=false by simpa using h1,cond_false,if_neg h1]
   have:=Q7w (N:=N) hv hI hx (by omega) R N 0 (by simp;omega)
   rw[List.drop_zero] at this
   exact this
 unfold Qbq Qb3
 simp only[Qcf,hS,Option.bind_some]
 have hlen:(insE o (ws.drop (wcn n i)) x).length≤100:=by
  unfold insE
  split
  ·rw[List.length_take];omega
  ·rw[List.length_map];omega
 rw[Qnx _ _ _ (by simp;omega)]
 rfl
end
theorem Qo0 {α:Type}{l:List α}{i:Nat}{x:α}(h:l[i]? = some x):l.set i x=l:=by
 obtain⟨h1,h2⟩:=List.getElem?_eq_some_iff.1 h
 subst h2
 exact List.set_getElem_self h1
section
variable {N : Nat} {n : GNet} (hN : 1001 ≤ N) (hv : NetV n) (ht : n.Table.length ≤ 1000) {i : Nat} {x : Qad} (hx : n.Elements[i]? = some x) {s : Qaa} (hst : StrV s) {D nW : Nat} {ws : List Qaa} {y : Int} {O : List (List Qaa)} {Ls : List Qa9} {Ss : List Int} {d : Int}
 (hlo:i<D) (hLs:Ls[i]? = some ⟨0,0,0,0⟩) (hSs:Ss[i]? = some d) (hd0:0≤d) (hd1:d≤1000000000000000) (hO:∃r,O[i]? = some r) (hy0:0≤y) (hy1:y≤1000000000)
include hN hst hlo in
theorem Qwn {wts:List Int}(hw:WtsV wts) {l0:Qa9}(hL:Ls[i]? = some l0) (hl:i<Ls.length):Qey N i s wts n.Table n.Elements D D nW ws y O Ls Ss=some (Qg5 s wts,Ls.set i ⟨(Qle s wts).Heat,(Qle s wts).Silica,(Qle s wts).Gas,l0.Scale⟩):=by
 have c1:(decide ((0:Int)≤(i:Int))&&decide (i<D))=true:=by simp;omega
 have e:∀q:Qa9,(Ls.set i q)[i]? = some q:=fun q=>List.getElem?_set_self hl
 unfold Qey
 rw[Zal hst hw hN]
 simp only[Option.bind_some,chk,c1,cond_true,Int.toNat_natCast,hL,e,List.set_set]
include hN hv ht hx hst hlo hLs hSs hd0 hd1 hy0 hy1 in
theorem Qyv (hln:i<Ls.length) (h4:x.Kind=4):Qev N i s n.Table n.Elements D D D ws y O Ls Ss=some ((actE n.Table x s).1,y+(actE n.Table x s).2.2,Ls.set i (actE n.Table x s).2.1,Ss.set i (d+(actE n.Table x s).2.1.Scale)):=by
 have hxm:=List.mem_of_getElem? hx
 have hA:=Qpo (hv.alone x hxm)
 have hlv:=hv.level x hxm
 have hrow:=(Qwp hv.tab (Qep.2 hlv)).2
 have hk:=Qu9 (r:=Qgy n.Table x.Level) hrow hst
 have hK:=Q2q hv.tab hA hlv hst
 have c1:(decide ((0:Int)≤(i:Int))&&decide (i<D))=true:=by simp;omega
 have ef:Q12 n.Table x.Level s=(flG (Qgy n.Table x.Level) s,0):=by
  unfold Q12 Qgy
  rw[hv.tab,Qit.2 hst,Qep.2 hlv];rfl
 have hq1:=hst.s1
 have hm1:=hst.m1
 have cv:=Qpv hK.v
 have:=cv.s0
 unfold Qev
 simp only[Qcu hx,Option.bind_some,Za3 hN ht,ef,chk,c1,cond_true,Int.toNat_natCast,hLs,hSs]
 by_cases h0:x.Amount=0
 ·have ha:actE n.Table x s=([(flG (Qgy n.Table x.Level) s).Steam,(flG (Qgy n.Table x.Level) s).Water],⟨0,0,0,(flG (Qgy n.Table x.Level) s).Scale⟩,(flG (Qgy n.Table x.Level) s).Steam.Mass):=by
   unfold actE
   rw[if_neg (show ¬x.Kind=3 by omega),if_pos h4,if_pos h0]
  rw[ha] at hK
  obtain⟨_,_,_,_,cs,_,_,cq,_,cc,t0,t1⟩:=hK
  dsimp only at t0 t1 cs cc cq
  have:=hk.km
  have:=hk.wa.m0
  have:=hk.ks
  have:=hk.wa.s0
  rw[ha,show(x.Amount==0)=true by simpa using h0,cond_true]
  rw[Qbs (x:=y+_) (by omega) (by omega),Qbs (x:=d+_) (by omega) (by omega)]
 ·have ha:actE n.Table x s=([totS [(flG (Qgy n.Table x.Level) s).Steam,(Qg5 (flG (Qgy n.Table x.Level) s).Water [1000-x.Amount,x.Amount]).getD 1 zs],(Qg5 (flG (Qgy n.Table x.Level) s).Water [1000-x.Amount,x.Amount]).getD 0 zs],
   ⟨(Qle (flG (Qgy n.Table x.Level) s).Water [1000-x.Amount,x.Amount]).Heat,(Qle (flG (Qgy n.Table x.Level) s).Water [1000-x.Amount,x.Amount]).Silica,(Qle (flG (Qgy n.Table x.Level) s).Water [1000-x.Amount,x.Amount]).Gas,(flG (Qgy n.Table x.Level) s).Scale⟩,(flG (Qgy n.Table x.Level) s).Steam.Mass):=by
   unfold actE
   rw[if_neg (show ¬x.Kind=3 by omega),if_pos h4,if_neg h0]
  have hav:=hA.a4 h4
  have hw:=Q6b (a:=x.Amount) (by omega) hav.2
  have:=hk.km
  have:=hk.st.m0
  have:=hk.wa.m0
  have:=hk.ks
  have:=hk.wa.s0
  have:=hk.sc
  rw[ha,show(x.Amount==0)=false by simpa using h0,cond_false,Qbs (x:=y+_) (by omega) (by omega),Qbs (x:=d+_) (by omega) (by omega),Qbs (x:=1000-x.Amount) (by omega) (by omega)]
  have hsh:=Qwn (N:=N) (n:=n) (nW:=D) (ws:=ws) (y:=y+(flG (Qgy n.Table x.Level) s).Steam.Mass) (O:=O) (Ss:=Ss.set i (d+(flG (Qgy n.Table x.Level) s).Scale)) (Ls:=Ls.set i ⟨0,0,0,(flG (Qgy n.Table x.Level) s).Scale⟩) (l0:=⟨0,0,0,(flG (Qgy n.Table x.Level) s).Scale⟩) hN hk.wa hlo hw (List.getElem?_set_self hln) (by rw[List.length_set];exact hln)
  obtain⟨u,v,hp⟩:=Qwf (s:=(flG (Qgy n.Table x.Level) s).Water) (a:=1000-x.Amount) (b:=x.Amount)
  have hKp:=Qlr hk.wa hw
  rw[hp] at hsh hKp ⊢
  have htot:Qff N [(flG (Qgy n.Table x.Level) s).Steam,v]=some (totS [(flG (Qgy n.Table x.Level) s).Steam,v]):=by
   rw[Qyt (by simp) hN,Quk (fun z hz=>by
    simp at hz
    rcases hz with rfl |rfl
    ·exact hk.st
    ·exact hKp.v _ (by simp)) (by simp)]
  refine(congrArg (fun z=>Option.bind z _) hsh).trans ?_
  simp only[Option.bind_some,show getI [u,v] 1=some v from rfl,show getI [u,v] 0=some u from rfl,List.set_set]
  exact congrArg (fun z=>Option.bind z _) htot
include hN hv ht hx hst hlo hLs hSs hd0 hd1 hO hy0 hy1 in
theorem Zgz (hln:i<Ls.length) (hD:D=O.length) (hDl:D=Ls.length) (hDs:D=Ss.length) {w:Int}(hw:s.Mass≤w) {ins:List Qaa}(hin:Qbq N n.Table n.Elements O Ls Ss ws y i=some ins) (htot:Qff N ins=some s) :
  Qco N i w n.Table n.Elements D D D ws y O Ls Ss=some (.inl (y+(actE n.Table x s).2.2,O.set i (actE n.Table x s).1,Ls.set i (actE n.Table x s).2.1,Ss.set i (d+(actE n.Table x s).2.1.Scale))):=by
 have hxm:=List.mem_of_getElem? hx
 have hA:=Qpo (hv.alone x hxm)
 obtain⟨r,hr⟩:=hO
 have c1:(decide ((0:Int)≤(i:Int))&&decide (i<D))=true:=by simp;omega
 unfold Qco
 simp only[Qgc,Option.bind_some,chk,Qcf,show decide (D≤O.length)=true by simp;omega,show decide (D≤Ls.length)=true by simp;omega,show decide (D≤Ss.length)=true by simp;omega,cond_true]
 rw[show O.take D=O from by rw[hD,List.take_length],show Ls.take D=Ls from by rw[hDl,List.take_length],show Ss.take D=Ss from by rw[hDs,List.take_length],hin,Option.bind_some,htot,Option.bind_some,decide_eq_false (show ¬s.Mass>w by omega),cond_false,Qcu hx,Option.bind_some]
 simp only[c1,cond_true,Int.toNat_natCast,hr,Option.bind_some,Qe8]
 have hpass:(actE n.Table x s)=([s],⟨0,0,0,0⟩,0)→(y,O.set i [s],Ls,Ss)=(y+(actE n.Table x s).2.2,O.set i (actE n.Table x s).1,Ls.set i (actE n.Table x s).2.1,Ss.set i (d+(actE n.Table x s).2.1.Scale)):=fun e=>by
  rw[e]
  simp only[Int.add_zero]
  rw[Qo0 hLs,Qo0 hSs]
 by_cases h1:x.Kind=1
 ·rw[h1]
  simp only[show((1:Int)==0)=false from rfl,show((1:Int)==1)=true from rfl,cond_true,cond_false]
  rw[hpass (by unfold actE;rw[if_neg (by omega),if_neg (by omega),if_neg (by omega)])]
 by_cases h2:x.Kind=2
 ·rw[h2]
  simp only[show((2:Int)==0)=false from rfl,show((2:Int)==1)=false from rfl,show((2:Int)==2)=true from rfl,cond_true,cond_false]
  rw[hpass (by unfold actE;rw[if_neg (by omega),if_neg (by omega),if_neg (by omega)])]
 by_cases h3:x.Kind=3
 ·rw[h3]
  simp only[show((3:Int)==0)=false from rfl,show((3:Int)==1)=false from rfl,show((3:Int)==2)=false from rfl,show((3:Int)==3)=true from rfl,cond_true,cond_false]
  have e:actE n.Table x s=([⟨s.Mass,s.Heat-Qqz x s,s.Silica,s.Gas⟩],⟨Qqz x s,0,0,0⟩,0):=by unfold actE;rw[if_pos h3]
  have hc:0≤Qqz x s∧Qqz x s≤s.Heat:=by
   have:=hA.a3 h3
   have:=hst.h0
   unfold Qqz;split<;>omega
  have:=hst.h1
  have:=hst.m1
  unfold Qhd
  simp only[Qcu hx,Option.bind_some,chk,c1,cond_true,Int.toNat_natCast,hLs]
  rw[show(if s.Heat<x.Amount then s.Heat else x.Amount)=Qqz x s from rfl,Qbs (x:=s.Heat-Qqz x s) (by omega) (by omega),e]
  simp only[Int.add_zero]
  rw[Qo0 hSs]
 by_cases h4:x.Kind=4
 ·have hsep:=Qyv (N:=N) hN hv ht hx hst (ws:=ws) (O:=O) hlo hLs hSs hd0 hd1 hy0 hy1 hln h4
  rw[h4]
  simp only[show((4:Int)==0)=false from rfl,show((4:Int)==1)=false from rfl,show((4:Int)==2)=false from rfl,show((4:Int)==3)=false from rfl,show((4:Int)==4)=true from rfl,cond_true,cond_false,hsep,Option.bind_some]
 by_cases h5:x.Kind=5
 ·have hsh:=Qwn (N:=N) (n:=n) (nW:=D) (ws:=ws) (y:=y) (O:=O) (Ss:=Ss) (Ls:=Ls) hN hst hlo (hA.w5 h5) hLs hln
  have e:actE n.Table x s=(Qg5 s x.Weights,⟨(Qle s x.Weights).Heat,(Qle s x.Weights).Silica,(Qle s x.Weights).Gas,0⟩,0):=by unfold actE;rw[if_neg h3,if_neg h4,if_pos h5]
  rw[h5]
  unfold Qg1
  simp only[show((5:Int)==0)=false from rfl,show((5:Int)==1)=false from rfl,show((5:Int)==2)=false from rfl,show((5:Int)==3)=false from rfl,show((5:Int)==4)=false from rfl,show((5:Int)==5)=true from rfl,cond_true,cond_false,Qcu hx,Option.bind_some,hsh,e,Int.add_zero]
  rw[Qo0 hSs]
 have h6:x.Kind=6:=by have:=hA.k;omega
 rw[h6]
 simp only[show((6:Int)==0)=false from rfl,show((6:Int)==1)=false from rfl,show((6:Int)==2)=false from rfl,show((6:Int)==3)=false from rfl,show((6:Int)==4)=false from rfl,show((6:Int)==5)=false from rfl,show((6:Int)==6)=true from rfl,cond_true,cond_false]
 rw[hpass (by unfold actE;rw[if_neg h3,if_neg h4,if_neg h5])]
end
end
section
theorem Q8j {N:Nat}{n:GNet}{i:Nat}{w:Int}{D:Nat}{ws:List Qaa}{y:Int}{O:List (List Qaa)}{Ls:List Qa9}{Ss:List Int}{s:Qaa}(hD:D=O.length) (hDl:D=Ls.length) (hDs:D=Ss.length) (hw:¬s.Mass≤w) {ins:List Qaa}(hin:Qbq N n.Table n.Elements O Ls Ss ws y i=some ins) (htot:Qff N ins=some s) :
  Qco N i w n.Table n.Elements D D D ws y O Ls Ss=some (.inr i):=by
 unfold Qco
 simp only[Qgc,Option.bind_some,chk,Qcf,show decide (D≤O.length)=true by simp;omega,show decide (D≤Ls.length)=true by simp;omega,show decide (D≤Ss.length)=true by simp;omega,cond_true]
 rw[show O.take D=O from by rw[hD,List.take_length],show Ls.take D=Ls from by rw[hDl,List.take_length],show Ss.take D=Ss from by rw[hDs,List.take_length],hin,Option.bind_some,htot,Option.bind_some,decide_eq_true (show s.Mass>w by omega),cond_true]
abbrev Qs3:=List (List Qaa)×List Qa9×List Int×Int
def Qzm {β:Type}(r:Nat⊕Qs3) (f:Nat→β) (g:Qs3→β):β:=match r with |.inl a=>f a |.inr b=>g b
theorem Q6n {α:Type}{o:List α}{i k:Nat}(h:o.length=i) (x y:α):(o++List.replicate (k+1) x).set i y=(o++[y])++List.replicate k x:=by
 rw[List.set_append_right _ _ (by omega),h,Nat.sub_self,List.replicate_succ,List.set_cons_zero,List.append_assoc]
 rfl
structure StV (n:GNet) (st:List Int):Prop where
 len:st.length=n.Elements.length
 bd:∀d∈st,0≤d∧d≤1000000000000000
theorem Zjb {n:GNet}{st:List Int}(hst:stB n st=true):StV n st:=by
 unfold stB at hst
 simp only[Bool.and_eq_true,decide_eq_true_eq] at hst
 refine⟨hst.1,fun d hd=>?_⟩
 have:=Qep.1 (List.all_eq_true.1 hst.2 d hd)
 omega
theorem Qwj {n:GNet}{st:List Int}(hst:StV n st):st.length=n.Elements.length:=hst.len
theorem Zja {n:GNet}{st:List Int}(hst:StV n st) {i:Nat}(hi:i<n.Elements.length):∃d,st[i]? = some d∧0≤d∧d≤1000000000000000:=by
 have hl:=hst.len
 obtain⟨a,b⟩:=hst.bd (st[i]'(by omega)) (List.getElem_mem _)
 exact⟨st[i]'(by omega),List.getElem?_eq_getElem _,a,b⟩
section
variable {N : Nat} {n : GNet} (hs : Qjw n) (hN : 1001 ≤ N) (hv : NetV n) {ws : List Qaa} (hf : FedV n ws) {st : List Int} (hst : StV n st)
include hs hN hv hf hst in
theorem Zg0 (k:List (List Qaa)×List Qa9×List Int×Int→Option (Int⊕(Int×Int×List (List Qaa)×List Qa9×List Int))):∀(m i:Nat) (o:List (List Qaa)) (ls:List Qa9) (ss:List Int) (y:Int),(n.Elements.drop i).length<m→i≤n.Elements.length→InvT n ws i o ls→ss.length=i→0≤y→y≤1000000*i →
  Qdn N n st ws k m i (o++List.replicate (n.Elements.length-i) []) (ls++List.replicate (n.Elements.length-i) ⟨0,0,0,0⟩) (ss++st.drop i) y =
  Qzm (Qov n.Table ((n.Elements.drop i).zip (st.drop i)) (ws.drop (wcn n i)) o ls ss y) (fun a=>some (.inl (a:Int))) k:=by
 intro m
 induction m with
 |zero=>intro i _ _ _ _ h;cases h
 |succ m ih=>
  intro i o ls ss y h hi hI hss hy0 hy1
  have hsl:=Qwj hst
  have e0:=hs.e
  rw[Qdn]
  cases hd:n.Elements.drop i with
  |nil=>
   have:=Qc9 hd
   have hi2:i=n.Elements.length:=by omega
   subst hi2
   rw[show decide ((n.Elements.length:Int)<(n.Elements.length:Int))=false by simp,cond_false,Nat.sub_self,show st.drop n.Elements.length=[] from List.drop_of_length_le (by omega)]
   simp[Qov,Qzm]
  |cons x l=>
   obtain⟨hg,hd',hlt⟩:=Qcl hd
   obtain⟨d,hgd,d0,d1⟩:=Zja hst hlt
   have hds:st.drop i=d::st.drop (i+1):=by
    have hi:=(List.getElem?_eq_some_iff.1 hgd).1
    rw[List.drop_eq_getElem_cons hi]
    rw[List.getElem?_eq_getElem hi] at hgd
    cases hgd;rfl
   obtain⟨iv,it⟩:=Zd3 hv hf hI hg
   have hx:=hs.x x (List.mem_of_getElem? hg)
   have hinl:(insE o (ws.drop (wcn n i)) x).length≤100:=by
    unfold insE
    split
    ·rw[List.length_take];omega
    ·rw[List.length_map];omega
   have hk:n.Elements.length-i=(n.Elements.length-(i+1))+1:=by omega
   have hwid:=Q55 N (hv.alone x (List.mem_of_getElem? hg)) d0 (show d≤9000000000000000000 by omega)
   simp only[dlI hlt,cond_true,Qcu hg,Qcu hgd,Option.bind_some,hwid,Int.toNat_natCast,hsl]
   have htot:Qff N (insE o (ws.drop (wcn n i)) x)=some (totS (insE o (ws.drop (wcn n i)) x)):=by rw[Qyt (by omega) hN,Quk iv (by omega)]
   have hin:=Zf7 hs hN hv hf hI hg (List.replicate (n.Elements.length-i) []) (ls++List.replicate (n.Elements.length-i) ⟨0,0,0,0⟩) (ss++st.drop i) y
   have lO:n.Elements.length=(o++List.replicate (n.Elements.length-i) []).length:=by simp[hI.lo];omega
   have lL:n.Elements.length=(ls++List.replicate (n.Elements.length-i) (⟨0,0,0,0⟩:Qa9)).length:=by simp[hI.ll];omega
   have lS:n.Elements.length=(ss++st.drop i).length:=by simp[hss,hsl];omega
   rw[hds,List.zip_cons_cons,Qov]
   by_cases hm:(totS (insE o (ws.drop (wcn n i)) x)).Mass>widI x d
   ·rw[if_pos hm,←hds,Q8j lO lL lS (by omega) hin htot,hI.lo]
    rfl
   ·rw[if_neg hm]
    have hLs:(ls++List.replicate (n.Elements.length-i) (⟨0,0,0,0⟩:Qa9))[i]? = some ⟨0,0,0,0⟩:=by
     rw[List.getElem?_append_right (by rw[hI.ll];exact Nat.le_refl _),hI.ll,Nat.sub_self,hk,List.replicate_succ];rfl
    have hSs:(ss++st.drop i)[i]? = some d:=by
     rw[List.getElem?_append_right (by omega),hss,Nat.sub_self,hds];rfl
    have hO:∃r,(o++List.replicate (n.Elements.length-i) ([]:List Qaa))[i]? = some r:=⟨[],by
     rw[List.getElem?_append_right (by rw[hI.lo];exact Nat.le_refl _),hI.lo,Nat.sub_self,hk,List.replicate_succ];rfl⟩
    have hel:=Zgz (N:=N) hN hv (by have:=hs.t;omega) hg it (D:=n.Elements.length) hlt hLs hSs d0 (by omega) hO hy0 (by omega) (by rw[←lL];exact hlt) lO lL lS (w:=widI x d) (by omega) hin htot
    have hK:=Q1y hv hf hI hg
    have hI2:=Q1x hv hf hI hg hK
    rw[←hds,hel,Option.bind_some,Sum.elim_inl]
    dsimp only
    have hSet:(ss++st.drop i).set i (d+(actE n.Table x (totS (insE o (ws.drop (wcn n i)) x))).2.1.Scale)=(ss++[d+(actE n.Table x (totS (insE o (ws.drop (wcn n i)) x))).2.1.Scale])++st.drop (i+1):=by
     rw[hds,List.set_append_right _ _ (by omega),hss,Nat.sub_self,List.set_cons_zero,List.append_assoc]
     rfl
    rw[hSet,hk,Q6n hI.lo,Q6n hI.ll,w64S (i:=i) (by omega)]
    have t0:=hK.t0
    have t1:=hK.t1
    have hih:=ih (i+1) _ _ (ss++[d+(actE n.Table x (totS (insE o (ws.drop (wcn n i)) x))).2.1.Scale]) (y+(actE n.Table x (totS (insE o (ws.drop (wcn n i)) x))).2.2) (dlt hd hd' h) hlt hI2 (by simp[hss]) (by omega) (by omega)
    rw[hd'] at hih
    refine hih.trans ?_
    have hw:ws.drop (wcn n (i+1))=if x.Kind=1 then(ws.drop (wcn n i)).drop 1 else ws.drop (wcn n i):=by
     rw[Qna hg]
     split
     ·rw[List.drop_drop]
     ·rfl
    rw[hw]
def Qul (n:GNet) (st:List Int) (ws:List Qaa):Nat⊕Qs3:=Qov n.Table (n.Elements.zip st) ws [] [] [] 0
include hs hN hv hf hst in
theorem Zlh:Qe5 N n st ws=Qzm (Qul n st ws) (fun a=>some (.inl (a:Int))) (fun r=>some (.inr (-1,r.2.2.2,r.1,r.2.1,r.2.2.1))):=by
 have e0:=hs.e
 have hsl:=Qwj hst
 have hl1:=hv.len.1
 have hne:(!st.isEmpty)=true:=by
  cases st with
  |nil=>simp at hsl;omega
  |cons=>rfl
 unfold Qe5 Qe3
 simp only[chk,hne,Qcf]
 rw[show(decide (0≤(n.Elements.length:Int))&&decide (24*(n.Elements.length:Int)≤281474976710656)&&decide ((n.Elements.length:Int)≤9223372036854775807))=true by simp;omega,show(decide (0≤(n.Elements.length:Int))&&decide (32*(n.Elements.length:Int)≤281474976710656)&&decide ((n.Elements.length:Int)≤9223372036854775807))=true by simp;omega,show decide ((0+st.length)*8≤140737488355328)=true by simp;omega]
 simp only[cond_true,Option.bind_some,Int.toNat_natCast]
 have:=Zg0 hs hN hv hf hst (fun x=>match x with |(y12,y13,y14,y15)=>some (.inr (-1,y15,y12,y13,y14))) N 0 [] [] [] 0 (by simp;omega) (Nat.zero_le _) (Qxi n ws) rfl (Int.le_refl _) (by simp)
 simp only[List.nil_append,Nat.sub_zero,List.drop_zero,show wcn n 0=0 from rfl] at this
 refine this.trans ?_
 unfold Qul
 rfl
end
def fedI (n:GNet) (ws:List Qaa):Int:=
 bif decide (ws.length=wcn n n.Elements.length)&&ws.all strB then(if (totS ws).Mass>1000000 then 3 else if (totS ws).Gas>1000000000 then 3 else 0) else 1
theorem Zcd (N:Nat) (s:Qaa):Qfs N s=some (bif strB s then 0 else 1):=by
 unfold Qfs
 rw[Qq0]
 cases strB s<;>rfl
theorem Zjv {N:Nat}{n:GNet}(hs:Qjw n) (hN:1001≤N) {ws:List Qaa}(hl:ws.length≤1000):Qhe N n ws=some (fedI n ws):=by
 have hc:Qbg N ws=some (ws.any fun x=>!strB x):=by
  unfold Qbg Qbw Qcf
  refine Qg8 (F:=Qa6 N ws fun _=>some (-1)) (k:=fun _=>some (-1)) (q:=Qdl N) (fun n y=>rfl) (fun x=>?_) rfl (by omega) (by omega)
  simp only[Qdl,Qic,Zcd,Option.bind_some]
  cases strB x<;>rfl
 have e0:=hs.e
 have hof:(ofL 1 0 n.Elements).length=wcn n n.Elements.length:=by rw[Qlc];unfold wcn;rw[List.take_length]
 unfold Qhe Qez fedI
 simp only[Qcf,Q1n hs hN 1,Option.bind_some,hc,Qoh,hof,Qyt hl hN]
 by_cases h1:ws.length=wcn n n.Elements.length
 ·rw[decide_eq_true h1,show((ws.length:Int) != (wcn n n.Elements.length:Int))=false by rw[bne_eq_false_iff_eq];omega]
  cases ha:ws.all strB with
  |false=>rfl
  |true=>
   have hall:∀s∈ws,StrV s:=fun s h=>Qit.1 (List.all_eq_true.1 ha s h)
   rw[Quk hall hl]
   simp only[cond_false,Bool.not_true,Bool.true_and,cond_true]
   by_cases h2:(totS ws).Mass>1000000
   ·rw[decide_eq_true h2,if_pos h2];rfl
   ·rw[decide_eq_false h2,if_neg h2]
    by_cases h3:(totS ws).Gas>1000000000
    ·rw[decide_eq_true h3,if_pos h3];rfl
    ·rw[decide_eq_false h3,if_neg h3];rfl
 ·rw[decide_eq_false h1,show((ws.length:Int) != (wcn n n.Elements.length:Int))=true by rw[bne_iff_ne];omega];rfl
theorem Zgc {n:GNet}{ws:List Qaa}(h:fedI n ws=0):FedV n ws:=by
 unfold fedI at h
 cases hb:decide (ws.length=wcn n n.Elements.length)&&ws.all strB with
 |false=>rw[hb] at h;cases h
 |true=>
  rw[hb,cond_true] at h
  simp only[Bool.and_eq_true,decide_eq_true_eq] at hb
  by_cases h2:(totS ws).Mass>1000000
  ·rw[if_pos h2] at h;cases h
  ·rw[if_neg h2] at h
   by_cases h3:(totS ws).Gas>1000000000
   ·rw[if_pos h3] at h;cases h
   ·exact⟨hb.1,fun s hs=>Qit.1 (List.all_eq_true.1 hb.2 s hs),by omega,by omega⟩
def Q62 (n:GNet) (st:List Int) (ws:List Qaa):Int:=bif netB n&&stB n st then fedI n ws else 1
structure Zj9 (n:GNet) (st:List Int) (ws:List Qaa) (r:Qs3):Prop where
 inv:InvT n ws n.Elements.length r.1 r.2.1
 ss:r.2.2.1=List.zipWith (fun (d:Int) (l:Qa9)=>d+l.Scale) st r.2.1
 y0:0≤r.2.2.2
theorem Q1a {n:GNet}(hv:NetV n) {ws:List Qaa}(hf:FedV n ws) {st:List Int}(hst:StV n st):∀(l:List (Qad×Int)) (i:Nat) (o:List (List Qaa)) (ls:List Qa9) (ss:List Int) (y:Int) (r:Qs3),
  l=(n.Elements.drop i).zip (st.drop i)→i≤n.Elements.length→InvT n ws i o ls→ss=List.zipWith (fun (d:Int) (q:Qa9)=>d+q.Scale) (st.take i) ls→0≤y→Qov n.Table l (ws.drop (wcn n i)) o ls ss y=.inr r→Zj9 n st ws r
 |[],i,o,ls,ss,y,r,hl,hi,hI,hss,hy,h=>by
  have hsl:=Qwj hst
  have hlen:(n.Elements.drop i).length=0:=by
   have:=congrArg List.length hl
   rw[List.length_zip,List.length_drop,List.length_drop] at this
   simp at this
   rw[List.length_drop];omega
  rw[List.length_drop] at hlen
  have e:i=n.Elements.length:=by omega
  rw[Qov] at h
  cases h
  subst e
  exact⟨hI,by dsimp only;rw[hss,List.take_of_length_le (by omega)],hy⟩
 |(x,d)::l,i,o,ls,ss,y,r,hl,hi,hI,hss,hy,h=>by
  have hsl:=Qwj hst
  have hlt:i<n.Elements.length:=by
   apply Decidable.byContradiction
   intro hc
   rw[List.drop_of_length_le (by omega)] at hl
   simp at hl
  have hdE:n.Elements.drop i=n.Elements[i]::n.Elements.drop (i+1):=List.drop_eq_getElem_cons hlt
  have hdS:st.drop i=st[i]'(by omega)::st.drop (i+1):=List.drop_eq_getElem_cons (by omega)
  rw[hdE,hdS,List.zip_cons_cons,List.cons.injEq,Prod.mk.injEq] at hl
  obtain⟨⟨hx,hd⟩,hl⟩:=hl
  have hg:n.Elements[i]? = some x:=by rw[hx];exact List.getElem?_eq_getElem hlt
  have hgd:st[i]? = some d:=by rw[hd];exact List.getElem?_eq_getElem _
  rw[Qov] at h
  by_cases hm:(totS (insE o (ws.drop (wcn n i)) x)).Mass>widI x d
  ·rw[if_pos hm] at h;cases h
  ·rw[if_neg hm] at h
   have hK:=Q1y hv hf hI hg
   have hI2:=Q1x hv hf hI hg hK
   have hw:ws.drop (wcn n (i+1))=if x.Kind=1 then(ws.drop (wcn n i)).drop 1 else ws.drop (wcn n i):=by
    rw[Qna hg]
    split
    ·rw[List.drop_drop]
    ·rfl
   rw[←hw] at h
   refine Q1a hv hf hst l (i+1) _ _ _ _ r hl hlt hI2 ?_ (by have:=hK.t0;omega) h
   rw[Qkw hgd,hss,List.zipWith_append (by rw[List.length_take,hI.ll];omega)]
   rfl
theorem Q1b {n:GNet}(hv:NetV n) {ws:List Qaa}(hf:FedV n ws) {st:List Int}(hst:StV n st) {r:Qs3}(h:Qul n st ws=.inr r):Zj9 n st ws r:=
 Q1a hv hf hst _ 0 [] [] [] 0 r (by simp) (Nat.zero_le _) (Qxi n ws) (by simp) (Int.le_refl _) h
end
section
def apN (t:List GRow) (L c:Int):GNet:=⟨t,[⟨1,[],(t.length:Int)-1,0,1000000,1,[]⟩,⟨4,[⟨0,0⟩],L,0,1000000,1,[]⟩,⟨3,[⟨1,1⟩],0,c,1000000,1,[]⟩]⟩
theorem Qyb {t:List GRow}(h:t.length≤25) (L c:Int):Qjw (apN t L c):=by
 refine⟨h,Nat.le_of_ble_eq_true rfl,fun x hx=>?_⟩
 simp only[apN,List.mem_cons,List.not_mem_nil,or_false] at hx
 rcases hx with rfl |rfl |rfl<;>exact⟨Nat.le_of_ble_eq_true rfl,Nat.le_of_ble_eq_true rfl⟩
theorem Qn2 {t:List GRow}(h:tabB t=true):2≤t.length∧t.length≤20:=by
 unfold tabB at h
 simp only[Bool.and_eq_true] at h
 have:=Qep.1 h.1.1
 omega
theorem Qvy {t:List GRow}(ht:tabB t=true) {L c:Int}(hL:0≤L∧L≤(t.length:Int)-1) (hc:0≤c∧c≤1000000000):netB (apN t L c)=true:=by
 have h1:=Qn2 ht
 have e1:btw ((t.length:Int)-1) 0 ((t.length:Int)-1)=true:=Qep.2 ⟨by omega,by omega⟩
 have e2:btw L 0 ((t.length:Int)-1)=true:=Qep.2 hL
 have e3:btw 0 0 ((t.length:Int)-1)=true:=Qep.2 ⟨by omega,by omega⟩
 have e4:btw c 0 1000000000=true:=Qep.2 hc
 have a1:Qhz ⟨1,[],(t.length:Int)-1,0,1000000,1,[]⟩=true:=by unfold Qhz;rfl
 have a2:Qhz ⟨4,[⟨0,0⟩],L,0,1000000,1,[]⟩=true:=by unfold Qhz;rfl
 have a3:Qhz ⟨3,[⟨1,1⟩],0,c,1000000,1,[]⟩=true:=by
  unfold Qhz
  rw[if_pos (show(⟨3,[⟨1,1⟩],0,c,1000000,1,[]⟩:Qad).Kind=3 from rfl),e4]
  rfl
 unfold netB apN
 dsimp only
 rw[ht,Bool.true_and,List.all_cons,List.all_cons,List.all_cons,List.all_nil,a1,a2,a3]
 rw[show btw (([⟨1,[],(t.length:Int)-1,0,1000000,1,[]⟩,⟨4,[⟨0,0⟩],L,0,1000000,1,[]⟩,⟨3,[⟨1,1⟩],0,c,1000000,1,[]⟩]:List Qad).length:Int) 1 16=true from rfl]
 simp only[Qvi,Ql1,Bool.and_true,Bool.true_and,e1,e2,e3]
 have p1:Qrz [⟨1,[],(t.length:Int)-1,0,1000000,1,[]⟩,⟨4,[⟨0,0⟩],L,0,1000000,1,[]⟩,⟨3,[⟨1,1⟩],0,c,1000000,1,[]⟩] 1 L [] ⟨0,0⟩=true:=by
  show(true&&(true&&decide (L≤(t.length:Int)-1))&&true)=true
  rw[decide_eq_true hL.2]
  rfl
 have p2:Qrz [⟨1,[],(t.length:Int)-1,0,1000000,1,[]⟩,⟨4,[⟨0,0⟩],L,0,1000000,1,[]⟩,⟨3,[⟨1,1⟩],0,c,1000000,1,[]⟩] 2 0 [(0,0)] ⟨1,1⟩=true:=by
  show(true&&(true&&decide (0≤L))&&true)=true
  rw[decide_eq_true hL.1]
  rfl
 show(Qrz _ 1 L [] ⟨0,0⟩&&Qrz _ 2 0 [(0,0)] ⟨1,1⟩)=true
 rw[p1,p2]
 rfl
theorem Q89 {t:List GRow}(ht:tabB t=true) {L c:Int}(hL:0≤L∧L≤(t.length:Int)-1) (hc:0≤c∧c≤1000000000) {s:Qaa}(hs:strB s=true):Q62 (apN t L c) [0,0,0] [s]=0:=by
 have hv:=Qit.1 hs
 obtain⟨m0,m1,h0,h1,q0,q1,y0,y1⟩:=hv
 unfold Q62
 rw[Qvy ht hL hc]
 show(bif true&&true then fedI (apN t L c) [s] else 1)=0
 show fedI (apN t L c) [s]=0
 unfold fedI
 rw[show decide (([s]:List Qaa).length=wcn (apN t L c) (apN t L c).Elements.length)=true from rfl,List.all_cons,hs,List.all_nil,Qha]
 show(if s.Mass>1000000 then 3 else if s.Gas>1000000000 then 3 else 0)=(0:Int)
 rw[if_neg (by omega),if_neg (by omega)]
def apF (t:List GRow) (L:Int) (s:Qaa):Qgv:=flG (Qgy t L) s
theorem Qvz {t:List GRow}(ht:tabB t=true) {L:Int}(hL:0≤L∧L≤(t.length:Int)-1) {s:Qaa}(hs:StrV s):Zkb s (apF t L s):=
 Qu9 (Qwp ht (Qep.2 hL)).2 hs
def apC (c:Int) (s:Qaa):Int:=if s.Heat<c then s.Heat else c
theorem Zcp {t:List GRow}(ht:tabB t=true) {L c:Int}(hL:0≤L∧L≤(t.length:Int)-1) {s:Qaa}(hs:StrV s):Qul (apN t L c) [0,0,0] [s] =
  .inr ([[s],[(apF t L s).Steam,(apF t L s).Water],[⟨(apF t L s).Water.Mass,(apF t L s).Water.Heat-apC c (apF t L s).Water,(apF t L s).Water.Silica,(apF t L s).Water.Gas⟩]],
   [⟨0,0,0,0⟩,⟨0,0,0,(apF t L s).Scale⟩,⟨apC c (apF t L s).Water,0,0,0⟩],[0,(apF t L s).Scale,0],(apF t L s).Steam.Mass):=by
 have hk:=Qvz ht hL hs
 have hw:=hk.wa.m1
 have hsm:=hs.m1
 unfold Qul
 show Qov t [(⟨1,[],(t.length:Int)-1,0,1000000,1,[]⟩,0),(⟨4,[⟨0,0⟩],L,0,1000000,1,[]⟩,0),(⟨3,[⟨1,1⟩],0,c,1000000,1,[]⟩,0)] [s] [] [] [] 0=_
 have w1:∀(x:Qad),x.Wide=1000000→x.Narrow=1→widI x 0=1000000:=fun x h1 h2=>by unfold widI;rw[h1,h2];rfl
 rw[Qov,w1 _ rfl rfl,show insE [] [s] ⟨1,[],(t.length:Int)-1,0,1000000,1,[]⟩=[s] from rfl,Qha,if_neg (by omega),show actE t ⟨1,[],(t.length:Int)-1,0,1000000,1,[]⟩ s=([s],⟨0,0,0,0⟩,0) from rfl]
 rw[Qov,w1 _ rfl rfl]
 show(if (totS [s]).Mass>1000000 then _ else _)=_
 rw[Qha,if_neg (by omega)]
 show Qov t [(⟨3,[⟨1,1⟩],0,c,1000000,1,[]⟩,0)] [] ([[s]]++[(actE t ⟨4,[⟨0,0⟩],L,0,1000000,1,[]⟩ (totS [s])).1]) ([⟨0,0,0,0⟩]++[(actE t ⟨4,[⟨0,0⟩],L,0,1000000,1,[]⟩ (totS [s])).2.1]) ([0]++[0+(actE t ⟨4,[⟨0,0⟩],L,0,1000000,1,[]⟩ (totS [s])).2.1.Scale]) (0+0+(actE t ⟨4,[⟨0,0⟩],L,0,1000000,1,[]⟩ (totS [s])).2.2)=_
 rw[Qha,show actE t ⟨4,[⟨0,0⟩],L,0,1000000,1,[]⟩ s=([(apF t L s).Steam,(apF t L s).Water],⟨0,0,0,(apF t L s).Scale⟩,(apF t L s).Steam.Mass) from rfl]
 rw[Qov,w1 _ rfl rfl]
 show(if (totS [(apF t L s).Water]).Mass>1000000 then _ else _)=_
 rw[Qha,if_neg (by omega),Qov]
 show(Sum.inr ([[s],[(apF t L s).Steam,(apF t L s).Water],(actE t ⟨3,[⟨1,1⟩],0,c,1000000,1,[]⟩ (totS [(apF t L s).Water])).1],[⟨0,0,0,0⟩,⟨0,0,0,(apF t L s).Scale⟩,(actE t ⟨3,[⟨1,1⟩],0,c,1000000,1,[]⟩ (totS [(apF t L s).Water])).2.1],[0,0+(apF t L s).Scale,0+(actE t ⟨3,[⟨1,1⟩],0,c,1000000,1,[]⟩ (totS [(apF t L s).Water])).2.1.Scale],0+0+(apF t L s).Steam.Mass+(actE t ⟨3,[⟨1,1⟩],0,c,1000000,1,[]⟩ (totS [(apF t L s).Water])).2.2):Nat⊕Qs3)=_
 rw[Qha,Int.zero_add]
 show(Sum.inr ([[s],[(apF t L s).Steam,(apF t L s).Water],[⟨(apF t L s).Water.Mass,(apF t L s).Water.Heat-apC c (apF t L s).Water,(apF t L s).Water.Silica,(apF t L s).Water.Gas⟩]],[⟨0,0,0,0⟩,⟨0,0,0,(apF t L s).Scale⟩,⟨apC c (apF t L s).Water,0,0,0⟩],[0,(apF t L s).Scale,0+0],0+0+(apF t L s).Steam.Mass+0):Nat⊕Qs3)=_
 rw[Int.zero_add,Int.add_zero,Int.zero_add]
end
section
theorem Q6h (N:Nat) (l:List Qaa) (k:Unit→Option Bool) (hl:l.length≤1000):∀(m i:Nat),(l.drop i).length<m →
  Qdm N l k m i=bif (l.drop i).all strB then k () else some false:=by
 intro m
 induction m with
 |zero=>intro i h;cases h
 |succ m ih=>
  intro i h
  rw[Qdm]
  cases hd:l.drop i with
  |nil=>
   have:=Qc9 hd
   simp[show ¬((i:Int)<l.length) from by omega]
  |cons x q=>
   obtain⟨hg,hd',hlt⟩:=Qcl hd
   simp only[dlI hlt,cond_true,Qcu hg,Option.bind_some,Q6v,List.all_cons]
   cases strB x with
   |false=>rfl
   |true=>rw[Bool.not_true,cond_false,w64S (i:=i) (by omega),ih (i+1) (dlt hd hd' h),hd',Bool.true_and]
theorem Zaf {N:Nat}{l:List Qaa}(hl:l.length≤1000) (hN:1001≤N):Qhk N l=some (l.all strB):=by
 unfold Qhk
 simp only[Qcf]
 refine(Q6h N l _ hl N 0 (by simp;omega)).trans ?_
 rw[List.drop_zero]
 cases l.all strB<;>rfl
end
section
section
variable {N : Nat} {n : GNet} (hs : Qjw n) (hN : 1001 ≤ N) (hv : NetV n) {ws : List Qaa} (hf : FedV n ws) {i : Nat} {o : List (List Qaa)} {ls : List Qa9} (hI : InvT n ws i o ls) {x : Qad} (hx : n.Elements[i]? = some x)
end
section
variable {N : Nat} {n : GNet} (hs : Qjw n) (hN : 1001 ≤ N) (hv : NetV n) {ws : List Qaa} (hf : FedV n ws) {st : List Int} (hst : StV n st)
end
end
section
theorem Q15 (i:Nat):∀(r:List Qaa) (j:Nat),Qob i j r=(List.range r.length).map fun k:Nat=>(((i:Int),((j+k:Nat):Int)),r.getD k zs)
 |[],_=>rfl
 |x::r,j=>by
  rw[Qob,Q15 i r (j+1),List.length_cons,List.range_succ_eq_map,List.map_cons,List.map_map]
  congr 1
  apply List.map_congr_left
  intro k _
  simp[show j+1+k=j+(k+1) by omega]
theorem Qtq (O:List (List Qaa)):∀(els:List Qad) (o pre:List (List Qaa)),O=pre++o→els.length=o.length→(∀(k:Nat) y r,els[k]? = some y→o[k]? = some r→(r.length:Int)=outl y) →
  Qg7 pre.length o=(Qwz pre.length els).map fun p=>(pq p,Qg0 O p)
 |[],[],_,_,_,_=>rfl
 |x::els,r::o,pre,hO,hl,hr=>by
  have h1:=hr 0 x r rfl rfl
  have ih:=Qtq O els o (pre++[r]) (by rw[hO];simp) (by simpa using hl) fun k y q hy hq=>hr (k+1) y q (by simpa using hy) (by simpa using hq)
  rw[List.length_append,List.length_singleton] at ih
  rw[Qg7,Qwz,List.map_append,ih,Q15,List.map_map,show(outl x).toNat=r.length by omega]
  congr 1
  apply List.map_congr_left
  intro k hk
  have hk':=List.mem_range.1 hk
  have hg:O.getD pre.length []=r:=by rw[hO,List.getD_eq_getElem?_getD,List.getElem?_append_right (Nat.le_refl _),Nat.sub_self];rfl
  simp only[Function.comp,pq,Qg0,Int.toNat_natCast,hg,Nat.zero_add]
 |[],_::_,_,_,h,_=>by simp at h
 |_::_,[],_,_,h,_=>by simp at h
section
variable {n : GNet} (hv : NetV n) {ws : List Qaa} {o : List (List Qaa)} {ls : List Qa9} (hI : InvT n ws n.Elements.length o ls)
include hI
theorem Q67:Qg7 0 o=(Qwz 0 n.Elements).map fun p=>(pq p,Qg0 o p):=Qtq o n.Elements o [] rfl hI.lo.symm hI.rows
theorem Zf1 {p:Qeg}(hp:p∈Zgy n):0≤p.Element∧0≤p.Outlet∧∃r,o[p.Element.toNat]? = some r∧r[p.Outlet.toNat]? = some (Qg0 o p):=by
 have h1:(pq p,Qg0 o p)∈Qg7 0 o:=by
  rw[Q67 hI]
  exact List.mem_map.2 ⟨p,(List.mem_filter.1 hp).1,rfl⟩
 obtain⟨a,b,r,c,d⟩:=Qm1.1 h1
 refine⟨by simpa using a,b,r,?_,d⟩
 rw[show(p.Element-((0:Nat):Int)).toNat=p.Element.toNat by simp] at c
 exact c
end
theorem Qwi (N:Nat) (l:List Qaa) (k:List Qaa→Option (List Qaa)) (hl:l.length≤1000):∀(m i:Nat) (acc:List Qaa),(l.drop i).length<m→acc.length=i→Qdo N l k m acc i=k (acc++l.drop i):=by
 intro m
 induction m with
 |zero=>intro i _ h;cases h
 |succ m ih=>
  intro i acc h ha
  rw[Qdo]
  cases hd:l.drop i with
  |nil=>
   have:=Qc9 hd
   simp[show ¬((i:Int)<l.length) from by omega]
  |cons p q=>
   obtain⟨hg,hd',hlt⟩:=Qcl hd
   simp only[dlI hlt,cond_true,Qcu hg,Qhf,Option.bind_some,chk]
   rw[show decide ((acc.length+[p].length)*32≤140737488355328)=true by simp;omega,cond_true,w64S (i:=i) (by omega),
    ih (i+1) _ (dlt hd hd' h) (by simp[ha]),hd',List.append_assoc]
   rfl
theorem Q3f {N:Nat}{l:List Qaa}(hl:l.length≤1000) (hN:1001≤N):Qhm N l=some l:=by
 unfold Qhm
 simp only[Qcf]
 refine(Qwi N l _ hl N 0 [] (by simp;omega) rfl).trans ?_
 rw[List.drop_zero,List.nil_append]
end
section
end
section
end
section
theorem Qog {α:Type}(l:List α) (c:Nat) (hc:c≤100) (h:l.length≤1000):(bif l.isEmpty then some ([]:List α) else chk (decide ((([]:List α).length+l.length)*c≤140737488355328))<|some ([]++l))=some l:=by
 cases l with
 |nil=>rfl
 |cons x q=>
  have h1:(([]:List α).length+(x::q).length)*c≤1000*100:=Nat.mul_le_mul (by simpa using h) hc
  rw[show(x::q).isEmpty=false from rfl,cond_false,List.nil_append]
  unfold chk
  rw[decide_eq_true (show(([]:List α).length+(x::q).length)*c≤140737488355328 by omega),cond_true]
theorem Q8p (N:Nat) {l:List GRow}(h:l.length≤1000):Qcc N l=some l:=Qog l 40 (by omega) h
theorem Q8q (N:Nat) {l:List Qeg}(h:l.length≤1000):Qcj N l=some l:=Qog l 16 (by omega) h
theorem Q8r (N:Nat) {l:List Int}(h:l.length≤1000):Qeu N l=some l:=Qog l 8 (by omega) h
def lev (x:Qad) (v:Int):Qad:=⟨x.Kind,x.From,v,x.Amount,x.Wide,x.Narrow,x.Weights⟩
def putL:List Qad→List (Int×Int)→List Qad
 |acc,[]=>acc
 |acc,(i,v)::q=>putL (match acc[i.toNat]? with |some x=>acc.set i.toNat (lev x v) |none=>acc) q
theorem Qo2:∀(q:List (Int×Int)) (acc:List Qad),(putL acc q).length=acc.length
 |[],_=>rfl
 |(i,v)::q,acc=>by
  rw[putL,Qo2 q]
  split<;>simp
theorem Q1f:∀(q:List (Int×Int)) (acc:List Qad),∀y∈putL acc q,∃x∈acc,y.From=x.From∧y.Weights=x.Weights
 |[],_,y,h=>⟨y,h,rfl,rfl⟩
 |(i,v)::q,acc,y,h=>by
  rw[putL] at h
  obtain⟨x,hx,h1,h2⟩:=Q1f q _ y h
  cases hg:acc[i.toNat]? with
  |none=>rw[hg] at hx;exact⟨x,hx,h1,h2⟩
  |some z=>
   rw[hg] at hx
   dsimp only at hx
   rcases List.mem_or_eq_of_mem_set hx with hx |rfl
   ·exact⟨x,hx,h1,h2⟩
   ·exact⟨z,List.mem_of_getElem? hg,h1,h2⟩
def setN (n:GNet) (v:List Int):GNet:=⟨n.Table,putL n.Elements ((ofL 4 0 n.Elements).zip v)⟩
theorem Q3k {n:GNet}(hs:Qjw n) (v:List Int):Qjw (setN n v):=by
 refine⟨hs.t,?_,fun y hy=>?_⟩
 ·unfold setN
  rw[Qo2]
  exact hs.e
 ·obtain⟨x,hx,h1,h2⟩:=Q1f _ _ y hy
  rw[h1,h2]
  exact hs.x x hx
theorem Zji {n:GNet}{z:Int}(h:z∈ofL 4 0 n.Elements):0≤z∧z.toNat<n.Elements.length:=by
 have:=Quz 4 n.Elements 0 z h
 omega
section
variable {N : Nat} {n : GNet} (hs : Qjw n) (hN : 1001 ≤ N)
include hs
theorem Q6q (k:List Qad→Option GNet):∀(m i:Nat),(n.Elements.drop i).length<m→Qen N n k m i n.Elements=k n.Elements:=by
 have e0:=hs.e
 intro m
 induction m with
 |zero=>intro i h;cases h
 |succ m ih=>
  intro i h
  rw[Qen]
  cases hd:n.Elements.drop i with
  |nil=>
   have:=Qc9 hd
   simp[show ¬((i:Int)<n.Elements.length) from by omega]
  |cons x q=>
   obtain⟨hg,hd',hlt⟩:=Qcl hd
   have hx:=hs.x x (List.mem_of_getElem? hg)
   have hset:n.Elements.set i x=n.Elements:=by
    rw[List.getElem?_eq_getElem hlt] at hg
    cases hg
    exact List.set_getElem_self hlt
   simp only[dlI hlt,cond_true,Qcu hg,Option.bind_some,Q8q N (show x.From.length≤1000 by omega),Q8r N (show x.Weights.length≤1000 by omega),Int.toNat_natCast,chk,hg]
   rw[show(decide ((0:Int)≤(i:Int))&&decide (i<n.Elements.length))=true by simp;omega]
   simp only[cond_true,show(⟨x.Kind,x.From,x.Level,x.Amount,x.Wide,x.Narrow,x.Weights⟩:Qad)=x from rfl,hset,hg,Option.bind_some]
   rw[w64S (i:=i) (by omega)]
   exact ih (i+1) (dlt hd hd' h)
theorem Zaq (v:List Int) (hv:v.length=(ofL 4 0 n.Elements).length) (k:List Qad→Option GNet):∀(m j:Nat) (acc:List Qad),((ofL 4 0 n.Elements).drop j).length<m→acc.length=n.Elements.length →
  Qeo N n v k (ofL 4 0 n.Elements) m j acc=k (putL acc (((ofL 4 0 n.Elements).drop j).zip (v.drop j))):=by
 have e0:=hs.e
 have e1:(ofL 4 0 n.Elements).length≤n.Elements.length:=by rw[Qlc];exact List.length_filter_le _ _
 intro m
 induction m with
 |zero=>intro j _ h;cases h
 |succ m ih=>
  intro j acc h ha
  rw[Qeo]
  cases hd:(ofL 4 0 n.Elements).drop j with
  |nil=>
   have:=Qc9 hd
   simp[show ¬((j:Int)<(ofL 4 0 n.Elements).length) from by omega,putL]
  |cons z q=>
   obtain⟨hg,hd',hlt⟩:=Qcl hd
   obtain⟨z0,z1⟩:=Zji (List.mem_of_getElem? hg)
   have hgv:v[j]? = some (v[j]'(by omega)):=List.getElem?_eq_getElem _
   have hgx:acc[z.toNat]? = some (acc[z.toNat]'(by omega)):=List.getElem?_eq_getElem _
   rw[show v.drop j=v[j]'(by omega)::v.drop (j+1) from List.drop_eq_getElem_cons (by omega),List.zip_cons_cons,putL,hgx]
   simp only[dlI hlt,cond_true,Qcu hg,Qcu hgv,Option.bind_some,chk,hgx]
   rw[show(decide ((0:Int)≤z)&&decide (z.toNat<n.Elements.length))=true by simp;omega,cond_true,w64S (i:=j) (by omega)]
   rw[←hd']
   exact ih (j+1) _ (dlt hd hd' h) (by rw[List.length_set];exact ha)
include hN
theorem Zfo {v:List Int}(hv:v.length=(ofL 4 0 n.Elements).length) (hne:1≤n.Elements.length):Qju N n v=some (setN n v):=by
 have e0:=hs.e
 have t0:=hs.t
 have e1:(ofL 4 0 n.Elements).length≤n.Elements.length:=by rw[Qlc];exact List.length_filter_le _ _
 have hE:(!n.Elements.isEmpty)=true:=by
  cases h:n.Elements with
  |nil=>rw[h] at hne;simp at hne
  |cons=>rfl
 unfold Qju Qbm
 simp only[Q8p N (show n.Table.length≤1000 by omega),Option.bind_some,chk,hE,cond_true]
 rw[show decide ((0+n.Elements.length)*88≤140737488355328)=true by simp;omega,cond_true,Option.bind_some,Qhp]
 refine(Q6q hs _ N 0 (by simp;omega)).trans ?_
 rw[Qhp,Q1n hs hN 4,Option.bind_some]
 refine(Zaq hs v hv _ N 0 _ (by simp;omega) rfl).trans ?_
 rw[List.drop_zero,List.drop_zero]
 show(bif decide (n.Elements.length≤(putL n.Elements _).length) then _ else _)=_
 rw[Qo2,decide_eq_true (Nat.le_refl _),cond_true,List.take_of_length_le (by rw[Qo2];exact Nat.le_refl _)]
 rfl
end
end
section
def Qxl (n:GNet):List (List Qaa)→Int
 |[]=>0
 |c::l=>if fedI n c=0 then Qxl n l else fedI n c
def Qjo (n:GNet) (st:List Int) (l:List (List Qaa)):Int:=bif netB n&&stB n st then(bif btw l.length 1 6 then Qxl n l else 3) else 1
section
variable {N : Nat} {n : GNet} (hs : Qjw n) (hN : 1001 ≤ N) {l : List (List Qaa)} (hl : l.length ≤ 1000) (hc : ∀ c ∈ l, c.length ≤ 1000)
include hs hN hl hc
theorem Qzd (k:Unit→Option Int) (hk:k ()=some 0):∀(m i:Nat),(l.drop i).length<m→Qem N n l k m i=some (Qxl n (l.drop i)):=by
 intro m
 induction m with
 |zero=>intro i h;cases h
 |succ m ih=>
  intro i h
  rw[Qem]
  cases hd:l.drop i with
  |nil=>
   have:=Qc9 hd
   rw[decide_eq_false (show ¬((i:Int)<(l.length:Int)) by omega),cond_false,hk]
   rfl
  |cons p q=>
   obtain⟨hg,hd',hlt⟩:=Qcl hd
   simp only[dlI hlt,cond_true,Qcu hg,Option.bind_some,Zjv hs hN (hc p (List.mem_of_getElem? hg))]
   rw[w64S (i:=i) (by omega),ih (i+1) (dlt hd hd' h),hd',Qxl]
   by_cases h0:fedI n p=0
   ·rw[h0,if_pos rfl];rfl
   ·rw[if_neg h0,show(fedI n p != 0)=true by simpa using h0,cond_true]
theorem Q1z {st:List Int}(hl2:st.length≤1000):Qim N n st l=some (Qjo n st l):=by
 unfold Qim Qjo
 rw[Q6j hs hN hl2,Option.bind_some]
 cases netB n&&stB n st with
 |false=>rfl
 |true=>
  rw[cond_true,cond_true,bne_self_eq_false,cond_false,Qil,Option.bind_some]
  cases btw (l.length:Int) 1 6 with
  |false=>rfl
  |true=>
   rw[Bool.not_true,cond_false,Qhp,cond_true]
   refine(Qzd hs hN hl hc _ rfl N 0 (by simp;omega)).trans ?_
   rw[List.drop_zero]
end
def Qj4 (n:GNet) (c:List Qaa) (r:Qs3):Qdp:=⟨n,⟨r.1,r.2.1,r.2.2.1⟩,c,r.2.2.2⟩
def Qm5 (n:GNet) (st:List Int):List (List Qaa)→Option (List Qdp)
 |[]=>some []
 |c::l=>Qzm (Qul n st c) (fun _=>none) (fun r=>(Qm5 n st l).map (Qj4 n c r :: ·))
theorem Q13 {n:GNet}:∀{l:List (List Qaa)},Qxl n l=0→∀c∈l,FedV n c
 |[],_,c,h=>by cases h
 |d::l,h0,c,h=>by
  rw[Qxl] at h0
  by_cases hd:fedI n d=0
  ·rw[if_pos hd] at h0
   rcases List.mem_cons.1 h with rfl |h
   ·exact Zgc hd
   ·exact Q13 h0 c h
  ·rw[if_neg hd] at h0
   exact absurd h0 hd
def Zca (n:GNet) (st:List Int) (l:List (List Qaa)):List Qdp×Bool:=match Qm5 n st l with |some w=>(w,true) |none=>([],false)
theorem Q8l {N:Nat}{n:GNet}(hs:Qjw n) (hN:1001≤N) (hv:NetV n) {st:List Int}(hst:StV n st) {l:List (List Qaa)}(hl:l.length≤1000) (hf:∀c∈l,FedV n c):∀(m i:Nat) (acc:List Qdp),(l.drop i).length<m→acc.length=i →
  Qc5 N n st (fun y=>some (y,true)) l m acc i=some (match Qm5 n st (l.drop i) with |some w=>(acc++w,true) |none=>([],false)):=by
 intro m
 induction m with
 |zero=>intro i _ h;cases h
 |succ m ih=>
  intro i acc h ha
  rw[Qc5]
  cases hd:l.drop i with
  |nil=>
   have:=Qc9 hd
   rw[decide_eq_false (show ¬((i:Int)<(l.length:Int)) by omega),cond_false,Qm5]
   simp
  |cons c q=>
   obtain⟨hg,hd',hlt⟩:=Qcl hd
   have hfc:=hf c (List.mem_of_getElem? hg)
   rw[decide_eq_true (show(i:Int)<(l.length:Int) by omega),cond_true,Qcu hg,Option.bind_some,Zlh hs hN hv hfc hst,Qm5]
   cases hT:Qul n st c with
   |inl a=>
    simp only[Qzm,Option.bind_some,Sum.elim_inl]
    rw[decide_eq_true (show(a:Int)≥0 by omega),cond_true]
   |inr r=>
    have hR:=Q1b hv hfc hst hT
    have e1:=hR.inv.lo
    have e2:=hR.inv.ll
    have e0:=Qwj hst
    have e3:r.2.2.1.length=n.Elements.length:=by rw[hR.ss,List.length_zipWith];omega
    simp only[Qzm,Option.bind_some,Sum.elim_inr,show decide ((-1:Int)≥0)=false from rfl,cond_false,chk,Int.toNat_natCast]
    rw[show decide (n.Elements.length≤r.1.length)=true by simp;omega,show decide (n.Elements.length≤r.2.1.length)=true by simp;omega,show decide (st.length≤r.2.2.1.length)=true by simp;omega,List.take_of_length_le (by omega),List.take_of_length_le (by omega),List.take_of_length_le (by omega),cond_true,cond_true,cond_true]
    have hih:=ih (i+1) (acc++[Qj4 n c r]) (dlt hd hd' h) (by simp[ha])
    rw[hd'] at hih
    show(bif decide ((acc.length+[Qj4 n c r].length)*8≤140737488355328) then Qc5 N n st (fun y=>some (y,true)) l m (acc++[Qj4 n c r]) (w64 ((i:Int)+1)) else none)=_
    rw[show decide ((acc.length+[Qj4 n c r].length)*8≤140737488355328)=true by simp;omega,cond_true,w64S (i:=i) (by omega),hih]
    cases Qm5 n st q with
    |none=>rfl
    |some w=>simp
theorem Q8m {N:Nat}{n:GNet}(hs:Qjw n) (hN:1001≤N) (hv:NetV n) {st:List Int}(hst:StV n st) {l:List (List Qaa)}(hl:l.length≤1000) (hf:∀c∈l,FedV n c):Qgx N n st l=some (Zca n st l):=by
 unfold Qgx
 rw[Qhp]
 refine(Q8l hs hN hv hst hl hf N 0 [] (by simp;omega) rfl).trans ?_
 unfold Zca
 rw[List.drop_zero]
 cases Qm5 n st l<;>rfl
def fstL:Nat→List Qa9→Option Nat
 |_,[]=>none
 |i,x::l=>if x.Scale>0 then some i else fstL (i+1) l
def unsL:Nat→List Qdp→Int×Int
 |_,[]=>(-1,-1)
 |k,w::l=>match fstL 0 w.Tick.Lost with |some i=>((k:Int),(i:Int)) |none=>unsL (k+1) l
end
section
def wdR (r:Qk4) (v:Int):Qk4:=⟨if v<r.Lo then v else r.Lo,if v>r.Hi then v else r.Hi⟩
def rngF (f:Qdp→Int):List Qdp→Qk4
 |[]=>⟨0,0⟩
 |w::l=>l.foldl (fun r x=>wdR r (f x)) ⟨f w,f w⟩
def Has (w:Qdp) (p:Qeg):Prop:=∃r,getI w.Tick.Out p.Element=some r∧getI r p.Outlet=some (Qg0 w.Tick.Out p)
def Zjw (p:Qeg) (w:Qdp):Int:=(Qg0 w.Tick.Out p).Mass
def Zjx (p:Qeg) (w:Qdp):Int:=(Qg0 w.Tick.Out p).Heat
def Q70 (p:Qeg) (w:Qdp):Int:=(Qg0 w.Tick.Out p).Silica
def fGas (p:Qeg) (w:Qdp):Int:=(Qg0 w.Tick.Out p).Gas
end
section
theorem Zjt {n:GNet}{ws:List Qaa}{r:Qs3}(hI:InvT n ws n.Elements.length r.1 r.2.1) {p:Qeg}(hp:p∈Zgy n) (c:List Qaa):Has (Qj4 n c r) p:=by
 obtain⟨h1,h2,q,h3,h4⟩:=Zf1 hI hp
 exact⟨q,by show getI r.1 p.Element=_;unfold getI;rw[if_pos h1,h3],by unfold getI;rw[if_pos h2,h4];rfl⟩
section
variable {N : Nat} {n : GNet} (hs : Qjw n) (hN : 1001 ≤ N)
include hs
end
end
section
section
variable {N : Nat} {n : GNet} (hs : Qjw n) (hN : 1001 ≤ N) (hv : NetV n) {st : List Int} (hst : StV n st) {l : List (List Qaa)} (hl : l.length ≤ 1000) (hf : ∀ c ∈ l, FedV n c)
include hs hN hv hst hl hf
end
end
section
theorem Q3a (N:Nat) (y:Int) (w:Qdp) (hL:w.Tick.Lost.length≤1000) (k:Unit→Option (Int×Int)):∀(m j:Nat),(w.Tick.Lost.drop j).length<m→Qea N y k w m j=match fstL j (w.Tick.Lost.drop j) with |some q=>some (y,(q:Int)) |none=>k ():=by
 intro m
 induction m with
 |zero=>intro j h;cases h
 |succ m ih=>
  intro j h
  rw[Qea]
  cases hd:w.Tick.Lost.drop j with
  |nil=>
   have:=Qc9 hd
   rw[decide_eq_false (show ¬((j:Int)<(w.Tick.Lost.length:Int)) by omega),cond_false,fstL]
  |cons x q=>
   obtain⟨hg,hd',hlt⟩:=Qcl hd
   rw[decide_eq_true (show(j:Int)<(w.Tick.Lost.length:Int) by omega),cond_true,Qcu hg,Option.bind_some,fstL]
   by_cases hx:x.Scale>0
   ·rw[decide_eq_true hx,cond_true,if_pos hx]
   ·rw[decide_eq_false hx,cond_false,if_neg hx,w64S (i:=j) (by omega),ih (j+1) (dlt hd hd' h),hd']
theorem Q59 {N:Nat}(hN:1001≤N) (W:List Qdp) (hl:W.length≤1000) (hL:∀w∈W,w.Tick.Lost.length≤1000):∀(m i:Nat),(W.drop i).length<m→Qeb N W (fun _=>some (-1,-1)) m i=some (unsL i (W.drop i)):=by
 intro m
 induction m with
 |zero=>intro i h;cases h
 |succ m ih=>
  intro i h
  rw[Qeb]
  cases hd:W.drop i with
  |nil=>
   have:=Qc9 hd
   rw[decide_eq_false (show ¬((i:Int)<(W.length:Int)) by omega),cond_false,unsL]
  |cons w q=>
   obtain⟨hg,hd',hlt⟩:=Qcl hd
   have hw:=hL w (List.mem_of_getElem? hg)
   rw[decide_eq_true (show(i:Int)<(W.length:Int) by omega),cond_true,Qhp,Qcu hg,Option.bind_some]
   refine(Q3a N (i:Int) w hw _ N 0 (by simp;omega)).trans ?_
   rw[List.drop_zero,unsL]
   cases fstL 0 w.Tick.Lost with
   |some z=>rfl
   |none=>
    dsimp only
    rw[w64S (i:=i) (by omega),ih (i+1) (dlt hd hd' h),hd']
theorem Q6a {N:Nat}(hN:1001≤N) {W:List Qdp}(hl:W.length≤1000) (hL:∀w∈W,w.Tick.Lost.length≤1000):Qhx N W=some (unsL 0 W):=by
 unfold Qhx
 rw[Qhp]
 have:=Q59 hN W hl hL N 0 (by simp;omega)
 rw[List.drop_zero] at this
 exact this
theorem Qsl {n:GNet}(hs:Qjw n) (hv:NetV n) {st:List Int}(hst:StV n st):∀{l:List (List Qaa)}{W:List Qdp},(∀c∈l,FedV n c)→Qm5 n st l=some W→W.length=l.length∧∀w∈W,w.Tick.Lost.length≤1000∧∀p∈Zgy n,Has w p
 |[],W,_,h=>by rw[Qm5] at h;cases h;simp
 |c::l,W,hf,h=>by
  have hfc:=hf c List.mem_cons_self
  rw[Qm5] at h
  cases hT:Qul n st c with
  |inl a=>rw[hT] at h;cases h
  |inr r=>
   rw[hT] at h
   have hR:=Q1b hv hfc hst hT
   have hll:=hR.inv.ll
   have e0:=hs.e
   have h':(Qm5 n st l).map (Qj4 n c r :: ·)=some W:=h
   rw[Option.map_eq_some_iff] at h'
   obtain⟨W',h1,rfl⟩:=h'
   obtain⟨a,b⟩:=Qsl hs hv hst (fun d hd=>hf d (List.mem_cons_of_mem _ hd)) h1
   refine⟨by simp[a],fun w hw=>?_⟩
   rcases List.mem_cons.1 hw with rfl |hw
   ·exact⟨by show r.2.1.length≤1000;omega,fun p hp=>Zjt hR.inv hp c⟩
   ·exact b w hw
def unsA (n:GNet) (st:List Int) (l:List (List Qaa)):Int×Int×Int:=if Qjo n st l=0 then(match Qm5 n st l with |some W=>((unsL 0 W).1,(unsL 0 W).2,0) |none=>(0,0,11)) else(0,0,Qjo n st l)
theorem Qxj {n:GNet}{st:List Int}{l:List (List Qaa)}(h:Qjo n st l=0):NetV n∧StV n st∧(∀c∈l,FedV n c)∧1≤l.length:=by
 unfold Qjo at h
 cases hb:netB n&&stB n st with
 |false=>rw[hb] at h;cases h
 |true=>
  rw[hb,cond_true] at h
  rw[Bool.and_eq_true] at hb
  cases h6:btw (l.length:Int) 1 6 with
  |false=>rw[h6] at h;cases h
  |true=>
   rw[h6,cond_true] at h
   have:=Qep.1 h6
   exact⟨Qy6 hb.1,Zjb hb.2,Q13 h,by omega⟩
section
variable {N : Nat} {n : GNet} (hs : Qjw n) (hN : 1001 ≤ N) {l : List (List Qaa)} (hl : l.length ≤ 1000) (hc : ∀ c ∈ l, c.length ≤ 1000) {st : List Int} (hl2 : st.length ≤ 1000)
include hs hN hl hc hl2
theorem Zfc:Qgl N n st l=some (unsA n st l):=by
 unfold Qgl unsA
 rw[Q1z hs hN hl hc hl2,Option.bind_some]
 by_cases hg:Qjo n st l=0
 ·obtain⟨hv,hst,hf,h1⟩:=Qxj hg
  rw[if_pos hg,hg,bne_self_eq_false,cond_false,Q8m hs hN hv hst hl hf,Option.bind_some]
  unfold Zca
  cases hd:Qm5 n st l with
  |none=>rfl
  |some W=>
   obtain⟨a,b⟩:=Qsl hs hv hst hf hd
   dsimp only
   rw[Bool.not_true,cond_false,Q6a hN (by omega) fun w hw=>(b w hw).1,Option.bind_some]
 ·rw[if_neg hg,show(Qjo n st l != 0)=true by simpa using hg,cond_true]
end
end
section
structure StT (n:GNet) (st:List Int) (t:Nat):Prop where
 len:st.length=n.Elements.length
 bd:∀d∈st,0≤d∧d≤1000000000000+10000000000*(t:Int)
theorem StT.v {n:GNet}{st:List Int}{t:Nat}(h:StT n st t) (ht:t≤1000):StV n st:=
 ⟨h.len,fun d hd=>by have:=h.bd d hd;omega⟩
section
variable {N : Nat} {n : GNet} (hs : Qjw n) (hN : 1001 ≤ N) (hv : NetV n) {ws : List Qaa} (hf : FedV n ws) {most : Nat} (hm : most ≤ 1000)
include hs hN hv hf hm
end
end
section
theorem Q56 (f:Qdp→Int):∀(l:List Qdp) (r:Qk4),r.Lo≤r.Hi →
  (l.foldl (fun r x=>wdR r (f x)) r).Lo≤r.Lo∧r.Hi≤(l.foldl (fun r x=>wdR r (f x)) r).Hi∧(∀x∈l,(l.foldl (fun r x=>wdR r (f x)) r).Lo≤f x∧f x≤(l.foldl (fun r x=>wdR r (f x)) r).Hi) ∧
  ((l.foldl (fun r x=>wdR r (f x)) r).Lo=r.Lo∨∃x∈l,f x=(l.foldl (fun r x=>wdR r (f x)) r).Lo)∧((l.foldl (fun r x=>wdR r (f x)) r).Hi=r.Hi∨∃x∈l,f x=(l.foldl (fun r x=>wdR r (f x)) r).Hi)
 |[],r,_=>⟨Int.le_refl _,Int.le_refl _,fun x h=>(by cases h),.inl rfl,.inl rfl⟩
 |w::l,r,h=>by
  rw[List.foldl_cons]
  have hw:(wdR r (f w)).Lo≤r.Lo∧(wdR r (f w)).Lo≤f w∧r.Hi≤(wdR r (f w)).Hi∧f w≤(wdR r (f w)).Hi∧((wdR r (f w)).Lo=r.Lo∨(wdR r (f w)).Lo=f w)∧((wdR r (f w)).Hi=r.Hi∨(wdR r (f w)).Hi=f w):=by
   unfold wdR
   dsimp only
   split<;>split<;>omega
  obtain⟨a,b,c,d,e⟩:=Q56 f l (wdR r (f w)) (by omega)
  refine⟨by omega,by omega,fun x hx=>?_,?_,?_⟩
  ·rcases List.mem_cons.1 hx with rfl |hx
   ·omega
   ·exact c x hx
  ·rcases d with d |⟨x,hx,d⟩
   ·rcases hw.2.2.2.2.1 with h1 |h1
    ·exact .inl (by omega)
    ·exact .inr ⟨w,List.mem_cons_self,by omega⟩
   ·exact .inr ⟨x,List.mem_cons_of_mem _ hx,d⟩
  ·rcases e with e |⟨x,hx,e⟩
   ·rcases hw.2.2.2.2.2 with h1 |h1
    ·exact .inl (by omega)
    ·exact .inr ⟨w,List.mem_cons_self,by omega⟩
   ·exact .inr ⟨x,List.mem_cons_of_mem _ hx,e⟩
theorem Zjg (f:Qdp→Int) {W:List Qdp}(h:W≠[]):(∀x∈W,(rngF f W).Lo≤f x∧f x≤(rngF f W).Hi)∧(∃x∈W,f x=(rngF f W).Lo)∧∃x∈W,f x=(rngF f W).Hi:=by
 cases W with
 |nil=>exact absurd rfl h
 |cons w l=>
  obtain⟨a,b,c,d,e⟩:=Q56 f l ⟨f w,f w⟩ (Int.le_refl _)
  rw[rngF]
  refine⟨fun x hx=>?_,?_,?_⟩
  ·rcases List.mem_cons.1 hx with rfl |hx
   ·exact⟨a,b⟩
   ·exact c x hx
  ·rcases d with d |⟨x,hx,d⟩
   ·exact⟨w,List.mem_cons_self,d.symm⟩
   ·exact⟨x,List.mem_cons_of_mem _ hx,d⟩
  ·rcases e with e |⟨x,hx,e⟩
   ·exact⟨w,List.mem_cons_self,e.symm⟩
   ·exact⟨x,List.mem_cons_of_mem _ hx,e⟩
structure InC (s:Qaa) (W:List Qdp) (p:Qeg):Prop where
 m:(rngF (Zjw p) W).Lo≤s.Mass∧s.Mass≤(rngF (Zjw p) W).Hi
 h:(rngF (Zjx p) W).Lo≤s.Heat∧s.Heat≤(rngF (Zjx p) W).Hi
 q:(rngF (Q70 p) W).Lo≤s.Silica∧s.Silica≤(rngF (Q70 p) W).Hi
 g:(rngF (fGas p) W).Lo≤s.Gas∧s.Gas≤(rngF (fGas p) W).Hi
end
section
theorem getO {α β:Type}(l:List α) (y:Int) (f:α→Option β):(chk (decide (0≤y)&&decide (y.toNat<l.length))<|(l[y.toNat]?).bind f)=(getI l y).bind f:=by
 unfold getI
 by_cases h:0≤y
 ·rw[if_pos h,decide_eq_true h,Bool.true_and]
  by_cases h2:y.toNat<l.length
  ·rw[decide_eq_true h2];rfl
  ·rw[decide_eq_false h2,List.getElem?_eq_none (by omega)];rfl
 ·rw[if_neg h,decide_eq_false h];rfl
theorem Zjf (N:Nat) (n:GNet) (v:List Int) (k:List Qad→Option GNet) (x:List Int):∀(m:Nat) (y:Int) (acc:List Qad),Qdi N n v.length v k x m y acc=Qeo N n v k x m y acc:=by
 intro m
 induction m with
 |zero=>intros;rfl
 |succ m ih=>
  intro y acc
  rw[Qdi,Qeo]
  simp only[ih,getO]
theorem Zje (N:Nat) (n:GNet) (k:List Qad→Option GNet):∀(m:Nat) (y:Int) (acc:List Qad),Qdh N n k m y acc=Qen N n k m y acc:=by
 intro m
 induction m with
 |zero=>intros;rfl
 |succ m ih=>
  intro y acc
  rw[Qdh,Qen]
  simp only[ih]
theorem Zam (N:Nat) (n:GNet) (v:List Int):Qg3 N n v.length v=Qju N n v:=by
 unfold Qg3 Qju
 simp only[Zjf,Zje]
theorem Qwx:∀(q:List (Int×Int)) (acc:List Qad),(putL acc q).map (fun x=>x.Kind)=acc.map fun x=>x.Kind
 |[],_=>rfl
 |(i,v)::q,acc=>by
  rw[putL,Qwx q]
  cases hg:acc[i.toNat]? with
  |none=>rfl
  |some x=>
   dsimp only
   rw[List.map_set]
   exact Qo0 (by rw[List.getElem?_map,hg];rfl)
theorem cntF (k:Int):∀(l:List Qad),(l.filter fun x=>decide (x.Kind=k)).length=((l.map fun x=>x.Kind).filter fun z=>decide (z=k)).length
 |[]=>rfl
 |x::l=>by
  rw[List.map_cons,List.filter_cons,List.filter_cons]
  by_cases h:x.Kind=k
  ·rw[if_pos (by simpa using h),if_pos (by simpa using h),List.length_cons,List.length_cons,cntF k l]
  ·rw[if_neg (by simpa using h),if_neg (by simpa using h),cntF k l]
theorem Q6o (n:GNet) (v:List Int):(setN n v).Elements.length=n.Elements.length:=by unfold setN;rw[Qo2]
theorem Zfn (n:GNet) (v:List Int) (m:Nat):wcn (setN n v) m=wcn n m:=by
 unfold wcn setN
 rw[cntF,cntF,List.map_take,List.map_take,Qwx]
theorem Q6p {n:GNet}(v:List Int) {ws:List Qaa}(h:FedV n ws):FedV (setN n v) ws:=⟨by rw[Q6o,Zfn];exact h.len,h.v,h.m,h.g⟩
theorem Zdw {n:GNet}(v:List Int) {st:List Int}(h:StV n st):StV (setN n v) st:=⟨by rw[Q6o];exact h.len,h.bd⟩
def fStm (w:Qdp):Int:=w.steam
def stmA (n:GNet) (st:List Int) (l:List (List Qaa)) (v:List Int):Int:=
 bif netB (setN n v) then(match Qm5 (setN n v) st l with |none=>-1 |some W=>if (unsL 0 W).1≥0 then -1 else(rngF fStm W).Lo) else -1
abbrev BS:=Int×List Int×Bool
def stp (n:GNet) (st:List Int) (l:List (List Qaa)) (a:BS) (v:List Int):BS:=if stmA n st l v>a.1 then(stmA n st l v,v,true) else a
theorem Zdv (n:GNet) (st:List Int) (l:List (List Qaa)):∀(L:List (List Int)) (a:BS),-1≤a.1→-1≤(L.foldl (stp n st l) a).1
 |[],_,h=>h
 |v::L,a,h=>by
  rw[List.foldl_cons]
  refine Zdv n st l L _ ?_
  unfold stp
  split
  ·dsimp only;omega
  ·exact h
theorem Q3j (N:Nat) (W:List Qdp) (hl:W.length≤1000) (k:Int×Int→Option Qk4):∀(m i:Nat) (r:Qk4),((W.drop 1).drop i).length<m→Qb6 N W k m i r.Lo r.Hi=k ((((W.drop 1).drop i).foldl (fun r x=>wdR r (fStm x)) r).Lo,(((W.drop 1).drop i).foldl (fun r x=>wdR r (fStm x)) r).Hi):=by
 intro m
 induction m with
 |zero=>intro i _ h;cases h
 |succ m ih=>
  intro i r h
  rw[Qb6,show(1:Int).toNat=1 from rfl]
  have hl1:(W.drop 1).length≤1000:=by rw[List.length_drop];omega
  cases hd:(W.drop 1).drop i with
  |nil=>
   have:=Qc9 hd
   rw[decide_eq_false (show ¬((i:Int)<((W.drop 1).length:Int)) by omega),cond_false]
   rfl
  |cons w q=>
   obtain⟨hg,hd',hlt⟩:=Qcl hd
   rw[decide_eq_true (show(i:Int)<((W.drop 1).length:Int) by omega),cond_true,Qcu hg,Option.bind_some,show Qee N w=some (fStm w) from rfl,Option.bind_some,Option.bind_some,w64S (i:=i) (by omega)]
   have:=ih (i+1) (wdR r (fStm w)) (dlt hd hd' h)
   rw[hd'] at this
   exact this
theorem Zah {N:Nat}(hN:1001≤N) {W:List Qdp}(hl:W.length≤1000) (hne:W≠[]):Qej N W=some (rngF fStm W):=by
 cases W with
 |nil=>exact absurd rfl hne
 |cons w l=>
  unfold Qej
  rw[show getI (w::l) 0=some w from rfl,Option.bind_some,show Qee N w=some (fStm w) from rfl,Option.bind_some,Option.bind_some,Qhp]
  simp only[chk]
  rw[show(decide ((0:Nat)≤1)&&decide ((1:Int)≤(((w::l).length:Nat):Int))&&decide ((((w::l).length:Nat):Int)≤(((w::l).length:Nat):Int)))=true by simp;omega,cond_true]
  have:=Q3j N (w::l) hl (fun y=>some (⟨y.1,y.2⟩:Qk4)) N 0 ⟨fStm w,fStm w⟩ (by simp at hl ⊢;omega)
  rw[show(w::l).drop 1=l from rfl,List.drop_zero] at this
  exact this
section
variable {n : GNet} (hs : Qjw n) {st : List Int} {l : List (List Qaa)} (hl : l.length ≤ 1000) (hg : Qjo n st l = 0)
include hs hl hg
theorem Zi5 {N:Nat}(hN:1001≤N) {v:List Int}(hv:v.length=(ofL 4 0 n.Elements).length) (a:BS) (ha:-1≤a.1):Qhl N n.Table n.Elements v.length st l a.1 a.2.1 a.2.2 v=some (stp n st l a v):=by
 obtain⟨hv0,hst,hf,h1⟩:=Qxj hg
 have hs2:=Q3k hs v
 have e1:(ofL 4 0 n.Elements).length≤n.Elements.length:=by rw[Qlc];exact List.length_filter_le _ _
 have e0:=hs.e
 unfold Qhl stp
 rw[show(⟨n.Table,n.Elements⟩:GNet)=n from rfl,Zam,Zfo hs hN hv hv0.len.1,Option.bind_some,Q7g hs2 hN,Option.bind_some]
 cases hb:netB (setN n v) with
 |false=>rw[Bool.not_false,cond_true,if_neg (by unfold stmA;rw[hb,cond_false];omega)]
 |true=>
  rw[Bool.not_true,cond_false,Q8m hs2 hN (Qy6 hb) (Zdw v hst) hl (fun c hc=>Q6p v (hf c hc)),Option.bind_some]
  unfold Zca
  cases hd:Qm5 (setN n v) st l with
  |none=>rw[if_neg (by unfold stmA;rw[hb,cond_true,hd];dsimp only;omega)];rfl
  |some W=>
   obtain⟨wl,wo⟩:=Qsl hs2 (Qy6 hb) (Zdw v hst) (fun c hc=>Q6p v (hf c hc)) hd
   have hW:W≠[]:=fun h=>by rw[h] at wl;simp at wl;omega
   dsimp only
   rw[Bool.not_true,cond_false,Q6a hN (by omega) fun w hw=>(wo w hw).1,Option.bind_some]
   by_cases hu:(unsL 0 W).1≥0
   ·rw[decide_eq_true hu,cond_true,if_neg (by unfold stmA;rw[hb,cond_true,hd];dsimp only;rw[if_pos hu];omega)]
   ·have e:stmA n st l v=(rngF fStm W).Lo:=by unfold stmA;rw[hb,cond_true,hd];dsimp only;rw[if_neg hu]
    rw[decide_eq_false hu,cond_false,Zah hN (by omega) hW,Option.bind_some]
    by_cases hm:(rngF fStm W).Lo>a.1
    ·rw[decide_eq_true hm,cond_true,if_pos (by rw[e];exact hm),e,decide_eq_true (Nat.le_refl _),List.take_length]
     simp only[chk,cond_true]
     rw[show decide ((0+v.length)*8≤140737488355328)=true by simp;omega,cond_true]
    ·rw[decide_eq_false hm,cond_false,if_neg (by rw[e];exact hm)]
end
def Qkp (T:Nat):Nat→List (List Int)
 |0=>[[]]
 |j+1=>(List.range T).flatMap fun a:Nat=>(Qkp T j).map fun w=>(a:Int)::w
theorem Qu4 {p q:List Int}{k:Nat}(h:p.length=k) (x:Int):(p++x::q)[k]? = some x:=by subst h;simp
theorem Q7j {p q:List Int}{k:Nat}(h:p.length=k) (x y:Int):(p++x::q).set k y=p++y::q:=by subst h;simp
section
variable {n : GNet} (hs : Qjw n) {st : List Int} {l : List (List Qaa)} (hl : l.length ≤ 1000) (hg : Qjo n st l = 0)
include hs hl hg
theorem Zcg:∀(j k F:Nat) (p q:List Int) (a:BS),k+j=(ofL 4 0 n.Elements).length→p.length=k→q.length=j→1002+j≤F→-1≤a.1 →
  ∃q',q'.length=j∧Qer F k ((ofL 4 0 n.Elements).length:Int) (ofL 4 0 n.Elements).length n.Table n.Elements st l a.1 a.2.1 a.2.2 (p++q) =
   some ((((Qkp n.Table.length j).map (p ++ ·)).foldl (stp n st l) a).1,(((Qkp n.Table.length j).map (p ++ ·)).foldl (stp n st l) a).2.1,(((Qkp n.Table.length j).map (p ++ ·)).foldl (stp n st l) a).2.2,p++q'):=by
 have e0:=hs.e
 have e1:(ofL 4 0 n.Elements).length≤n.Elements.length:=by rw[Qlc];exact List.length_filter_le _ _
 have t0:=hs.t
 generalize hM:(ofL 4 0 n.Elements).length=M at e1 ⊢
 intro j
 induction j with
 |zero=>
  intro k F p q a hk hp hq hF ha
  obtain⟨F,rfl⟩:∃G,F=G+1:=⟨F-1,by omega⟩
  have hq0:q=[]:=List.eq_nil_of_length_eq_zero hq
  subst hq0
  refine⟨[],rfl,?_⟩
  rw[Qer]
  unfold Qfi
  rw[show((k:Int)==(M:Int))=true by simp;omega,cond_true,List.append_nil]
  have:=Zi5 hs hl hg (N:=F) (by omega) (v:=p) (by omega) a ha
  rw[show p.length=M by omega] at this
  rw[this,Option.bind_some,Qkp,List.map_cons,List.map_nil,List.foldl_cons,List.foldl_nil,List.append_nil]
 |succ j ihj=>
  intro k F p q a hk hp hq hF ha
  obtain⟨F,rfl⟩:∃G,F=G+1:=⟨F-1,by omega⟩
  obtain⟨x,q0,rfl⟩:∃x q0,q=x::q0:=by
   cases q with
   |nil=>simp at hq
   |cons x q0=>exact⟨x,q0,rfl⟩
  have hq0:q0.length=j:=by simpa using hq
  have hb:(decide ((0:Int)≤(k:Int))&&decide ((k:Int).toNat<M))=true:=by simp;omega
  have inner:∀(d b:Nat) (q0:List Int) (fuel:Nat) (a:BS),b+d=n.Table.length→d<fuel→q0.length=j→-1≤a.1 →
    ∃q',q'.length=j+1∧Qc6 F k (Qer F) (M:Int) M n.Table n.Elements st l fuel a.1 a.2.1 a.2.2 (p++(b:Int)::q0) =
     some ((((List.range' b d).flatMap fun c:Nat=>(Qkp n.Table.length j).map fun w=>p++(c:Int)::w).foldl (stp n st l) a).1,(((List.range' b d).flatMap fun c:Nat=>(Qkp n.Table.length j).map fun w=>p++(c:Int)::w).foldl (stp n st l) a).2.1,
      (((List.range' b d).flatMap fun c:Nat=>(Qkp n.Table.length j).map fun w=>p++(c:Int)::w).foldl (stp n st l) a).2.2,p++q'):=by
   intro d
   induction d with
   |zero=>
    intro b q0 fuel a hbd hfu hq0 ha
    obtain⟨fuel,rfl⟩:∃G,fuel=G+1:=⟨fuel-1,by omega⟩
    refine⟨(b:Int)::q0,by simp[hq0],?_⟩
    rw[Qc6,hb,Int.toNat_natCast,Qu4 hp]
    simp only[chk,cond_true,Option.bind_some]
    rw[decide_eq_false (show ¬(b:Int)<(n.Table.length:Int) by omega),cond_false]
    rfl
   |succ d ih=>
    intro b q0 fuel a hbd hfu hq0 ha
    obtain⟨fuel,rfl⟩:∃G,fuel=G+1:=⟨fuel-1,by omega⟩
    obtain⟨q1,hq1,e⟩:=ihj (k+1) F (p++[(b:Int)]) q0 a (by omega) (by simp[hp]) hq0 (by omega) ha
    have ha1:=Zdv n st l ((Qkp n.Table.length j).map ((p++[(b:Int)]) ++ ·)) a ha
    rw[List.append_assoc,List.singleton_append,List.append_assoc,List.singleton_append] at e
    obtain⟨q2,hq2,e2⟩:=ih (b+1) q1 fuel _ (by omega) (by omega) hq1 ha1
    refine⟨q2,hq2,?_⟩
    rw[Qc6,hb,Int.toNat_natCast,Qu4 hp]
    simp only[chk,cond_true,Option.bind_some]
    rw[decide_eq_true (show(b:Int)<(n.Table.length:Int) by omega),cond_true,w64S (i:=k) (by omega),e,Option.bind_some]
    dsimp only
    rw[Qu4 hp,Option.bind_some,Q7j hp,w64S (i:=b) (by omega),e2,List.range'_succ,List.flatMap_cons,List.foldl_append]
    rw[show((Qkp n.Table.length j).map fun w=>p++(b:Int)::w)=(Qkp n.Table.length j).map ((p++[(b:Int)]) ++ ·) from List.map_congr_left fun w _=>by rw[List.append_assoc,List.singleton_append]]
    rfl
  obtain⟨q',hq',e⟩:=inner n.Table.length 0 q0 F a (by omega) (by omega) hq0 ha
  refine⟨q',hq',?_⟩
  rw[Qer]
  unfold Qfi
  rw[show((k:Int)==(M:Int))=false by simp;omega,cond_false,hb,Int.toNat_natCast,Qu4 hp]
  simp only[chk,cond_true,Option.bind_some]
  rw[Q7j hp]
  refine e.trans ?_
  rw[Qkp,List.map_flatMap,List.range_eq_range']
  simp only[List.map_map]
  rfl
end
def bstF (n:GNet) (st:List Int) (l:List (List Qaa)):BS:=(Qkp n.Table.length (ofL 4 0 n.Elements).length).foldl (stp n st l) (-1,[],false)
def Zg6 (n:GNet) (st:List Int) (l:List (List Qaa)):List Int×Int×Int:=
 if Qjo n st l=0 then(if (ofL 4 0 n.Elements).length>3 then([],0,3) else bif (bstF n st l).2.2 then((bstF n st l).2.1,(bstF n st l).1,0) else([],0,7)) else([],0,Qjo n st l)
theorem Zg4 {N:Nat}{n:GNet}(hs:Qjw n) (hN:1100≤N) {st:List Int}{l:List (List Qaa)}(hl:l.length≤1000) (hc:∀c∈l,c.length≤1000) (hl2:st.length≤1000):Qjy N n st l=some (Zg6 n st l):=by
 have e0:=hs.e
 have e1:(ofL 4 0 n.Elements).length≤n.Elements.length:=by rw[Qlc];exact List.length_filter_le _ _
 unfold Qjy Zg6
 rw[Q1z hs (by omega) hl hc hl2,Option.bind_some]
 by_cases hg:Qjo n st l=0
 ·rw[if_pos hg,hg,bne_self_eq_false,cond_false,Q1n hs (by omega) 4,Option.bind_some]
  by_cases h3:(ofL 4 0 n.Elements).length>3
  ·rw[if_pos h3,decide_eq_true (show((ofL 4 0 n.Elements).length:Int)>3 by omega),cond_true]
  ·rw[if_neg h3,decide_eq_false (show ¬((ofL 4 0 n.Elements).length:Int)>3 by omega),cond_false]
   simp only[chk]
   rw[show(decide ((0:Int)≤((ofL 4 0 n.Elements).length:Int))&&decide (8*((ofL 4 0 n.Elements).length:Int)≤281474976710656)&&decide (((ofL 4 0 n.Elements).length:Int)≤9223372036854775807))=true by simp;omega,cond_true]
   obtain⟨q',_,e⟩:=Zcg hs hl hg (ofL 4 0 n.Elements).length 0 N [] (List.replicate (ofL 4 0 n.Elements).length 0) (-1,[],false) (by omega) rfl (by simp) (by omega) (Int.le_refl _)
   rw[List.nil_append] at e
   rw[Int.toNat_natCast]
   refine(congrArg (fun o=>Option.bind o _) e).trans ?_
   rw[Option.bind_some]
   have hm:(Qkp n.Table.length (ofL 4 0 n.Elements).length).map (([]:List Int) ++ ·)=Qkp n.Table.length (ofL 4 0 n.Elements).length:=by
    simp
   rw[hm]
   unfold bstF
   cases ((Qkp n.Table.length (ofL 4 0 n.Elements).length).foldl (stp n st l) (-1,[],false)).2.2<;>rfl
 ·rw[if_neg hg,show(Qjo n st l != 0)=true by simpa using hg,cond_true]
end
section
def apT (t:List GRow) (L c:Int) (s:Qaa):Qs3:=
 ([[s],[(apF t L s).Steam,(apF t L s).Water],[⟨(apF t L s).Water.Mass,(apF t L s).Water.Heat-apC c (apF t L s).Water,(apF t L s).Water.Silica,(apF t L s).Water.Gas⟩]],
  [⟨0,0,0,0⟩,⟨0,0,0,(apF t L s).Scale⟩,⟨apC c (apF t L s).Water,0,0,0⟩],[0,(apF t L s).Scale,0],(apF t L s).Steam.Mass)
def ones (l:List Qaa):List (List Qaa):=l.map fun s=>[s]
section
variable {t : List GRow} (ht : tabB t = true) {L c : Int} (hL : 0 ≤ L ∧ L ≤ (t.length : Int) - 1) (hc : 0 ≤ c ∧ c ≤ 1000000000)
include ht hL
theorem Qz5:∀(l:List Qaa),(∀s∈l,strB s=true)→Qm5 (apN t L c) [0,0,0] (ones l)=some (l.map fun s=>Qj4 (apN t L c) [s] (apT t L c s))
 |[],_=>rfl
 |s::l,h=>by
  have hs:=Qit.1 (h s List.mem_cons_self)
  show Qzm (Qul (apN t L c) [0,0,0] [s]) _ _=_
  rw[Zcp ht hL hs]
  show(Qm5 (apN t L c) [0,0,0] (ones l)).map _=_
  rw[Qz5 l fun s hs=>h s (List.mem_cons_of_mem _ hs)]
  rfl
include hc
theorem Q2m {l:List Qaa}(h:∀s∈l,strB s=true) (h1:1≤l.length) (h6:l.length≤6):Qjo (apN t L c) [0,0,0] (ones l)=0:=by
 have hf:∀(l:List Qaa),(∀s∈l,strB s=true)→Qxl (apN t L c) (ones l)=0:=fun l=>by
  induction l with
  |nil=>intro _;rfl
  |cons s l ih=>
   intro h
   show(if fedI (apN t L c) [s]=0 then Qxl (apN t L c) (ones l) else _)=0
   have hr:=Q89 ht hL hc (h s List.mem_cons_self)
   unfold Q62 at hr
   rw[Qvy ht hL hc] at hr
   replace hr:fedI (apN t L c) [s]=0:=hr
   rw[if_pos hr]
   exact ih fun s hs=>h s (List.mem_cons_of_mem _ hs)
 unfold Qjo
 rw[Qvy ht hL hc,show stB (apN t L c) [0,0,0]=true from rfl,Bool.and_self,cond_true,show btw ((ones l).length:Int) 1 6=true from Qep.2 ⟨by unfold ones;rw[List.length_map];omega,by unfold ones;rw[List.length_map];omega⟩,cond_true]
 exact hf l h
end
def Qko (t:List GRow) (L:Int) (l:List Qaa):Bool:=l.all fun s=>decide (¬(apF t L s).Scale>0)
theorem Q88 (t:List GRow) (L c:Int):∀(l:List Qaa) (k:Nat),(Qko t L l=true→unsL k (l.map fun s=>Qj4 (apN t L c) [s] (apT t L c s))=(-1,-1))∧(Qko t L l=false→(k:Int)≤(unsL k (l.map fun s=>Qj4 (apN t L c) [s] (apT t L c s))).1∧(unsL k (l.map fun s=>Qj4 (apN t L c) [s] (apT t L c s))).2=1)
 |[],k=>by
  refine⟨fun _=>rfl,fun h=>?_⟩
  unfold Qko at h
  simp at h
 |s::l,k=>by
  have e:fstL 0 (Qj4 (apN t L c) [s] (apT t L c s)).Tick.Lost=if (apF t L s).Scale>0 then some 1 else none:=by
   show(if (0:Int)>0 then some 0 else if (apF t L s).Scale>0 then some 1 else if (0:Int)>0 then some 2 else none)=_
   rw[if_neg (by omega),if_neg (show ¬(0:Int)>0 by omega)]
  obtain⟨h1,h2⟩:=Q88 t L c l (k+1)
  unfold Qko at h1 h2 ⊢
  rw[List.map_cons,unsL,e,List.all_cons]
  by_cases hs:(apF t L s).Scale>0
  ·rw[if_pos hs,decide_eq_false (by omega),Bool.false_and]
   exact⟨fun h=>(by cases h),fun _=>⟨Int.le_refl _,rfl⟩⟩
  ·rw[if_neg hs,decide_eq_true hs,Bool.true_and]
   exact⟨h1,fun h=>⟨by have:=(h2 h).1;dsimp only;omega,(h2 h).2⟩⟩
def dpN (t:List GRow) (l:List Qaa):Nat→Nat
 |0=>0
 |k+1=>bif Qko t k l then dpN t l k else k+1
theorem Zd6 (t:List GRow) (l:List Qaa):∀(k:Nat),dpN t l k≤k
 |0=>Nat.le_refl _
 |k+1=>by
  rw[dpN]
  cases Qko t k l with
  |true=>have:=Zd6 t l k;rw[cond_true];omega
  |false=>exact Nat.le_refl _
theorem Q2c (t:List GRow) (l:List Qaa):∀(k j:Nat),dpN t l k≤j→j<k→Qko t j l=true
 |0,_,_,h=>by omega
 |k+1,j,h1,h2=>by
  rw[dpN] at h1
  cases hs:Qko t k l with
  |true=>
   rw[hs,cond_true] at h1
   rcases Nat.lt_or_ge j k with h |h
   ·exact Q2c t l k j h1 h
   ·rw[show j=k by omega];exact hs
  |false=>rw[hs,cond_false] at h1;omega
theorem Qzj (t:List GRow) (l:List Qaa):∀(k m:Nat),dpN t l k=m+1→Qko t m l=false
 |0,m,h=>by rw[dpN] at h;omega
 |k+1,m,h=>by
  rw[dpN] at h
  cases hs:Qko t k l with
  |true=>rw[hs,cond_true] at h;exact Qzj t l k m h
  |false=>rw[hs,cond_false] at h;rw[←show k=m by omega];exact hs
theorem Zj7 (t:List GRow) (L c:Int) (v:Int):setN (apN t L c) [v]=apN t v c:=rfl
theorem Zj8 (t:List GRow) (L c:Int):ofL 4 0 (apN t L c).Elements=[1]:=rfl
theorem Zj6 {t:List GRow}(ht:tabB t=true) {L c:Int}(hc:0≤c∧c≤1000000000) {l:List Qaa}(h:∀s∈l,strB s=true) (hne:l≠[]) {v:Int}(hv:0≤v∧v≤(t.length:Int)-1) :
  (Qko t v l=true→0≤stmA (apN t L c) [0,0,0] (ones l) [v])∧(Qko t v l=false→stmA (apN t L c) [0,0,0] (ones l) [v]=-1):=by
 obtain⟨h1,h2⟩:=Q88 t v c l 0
 unfold stmA
 rw[Zj7,Qvy ht hv hc,cond_true,Qz5 ht hv l h]
 dsimp only
 refine⟨fun hs=>?_,fun hs=>?_⟩
 ·rw[h1 hs,if_neg (by decide)]
  obtain⟨_,⟨w,hw,e⟩,_⟩:=Zjg fStm (W:=l.map fun s=>Qj4 (apN t v c) [s] (apT t v c s)) (by simpa using hne)
  rw[←e]
  obtain⟨s,hs',rfl⟩:=List.mem_map.1 hw
  exact(Qvz ht hv (Qit.1 (h s hs'))).st.m0
 ·have:=h2 hs
  rw[if_pos (by omega)]
end
section
def Qdb (N:Nat) (p1:List Qaa) (k9:(List (List Qaa))→Option Bool):Nat→(List (List Qaa))→Int→Option Bool
  |0,_,_=>none
  |n58+1,y54,y55=>
    bif (decide (y55<(p1.length:Int))) then
     (getI p1 y55).bind fun x60=>
     (Qhf N x60).bind fun x65=>
     chk (decide ((y54.length+([[x65]]).length)*24≤140737488355328))<|
     Qdb N p1 k9 n58 (y54++([[x65]])) (w64 (y55+1))
    else
     k9 (y54)
def Qh1 (N:Nat) (p0:List GRow) (p1:List Qaa) (p2:Int):Option Bool:=
  Qcf (fun _=>
    (Qjd N p0).bind fun x3=>
    (Qhm N p1).bind fun x5=>
    (Qhi N x3 x5).bind fun x7=>
    Qcf (fun y8=>
      bif (x7.2 != 0) then
       (Qhu N x3 (w64 ((p0.length:Int)-1)) 0).bind fun x12=>
       (Qgl N x12 ([0,0,0]) y8).bind fun x14=>
       bif (x7.2==7) then
        bif (x14.2.2==0) then
         bif (decide (x14.1≥0)) then
          (Qgw 2000 ).bind fun x19=>
          some x19
         else
          some false
        else
         some false
       else
        some false
      else
       chk ((w64 ((p0.length:Int)-x7.1)) != 0)<|
       (some (w64 (x7.1+((w64 p2).tmod (w64 ((p0.length:Int)-x7.1)))))).bind fun x21=>
       (Qhu N x3 x21 0).bind fun x24=>
       (Qgl N x24 ([0,0,0]) y8).bind fun x26=>
       (Qhu N x3 x7.1 0).bind fun x28=>
       (Qjy N x28 ([0,0,0]) y8).bind fun x30=>
       Qcf (fun y31=>
         bif (decide (x7.1>0)) then
          (Qhu N x3 (w64 (x7.1-1)) 0).bind fun x35=>
          (Qgl N x35 ([0,0,0]) y31).bind fun x37=>
          bif (x37.2.2 != 0) then
           some false
          else
           bif (decide (x37.1<0)) then
            some false
           else
            bif (x37.2.1 != 1) then
             some false
            else
             (getI x30.1 0).bind fun x41=>
             bif (x41==(w64 (x7.1-1))) then
              some false
             else
              (Qgw 2000 ).bind fun x47=>
              some x47
         else
          (Qgw 2000 ).bind fun x49=>
          some x49) fun k32:(List (List Qaa))→Option Bool=>
       bif (x26.2.2 != 0) then
        some false
       else
        bif (x26.1 != (-1)) then
         some false
        else
         bif (x30.2.2 != 0) then
          some false
         else
          bif ((x30.1.length:Int) != 1) then
           some false
          else
           k32 y8) fun k9:(List (List Qaa))→Option Bool=>
    Qdb N p1 k9 N ([]) 0) fun k1:Unit→Option Bool=>
  (Qjb N p0).bind fun x68=>
  bif (!x68) then
   (Qgw 2000 ).bind fun x71=>
   some x71
  else
   bif (decide ((p1.length:Int)<1)) then
    (Qgw 2000 ).bind fun x74=>
    some x74
   else
    bif (decide ((p1.length:Int)>6)) then
     (Qgw 2000 ).bind fun x77=>
     some x77
    else
     (Qhk N p1).bind fun x79=>
     bif (!x79) then
      (Qgw 2000 ).bind fun x82=>
      some x82
     else
      k1 ()
def Qor (p1:List Qaa):AV:=.dat 4 (p1.map Qac)
def Qv9 (y8:List (List Qaa)):AV:=.acc 0 51 1 (y8.map Qag)
def Qj2:AV:=.dat 1 (([0,0,0]:List Int).map Qab)
def Q5s (x12:GNet):AV:=.agg [(.dat 5 (x12.Table.map Qam)),(.dat 7 (x12.Elements.map Qah))]
def Qyk (y8:List (List Qaa)):AV:=.dat 1 (y8.map Qag)
def Qyi (x7:(Int×Int)) (x14:(Int×Int×Int)):List (Nat×Rec):=[(2,rp [((.tmp 84),(B ((x7.2==7))))] (B true)),(6,rp [((.tmp 88),(B ((x14.2.2==0))))] (B true))]
def Q5r (x24:GNet):AV:=.agg [(.dat 5 (x24.Table.map Qam)),(.dat 7 (x24.Elements.map Qah))]
def Q5q (x28:GNet):AV:=.agg [(.dat 5 (x28.Table.map Qam)),(.dat 7 (x28.Elements.map Qah))]
def Q5p (x35:GNet):AV:=.agg [(.dat 5 (x35.Table.map Qam)),(.dat 7 (x35.Elements.map Qah))]
def Qt8 (x37:(Int×Int×Int)):List (Nat×Rec):=[(2,rp [((.tmp 153),(B ((x37.2.2 != 0))))] (B false))]
def Qt7 (x26:(Int×Int×Int)):List (Nat×Rec):=[(2,rp [((.tmp 125),(B ((x26.2.2 != 0))))] (B false))]
def Q5o (x65:Qaa):AV:=.agg [(I x65.Mass),(I x65.Heat),(I x65.Silica),(I x65.Gas)]
def Qyj (x65:Qaa):AV:=.dat 4 (([x65]:List Qaa).map Qac)
def Qyh (p0:List GRow) (x68:Bool):List (Nat×Rec):=[(1,rp [fu 6,((.tmp 25),(.dat 5 (p0.map Qam)))] (B x68))]
def Qyg p0 x68 (p1:List Qaa):=hcat (Qyh p0 x68) [(3,rp [((.tmp 27),(B ((!x68))))] (B false)),(5,rp [((.tmp 28),(B false)),((.tmp 29),(Qor p1))] (I ((p1.length:Int))))]
def Qyf p0 x68 p1:=hcat (Qyg p0 x68 p1) [(8,rp [((.tmp 32),(B ((decide ((p1.length:Int)<1)))))] (B false)),(10,rp [((.tmp 33),(B false)),((.tmp 34),(Qor p1))] (I ((p1.length:Int))))]
theorem Qou (N:Nat) (p0:List GRow) (p1:List Qaa) (p2:Int) (r:Bool) (h:Qh1 N p0 p1 p2=some r):Spec prog 4 [(.dat 5 (p0.map Qam)),(.dat 4 (p1.map Qac)),(K .u8 p2)] [] (B r) []:=by
  refine sA func4 0 fun _ _ _ hq hd0=>?_
  unfold Qh1 at h
  refine wxz ?_
  obtain⟨k1,hk_k1,h⟩:=jko h
  refine wjn (τ:=Unit) (fun t=>k1 t=some r) (fun _=>⟨mk 171 [(0,(.dat 5 (p0.map Qam))),(1,(Qor p1)),(2,(K .u8 p2))],[]⟩) (fun t h=>?_) ?_
  ·subst hk_k1
   obtain⟨x3,hf2,h⟩:=bno h
   refine wx tbk [(1,rp _ _)] ⟨apw Zgx (Qsa N p0 _ hf2),tv⟩ ?_
   obtain⟨x5,hf4,h⟩:=bno h
   obtain⟨x7,hf6,h⟩:=bno h
   refine wx tbk [(2,rp _ _),(3,rp _ _)] ⟨apw Zgt (Qqc N p1 _ hf4),apw Zgu (Qp0 N x3 x5 _ hf6),tv⟩<|wxz ?_
   obtain⟨k9,hk_k9,h⟩:=jko h
   refine wjn (τ:=(List (List Qaa))) (fun t=>k9 t=some r) (fun y8=>⟨mk 171 [(0,(.dat 5 (p0.map Qam))),(2,(K .u8 p2)),(7,(.dat 5 (x3.map Qam))),(8,I x7.1),(9,I x7.2),(10,(Qv9 y8))],[.tok]⟩) (fun y8 h=>?_) ?_
   ·subst hk_k9
    refine wx tbk [(0,rp [ci 0,ci 0,ci 0] Qj2)] ⟨Qbp (vs:=[I 0,I 0,I 0]) rfl underlying29 ti3 tz3 rfl (by decide) rfl (by decide) (by rfl) (by rfl) (by rfl) rfl,tv⟩<|wsq<|wxz ?_
    refine bfe h (fun hc10 h=>?_) fun hc10 h=>?_
    ·refine wft hc10 ?_
     obtain⟨x12,hf11,h⟩:=bno h
     obtain⟨x14,hf13,h⟩:=bno h
     refine wx tbk [(2,rp _ _),(4,rp _ _),(7,rp [fu 22,(.tmp 76,(Q5s x12)),(.tmp 77,Qj2),(.tmp 78,(Qv9 y8))] (.tup [I x14.1,I x14.2.1,I x14.2.2]))] ⟨alq 5 Qam p0 underlying23,apw Qvh (Qjr N x3 (w64 ((p0.length:Int)-1)) 0 _ hf11),awk (rd':=(.func 22,(.fn (.func 22) [] []))::[(.tmp 76,(Q5s x12)),(.tmp 77,Qj2),(.tmp 78,(Qyk y8))]) ⟨rfl,lrf,rfl,lrf,rfl,lrf,rfl,Less.acc,tv⟩ (apv Qzi (Qkb N x12 ([0,0,0]) y8 _ hf13) (nlc (NLt.agg _ (nlc (nld Qap _) (nlc (nld Qae _) nl0))) (nlc (nld Qaj _) (nlc (nld Qan _) nl0))) (NLt.tup _ (nlcc (nlc nll nl0)))),tv⟩ ?_
     refine bfe h (fun hb15 h=>?_) fun hb15 h=>?_
     ·refine bfe h (fun hb16 h=>?_) fun hb16 h=>?_
      ·refine hpre (A:=(Qyi x7 x14)) ⟨asb hb15 (amv rfl),asb hb16 (amv rfl),tv⟩ fun q1_=>?_
       refine bfe h (fun hb17 h=>?_) fun hb17 h=>?_
       ·obtain⟨x19,hf18,h⟩:=bno h
        exact wx tbk (hcat (Qyi x7 x14) [(10,rp [(.tmp 92,(B ((decide (x14.1≥0)))))] (B true)),(11,rp [(.tmp 93,B true),fu 19] (B x19))]) (hap q1_ ⟨asb hb17 (amv rfl),ag_ (apv Qoc (Qgm 2000  _ hf18) nl0 nll),tv⟩)<|Qaf<|Qal<|frb h
       ·exact wx tbk (hcat (Qyi x7 x14) [(10,rp [(.tmp 92,(B ((decide (x14.1≥0)))))] (B false))]) (hap q1_ ⟨asb hb17 (amv rfl),tv⟩)<|Qaf<|Qal<|frb h
      ·exact wx tbk [(2,rp [(.tmp 84,(B ((x7.2==7))))] (B true)),(6,rp [(.tmp 88,(B ((x14.2.2==0))))] (B false))] ⟨asb hb15 (amv rfl),asb hb16 (amv rfl),tv⟩<|Qaf<|Qal<|frb h
     ·exact wx tbk [(2,rp [(.tmp 84,(B ((x7.2==7))))] (B false))] ⟨asb hb15 (amv rfl),tv⟩<|Qaf<|Qal<|frb h
    ·refine wfn hc10<|Qaq<|thn ?_
     obtain⟨hz20,h⟩:=cko h
     obtain⟨x21,hl22,h⟩:=bno h
     obtain⟨x24,hf23,h⟩:=bno h
     obtain⟨x26,hf25,h⟩:=bno h
     refine wx tbk [(3,rp [(.tmp 99,(K .u8 p2))] (I (w64 p2))),(5,rp _ _),(8,rp [(.tmp 100,I (w64 p2)),(.tmp 104,(I (w64 ((p0.length:Int)-x7.1))))] (I ((w64 p2).tmod (w64 ((p0.length:Int)-x7.1))))),(9,rp [(.tmp 98,I x7.1),(.tmp 105,(I ((w64 p2).tmod (w64 ((p0.length:Int)-x7.1)))))] (I x21)),(10,rp _ _),(13,rp [fu 22,(.tmp 107,(Q5r x24)),(.tmp 108,Qj2),(.tmp 109,(Qv9 y8))] (.tup [I x26.1,I x26.2.1,I x26.2.2]))] ⟨acv rfl (by rw[underlying5];rfl) underlying3,alq 5 Qam p0 underlying23,Qx4 rfl (Qqf hz20),Qkh hl22 (abn rfl rfl),apw Qvh (Qjr N x3 x21 0 _ hf23),awk (rd':=(.func 22,(.fn (.func 22) [] []))::[(.tmp 107,(Q5r x24)),(.tmp 108,Qj2),(.tmp 109,(Qyk y8))]) ⟨rfl,lrf,rfl,lrf,rfl,lrf,rfl,Less.acc,tv⟩ (apv Qzi (Qkb N x24 ([0,0,0]) y8 _ hf25) (nlc (NLt.agg _ (nlc (nld Qap _) (nlc (nld Qae _) nl0))) (nlc (nld Qaj _) (nlc (nld Qan _) nl0))) (NLt.tup _ (nlcc (nlc nll nl0)))),tv⟩ ?_
     obtain⟨x28,hf27,h⟩:=bno h
     obtain⟨x30,hf29,h⟩:=bno h
     refine wx tbk [(2,rp _ _),(5,rp [fu 23,(.tmp 117,(Q5q x28)),(.tmp 118,Qj2),(.tmp 119,(Qv9 y8))] (.tup [(.dat 1 (x30.1.map Qab)),I x30.2.1,I x30.2.2]))] ⟨apw Qvh (Qjr N x3 x7.1 0 _ hf27),awk (rd':=(.func 23,(.fn (.func 23) [] []))::[(.tmp 117,(Q5q x28)),(.tmp 118,Qj2),(.tmp 119,(Qyk y8))]) ⟨rfl,lrf,rfl,lrf,rfl,lrf,rfl,Less.acc,tv⟩ (apv Zgs (Quw N x28 ([0,0,0]) y8 _ hf29) (nlc (NLt.agg _ (nlc (nld Qap _) (nlc (nld Qae _) nl0))) (nlc (nld Qaj _) (nlc (nld Qan _) nl0))) (NLt.tup _ (nlc (nld Qaj _) (nlcc nl0)))),tv⟩ ?_
     obtain⟨k32,hk_k32,h⟩:=jko h
     refine wjn (τ:=(List (List Qaa))) (fun t=>k32 t=some r) (fun y31=>⟨mk 171 [(7,(.dat 5 (x3.map Qam))),(8,I x7.1),(10,(.acc 0 51 1 (y31.map Qag))),(12,Qj2),(19,(.dat 1 (x30.1.map Qab)))],[.tok]⟩) (fun y31 h=>?_) ?_
     ·subst hk_k32
      refine wsq<|wxz ?_
      refine bfe h (fun hc33 h=>?_) fun hc33 h=>?_
      ·refine wft hc33 ?_
       obtain⟨x35,hf34,h⟩:=bno h
       obtain⟨x37,hf36,h⟩:=bno h
       refine wx tbk [(3,rp _ _),(6,rp [fu 22,(.tmp 145,(Q5p x35)),(.tmp 146,Qj2),(.tmp 147,(.acc 0 51 1 (y31.map Qag)))] (.tup [I x37.1,I x37.2.1,I x37.2.2]))] ⟨apw Qvh (Qjr N x3 (w64 (x7.1-1)) 0 _ hf34),awk (rd':=(.func 22,(.fn (.func 22) [] []))::[(.tmp 145,(Q5p x35)),(.tmp 146,Qj2),(.tmp 147,(.dat 1 (y31.map Qag)))]) ⟨rfl,lrf,rfl,lrf,rfl,lrf,rfl,Less.acc,tv⟩ (apv Qzi (Qkb N x35 ([0,0,0]) y31 _ hf36) (nlc (NLt.agg _ (nlc (nld Qap _) (nlc (nld Qae _) nl0))) (nlc (nld Qaj _) (nlc (nld Qan _) nl0))) (NLt.tup _ (nlcc (nlc nll nl0)))),tv⟩ ?_
       refine bfe h (fun hb38 h=>?_) fun hb38 h=>?_
       ·exact wx tbk [(2,rp [(.tmp 153,(B ((x37.2.2 != 0))))] (B true))] ⟨asb hb38 (amv rfl),tv⟩<|wtr<|wxz<|Qaf<|Qal<|frb h
       ·refine hpre (A:=(Qt8 x37)) ⟨asb hb38 (amv rfl),tv⟩ fun q2_=>?_
        refine bfe h (fun hb39 h=>?_) fun hb39 h=>?_
        ·exact wx tbk (hcat (Qt8 x37) [(6,rp [(.tmp 157,(B ((decide (x37.1<0)))))] (B true))]) (hap q2_ ⟨asb hb39 (amv rfl),tv⟩)<|wtr<|wxz<|Qaf<|Qal<|frb h
        ·refine bfe h (fun hb40 h=>?_) fun hb40 h=>?_
         ·exact wx tbk (hcat (Qt8 x37) [(6,rp [(.tmp 157,(B ((decide (x37.1<0)))))] (B false)),(10,rp [(.tmp 161,(B ((x37.2.1 != 1))))] (B true))]) (hap q2_ ⟨asb hb39 (amv rfl),asb hb40 (amv rfl),tv⟩)<|wtr<|wxz<|Qaf<|Qal<|frb h
         ·obtain⟨x41,hg42,h⟩:=bno h
          obtain⟨hi43,hj44⟩:=gsm hg42
          refine wx tbk (hcat (Qt8 x37) [(6,rp [(.tmp 157,(B ((decide (x37.1<0)))))] (B false)),(10,rp [(.tmp 161,(B ((x37.2.1 != 1))))] (B false)),(12,rp [(.tmp 162,B false),(.tmp 163,(.dat 1 (x30.1.map Qab))),ci 0] (.dptr (Qab x41) 0))]) (hap q2_ ⟨asb hb39 (amv rfl),asb hb40 (amv rfl),ag_ (aiq underlying29 ti3 Qab hi43 hj44),tv⟩) ?_
          refine bfe h (fun hc45 h=>?_) fun hc45 h=>?_
          ·exact wft hc45<|wxz<|Qaf<|Qal<|frb h
          ·refine wfn hc45<|Qaq<|thn ?_
           obtain⟨x47,hf46,h⟩:=bno h
           exact wx tbk [(0,rp _ _)] ⟨apw Qoc (Qgm 2000  _ hf46),tv⟩<|Qaf<|frb h
      ·refine wfn hc33<|Qaq<|thn ?_
       obtain⟨x49,hf48,h⟩:=bno h
       exact wx tbk [(0,rp _ _)] ⟨apw Qoc (Qgm 2000  _ hf48),tv⟩<|Qaf<|frb h
     ·skip
      refine bfe h (fun hb50 h=>?_) fun hb50 h=>?_
      ·exact wx tbk [(2,rp [(.tmp 125,(B ((x26.2.2 != 0))))] (B true))] ⟨asb hb50 (amv rfl),tv⟩<|wtr<|wxz<|Qaf<|Qal<|frb h
      ·refine hpre (A:=(Qt7 x26)) ⟨asb hb50 (amv rfl),tv⟩ fun q3_=>?_
       refine bfe h (fun hb51 h=>?_) fun hb51 h=>?_
       ·exact wx tbk (hcat (Qt7 x26) [(6,rp [(.tmp 129,(B ((x26.1 != (-1)))))] (B true))]) (hap q3_ ⟨asb hb51 (amv rfl),tv⟩)<|wtr<|wxz<|Qaf<|Qal<|frb h
       ·refine bfe h (fun hb52 h=>?_) fun hb52 h=>?_
        ·exact wx tbk (hcat (Qt7 x26) [(6,rp [(.tmp 129,(B ((x26.1 != (-1)))))] (B false)),(10,rp [(.tmp 133,(B ((x30.2.2 != 0))))] (B true))]) (hap q3_ ⟨asb hb51 (amv rfl),asb hb52 (amv rfl),tv⟩)<|wtr<|wxz<|Qaf<|Qal<|frb h
        ·refine wx tbk (hcat (Qt7 x26) [(6,rp [(.tmp 129,(B ((x26.1 != (-1)))))] (B false)),(10,rp [(.tmp 133,(B ((x30.2.2 != 0))))] (B false)),(12,rp [(.tmp 134,B false),(.tmp 135,(.dat 1 (x30.1.map Qab)))] (I ((x30.1.length:Int))))]) (hap q3_ ⟨asb hb51 (amv rfl),asb hb52 (amv rfl),ag_ (alq 1 Qab x30.1 underlying29),tv⟩) ?_
         refine bfe h (fun hc53 h=>?_) fun hc53 h=>?_
         ·exact wft hc53<|wxz<|Qaf<|Qal<|frb h
         ·exact wfn hc53<|Qaq<|thn<|⟨(y8),h,(mto (n:=171) [(7,(.dat 5 (x3.map Qam))),(8,I x7.1),(10,(Qv9 y8)),(12,Qj2),(19,(.dat 1 (x30.1.map Qab)))] [0] [.tok] hq (pc (rnd Qap) (pw (pc (.rn (Qe4 rfl (Qdy Qan _))) (pc (rnd Qaj) (pc (rnd Qaj) pn))))) (qc .tok qn))⟩
   ·skip
    refine wxz<|Qar ?_
    refine wmr (Mor.trans (Qp8 0 51 1 10 (by kernel_rfl) (by kernel_rfl)) (mto (n:=171) (l':=[(0,(.dat 5 (p0.map Qam))),(1,(Qor p1)),(2,(K .u8 p2)),(7,(.dat 5 (x3.map Qam))),(8,I x7.1),(9,I x7.2),(10,(.acc 0 51 1 ((([]):List (List Qaa)).map Qag))),(11,I 0)]) (own':=[.tok]) [(0,(.dat 5 (p0.map Qam))),(1,(Qor p1)),(2,(K .u8 p2)),(7,(.dat 5 (x3.map Qam))),(8,I x7.1),(9,I x7.2),(10,(.acc 0 51 1 (([]:List (List Qaa)).map Qag))),(11,I 0)] [0] [.tok] hq (pc (rnd Qap) (pc (rnd Qak) (pw (pc (rnd Qap) (pw (pw (pc (.rn (Qe4 rfl (Qdy Qan _))) (pw pn)))))))) (qc .tok qn))) ?_
    refine Qcn (τ:=(List (List Qaa))×Int) (fun n t=>Qdb N p1 k9 n t.1 t.2=some r) (fun ⟨y54,y55⟩=>⟨mk 171 [(0,(.dat 5 (p0.map Qam))),(1,(Qor p1)),(2,(K .u8 p2)),(7,(.dat 5 (x3.map Qam))),(8,I x7.1),(9,I x7.2),(10,(.acc 0 51 1 (y54.map Qag))),(11,I y55)],[.tok]⟩) (fun t h=>by rw[Qdb] at h;cases h) (fun n58 ih t h=>?_) N ([],0) h
    obtain⟨y54,y55⟩:=t
    rw[Qdb] at h
    skip
    refine wsq<|wx tbk [(2,rp _ _)] ⟨alq 4 Qac p1 underlying66,tv⟩ ?_
    refine bfe h (fun hc59 h=>?_) fun hc59 h=>?_
    ·refine wft hc59<|Qaq<|thn<|wsq<|Qar ?_
     obtain⟨x60,hg61,h⟩:=bno h
     obtain⟨hi62,hj63⟩:=gsm hg61
     obtain⟨x65,hf64,h⟩:=bno h
     obtain⟨ha66,h⟩:=cko h
     refine wx1 tbk [(3,rp _ _),(5,rp _ _),(6,rp [(.tmp 64,(Q5o x65))] (Qyj x65)),(7,rp [(.tmp 65,(Qyj x65))] (.dat 1 (([[x65]]:List (List Qaa)).map Qag))),(8,⟨[(.tmp 59,(.acc 0 51 1 (y54.map Qag))),(.tmp 66,(.dat 1 (([[x65]]:List (List Qaa)).map Qag)))],[(0,.tok),(1,.unused)],(.acc 1 51 1 ((y54++([[x65]]):List (List Qaa)).map Qag)),[(0,.dead),(1,.tok)],false⟩)] ⟨aiq underlying66 ti25 Qac hi62 hj63,apw Q8h (Qmi N x60 _ hf64),Qbp (vs:=[(Q5o x65)]) rfl underlying51 ti49 tz49 rfl (by decide) rfl (by decide) (by rfl) (by rfl) (by rfl) rfl,Qbp (vs:=[(Qyj x65)]) rfl underlying42 ti51 tz51 rfl (by decide) rfl (by decide) (by rfl) (by rfl) (by rfl) rfl,Qf4 rfl underlying42 te51 (Base.acc _ _) rfl rfl (by rfl) (Qis Qag ha66) (Qir Qag ha66 (by decide)) (Qiq Qag) rfl rfl,tv⟩<|bln<|thn<|wxz1<|thn ?_
     exact arm (mto (n:=171) [(0,(.dat 5 (p0.map Qam))),(1,(Qor p1)),(2,(K .u8 p2)),(7,(.dat 5 (x3.map Qam))),(8,I x7.1),(9,I x7.2),(10,(.acc 1 51 1 ((y54++([[x65]]):List (List Qaa)).map Qag))),(11,(I (w64 (y55+1))))] [1] [.tok] hq (pc (rnd Qap) (pc (rnd Qak) (pw (pc (rnd Qap) (pw (pw (pc (.rn (Qe4 rfl (Qdy Qan _))) (pw pn)))))))) (qc .tok qn)) (ih (y54++([[x65]]),w64 (y55+1)) h)
    ·exact wfn hc59<|Qbl<|Qaz<|Qaz<|Qbk rfl<|thn<|⟨(y54),h,(mto (n:=171) [(0,(.dat 5 (p0.map Qam))),(2,(K .u8 p2)),(7,(.dat 5 (x3.map Qam))),(8,I x7.1),(9,I x7.2),(10,(.acc 0 51 1 (y54.map Qag)))] [0] [.tok] hq (pc (rnd Qap) (pw (pc (rnd Qap) (pw (pw (pc (.rn (Qe4 rfl (Qdy Qan _))) pn)))))) (qc .tok qn))⟩
  ·skip
   obtain⟨x68,hf67,h⟩:=bno h
   refine hpre (A:=(Qyh p0 x68)) ⟨apv Zjz (Qrw N p0 _ hf67) (nlc (nld Qap _) nl0) nll,tv⟩ fun q4_=>?_
   refine bfe h (fun hb69 h=>?_) fun hb69 h=>?_
   ·refine wx tbk (hcat (Qyh p0 x68) [(3,rp [(.tmp 27,(B ((!x68))))] (B true))]) (hap q4_ ⟨asb hb69 (amv rfl),tv⟩)<|wtr ?_
    obtain⟨x71,hf70,h⟩:=bno h
    exact wx tbk [(0,rp _ _)] ⟨apw Qoc (Qgm 2000  _ hf70),tv⟩<|Qaf<|Qal<|frb h
   ·refine hpre (A:=(Qyg p0 x68 p1)) (hap q4_ ⟨asb hb69 (amv rfl),ag_ (alq 4 Qac p1 underlying66),tv⟩) fun q5_=>?_
    refine bfe h (fun hb72 h=>?_) fun hb72 h=>?_
    ·refine wx tbk (hcat (Qyg p0 x68 p1) [(8,rp [(.tmp 32,(B ((decide ((p1.length:Int)<1)))))] (B true))]) (hap q5_ ⟨asb hb72 (amv rfl),tv⟩)<|wtr ?_
     obtain⟨x74,hf73,h⟩:=bno h
     exact wx tbk [(0,rp _ _)] ⟨apw Qoc (Qgm 2000  _ hf73),tv⟩<|Qaf<|Qal<|frb h
    ·refine hpre (A:=(Qyf p0 x68 p1)) (hap q5_ ⟨asb hb72 (amv rfl),ag_ (alq 4 Qac p1 underlying66),tv⟩) fun q6_=>?_
     refine bfe h (fun hb75 h=>?_) fun hb75 h=>?_
     ·refine wx tbk (hcat (Qyf p0 x68 p1) [(13,rp [(.tmp 37,(B ((decide ((p1.length:Int)>6)))))] (B true))]) (hap q6_ ⟨asb hb75 (amv rfl),tv⟩)<|wtr ?_
      obtain⟨x77,hf76,h⟩:=bno h
      exact wx tbk [(0,rp _ _)] ⟨apw Qoc (Qgm 2000  _ hf76),tv⟩<|Qaf<|Qal<|frb h
     ·obtain⟨x79,hf78,h⟩:=bno h
      refine wx tbk (hcat (Qyf p0 x68 p1) [(13,rp [(.tmp 37,(B ((decide ((p1.length:Int)>6)))))] (B false)),(15,rp [(.tmp 38,B false),fu 18,(.tmp 39,(Qor p1))] (B x79))]) (hap q6_ ⟨asb hb75 (amv rfl),ag_ (apv Zgv (Qp1 N p1 _ hf78) (nlc (nld Qak _) nl0) nll),tv⟩) ?_
      refine bfe h (fun hc80 h=>?_) fun hc80 h=>?_
      ·refine wft hc80 ?_
       obtain⟨x82,hf81,h⟩:=bno h
       exact wx tbk [(0,rp _ _)] ⟨apw Qoc (Qgm 2000  _ hf81),tv⟩<|Qaf<|Qal<|frb h
      ·exact wfn hc80<|Qaq<|thn<|⟨(),h,(mto (n:=171) [(0,(.dat 5 (p0.map Qam))),(1,(Qor p1)),(2,(K .u8 p2))] [] [] hq (pc (rnd Qap) (pc (rnd Qak) (pw pn))) qn)⟩
end
section
theorem Ql5:Qgw 2000=some true:=by decide +kernel
theorem Q2n (N:Nat) {t:List GRow}(h:t.length≤1000) (L c:Int):Qhu N t L c=some (apN t L c):=by
 unfold Qhu apN
 rw[Qbs (by omega) (by omega)]
section
variable {N : Nat} (hN : 1100 ≤ N) {t : List GRow} (ht : tabB t = true) {l : List Qaa} (hl : ∀ s ∈ l, strB s = true) (h1 : 1 ≤ l.length) (h6 : l.length ≤ 6)
theorem Q69 (k:List (List Qaa)→Option Bool) (h6:l.length≤6):∀(m i:Nat) (acc:List (List Qaa)),(l.drop i).length<m→acc.length=i→Qdb N l k m acc i=k (acc++ones (l.drop i)):=by
 intro m
 induction m with
 |zero=>intro i acc h;omega
 |succ m ih=>
  intro i acc h ha
  rw[Qdb]
  cases hd:l.drop i with
  |nil=>
   have:=Qc9 hd
   rw[decide_eq_false (show ¬((i:Int)<(l.length:Int)) by omega),cond_false]
   simp[ones]
  |cons x q=>
   obtain⟨hg,hd',hlt⟩:=Qcl hd
   rw[decide_eq_true (show(i:Int)<(l.length:Int) by omega),cond_true,Qcu hg,Option.bind_some,Q3g,Option.bind_some]
   unfold chk
   rw[show decide ((acc.length+[[x]].length)*24≤140737488355328)=true from by simp;omega,cond_true,w64S (i:=i) (by omega),ih (i+1) _ (dlt hd hd' h) (by simp[ha]),hd']
   simp[ones]
include ht hl in
theorem Zan {v:Int}(hv:0≤v∧v≤(t.length:Int)-1) (N:Nat) {s:Qaa}(hs:s∈l):Qdc N s t (v+1)=some (!decide (¬(apF t v s).Scale>0)):=by
 have h20:=Qn2 ht
 obtain⟨hr,hR⟩:=Qwp ht (Qep.2 hv)
 have hk:=Qvz ht hv (Qit.1 (hl s hs))
 unfold Qdc Qgz
 rw[Qbs (by omega) (by omega),show v+1-1=v by omega]
 unfold Qf9
 rw[hr,Option.bind_some]
 simp only[Option.bind_some]
 rw[Zjn N hR (Qit.1 (hl s hs)),Option.bind_some,Option.bind_some]
 show some (!((apF t v s).Scale==0))=_
 have:=hk.sc
 by_cases h:(apF t v s).Scale=0
 ·rw[h];rfl
 ·rw[beq_eq_false_iff_ne.2 h,decide_eq_false (by omega)]
include hN ht hl h6 in
theorem Zfp {v:Int}(hv:0≤v∧v≤(t.length:Int)-1):Qds N l t (v+1)=some (Qko t v l):=by
 have hc:∀(n i:Nat),(l.drop i).length<n→(Qaw N l t (fun _=>some (-1)) (v+1) n i).bind (fun x=>some (decide (x≥0)))=some ((l.drop i).any fun s=>!decide (¬(apF t v s).Scale>0)):=by
  intro n
  induction n with
  |zero=>intro i h;cases h
  |succ n ih=>
   intro i hn
   rw[Qaw]
   cases hd:l.drop i with
   |nil=>
    have:=Qc9 hd
    rw[show decide ((i:Int)<(l.length:Int))=false by simp;omega,cond_false]
    rfl
   |cons a q=>
    obtain⟨g1,g2,g3⟩:=Qcl hd
    rw[show decide ((i:Int)<(l.length:Int))=true by simp;omega,cond_true,Qcu g1,Option.bind_some,Zan ht hl hv N (List.mem_of_getElem? g1),Option.bind_some,List.any_cons]
    cases hb:(!decide (¬(apF t v a).Scale>0)) with
    |true=>rw[cond_true,Option.bind_some,Bool.true_or,decide_eq_true (by omega)]
    |false=>rw[cond_false,show w64 ((i:Int)+1)=((i+1:Nat):Int) by rw[Qbs]<;>omega,ih (i+1) (by rw[g2];rw[hd] at hn;simp at hn;omega),g2,Bool.false_or]
 have:=hc N 0 (by simp;omega)
 unfold Qds Qbn Qbu
 rw[Qhp]
 rw[show((0:Nat):Int)=0 from rfl,List.drop_zero] at this
 rw[this,Option.bind_some,Qoh]
 rfl
include hN ht hl h6 in
theorem Q8n (k:Int→Option (Int×Int)):∀(m n:Nat),m<n→m≤t.length→Qc4 N t l k n m=k (dpN t l m):=by
 intro m
 induction m with
 |zero=>
  intro n h _
  obtain⟨n,rfl⟩:∃q,n=q+1:=⟨n-1,by omega⟩
  rw[Qc4,decide_eq_false (show ¬(((0:Nat):Int)>0) by omega),cond_false]
  rfl
 |succ m ih=>
  intro n h hm
  obtain⟨n,rfl⟩:∃q,n=q+1:=⟨n-1,by omega⟩
  have h20:=Qn2 ht
  rw[Qc4,decide_eq_true (show(((m+1:Nat):Int)>0) by omega),cond_true,show((m+1:Nat):Int)=(m:Int)+1 by omega,Zfp hN ht hl h6 ⟨by omega,by omega⟩,Option.bind_some,dpN]
  cases Qko t (m:Int) l with
  |true=>rw[cond_true,cond_true,Qbs (by omega) (by omega),show(m:Int)+1-1=(m:Int) by omega];exact ih n (by omega) (by omega)
  |false=>rw[cond_false,cond_false];rfl
include hN ht hl h1 h6 in
theorem Zg1:Qhi N t l=some (if dpN t l t.length=t.length then(0,7) else((dpN t l t.length:Int),0)):=by
 have h20:=Qn2 ht
 have ha:Qdt N l=some (l.all strB):=by
  have hc:Qbf N l=some (l.any fun x=>!strB x):=by
   unfold Qbf Qbv Qcf
   refine Qg8 (F:=Qa5 N l fun _=>some (-1)) (k:=fun _=>some (-1)) (q:=Qdd N) (fun n y=>rfl) (fun x=>?_) rfl (by omega) (by omega)
   unfold Qdd
   rw[Qq0,Option.bind_some]
  unfold Qdt
  rw[hc,Option.bind_some,Qoh]
 unfold Qhi Qiv
 rw[Qrn (by omega) (by omega),Option.bind_some,ht,decide_eq_false (show ¬((l.length:Int)>40) by omega),ha,List.all_eq_true.2 hl]
 simp only[Bool.not_true,cond_false,Option.bind_some]
 rw[show((0:Int) != 0)=false from rfl,cond_false,beq_eq_false_iff_ne.2 (show ¬((l.length:Int)=0) by omega),cond_false,Qhp,Q8n hN ht hl h6 _ t.length N (by omega) (Nat.le_refl _)]
 by_cases h:dpN t l t.length=t.length
 ·rw[if_pos h,h,beq_self_eq_true,cond_true]
 ·rw[if_neg h,beq_eq_false_iff_ne.2 (show ¬((dpN t l t.length:Int)=(t.length:Int)) by omega),cond_false]
include hN ht hl h1 h6 in
theorem Q58 {v:Int}(hv:0≤v∧v≤(t.length:Int)-1):∃a b,Qgl N (apN t v 0) [0,0,0] (ones l)=some (a,b,0)∧(Qko t v l=true→a=-1)∧(Qko t v l=false→0≤a∧b=1):=by
 have h20:=Qn2 ht
 have ho:(ones l).length≤1000:=by unfold ones;rw[List.length_map];omega
 have hoc:∀c∈ones l,c.length≤1000:=by
  intro c hc
  obtain⟨s,_,rfl⟩:=List.mem_map.1 hc
  exact Nat.le_of_ble_eq_true rfl
 obtain⟨u1,u2⟩:=Q88 t v 0 l 0
 refine⟨(unsL 0 (l.map fun s=>Qj4 (apN t v 0) [s] (apT t v 0 s))).1,(unsL 0 (l.map fun s=>Qj4 (apN t v 0) [s] (apT t v 0 s))).2,?_,fun h=>?_,fun h=>?_⟩
 ·rw[Zfc (Qyb (by omega) v 0) (by omega) ho hoc (by simp)]
  unfold unsA
  rw[if_pos (Q2m ht hv ⟨Int.le_refl _,by omega⟩ hl h1 h6),Qz5 ht hv l hl]
 ·rw[u1 h]
 ·have:=u2 h
  exact⟨by simpa using this.1,this.2⟩
end
structure Fnd (t:List GRow) (l:List Qaa) (a:BS):Prop where
 ge:-1≤a.1
 no:a.2.2=false→a.1=-1
 yes:a.2.2=true→∃v:Int,a.2.1=[v]∧0≤v∧v≤(t.length:Int)-1∧Qko t v l=true∧0≤a.1
theorem Q11 {t:List GRow}(ht:tabB t=true) {l:List Qaa}(hl:∀s∈l,strB s=true) (hne:l≠[]) (L:Int):∀(W:List (List Int)) (a:BS),(∀w∈W,∃v:Int,w=[v]∧0≤v∧v≤(t.length:Int)-1)→Fnd t l a →
  Fnd t l (W.foldl (stp (apN t L 0) [0,0,0] (ones l)) a)∧(a.2.2=true→(W.foldl (stp (apN t L 0) [0,0,0] (ones l)) a).2.2=true)∧(∀v:Int,[v]∈W→Qko t v l=true→(W.foldl (stp (apN t L 0) [0,0,0] (ones l)) a).2.2=true)
 |[],a,_,h=>⟨h,fun h=>h,fun v hv=>by cases hv⟩
 |w::W,a,hW,h=>by
  obtain⟨v,rfl,v0,v1⟩:=hW w List.mem_cons_self
  obtain⟨s1,s2⟩:=Zj6 ht (L:=L) (c:=0) ⟨Int.le_refl _,by omega⟩ hl hne ⟨v0,v1⟩
  rw[List.foldl_cons]
  have hn:Fnd t l (stp (apN t L 0) [0,0,0] (ones l) a [v])∧(a.2.2=true→(stp (apN t L 0) [0,0,0] (ones l) a [v]).2.2=true)∧(Qko t v l=true→(stp (apN t L 0) [0,0,0] (ones l) a [v]).2.2=true):=by
   unfold stp
   generalize stmA (apN t L 0) [0,0,0] (ones l) [v]=S at s1 s2
   have hge:=h.ge
   cases hs:Qko t v l with
   |true=>
    have:=s1 hs
    by_cases hS:S>a.1
    ·rw[if_pos hS]
     exact⟨⟨by dsimp only;omega,fun h=>(by cases h),fun _=>⟨v,rfl,v0,v1,hs,this⟩⟩,fun _=>rfl,fun _=>rfl⟩
    ·rw[if_neg hS]
     refine⟨h,fun h=>h,fun _=>?_⟩
     cases hb:a.2.2 with
     |true=>rfl
     |false=>have:=h.no hb;omega
   |false=>
    have:=s2 hs
    rw[if_neg (by omega)]
    exact⟨h,fun h=>h,fun h=>by cases h⟩
  obtain⟨a1,a2,a3⟩:=Q11 ht hl hne L W _ (fun w hw=>hW w (List.mem_cons_of_mem _ hw)) hn.1
  refine⟨a1,fun h=>a2 (hn.2.1 h),fun u hu hs=>?_⟩
  rcases List.mem_cons.1 hu with he |hu
  ·obtain rfl:=(List.cons.inj he).1
   exact a2 (hn.2.2 hs)
  ·exact a3 u hu hs
theorem Zcc (T:Nat):(∀w∈Qkp T 1,∃v:Int,w=[v]∧0≤v∧v≤(T:Int)-1)∧∀v:Nat,v<T→[(v:Int)]∈Qkp T 1:=by
 refine⟨fun w hw=>?_,fun v hv=>?_⟩
 ·simp only[Qkp,List.mem_flatMap,List.mem_map,List.mem_range,List.mem_singleton] at hw
  obtain⟨a,ha,b,hb,rfl⟩:=hw
  subst hb
  exact⟨(a:Int),rfl,by omega,by omega⟩
 ·simp only[Qkp,List.mem_flatMap,List.mem_map,List.mem_range,List.mem_singleton]
  exact⟨v,hv,[],rfl,rfl⟩
theorem Zg5 {N:Nat}(hN:1100≤N) {t:List GRow}(ht:tabB t=true) {l:List Qaa}(hl:∀s∈l,strB s=true) (h1:1≤l.length) (h6:l.length≤6) {L:Nat}(hL:L<t.length) (hs:Qko t L l=true) :
  ∃(v:Int) (b:Int),Qjy N (apN t L 0) [0,0,0] (ones l)=some ([v],b,0)∧Qko t v l=true:=by
 have h20:=Qn2 ht
 have ho:(ones l).length≤1000:=by unfold ones;rw[List.length_map];omega
 have hoc:∀c∈ones l,c.length≤1000:=by
  intro c hc
  obtain⟨s,_,rfl⟩:=List.mem_map.1 hc
  exact Nat.le_of_ble_eq_true rfl
 obtain⟨c1,c2⟩:=Zcc t.length
 have hi:Fnd t l (-1,[],false):=⟨Int.le_refl _,fun _=>rfl,fun h=>by cases h⟩
 obtain⟨f1,_,f3⟩:=Q11 ht hl (by intro h;rw[h] at h1;simp at h1) (L:Int) (Qkp t.length 1) _ c1 hi
 have hf:=f3 (L:Int) (c2 L hL) hs
 obtain⟨v,e,_,_,hv,_⟩:=f1.yes hf
 have hb:bstF (apN t L 0) [0,0,0] (ones l)=(Qkp t.length 1).foldl (stp (apN t (L:Int) 0) [0,0,0] (ones l)) (-1,[],false):=by
  unfold bstF
  rw[Zj8]
  rfl
 rw[←hb] at e hf
 refine⟨v,(bstF (apN t L 0) [0,0,0] (ones l)).1,?_,hv⟩
 rw[Zg4 (Qyb (by omega) _ 0) hN ho hoc (by simp)]
 unfold Zg6
 rw[if_pos (Q2m ht ⟨by omega,by omega⟩ ⟨Int.le_refl _,by omega⟩ hl h1 h6),Zj8,if_neg (by decide),hf,cond_true,e]
theorem Qzl (t:List GRow) (l:List Qaa) (up:Int) (gt:Q10 t) (_:Qsc l) (gu:Zlf up):Qh1 (t.length+2000) t l up=some true:=by
 obtain⟨N,hN⟩:∃N,N=t.length+2000:=⟨_,rfl⟩
 rw[←hN]
 have gt1:=gt.1
 rw[Q7m] at gt1
 have bu:=bounds_u8 gu
 unfold Qh1
 rw[Qhp,Q6u (by omega) (by omega),Option.bind_some]
 cases ht:tabB t with
 |false=>rw[show(!false)=true from rfl,cond_true,Ql5,Option.bind_some]
 |true=>
 rw[show(!true)=false from rfl,cond_false]
 have h20:=Qn2 ht
 by_cases hl1:(l.length:Int)<1
 ·rw[decide_eq_true hl1,cond_true,Ql5,Option.bind_some]
 rw[decide_eq_false hl1,cond_false]
 by_cases hl6:(l.length:Int)>6
 ·rw[decide_eq_true hl6,cond_true,Ql5,Option.bind_some]
 rw[decide_eq_false hl6,cond_false,Zaf (by omega) (by omega),Option.bind_some]
 cases hl0:l.all strB with
 |false=>rw[show(!false)=true from rfl,cond_true,Ql5,Option.bind_some]
 |true=>
 rw[show(!true)=false from rfl,cond_false,Zae (by omega) (by omega),Option.bind_some,Q3f (by omega) (by omega),Option.bind_some]
 have hl:=List.all_eq_true.1 hl0
 have h1:1≤l.length:=by omega
 have h6:l.length≤6:=by omega
 have hNN:1100≤N:=by omega
 rw[Zg1 hNN ht hl h1 h6,Option.bind_some,Qhp]
 have hlp:=fun k=>Q69 (N:=N) (l:=l) k h6 N 0 [] (by simp;omega) rfl
 rw[show((0:Nat):Int)=0 from rfl] at hlp
 rw[hlp,List.drop_zero,List.nil_append]
 have hdl:=Zd6 t l t.length
 by_cases hD:dpN t l t.length=t.length
 ·rw[if_pos hD,show((0,7):Int×Int).2=7 from rfl,show((7:Int) != 0)=true from rfl,cond_true,Qbs (x:=(t.length:Int)-1) (by omega) (by omega),Q2n N (by omega),Option.bind_some]
  have hb:=Qzj t l t.length (t.length-1) (by omega)
  rw[show((t.length-1:Nat):Int)=(t.length:Int)-1 by omega] at hb
  obtain⟨a,b,e,_,q⟩:=Q58 hNN ht hl h1 h6 (v:=(t.length:Int)-1) ⟨by omega,by omega⟩
  rw[e,Option.bind_some,show((7:Int)==7)=true from rfl,cond_true]
  dsimp only
  rw[show((0:Int)==0)=true from rfl,cond_true,decide_eq_true (q hb).1,cond_true,Ql5,Option.bind_some]
 rw[if_neg hD]
 dsimp only
 obtain⟨D,hDd⟩:∃D,D=dpN t l t.length:=⟨_,rfl⟩
 have hsafe:=Q2c t l t.length
 have hbad:=Qzj t l t.length
 rw[←hDd] at hdl hD hsafe hbad
 rw[←hDd]
 have e1:w64 ((t.length:Int)-(D:Int))=(t.length:Int)-D:=Qbs (by omega) (by omega)
 rw[show((0:Int) != 0)=false from rfl,cond_false,e1]
 unfold chk
 rw[show((t.length:Int)-(D:Int) != 0)=true from bne_iff_ne.2 (by omega),cond_true,Qbs (x:=up) (by omega) (by omega)]
 have hm1:=Int.tmod_nonneg ((t.length:Int)-(D:Int)) bu.1
 have hm2:=Int.tmod_lt_of_pos up (show(0:Int)<(t.length:Int)-D by omega)
 generalize up.tmod ((t.length:Int)-(D:Int))=u at hm1 hm2
 rw[Qbs (x:=(D:Int)+u) (by omega) (by omega),Option.bind_some,Q2n N (by omega),Option.bind_some]
 obtain⟨a,b,ea,qa,_⟩:=Q58 hNN ht hl h1 h6 (v:=(D:Int)+u) ⟨by omega,by omega⟩
 have hsu:=hsafe (D+u.toNat) (by omega) (by omega)
 rw[show((D+u.toNat:Nat):Int)=(D:Int)+u by omega] at hsu
 have:=qa hsu
 subst this
 obtain⟨v,bb,eb,hv⟩:=Zg5 hNN ht hl h1 h6 (L:=D) (by omega) (hsafe D (Nat.le_refl _) (by omega))
 rw[ea,Option.bind_some,Q2n N (by omega),Option.bind_some,eb,Option.bind_some,Qhp]
 dsimp only
 rw[show((0:Int) != 0)=false from rfl,cond_false,show((-1:Int) != -1)=false from rfl,cond_false,cond_false,show((([v]:List Int).length:Int) != 1)=false from rfl,cond_false]
 by_cases h0:(D:Int)>0
 ·obtain⟨a,b,ec,_,qc⟩:=Q58 hNN ht hl h1 h6 (v:=(D:Int)-1) ⟨by omega,by omega⟩
  have hb:=hbad (D-1) (by omega)
  rw[show((D-1:Nat):Int)=(D:Int)-1 by omega] at hb
  obtain⟨q1,rfl⟩:=qc hb
  have hne:v≠(D:Int)-1:=by
   intro h
   rw[h,hb] at hv
   cases hv
  rw[decide_eq_true h0,cond_true,Qbs (x:=(D:Int)-1) (by omega) (by omega),Q2n N (by omega),Option.bind_some,ec,Option.bind_some]
  dsimp only
  rw[show((0:Int) != 0)=false from rfl,cond_false,decide_eq_false (show ¬(a<0) by omega),cond_false,show((1:Int) != 1)=false from rfl,cond_false,show getI [v] 0=some v from rfl,Option.bind_some,beq_eq_false_iff_ne.2 hne,cond_false,Ql5,Option.bind_some]
 ·rw[decide_eq_false h0,cond_false,Ql5,Option.bind_some]
end
end Go.Proofs.YtflmombnmnblnaaGreat
