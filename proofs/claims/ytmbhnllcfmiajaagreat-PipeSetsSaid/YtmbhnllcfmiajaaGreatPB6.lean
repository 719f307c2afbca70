/-
  Plain laws on numbers, streams, tables and flashes, for layer 6. No conditions.
-/
import Derived.Test.YtmbhnllcfmiajaaGreatX6
import Derived.Test.YtmbhnllcfmiajaaGreatXo
namespace Go.Proofs.YtmbhnllcfmiajaaGreat
open Go.RowKit
theorem Qd8 {x:Int} (h:-9223372036854775808≤x) (h':x≤9223372036854775807):w64 x=x:=by
 unfold w64
 rw [IntKind.wrap_i64]
 omega
theorem Qd1 {α:Type} {l:List α} {i:Nat} {x:α} (h:l[i]? = some x):getI l (i:Int)=some x:=by
 simp [getI,h]
def btw (a lo hi:Int):Bool:=decide (lo≤a)&&decide (a≤hi)
theorem Qkj {a lo hi:Int}:btw a lo hi=true ↔ lo≤a∧a≤hi:=by simp [btw]
theorem Q5k:maxLen=9223372036854775807:=rfl
theorem Qjg {κ β:Type} (k:κ) (f:κ→Option β):Qby k f=f k:=by rw [Qby]
def rowB (r:GRow):Bool:=btw r.T 0 400&&btw r.P 1 10000&&btw r.Liquid 0 4000&&btw r.Silica 0 2000&&decide (r.Liquid<r.Vapour)&&decide (r.Vapour≤4000)
def Q4q (o r:GRow):Bool:=decide (o.T<r.T)&&decide (o.P<r.P)&&decide (o.Liquid<r.Liquid)&&decide (o.Silica≤r.Silica)
def Qmt:List GRow→Bool
 | a::b::l=>Q4q a b&&Qmt (b::l)
 | _=>true
def tabB (t:List GRow):Bool:=btw t.length 2 20&&t.all rowB&&Qmt t
theorem Q5s (N:Nat) (a lo hi:Int):Qef N a lo hi=some (btw a lo hi):=by
 unfold Qef btw
 by_cases h:lo≤a<;>simp [h]
theorem Qrq (N:Nat) (a lo hi:Int):Qci N a lo hi=some (btw a lo hi):=by
 unfold Qci btw
 by_cases h:lo≤a<;>simp [h]
theorem Zan (N:Nat) (r:GRow):Qfz N r=some (rowB r):=by
 unfold Qfz rowB
 simp only [Qrq,Option.bind_some]
 cases btw r.T 0 400<;>cases btw r.P 1 10000<;>cases btw r.Liquid 0 4000<;>cases btw r.Silica 0 2000<;>by_cases h:r.Liquid<r.Vapour<;>simp [h]
theorem Qce {α:Type} {t:List α} {i:Nat} {a:α} {l:List α} (h:t.drop i=a::l):t[i]? = some a∧t.drop (i+1)=l∧i<t.length:=by
 have hlt:i<t.length:=by
  rcases Nat.lt_or_ge i t.length with h' | h'
  ·exact h'
  ·rw [List.drop_eq_nil_of_le h'] at h; cases h
 rw [List.drop_eq_getElem_cons hlt] at h
 injection h with h1 h2
 exact ⟨by rw [List.getElem?_eq_getElem hlt,h1],h2,hlt⟩
theorem Qdd {α:Type} {t:List α} {i:Nat} (h:t.drop i=[]):t.length≤i:=List.drop_eq_nil_iff.1 h
theorem Qxj (N:Nat) (t:List GRow) (k:Unit→Option Int) (hl:t.length≤1000):∀ (n i:Nat),(t.drop i).length<n→i≤t.length →
  Qa2 N t k n i=bif (t.drop i).all rowB then k () else some ((i:Int)+((t.drop i).findIdx fun r=>!rowB r:Nat)):=by
 intro n
 induction n with
 | zero=>intro i h; omega
 | succ n ih=>
  intro i h hi
  unfold Qa2
  cases hd:t.drop i with
  | nil=>
   have:=Qdd hd
   rw [show (decide ((i:Int)<(t.length:Int)))=false by simp; omega]
   rfl
  | cons a l=>
   obtain ⟨h1,h2,h3⟩:=Qce hd
   rw [show (decide ((i:Int)<(t.length:Int)))=true by simp; omega]
   simp only [cond_true,Qd1 h1,Option.bind_some,Qd9,Zan]
   cases hr:rowB a with
   | false=>simp [hr,List.findIdx_cons]
   | true=>
    have e:w64 ((i:Int)+1)=((i+1:Nat):Int):=by rw [Qd8]<;>omega
    rw [e]
    have:=ih (i+1) (by rw [h2]; rw [hd] at h; simpa using h) (by omega)
    simp only [Bool.not_true,cond_false,this,h2,List.all_cons,hr,Bool.true_and,List.findIdx_cons]
    congr 2
    push_cast
    omega
theorem Q64 {N:Nat} {t:List GRow} (hl:t.length≤1000) (hN:1001≤N):Qdw N t=some (t.all rowB):=by
 have:=Qxj N t (fun _=>some (-1)) hl N 0 (by simp; omega) (Nat.zero_le _)
 rw [show ((0:Nat):Int)=0 from rfl,List.drop_zero] at this
 unfold Qdw Qbv Qb3 Qby
 dsimp only
 rw [this]
 cases h:t.all rowB with
 | true=>simp
 | false=>simp
theorem Q03 (N:Nat) (t:List GRow) (k:Unit→Option Bool) (hl:t.length≤1000):∀ (n i:Nat),(t.drop i).length<n→i<t.length →
  Qcb N t k n i=bif Qmt (t.drop i) then k () else some false:=by
 intro n
 induction n with
 | zero=>intro i h; omega
 | succ n ih=>
  intro i h hi
  unfold Qcb
  have hdr:∀ x,(t.drop (1:Int).toNat)[i]? = some x ↔ t[i+1]? = some x:=fun x=>by
   rw [show (1:Int).toNat=1 from rfl,List.getElem?_drop,Nat.add_comm]
  have hlen:(t.drop (1:Int).toNat).length=t.length - 1:=by simp
  cases hd:t.drop i with
  | nil=>have:=Qdd hd; omega
  | cons a l=>
   obtain ⟨h1,h2,h3⟩:=Qce hd
   cases l with
   | nil=>
    have:=Qdd h2
    rw [show (decide ((i:Int)<((t.drop (1:Int).toNat).length:Int)))=false by rw [hlen]; simp; omega]
    rfl
   | cons b l=>
    obtain ⟨h4,h5,h6⟩:=Qce h2
    rw [show (decide ((i:Int)<((t.drop (1:Int).toNat).length:Int)))=true by rw [hlen]; simp; omega]
    have e:w64 ((i:Int)+1)=((i+1:Nat):Int):=by rw [Qd8]<;>omega
    simp only [cond_true,Qd1 ((hdr b).2 h4),Qd1 h1,Option.bind_some,e]
    have:=ih (i+1) (by rw [h2]; rw [hd] at h; simpa using h) (by omega)
    simp only [this,h2,Qmt,Q4q]
    by_cases c1:b.T≤a.T
    ·simp [c1,Int.not_lt.2 c1]
    ·by_cases c2:b.P≤a.P
     ·simp [c1,c2,Int.not_lt.2 c2]
     ·by_cases c3:b.Liquid≤a.Liquid
      ·simp [c1,c2,c3,Int.not_lt.2 c3]
      ·by_cases c4:b.Silica<a.Silica
       ·simp [c1,c2,c3,c4,Int.not_le.2 c4]
       ·simp [c1,c2,c3,c4,Int.not_le.1 c1,Int.not_le.1 c2,Int.not_le.1 c3,Int.not_lt.1 c4]
theorem Q4m {N:Nat} {t:List GRow} (hl:t.length≤1000) (hN:1001≤N):Qea N t=some (tabB t):=by
 unfold Qea tabB
 rw [Qrq,Q64 hl hN]
 cases hb:btw t.length 2 20 with
 | false=>rfl
 | true=>
  have h2:2≤t.length:=by simp [btw] at hb; omega
  cases ha:t.all rowB with
  | false=>rfl
  | true=>
   have:=Q03 N t (fun _=>some true) hl N 0 (by simp; omega) (by omega)
   rw [show ((0:Nat):Int)=0 from rfl,List.drop_zero] at this
   simp only [Option.bind_some,Bool.not_true,cond_false,Qby,Bool.true_and]
   rw [this]
   rw [show (decide ((1:Int)≤(t.length:Int)))=true by rw [decide_eq_true_eq]; omega]
   cases Qmt t<;>simp [chk]
def Qw9:Option GRow→List GRow→Bool
 | _,[]=>true
 | o,a::l=>rowB a&&(match o with | none=>true | some p=>Q4q p a)&&Qw9 (some a) l
theorem Qr0:∀ (a:GRow) (l:List GRow),Qw9 (some a) l=(l.all rowB&&Qmt (a::l))
 | _,[]=>rfl
 | a,b::l=>by
  rw [Qw9,Qr0 b l,List.all_cons,Qmt]
  cases rowB b<;>cases l.all rowB<;>cases Q4q a b<;>simp
theorem Q1d:∀ (t:List GRow),Qw9 none t=(t.all rowB&&Qmt t)
 | []=>rfl
 | a::l=>by
  rw [Qw9,Qr0 a l,List.all_cons]
  cases rowB a<;>simp
theorem Qw1 (N:Nat) (t:List GRow) (k:Unit→Option Bool) (hl:t.length≤9223372036854775807):∀ (n i:Nat),(t.drop i).length<n→i≤t.length →
  Qc6 N t k n i=bif Qw9 (if i=0 then none else t[i - 1]?) (t.drop i) then k () else some false:=by
 intro n
 induction n with
 | zero=>intro i h; omega
 | succ n ih=>
  intro i h hi
  unfold Qc6
  cases hd:t.drop i with
  | nil=>
   have:=Qdd hd
   rw [show (decide ((i:Int)<(t.length:Int)))=false by simp; omega]
   rfl
  | cons a l=>
   obtain ⟨h1,h2,h3⟩:=Qce hd
   rw [show (decide ((i:Int)<(t.length:Int)))=true by simp; omega]
   have e:w64 ((i:Int)+1)=((i+1:Nat):Int):=by rw [Qd8]<;>omega
   have:=ih (i+1) (by rw [h2]; rw [hd] at h; simpa using h) (by omega)
   simp only [Nat.add_sub_cancel,Nat.succ_ne_zero,if_false,h1,h2] at this
   simp only [cond_true,Qd1 h1,Option.bind_some,e,Q5s,this,Qw9,rowB,Qby]
   cases btw a.T 0 400
   ·rfl
   cases btw a.P 1 10000
   ·rfl
   cases btw a.Liquid 0 4000
   ·rfl
   cases btw a.Silica 0 2000
   ·rfl
   by_cases c1:a.Vapour≤a.Liquid
   ·simp [c1,Int.not_lt.2 c1]
   by_cases c2:a.Vapour>4000
   ·simp [c1,c2,Int.not_le.2 c2]
   cases i with
   | zero=>simp [c1,c2,Int.not_le.1 c1,Int.not_lt.1 c2]
   | succ i=>
    have hp:t[i]? = some t[i]:=List.getElem?_eq_getElem (by omega)
    have e2:w64 (((i+1:Nat):Int) - 1)=(i:Int):=by rw [Qd8]<;>omega
    have e3:(decide (((i+1:Nat):Int)>0))=true:=by rw [decide_eq_true_eq]; omega
    generalize t[i]=b at hp
    simp only [Bool.not_true,cond_false,e3,cond_true,e2,Qd1 hp,Option.bind_some,Nat.add_sub_cancel,hp,Q4q,show ¬ (i+1=0) by omega,if_false,decide_eq_false c1,decide_eq_false c2,decide_eq_true (Int.not_le.1 c1),decide_eq_true (Int.not_lt.1 c2),Bool.true_and]
    by_cases d1:a.T≤b.T
    ·simp [d1,Int.not_lt.2 d1]
    ·by_cases d2:a.P≤b.P
     ·simp [d1,d2,Int.not_lt.2 d2]
     ·by_cases d3:a.Liquid≤b.Liquid
      ·simp [d1,d2,d3,Int.not_lt.2 d3]
      ·by_cases d4:a.Silica<b.Silica
       ·simp [d1,d2,d3,d4,Int.not_le.2 d4]
       ·simp [d1,d2,d3,d4,Int.not_le.1 d1,Int.not_le.1 d2,Int.not_le.1 d3,Int.not_lt.1 d4]
theorem Q4y {N:Nat} {t:List GRow} (hl:t.length≤9223372036854775807) (hN:t.length<N):Qh7 N t=some (tabB t):=by
 have:=fun k=>Qw1 N t k hl N 0 (by simp; omega) (Nat.zero_le _)
 unfold Qh7 Qby tabB
 rw [show ((0:Nat):Int)=0 from rfl] at this
 dsimp only
 rw [this]
 simp only [List.drop_zero,if_true,Q1d,btw]
 by_cases h:(2:Int)≤t.length<;>cases t.all rowB<;>cases Qmt t<;>simp [h]
theorem Q1h (N:Nat) (t:List GRow) (k:List GRow→Option (List GRow)) (hl:t.length≤1000):∀ (n i:Nat) (acc:List GRow),(t.drop i).length<n→i≤t.length→acc.length=i →
  Qdo N t k n acc i=k (acc++t.drop i):=by
 intro n
 induction n with
 | zero=>intro i acc h; omega
 | succ n ih=>
  intro i acc h hi ha
  unfold Qdo
  cases hd:t.drop i with
  | nil=>
   have:=Qdd hd
   rw [show (decide ((i:Int)<(t.length:Int)))=false by simp; omega]
   simp
  | cons a l=>
   obtain ⟨h1,h2,h3⟩:=Qce hd
   rw [show (decide ((i:Int)<(t.length:Int)))=true by simp; omega]
   have e:w64 ((i:Int)+1)=((i+1:Nat):Int):=by rw [Qd8]<;>omega
   have hc:decide ((acc.length+[a].length) * 40≤140737488355328)=true:=by simp; omega
   simp only [cond_true,Qd1 h1,Option.bind_some,e,hc,chk]
   rw [ih (i+1) _ (by rw [h2]; rw [hd] at h; simpa using h) (by omega) (by simp [ha]),h2]
   simp
theorem Q8b {N:Nat} {t:List GRow} (hl:t.length≤1000) (hN:1001≤N):Qia N t=some t:=by
 have:=Q1h N t (fun y=>some y) hl N 0 [] (by simp; omega) (Nat.zero_le _) rfl
 rw [show ((0:Nat):Int)=0 from rfl] at this
 unfold Qia Qby
 dsimp only
 rw [this]
 simp
structure RowV (r:GRow):Prop where
 l0:0≤r.Liquid
 l1:r.Liquid≤4000
 lv:r.Liquid<r.Vapour
 v1:r.Vapour≤4000
 s0:0≤r.Silica
 s1:r.Silica≤2000
structure StrV (s:GStream):Prop where
 m0:0≤s.Mass
 m1:s.Mass≤1000000
 h0:0≤s.Heat
 h1:s.Heat≤4000 * s.Mass
 s0:0≤s.Silica
 s1:s.Silica≤10000 * s.Mass
 g0:0≤s.Gas
 g1:s.Gas≤1000000000
structure Words (r:GRow) (s:GStream):Prop where
 a:w64 (s.Mass * r.Liquid)=s.Mass * r.Liquid
 b:w64 (s.Heat - s.Mass * r.Liquid)=s.Heat - s.Mass * r.Liquid
 c:w64 (s.Mass * r.Vapour)=s.Mass * r.Vapour
 d:w64 (r.Vapour - r.Liquid)=r.Vapour - r.Liquid
structure KeptF (s:GStream) (p:GParts):Prop where
 st:StrV p.Steam
 wa:StrV p.Water
 km:p.Steam.Mass+p.Water.Mass=s.Mass
 kh:p.Steam.Heat+p.Water.Heat=s.Heat
 ks:p.Water.Silica+p.Scale=s.Silica
 kg:p.Steam.Gas+p.Water.Gas=s.Gas
 z:p.Steam.Silica=0
 sc:0≤p.Scale
end Go.Proofs.YtmbhnllcfmiajaaGreat
