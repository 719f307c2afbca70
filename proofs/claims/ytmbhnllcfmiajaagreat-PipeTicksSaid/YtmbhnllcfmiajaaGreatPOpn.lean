/-
  Plain laws on ports: what lies at open ports, and how it changes where ports are taken. No conditions.
-/
import Derived.Test.YtmbhnllcfmiajaaGreatXt
namespace Go.Proofs.YtmbhnllcfmiajaaGreat
open Go.RowKit
def Qrb {α:Type} (i:Nat):Nat→List α→List ((Int×Int)×α)
 | _,[]=>[]
 | j,a::l=>(((i:Int),(j:Int)),a)::Qrb i (j+1) l
def Qh0 {α:Type}:Nat→List (List α)→List ((Int×Int)×α)
 | _,[]=>[]
 | i,r::o=>Qrb i 0 r++Qh0 (i+1) o
def Qg4 {α:Type} (f:α→Int) (U:List (Int×Int)) (l:List ((Int×Int)×α)):Int:=((l.filter fun x=>!U.contains x.1).map fun x=>f x.2).sum
section
variable {α : Type}
theorem Qp0 {i:Nat} {a b:Int} {s:α}:∀ {l:List α} {j:Nat},((a,b),s) ∈ Qrb i j l ↔ a=i∧(j:Int)≤b∧l[(b - j).toNat]? = some s
 | [],j=>by simp [Qrb]
 | x::l,j=>by
  rw [Qrb,List.mem_cons,Qp0 (l:=l) (j:=j+1)]
  constructor
  ·rintro (h | ⟨h1,h2,h3⟩)
   ·simp only [Prod.mk.injEq] at h
    obtain ⟨⟨rfl,rfl⟩,rfl⟩:=h
    exact ⟨rfl,Int.le_refl _,by simp⟩
   ·refine ⟨h1,by omega,?_⟩
    rw [show (b - (j:Int)).toNat=(b - ((j+1:Nat):Int)).toNat+1 by omega]
    simpa using h3
  ·rintro ⟨h1,h2,h3⟩
   by_cases e:b=j
   ·subst e; subst h1
    simp at h3
    exact .inl (by rw [h3])
   ·refine .inr ⟨h1,by omega,?_⟩
    rw [show (b - (j:Int)).toNat=(b - ((j+1:Nat):Int)).toNat+1 by omega] at h3
    simpa using h3
theorem Qp1 {a b:Int} {s:α}:∀ {o:List (List α)} {i:Nat},((a,b),s) ∈ Qh0 i o ↔ (i:Int)≤a∧0≤b∧∃ r,o[(a - i).toNat]? = some r∧r[b.toNat]? = some s
 | [],i=>by simp [Qh0]
 | r::o,i=>by
  rw [Qh0,List.mem_append,Qp0,Qp1 (o:=o) (i:=i+1)]
  constructor
  ·rintro (⟨rfl,h2,h3⟩ | ⟨h1,h2,q,h3,h4⟩)
   ·exact ⟨Int.le_refl _,by omega,r,by simp,by simpa using h3⟩
   ·refine ⟨by omega,h2,q,?_,h4⟩
    rw [show (a - (i:Int)).toNat=(a - ((i+1:Nat):Int)).toNat+1 by omega]
    simpa using h3
  ·rintro ⟨h1,h2,q,h3,h4⟩
   by_cases e:a=i
   ·subst e
    simp at h3
    subst h3
    exact .inl ⟨rfl,by omega,by simpa using h4⟩
   ·refine .inr ⟨by omega,h2,q,?_,h4⟩
    rw [show (a - (i:Int)).toNat=(a - ((i+1:Nat):Int)).toNat+1 by omega] at h3
    simpa using h3
theorem Qua {i:Nat}:∀ (l:List α) (j:Nat),((Qrb i j l).map fun x=>x.1).Nodup
 | [],j=>by simp [Qrb]
 | x::l,j=>by
  rw [Qrb,List.map_cons,List.nodup_cons]
  refine ⟨fun h=>?_,Qua l (j+1)⟩
  obtain ⟨⟨⟨a,b⟩,s⟩,h1,h2⟩:=List.mem_map.1 h
  have:=(Qp0.1 h1).2.1
  simp only [Prod.mk.injEq] at h2
  omega
theorem Qub:∀ (o:List (List α)) (i:Nat),((Qh0 i o).map fun x=>x.1).Nodup
 | [],i=>by simp [Qh0]
 | r::o,i=>by
  rw [Qh0,List.map_append,List.nodup_append]
  refine ⟨Qua r 0,Qub o (i+1),fun x hx y hy=>?_⟩
  obtain ⟨⟨⟨a,b⟩,s⟩,h1,rfl⟩:=List.mem_map.1 hx
  obtain ⟨⟨⟨a',b'⟩,s'⟩,h2,rfl⟩:=List.mem_map.1 hy
  have h3:=(Qp0.1 h1).1
  have h4:=(Qp1.1 h2).1
  intro e
  simp only [Prod.mk.injEq] at e
  omega
theorem Qrs:∀ (o o':List (List α)) (i:Nat),Qh0 i (o++o')=Qh0 i o++Qh0 (i+o.length) o'
 | [],o',i=>by simp [Qh0]
 | r::o,o',i=>by
  rw [List.cons_append,Qh0,Qrs o o' (i+1),Qh0,List.append_assoc,List.length_cons,show i+1+o.length=i+(o.length+1) by omega]
theorem Qzu (f:α→Int) (U:List (Int×Int)) (l l':List ((Int×Int)×α)):Qg4 f U (l++l')=Qg4 f U l+Qg4 f U l':=by
 simp [Qg4,List.filter_append]
theorem Qtv {f:α→Int} {U V:List (Int×Int)} {l:List ((Int×Int)×α)} (h:∀ x ∈ l,(x.1 ∈ U ↔ x.1 ∈ V)):Qg4 f U l=Qg4 f V l:=by
 unfold Qg4
 have:(l.filter fun x=>!U.contains x.1)=l.filter fun x=>!V.contains x.1:=List.filter_congr fun x hx=>by
  have:=h x hx
  by_cases h1:x.1 ∈ U
  ·have h2:=this.1 h1
   simp [h1,h2]
  ·have h2:¬ x.1 ∈ V:=fun h=>h1 (this.2 h)
   simp [h1,h2]
 rw [this]
theorem Qvt (f:α→Int) {U:List (Int×Int)} {p:Int×Int} {s:α}:∀ {l:List ((Int×Int)×α)},(l.map fun x=>x.1).Nodup→(p,s) ∈ l→p ∉ U→Qg4 f (p::U) l=Qg4 f U l - f s
 | [],_,h,_=>by simp at h
 | x::l,hn,h,hp=>by
  rw [List.map_cons,List.nodup_cons] at hn
  have e:∀ V,Qg4 f V (x::l)=(if x.1 ∈ V then 0 else f x.2)+Qg4 f V l:=fun V=>by
   unfold Qg4
   by_cases hv:x.1 ∈ V<;>simp [hv]
  rw [e,e]
  rcases List.mem_cons.1 h with h | h
  ·subst h
   rw [if_pos (by simp),if_neg hp]
   have:Qg4 f (p::U) l=Qg4 f U l:=Qtv fun y hy=>by
    rw [List.mem_cons]
    refine ⟨fun h=>h.resolve_left fun e=>hn.1 ?_,.inr⟩
    rw [← e]
    exact List.mem_map.2 ⟨y,hy,rfl⟩
   rw [this]
   dsimp only
   omega
  ·rw [Qvt f hn.2 h hp]
   have hx:x.1 ≠ p:=fun e=>hn.1 (by rw [e]; exact List.mem_map.2 ⟨_,h,rfl⟩)
   have:(x.1 ∈ p::U) ↔ x.1 ∈ U:=by simp [hx]
   by_cases hv:x.1 ∈ U
   ·rw [if_pos (this.2 hv),if_pos hv]; omega
   ·rw [if_neg (fun h=>hv (this.1 h)),if_neg hv]; omega
theorem Qtu (f:α→Int) {l:List ((Int×Int)×α)} (hl:(l.map fun x=>x.1).Nodup):∀ (P:List (Int×Int)) (S:List α) (U:List (Int×Int)),P.length=S.length→(∀ (i:Nat) p s,P[i]? = some p→S[i]? = some s→(p,s) ∈ l)→P.Nodup→(∀ p ∈ P,p ∉ U) →
  Qg4 f (P++U) l=Qg4 f U l - (S.map f).sum
 | [],[],U,_,_,_,_=>by simp
 | p::P,s::S,U,hlen,hm,hn,hu=>by
  rw [List.nodup_cons] at hn
  have h1:=Qtu f hl P S U (by simpa using hlen) (fun i q t h1 h2=>hm (i+1) q t (by simpa using h1) (by simpa using h2)) hn.2 fun q hq=>hu q (List.mem_cons_of_mem _ hq)
  rw [List.cons_append,Qvt f hl (hm 0 p s rfl rfl),h1]
  ·simp only [List.map_cons,List.sum_cons]; omega
  ·intro h
   rcases List.mem_append.1 h with h | h
   ·exact hn.1 h
   ·exact hu p List.mem_cons_self h
 | [],_::_,_,h,_,_,_=>by simp at h
 | _::_,[],_,h,_,_,_=>by simp at h
theorem Qzt (f:α→Int) {U:List (Int×Int)} {i:Nat} (hU:∀ p ∈ U,p.1 ≠ i):∀ (r:List α) (j:Nat),Qg4 f U (Qrb i j r)=(r.map f).sum
 | [],j=>rfl
 | x::r,j=>by
  have hx:((i:Int),(j:Int)) ∉ U:=fun h=>hU _ h rfl
  have:Qg4 f U (Qrb i j (x::r))=f x+Qg4 f U (Qrb i (j+1) r):=by
   unfold Qg4
   rw [Qrb,List.filter_cons,if_pos (by simpa using hx),List.map_cons,List.sum_cons]
  rw [this,Qzt f hU r (j+1),List.map_cons,List.sum_cons]
theorem Qrq {f:α→Int} {U:List (Int×Int)}:∀ {l:List ((Int×Int)×α)},(∀ x ∈ l,0≤f x.2)→0≤Qg4 f U l
 | [],_=>by simp [Qg4]
 | x::l,h=>by
  have h1:=Qrq (U:=U) fun y hy=>h y (List.mem_cons_of_mem x hy)
  have h2:=h x List.mem_cons_self
  unfold Qg4 at h1 ⊢
  rw [List.filter_cons]
  split
  ·rw [List.map_cons,List.sum_cons]; omega
  ·exact h1
theorem Qz6 (i:Nat) (r:List α):Qh0 i [r]=Qrb i 0 r:=by simp [Qh0]
end
end Go.Proofs.YtmbhnllcfmiajaaGreat
