/-
  Plain laws on ports: what lies at open ports, and how it changes where ports are taken. No conditions.
-/
import Derived.Test.YtmbhnllcfmiajaaGreatXt
namespace Go.Proofs.YtmbhnllcfmiajaaGreat
open Go.RowKit
def Qph {α:Type} (i:Nat):Nat→List α→List ((Int×Int)×α)
 | _,[]=>[]
 | j,a::l=>(((i:Int),(j:Int)),a)::Qph i (j+1) l
def Qhe {α:Type}:Nat→List (List α)→List ((Int×Int)×α)
 | _,[]=>[]
 | i,r::o=>Qph i 0 r++Qhe (i+1) o
def Qgm {α:Type} (f:α→Int) (U:List (Int×Int)) (l:List ((Int×Int)×α)):Int:=((l.filter fun x=>!U.contains x.1).map fun x=>f x.2).sum
section
variable {α : Type}
theorem Qn9 {i:Nat} {a b:Int} {s:α}:∀ {l:List α} {j:Nat},((a,b),s) ∈ Qph i j l ↔ a=i∧(j:Int)≤b∧l[(b - j).toNat]? = some s
 | [],j=>by simp [Qph]
 | x::l,j=>by
  rw [Qph,List.mem_cons,Qn9 (l:=l) (j:=j+1)]
  constructor
  ·rintro (h | ⟨h1,h2,h3⟩)
   ·simp only [Prod.mk.injEq] at h
    obtain ⟨⟨rfl,rfl⟩,rfl⟩:=h
    exact ⟨rfl,Int.le_refl _,by simp⟩
   ·refine ⟨h1,by omega,?_⟩
    rw [show (b - (j:Int)).toNat=(b - ((j+1:Nat):Int)).toNat+1 by omega]
    simpa using h3
  ·rintro ⟨h1,h2,h3⟩
   by_cases e:b=j
   ·subst e; subst h1
    simp at h3
    exact .inl (by rw [h3])
   ·refine .inr ⟨h1,by omega,?_⟩
    rw [show (b - (j:Int)).toNat=(b - ((j+1:Nat):Int)).toNat+1 by omega] at h3
    simpa using h3
theorem Qoa {a b:Int} {s:α}:∀ {o:List (List α)} {i:Nat},((a,b),s) ∈ Qhe i o ↔ (i:Int)≤a∧0≤b∧∃ r,o[(a - i).toNat]? = some r∧r[b.toNat]? = some s
 | [],i=>by simp [Qhe]
 | r::o,i=>by
  rw [Qhe,List.mem_append,Qn9,Qoa (o:=o) (i:=i+1)]
  constructor
  ·rintro (⟨rfl,h2,h3⟩ | ⟨h1,h2,q,h3,h4⟩)
   ·exact ⟨Int.le_refl _,by omega,r,by simp,by simpa using h3⟩
   ·refine ⟨by omega,h2,q,?_,h4⟩
    rw [show (a - (i:Int)).toNat=(a - ((i+1:Nat):Int)).toNat+1 by omega]
    simpa using h3
  ·rintro ⟨h1,h2,q,h3,h4⟩
   by_cases e:a=i
   ·subst e
    simp at h3
    subst h3
    exact .inl ⟨rfl,by omega,by simpa using h4⟩
   ·refine .inr ⟨by omega,h2,q,?_,h4⟩
    rw [show (a - (i:Int)).toNat=(a - ((i+1:Nat):Int)).toNat+1 by omega] at h3
    simpa using h3
theorem Qr5 {i:Nat}:∀ (l:List α) (j:Nat),((Qph i j l).map fun x=>x.1).Nodup
 | [],j=>by simp [Qph]
 | x::l,j=>by
  rw [Qph,List.map_cons,List.nodup_cons]
  refine ⟨fun h=>?_,Qr5 l (j+1)⟩
  obtain ⟨⟨⟨a,b⟩,s⟩,h1,h2⟩:=List.mem_map.1 h
  have:=(Qn9.1 h1).2.1
  simp only [Prod.mk.injEq] at h2
  omega
theorem Qr6:∀ (o:List (List α)) (i:Nat),((Qhe i o).map fun x=>x.1).Nodup
 | [],i=>by simp [Qhe]
 | r::o,i=>by
  rw [Qhe,List.map_append,List.nodup_append]
  refine ⟨Qr5 r 0,Qr6 o (i+1),fun x hx y hy=>?_⟩
  obtain ⟨⟨⟨a,b⟩,s⟩,h1,rfl⟩:=List.mem_map.1 hx
  obtain ⟨⟨⟨a',b'⟩,s'⟩,h2,rfl⟩:=List.mem_map.1 hy
  have h3:=(Qn9.1 h1).1
  have h4:=(Qoa.1 h2).1
  intro e
  simp only [Prod.mk.injEq] at e
  omega
theorem Qpx:∀ (o o':List (List α)) (i:Nat),Qhe i (o++o')=Qhe i o++Qhe (i+o.length) o'
 | [],o',i=>by simp [Qhe]
 | r::o,o',i=>by
  rw [List.cons_append,Qhe,Qpx o o' (i+1),Qhe,List.append_assoc,List.length_cons,show i+1+o.length=i+(o.length+1) by omega]
theorem Qxg (f:α→Int) (U:List (Int×Int)) (l l':List ((Int×Int)×α)):Qgm f U (l++l')=Qgm f U l+Qgm f U l':=by
 simp [Qgm,List.filter_append]
theorem Qro {f:α→Int} {U V:List (Int×Int)} {l:List ((Int×Int)×α)} (h:∀ x ∈ l,(x.1 ∈ U ↔ x.1 ∈ V)):Qgm f U l=Qgm f V l:=by
 unfold Qgm
 have:(l.filter fun x=>!U.contains x.1)=l.filter fun x=>!V.contains x.1:=List.filter_congr fun x hx=>by
  have:=h x hx
  by_cases h1:x.1 ∈ U
  ·have h2:=this.1 h1
   simp [h1,h2]
  ·have h2:¬ x.1 ∈ V:=fun h=>h1 (this.2 h)
   simp [h1,h2]
 rw [this]
theorem Qtl (f:α→Int) {U:List (Int×Int)} {p:Int×Int} {s:α}:∀ {l:List ((Int×Int)×α)},(l.map fun x=>x.1).Nodup→(p,s) ∈ l→p ∉ U→Qgm f (p::U) l=Qgm f U l - f s
 | [],_,h,_=>by simp at h
 | x::l,hn,h,hp=>by
  rw [List.map_cons,List.nodup_cons] at hn
  have e:∀ V,Qgm f V (x::l)=(if x.1 ∈ V then 0 else f x.2)+Qgm f V l:=fun V=>by
   unfold Qgm
   by_cases hv:x.1 ∈ V<;>simp [hv]
  rw [e,e]
  rcases List.mem_cons.1 h with h | h
  ·subst h
   rw [if_pos (by simp),if_neg hp]
   have:Qgm f (p::U) l=Qgm f U l:=Qro fun y hy=>by
    rw [List.mem_cons]
    refine ⟨fun h=>h.resolve_left fun e=>hn.1 ?_,.inr⟩
    rw [← e]
    exact List.mem_map.2 ⟨y,hy,rfl⟩
   rw [this]
   dsimp only
   omega
  ·rw [Qtl f hn.2 h hp]
   have hx:x.1 ≠ p:=fun e=>hn.1 (by rw [e]; exact List.mem_map.2 ⟨_,h,rfl⟩)
   have:(x.1 ∈ p::U) ↔ x.1 ∈ U:=by simp [hx]
   by_cases hv:x.1 ∈ U
   ·rw [if_pos (this.2 hv),if_pos hv]; omega
   ·rw [if_neg (fun h=>hv (this.1 h)),if_neg hv]; omega
theorem Qrn (f:α→Int) {l:List ((Int×Int)×α)} (hl:(l.map fun x=>x.1).Nodup):∀ (P:List (Int×Int)) (S:List α) (U:List (Int×Int)),P.length=S.length→(∀ (i:Nat) p s,P[i]? = some p→S[i]? = some s→(p,s) ∈ l)→P.Nodup→(∀ p ∈ P,p ∉ U) →
  Qgm f (P++U) l=Qgm f U l - (S.map f).sum
 | [],[],U,_,_,_,_=>by simp
 | p::P,s::S,U,hlen,hm,hn,hu=>by
  rw [List.nodup_cons] at hn
  have h1:=Qrn f hl P S U (by simpa using hlen) (fun i q t h1 h2=>hm (i+1) q t (by simpa using h1) (by simpa using h2)) hn.2 fun q hq=>hu q (List.mem_cons_of_mem _ hq)
  rw [List.cons_append,Qtl f hl (hm 0 p s rfl rfl),h1]
  ·simp only [List.map_cons,List.sum_cons]; omega
  ·intro h
   rcases List.mem_append.1 h with h | h
   ·exact hn.1 h
   ·exact hu p List.mem_cons_self h
 | [],_::_,_,h,_,_,_=>by simp at h
 | _::_,[],_,h,_,_,_=>by simp at h
theorem Qxf (f:α→Int) {U:List (Int×Int)} {i:Nat} (hU:∀ p ∈ U,p.1 ≠ i):∀ (r:List α) (j:Nat),Qgm f U (Qph i j r)=(r.map f).sum
 | [],j=>rfl
 | x::r,j=>by
  have hx:((i:Int),(j:Int)) ∉ U:=fun h=>hU _ h rfl
  have:Qgm f U (Qph i j (x::r))=f x+Qgm f U (Qph i (j+1) r):=by
   unfold Qgm
   rw [Qph,List.filter_cons,if_pos (by simpa using hx),List.map_cons,List.sum_cons]
  rw [this,Qxf f hU r (j+1),List.map_cons,List.sum_cons]
theorem Qpv {f:α→Int} {U:List (Int×Int)}:∀ {l:List ((Int×Int)×α)},(∀ x ∈ l,0≤f x.2)→0≤Qgm f U l
 | [],_=>by simp [Qgm]
 | x::l,h=>by
  have h1:=Qpv (U:=U) fun y hy=>h y (List.mem_cons_of_mem x hy)
  have h2:=h x List.mem_cons_self
  unfold Qgm at h1 ⊢
  rw [List.filter_cons]
  split
  ·rw [List.map_cons,List.sum_cons]; omega
  ·exact h1
theorem Qxs (i:Nat) (r:List α):Qhe i [r]=Qph i 0 r:=by simp [Qhe]
end
end Go.Proofs.YtmbhnllcfmiajaaGreat
