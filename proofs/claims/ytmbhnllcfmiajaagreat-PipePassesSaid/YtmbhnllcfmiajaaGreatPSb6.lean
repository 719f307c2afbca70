/-
  Plain laws on shares: masses by largest remainders, and the parts of a stream. No conditions but validity.
-/
import Derived.Test.YtmbhnllcfmiajaaGreatPSa6
import Derived.Test.YtmbhnllcfmiajaaGreatPV6
namespace Go.Proofs.YtmbhnllcfmiajaaGreat
open Go.RowKit
def Qs2 (key:Int→Int) (ls:List Int) (mk:List Bool):Nat→Int
 | 0=>-1
 | d+1=>if mk.getD d false=false∧(Qs2 key ls mk d<0∨key (ls.getD (Qs2 key ls mk d).toNat 0)<key (ls.getD d 0)) then d else Qs2 key ls mk d
theorem Qty (key:Int→Int) (ls:List Int) (mk:List Bool):∀ d,((∀ i,i<d→mk.getD i false=true)∧Qs2 key ls mk d=-1) ∨
  ∃ b:Nat,b<d∧Qs2 key ls mk d=b∧mk.getD b false=false∧∀ i:Nat,i<d→mk.getD i false=false→i=b∨Qje key ls b i
 | 0=>.inl ⟨fun i h=>absurd h (by omega),rfl⟩
 | d+1=>by
  unfold Qs2
  rcases Qty key ls mk d with ⟨h1,h2⟩ | ⟨b,hb,h2,h3,h4⟩
  ·rw [h2]
   cases hm:mk.getD d false with
   | true=>exact .inl ⟨fun i hi=>(Nat.lt_succ_iff_lt_or_eq.1 hi).elim (h1 i) (fun e=>e ▸ hm),by rw [if_neg (by simp)]⟩
   | false=>
    rw [if_pos ⟨rfl,.inl (by omega)⟩]
    refine .inr ⟨d,by omega,rfl,hm,fun i hi hn=>?_⟩
    rcases Nat.lt_succ_iff_lt_or_eq.1 hi with h | h
    ·rw [h1 i h] at hn; exact absurd hn (by simp)
    ·exact .inl h
  ·rw [h2]
   by_cases hc:mk.getD d false=false∧((b:Int)<0∨key (ls.getD (b:Int).toNat 0)<key (ls.getD d 0))
   ·rw [if_pos hc]
    have hk:key (ls.getD b 0)<key (ls.getD d 0):=hc.2.elim (fun h=>by omega) (fun h=>by simpa using h)
    refine .inr ⟨d,by omega,rfl,hc.1,fun i hi hn=>?_⟩
    rcases Nat.lt_succ_iff_lt_or_eq.1 hi with h | h
    ·rcases h4 i h hn with rfl | h5
     ·exact .inr (.inl (by simpa using hk))
     ·refine .inr (.inl ?_)
      unfold Qje at h5
      simp only [Int.toNat_natCast] at h5 ⊢
      omega
    ·exact .inl h
   ·rw [if_neg hc]
    refine .inr ⟨b,by omega,rfl,h3,fun i hi hn=>?_⟩
    rcases Nat.lt_succ_iff_lt_or_eq.1 hi with h | rfl
    ·exact h4 i h hn
    ·refine .inr ?_
     have:¬ key (ls.getD (b:Int).toNat 0)<key (ls.getD i 0):=fun h=>hc ⟨hn,.inr h⟩
     unfold Qje
     simp only [Int.toNat_natCast] at this ⊢
     omega
theorem Q4z {key:Int→Int} {ls L:List Int} {mk:List Bool} {n k:Nat} (hL:L.Pairwise (Qje key ls)) (hm:∀ i:Nat,i<n→(i:Int) ∈ L) (hr:∀ x ∈ L,0≤x∧x<n)
  (hmk:∀ i:Nat,i<n→(mk.getD i false=true ↔ (i:Int) ∈ L.take k)) (hk:k<L.length):Qs2 key ls mk n=L[k]:=by
 have hd:L.Pairwise (· ≠ ·):=hL.imp (fun {a b} h e=>by subst e; exact Qng h h)
 obtain ⟨x0,x1⟩:=hr L[k] (List.getElem_mem hk)
 have hx:((L[k].toNat:Nat):Int)=L[k]:=Int.toNat_of_nonneg x0
 have hun:mk.getD L[k].toNat false=false:=by
  cases h:mk.getD L[k].toNat false with
  | false=>rfl
  | true=>
   have:=(hmk _ (by omega)).1 h
   rw [hx,List.mem_take_iff_getElem] at this
   obtain ⟨i,hi,e⟩:=this
   exact absurd e ((List.pairwise_iff_getElem.1 hd) i k (by omega) hk (by omega))
 rcases Qty key ls mk n with ⟨h1,_⟩ | ⟨b,hb,h2,h3,h4⟩
 ·rw [h1 _ (by omega)] at hun
  exact absurd hun (by simp)
 ·rw [h2]
  rcases h4 L[k].toNat (by omega) hun with h | h
  ·omega
  ·exfalso
   obtain ⟨j,hj,e⟩:=List.getElem_of_mem (hm b hb)
   have hjk:¬ j<k:=fun hlt=>by
    have:=(hmk b hb).2 (by rw [List.mem_take_iff_getElem]; exact ⟨j,by omega,e⟩)
    rw [h3] at this
    exact absurd this (by simp)
   rw [hx] at h
   rcases Nat.lt_or_eq_of_le (Nat.le_of_not_lt hjk) with h5 | h5
   ·have:=(List.pairwise_iff_getElem.1 hL) k j hk hj h5
    rw [e] at this
    exact Qng h this
   ·subst h5
    rw [e] at h
    exact Qng h h
def mark (l:List Bool) (i:Int):List Bool:=l.set i.toNat true
theorem Qzw (l:List Bool) (i:Int):(mark l i).length=l.length:=by simp [mark]
theorem Q4n (p:List Int):∀ (l:List Bool) (i:Nat),i<l.length→(∀ x ∈ p,0≤x)→((p.foldl mark l).getD i false=true ↔ ((i:Int) ∈ p∨l.getD i false=true)):=by
 induction p with
 | nil=>exact fun l i _ _=>by simp
 | cons x r ih=>
  intro l i hi h0
  have hx:=h0 x List.mem_cons_self
  rw [List.foldl_cons,ih (mark l x) i (by rw [Qzw]; exact hi) (fun y hy=>h0 y (List.mem_cons_of_mem _ hy)),List.mem_cons]
  have e:(mark l x).getD i false=true ↔ ((i:Int)=x∨l.getD i false=true):=by
   simp only [mark,List.getD_eq_getElem?_getD,List.getElem?_set]
   by_cases h:x.toNat=i
   ·have:(i:Int)=x:=by omega
    simp [h,hi,this]
   ·have:¬ (i:Int)=x:=by omega
    simp [h,this]
  rw [e]
  constructor
  ·rintro (h | h | h)
   ·exact .inl (.inr h)
   ·exact .inl (.inl h)
   ·exact .inr h
  ·rintro ((h | h) | h)
   ·exact .inr (.inl h)
   ·exact .inl h
   ·exact .inr (.inr h)
theorem Q4m {L:List Int} {n k:Nat} (hr:∀ x ∈ L,0≤x∧x<n) (i:Nat) (hi:i<n):(((L.take k).foldl mark (List.replicate n false)).getD i false=true ↔ (i:Int) ∈ L.take k):=by
 rw [Q4n _ _ _ (by simpa using hi) (fun x hx=>(hr x (List.mem_of_mem_take hx)).1)]
 simp [hi,List.getD_eq_getElem?_getD]
def bump (l:List Int) (i:Int):List Int:=l.set i.toNat (l.getD i.toNat 0+1)
theorem Qj4 (l:List Int) (i:Int):(bump l i).length=l.length:=by simp [bump]
theorem Qx3 (p:List Int):∀ l:List Int,(p.foldl bump l).length=l.length:=by
 induction p with
 | nil=>exact fun _=>rfl
 | cons x r ih=>exact fun l=>(ih (bump l x)).trans (Qj4 l x)
theorem Qx4:∀ (is l:List Int),is.Nodup→(∀ x ∈ is,0≤x∧x<l.length)→∀ i:Nat,i<l.length→(is.foldl bump l)[i]? = some (l.getD i 0+if (i:Int) ∈ is then 1 else 0)
 | [],l,_,_,i,hi=>by simp [List.getD_eq_getElem?_getD,hi]
 | x::is,l,hn,hb,i,hi=>by
  obtain ⟨hx,hn'⟩:=List.nodup_cons.1 hn
  have hbx:=hb x (by simp)
  have ih:=Qx4 is (bump l x) hn' (fun y hy=>by rw [Qj4]; exact hb y (by simp [hy])) i (by rw [Qj4]; exact hi)
  rw [List.foldl_cons,ih]
  congr 1
  by_cases e:(i:Int)=x
  ·subst e
   have h1:(bump l (i:Int)).getD i 0=l.getD i 0+1:=by
    unfold bump
    rw [Int.toNat_natCast,List.getD_eq_getElem?_getD,List.getElem?_set_self hi]
    rfl
   rw [h1,if_neg hx,if_pos (by simp)]
   omega
  ·have h1:(bump l x).getD i 0=l.getD i 0:=by
    unfold bump
    rw [List.getD_eq_getElem?_getD,List.getElem?_set_ne (by omega),← List.getD_eq_getElem?_getD]
   rw [h1]
   have:((i:Int) ∈ x::is) ↔ ((i:Int) ∈ is):=by simp [e]
   simp only [this]
theorem Q8c:∀ (o:List Int) (i:Nat) (x y:Int),o[i]? = some x→(o.set i y).sum=o.sum+(y - x)
 | [],_,_,_,h=>by simp at h
 | a::o,0,x,y,h=>by simp at h; subst h; simp only [List.set_cons_zero,List.sum_cons]; omega
 | a::o,i+1,x,y,h=>by
  have:=Q8c o i x y (by simpa using h)
  simp only [List.set_cons_succ,List.sum_cons,this]; omega
theorem Qx2:∀ (is l:List Int),(∀ x ∈ is,0≤x∧x<l.length)→(is.foldl bump l).sum=l.sum+is.length
 | [],l,_=>by simp
 | x::is,l,h=>by
  have hx:=h x (by simp)
  have hg:l[x.toNat]? = some (l.getD x.toNat 0):=by rw [List.getD_eq_getElem?_getD,List.getElem?_eq_getElem (by omega)]; rfl
  rw [List.foldl_cons,Qx2 is (bump l x) (fun y hy=>by rw [Qj4]; exact h y (by simp [hy])),bump,Q8c l _ _ _ hg]
  simp only [List.length_cons]
  omega
def Qol (M:Int) (ws:List Int):List Int:=ws.map fun w=>M * w / ws.sum
def Qob (M:Int) (ws:List Int):Int:=M - (Qol M ws).sum
def Q4h (key:Int→Int) (ls:List Int) (n:Nat):Nat→List Bool→List Int
 | 0,_=>[]
 | k+1,mk=>Qs2 key ls mk n::Q4h key ls n k (mark mk (Qs2 key ls mk n))
def Qh2 (M:Int) (ws:List Int):List Int:=(Q4h (rkey M ws.sum) ws ws.length (Qob M ws).toNat (List.replicate ws.length false)).foldl bump (Qol M ws)
theorem Q19 {key:Int→Int} {ls L:List Int} (hp:L.Perm (ixs ls.length)) (hL:L.Pairwise (Qje key ls)):∀ (k j:Nat),j+k≤L.length→Q4h key ls ls.length k ((L.take j).foldl mark (List.replicate ls.length false))=(L.drop j).take k
 | 0,j,_=>by simp [Q4h]
 | k+1,j,h=>by
  have hr:∀ x ∈ L,0≤x∧x<ls.length:=fun x hx=>Qrv.1 (hp.mem_iff.1 hx)
  have hb:Qs2 key ls ((L.take j).foldl mark (List.replicate ls.length false)) ls.length=L[j]'(by omega):=Q4z hL (fun i hi=>hp.mem_iff.2 (Qrv.2 ⟨by omega,by omega⟩)) hr (fun i hi=>Q4m hr i hi) (by omega)
  have ht:mark ((L.take j).foldl mark (List.replicate ls.length false)) (L[j]'(by omega))=(L.take (j+1)).foldl mark (List.replicate ls.length false):=by
   rw [List.take_add_one,List.getElem?_eq_getElem (by omega),List.foldl_append]
   rfl
  rw [Q4h,hb,ht,Q19 hp hL k (j+1) (by omega),List.drop_eq_getElem_cons (show j<L.length by omega),List.take_succ_cons]
structure WtsV (ws:List Int):Prop where
 l1:1≤ws.length
 l2:ws.length≤20
 w:∀ x ∈ ws,0≤x∧x≤1000
 some:∃ x ∈ ws,x>0
theorem Zib {ws:List Int} (h:wtsB ws=true):WtsV ws:=by
 unfold wtsB at h
 simp only [Bool.and_eq_true] at h
 obtain ⟨h1,h2,h3⟩:=h
 have:=Qeq.1 h1
 refine ⟨by omega,by omega,fun x hx=>Qeq.1 (List.all_eq_true.1 h2 x hx),?_⟩
 obtain ⟨x,hx,h4⟩:=List.any_eq_true.1 h3
 exact ⟨x,hx,by simpa using h4⟩
theorem Q38 (ws:List Int) (h:∀ x ∈ ws,0≤x∧x≤1000):0≤ws.sum∧ws.sum≤1000 * ws.length:=by
 induction ws with
 | nil=>simp
 | cons a l ih=>
  have h1:=ih fun x hx=>h x (List.mem_cons_of_mem _ hx)
  have h2:=h a List.mem_cons_self
  simp only [List.sum_cons,List.length_cons]
  omega
theorem WtsV.sum {ws:List Int} (h:WtsV ws):0<ws.sum∧ws.sum≤20000:=by
 have h1:=Q38 ws h.w
 have h2:=(Qzh fun x hx=>(h.w x hx).1).2.2 h.some
 have:=h.l2
 omega
theorem WtsV.ok {ws:List Int} (h:WtsV ws) {M:Int} (h0:0≤M) (h1:M≤1000000):WOk ws M ws.sum:=⟨h.w,h0,h1,h.sum.1,h.sum.2⟩
theorem Qpd:∀ (ws:List Int),(∀ x ∈ ws,0≤x)→∀ x ∈ ws,x≤ws.sum
 | a::l,h,x,hx=>by
  have h1:=(Qzh fun y hy=>h y (List.mem_cons_of_mem a hy)).1
  have h2:=h a List.mem_cons_self
  rw [List.sum_cons]
  rcases List.mem_cons.1 hx with rfl | hx
  ·omega
  ·have:=Qpd l (fun y hy=>h y (List.mem_cons_of_mem a hy)) x hx
   omega
theorem Q24 {M W:Int} (hM:0≤M) (hW:0<W):∀ (l:List Int),(∀ x ∈ l,0≤x)→W * (l.map fun w=>M * w / W).sum≤M * l.sum∧M * l.sum≤W * (l.map fun w=>M * w / W).sum+(W - 1) * l.length∧0≤(l.map fun w=>M * w / W).sum
 | [],_=>by simp
 | x::l,h=>by
  obtain ⟨h1,h2,h3⟩:=Q24 hM hW l fun y hy=>h y (List.mem_cons_of_mem _ hy)
  have b:=h x (by simp)
  have p0:=Int.mul_nonneg hM b
  have q0:=Int.ediv_nonneg p0 (show 0≤W by omega)
  have q1:=Int.emod_add_mul_ediv (M * x) W
  have q2:=Int.emod_nonneg (M * x) (show W ≠ 0 by omega)
  have q3:=Int.emod_lt_of_pos (M * x) hW
  simp only [List.map_cons,List.sum_cons,List.length_cons,Int.mul_add,Int.natCast_add,Int.natCast_one,Int.mul_one]
  omega
theorem Qz1 {M:Int} {ws:List Int} (h:WtsV ws) (h0:0≤M):0≤Qob M ws∧Qob M ws<ws.length∧0≤(Qol M ws).sum:=by
 obtain ⟨w0,w1⟩:=h.sum
 obtain ⟨b1,b2,b3⟩:=Q24 h0 w0 ws fun x hx=>(h.w x hx).1
 have hl:=h.l1
 generalize hS:(ws.map fun w=>M * w / ws.sum).sum=S at b1 b2 b3
 have hB:(Qol M ws).sum=S:=hS
 unfold Qob
 rw [hB]
 rw [Int.mul_comm M] at b1 b2
 have c1:S≤M:=Int.le_of_mul_le_mul_left b1 w0
 have c2:M<S+ws.length:=by
  apply Decidable.byContradiction
  intro hc
  have:ws.sum * (S+ws.length)≤ws.sum * M:=Int.mul_le_mul_of_nonneg_left (by omega) (by omega)
  rw [Int.mul_add] at this
  rw [Int.sub_mul] at b2
  omega
 omega
theorem Qnb {M:Int} {ws L:List Int} (h:WtsV ws) (h0:0≤M) (hp:L.Perm (ixs ws.length)) (hL:L.Pairwise (Qje (rkey M ws.sum) ws)) :
  Q4h (rkey M ws.sum) ws ws.length (Qob M ws).toNat (List.replicate ws.length false)=L.take (Qob M ws).toNat:=by
 have hb:=Qz1 h h0
 have hlen:=hp.length_eq
 rw [Qh4] at hlen
 have:=Q19 hp hL (Qob M ws).toNat 0 (by omega)
 simpa using this
theorem Qw7 {M:Int} {ws:List Int} (h:WtsV ws) (h0:0≤M) (h1:M≤1000000):∃ L:List Int,L.Perm (ixs ws.length)∧L.Pairwise (Qje (rkey M ws.sum) ws):=by
 obtain ⟨Q,_,q2,q3⟩:=Qw6 (N:=1000) (h.ok h0 h1) h.l2 h.l1 (Nat.le_refl _)
 exact ⟨Q,q2,q3⟩
theorem Qi6 (M:Int) (ws:List Int):(Qol M ws).length=ws.length:=by simp [Qol]
theorem Qgv (M:Int) (ws:List Int):(Qh2 M ws).length=ws.length:=by rw [Qh2,Qx3,Qi6]
theorem Qrs {M:Int} {ws:List Int} (h:WtsV ws) (h0:0≤M) (h1:M≤1000000):(Qh2 M ws).sum=M:=by
 obtain ⟨L,hp,hL⟩:=Qw7 h h0 h1
 have hb:=Qz1 h h0
 have hlen:=hp.length_eq
 rw [Qh4] at hlen
 rw [Qh2,Qnb h h0 hp hL,Qx2 _ _ (fun x hx=>by rw [Qi6]; exact Qrv.1 (hp.mem_iff.1 (List.mem_of_mem_take hx))),List.length_take]
 unfold Qob at hb ⊢
 omega
theorem Qvz {M:Int} {ws:List Int} (h:WtsV ws) (h0:0≤M):∀ x ∈ Qol M ws,0≤x∧x≤M:=by
 intro x hx
 obtain ⟨w,hw,rfl⟩:=List.mem_map.1 hx
 obtain ⟨w0,w1⟩:=h.sum
 have:=h.w w hw
 have hle:=Qpd ws (fun y hy=>(h.w y hy).1) w hw
 refine ⟨Int.ediv_nonneg (Int.mul_nonneg h0 this.1) (by omega),Int.ediv_le_of_le_mul w0 ?_⟩
 exact Int.mul_le_mul_of_nonneg_left hle h0
theorem Qtp {M:Int} {ws:List Int} (h:WtsV ws) (h0:0≤M) (h1:M≤1000000):∀ x ∈ Qh2 M ws,0≤x∧x≤M:=by
 have hs:=Qrs h h0 h1
 obtain ⟨L,hp,hL⟩:=Qw7 h h0 h1
 have hnd:L.Nodup:=hp.nodup_iff.2 (Q9d _)
 have hn:∀ x ∈ Qh2 M ws,0≤x:=fun x hx=>by
  obtain ⟨i,hi⟩:=List.mem_iff_getElem?.1 hx
  have hil:i<ws.length:=by have:=(List.getElem?_eq_some_iff.1 hi).1; rwa [Qgv] at this
  rw [Qh2,Qnb h h0 hp hL,Qx4 _ _ (hnd.sublist (List.take_sublist _ _)) (fun x hx=>by rw [Qi6]; exact Qrv.1 (hp.mem_iff.1 (List.mem_of_mem_take hx))) i (by rw [Qi6]; exact hil)] at hi
  have hbx:=Qvz h h0 ((Qol M ws)[i]'(by rw [Qi6]; exact hil)) (List.getElem_mem _)
  have hg:(Qol M ws).getD i 0=(Qol M ws)[i]'(by rw [Qi6]; exact hil):=by rw [List.getD_eq_getElem?_getD,List.getElem?_eq_getElem (by rw [Qi6]; exact hil)]; rfl
  rw [hg] at hi
  have:=Option.some.inj hi
  split at this<;>omega
 intro x hx
 exact ⟨hn x hx,by rw [← hs]; exact Qpd _ hn x hx⟩
section
variable {N : Nat} {M : Int} {ws : List Int} (h : WtsV ws) (h0 : 0 ≤ M) (h1 : M ≤ 1000000) (hN : 1001 ≤ N)
include h in
theorem Q33 (k:Int→Option (List Int)):∀ (n i:Nat) (s:Int),(ws.drop i).length<n→0≤s→s≤1000 * i→Qdq N ws k n i s=k (s+(ws.drop i).sum):=by
 intro n
 induction n with
 | zero=>intro i _ h; exact absurd h (Nat.not_lt_zero _)
 | succ n ih=>
  intro i s hn s0 s1
  rw [Qdq]
  cases hd:ws.drop i with
  | nil=>
   have:=Qcp hd
   simp [show ¬ ((i:Int)<ws.length) from by omega]
  | cons a l=>
   obtain ⟨hg,hd',hlt⟩:=Qb8 hd
   have ha:=h.w a (List.mem_of_getElem? hg)
   have:=h.l2
   simp only [show decide ((i:Int)<ws.length)=true from by simpa using hlt,cond_true,Qck hg,Option.bind_some,List.sum_cons]
   rw [Qbd (x:=(i:Int)+1) (by omega) (by omega),Qbd (x:=s+a) (by omega) (by omega),show (i:Int)+1=((i+1:Nat):Int) by omega,ih (i+1) (s+a) (by rw [hd']; rw [hd] at hn; simp at hn; omega) (by omega) (by omega),hd',Int.add_assoc]
include h h0 h1 in
theorem Q98 (k:Int×List Int→Option (List Int)):∀ (n i:Nat) (r:Int) (o:List Int),(ws.drop i).length<n→i≤ws.length→o.length=ws.length - i→-1000000 * (i:Int)≤r→r≤1000000 →
  Qdr N M ws ws.sum k n r i (((ws.take i).map fun w=>M * w / ws.sum)++o)=k (r - ((ws.drop i).map fun w=>M * w / ws.sum).sum,Qol M ws):=by
 intro n
 induction n with
 | zero=>intro i _ _ h; exact absurd h (Nat.not_lt_zero _)
 | succ n ih=>
  intro i r o hn hi ho r0 r1
  rw [Qdr]
  cases hd:ws.drop i with
  | nil=>
   have:=Qcp hd
   have e:o=[]:=List.length_eq_zero_iff.1 (by omega)
   simp [show ¬ ((i:Int)<ws.length) from by omega,e,List.take_of_length_le this,Qol]
  | cons a l=>
   obtain ⟨hg,hd',hlt⟩:=Qb8 hd
   have ha:=h.w a (List.mem_of_getElem? hg)
   have hl2:=h.l2
   obtain ⟨p0,p1⟩:=h.sum
   obtain ⟨x,o',rfl⟩:∃ x o',o=x::o':=by
    cases o with
    | nil=>simp at ho; omega
    | cons x o'=>exact ⟨x,o',rfl⟩
   have hb:=Qvz h h0 (M * a / ws.sum) (List.mem_map.2 ⟨a,List.mem_of_getElem? hg,rfl⟩)
   have hp:=bdp h0 h1 ha.1 ha.2 (by omega)
   have hlt':((ws.take i).map fun w=>M * w / ws.sum).length=i:=by simp; omega
   have e2:∀ y,(((ws.take i).map fun w=>M * w / ws.sum)++y::o')[i]? = some y:=fun y=>by rw [List.getElem?_append_right (by omega),hlt']; simp
   have e3:(((ws.take i).map fun w=>M * w / ws.sum)++x::o').set i (M * a / ws.sum)=((ws.take i).map fun w=>M * w / ws.sum)++(M * a / ws.sum)::o':=by
    rw [List.set_append_right _ _ (by omega),hlt',Nat.sub_self,List.set_cons_zero]
   have e5:((ws.take i).map fun w=>M * w / ws.sum)++(M * a / ws.sum)::o'=((ws.take (i+1)).map fun w=>M * w / ws.sum)++o':=by
    rw [List.take_add_one,hg]; simp
   have e4:((i:Int):Int).toNat=i:=by omega
   have c1:(decide ((0:Int)≤(i:Int))&&decide (i<(ws.length:Int).toNat))=true:=by simp; omega
   have ev:w64 ((w64 (M * a)).tdiv ws.sum)=M * a / ws.sum:=by
    rw [Qbd (x:=M * a) (by omega) (by omega),Int.tdiv_eq_ediv_of_nonneg hp.1,Qbd (by omega) (by omega)]
   simp only [show decide ((i:Int)<ws.length)=true from by simpa using hlt,cond_true,Qck hg,Option.bind_some,chk,show (ws.sum != 0)=true from by rw [bne_iff_ne]; omega,e4,c1,e2,ev,e3]
   rw [Qbd (x:=(i:Int)+1) (by omega) (by omega),Qbd (x:=r - M * a / ws.sum) (by omega) (by omega),show (i:Int)+1=((i+1:Nat):Int) by omega,e5,ih (i+1) _ o' (by rw [hd']; rw [hd] at hn; simp at hn; omega) (by omega) (by simp at ho; omega) (by omega) (by omega),hd',List.map_cons,List.sum_cons]
   congr 2
   omega
theorem Q97 (k:List Int→Option (List Int)) (x13:List Int) (y6:Int) (is:List Int) (his:x13.take (y6.toNat - 0)=is) (hlen:is.length≤20) (hr:∀ x ∈ is,0≤x∧x<ws.length):∀ (n i:Nat) (o:List Int),(is.drop i).length<n→o.length=ws.length→(∀ x ∈ o,0≤x∧x≤1000000+i) →
  Qds N ws y6 k x13 n i o=k ((is.drop i).foldl bump o):=by
 intro n
 induction n with
 | zero=>intro i _ h; exact absurd h (Nat.not_lt_zero _)
 | succ n ih=>
  intro i o hn ho hob
  rw [Qds,his]
  cases hd:is.drop i with
  | nil=>
   have:=Qcp hd
   simp [show ¬ ((i:Int)<is.length) from by omega]
  | cons b t=>
   obtain ⟨hg,hd',hlt⟩:=Qb8 hd
   obtain ⟨b0,b1⟩:=hr b (List.mem_of_getElem? hg)
   have hx:o[b.toNat]? = some (o.getD b.toNat 0):=by rw [List.getD_eq_getElem?_getD,List.getElem?_eq_getElem (by omega)]; rfl
   have hxb:=hob _ (List.mem_of_getElem? hx)
   have c1:(decide ((0:Int)≤b)&&decide (b.toNat<(ws.length:Int).toNat))=true:=by simp; omega
   simp only [show decide ((i:Int)<is.length)=true from by simpa using hlt,cond_true,Qck hg,Option.bind_some,chk,c1,hx]
   rw [Qbd (x:=(i:Int)+1) (by omega) (by omega),Qbd (x:=o.getD b.toNat 0+1) (by omega) (by omega),show (i:Int)+1=((i+1:Nat):Int) by omega]
   have:=ih (i+1) (bump o b) (by rw [hd']; rw [hd] at hn; simp at hn; omega) (by rw [Qj4]; exact ho) (fun z hz=>by
    rcases List.mem_or_eq_of_mem_set hz with hz | rfl
    ·have:=hob z hz; omega
    ·omega)
   rw [hd'] at this
   exact this
include h h0 h1 hN in
theorem Q86:Qho N M ws=some (Qh2 M ws):=by
 have hl1:=h.l1
 have hl2:=h.l2
 unfold Qho
 simp only [Qbp]
 refine (Q33 h _ N 0 0 (by simp; omega) (by omega) (by omega)).trans ?_
 rw [List.drop_zero,Int.zero_add]
 simp only [chk]
 rw [show (decide ((0:Int)≤(ws.length:Int))&&decide (8 * (ws.length:Int)≤281474976710656)&&decide ((ws.length:Int)≤9223372036854775807))=true from by simp; omega,cond_true]
 have eo:=fun k=>Q98 (N:=N) h h0 h1 k N 0 M (List.replicate (ws.length:Int).toNat 0) (by simp; omega) (by omega) (by simp) (by omega) h1
 simp only [List.take_zero,List.map_nil,List.nil_append,List.drop_zero] at eo
 refine (eo _).trans ?_
 dsimp only
 obtain ⟨Q,q1,q2,q3⟩:=Qw6 (N:=N) (h.ok h0 h1) hl2 hl1 (by omega)
 have hlen:=q2.length_eq
 rw [Qh4] at hlen
 have hb:=Qz1 h h0
 have hL:M - (ws.map fun w=>M * w / ws.sum).sum=Qob M ws:=rfl
 rw [q1,Option.bind_some,hL,show (decide ((0:Nat)≤0)&&decide (0≤Qob M ws)&&decide (Qob M ws≤(Q.length:Int)))=true from by simp; omega,cond_true]
 have hr:∀ x ∈ Q.take ((Qob M ws).toNat - 0),0≤x∧x<ws.length:=fun x hx=>Qrv.1 (q2.mem_iff.1 (List.mem_of_mem_take hx))
 refine (Q97 _ Q (Qob M ws) _ rfl (by rw [List.length_take]; omega) hr N 0 (Qol M ws) (by rw [List.drop_zero,List.length_take]; omega) (Qi6 _ _) (fun x hx=>by have:=Qvz h h0 x hx; omega)).trans ?_
 have hm:(Q.take ((Qob M ws).toNat - 0)).foldl bump (Qol M ws)=Qh2 M ws:=by
  rw [Qh2,Qnb h h0 q2 q3,Nat.sub_zero]
 rw [List.drop_zero,hm,Qgv,show decide ((ws.length:Int).toNat≤ws.length)=true from by simp,cond_true,List.take_of_length_le (by rw [Qgv]; simp)]
end
end Go.Proofs.YtmbhnllcfmiajaaGreat
