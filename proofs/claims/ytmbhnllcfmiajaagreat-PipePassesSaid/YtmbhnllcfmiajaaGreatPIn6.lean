/-
  Plain laws on a net into which an element is put that lets a stream through. No conditions but validity.
-/
import Derived.Test.YtmbhnllcfmiajaaGreatPFt6
namespace Go.Proofs.YtmbhnllcfmiajaaGreat
open Go.RowKit
def shP (to:Nat) (p:GPort):GPort:=if p.Element≥(to:Int) then ⟨p.Element+1,p.Outlet⟩ else p
def shE (to:Nat) (x:GElement):GElement:=⟨x.Kind,x.From.map (shP to),x.Level,x.Amount,x.Wide,x.Narrow,x.Weights⟩
def firP (to:Nat):List GPort→List GPort
 | []=>[]
 | _::q=>⟨(to:Int),0⟩::q.map (shP to)
def firE (to:Nat) (x:GElement):GElement:=⟨x.Kind,firP to x.From,x.Level,x.Amount,x.Wide,x.Narrow,x.Weights⟩
def newE (k:Int) (p:GPort) (lv:Int):GElement:=⟨k,[p],lv,0,1000000,1000000000,[]⟩
structure Put (n:GNet) (to:Nat) (k:Int) (x z:GElement) (p0:GPort) (R:List GPort):Prop where
 kk:k=3∨k=6
 xx:n.Elements[to]? = some x
 ff:x.From=p0::R
 zz:n.Elements[p0.Element.toNat]? = some z
def putN (n:GNet) (to:Nat) (k:Int) (x z:GElement) (p0:GPort):GNet:=
 ⟨n.Table,n.Elements.take to++newE k p0 z.Level::firE to x::(n.Elements.drop (to+1)).map (shE to)⟩
theorem Qw0 {to:Nat} {p:GPort} (h:p.Element<to):shP to p=p:=by unfold shP; rw [if_neg (by omega)]
theorem Zb8 {to:Nat} {p:GPort} (h:(to:Int)≤p.Element):shP to p=⟨p.Element+1,p.Outlet⟩:=by unfold shP; rw [if_pos (by omega)]
theorem Zfm {to:Nat} {l:List GPort} (h:∀ p ∈ l,p.Element<to):l.map (shP to)=l:=by
 rw [List.map_congr_left fun p hp=>Qw0 (h p hp)]
 exact List.map_id _
section
variable {n : GNet} {to : Nat} {k : Int} {x z : GElement} {p0 : GPort} {R : List GPort} (hP : Put n to k x z p0 R)
include hP
theorem Put.lt:to<n.Elements.length:=(List.getElem?_eq_some_iff.1 hP.xx).1
theorem Put.split:n.Elements=n.Elements.take to++x::n.Elements.drop (to+1):=by
 have h:=hP.lt
 have e:n.Elements.drop to=x::n.Elements.drop (to+1):=by
  rw [List.drop_eq_getElem_cons h]
  have:=hP.xx
  rw [List.getElem?_eq_getElem h] at this
  cases this
  rfl
 rw [← e,List.take_append_drop]
theorem Put.len:(putN n to k x z p0).Elements.length=n.Elements.length+1:=by
 have h:=hP.lt
 unfold putN
 simp only [List.length_append,List.length_cons,List.length_map,List.length_take,List.length_drop]
 omega
theorem Put.at_lt {j:Nat} (h:j<to):(putN n to k x z p0).Elements[j]? = n.Elements[j]? := by
 have:=hP.lt
 unfold putN
 rw [List.getElem?_append_left (by simp; omega),List.getElem?_take_of_lt h]
theorem Put.at_new:(putN n to k x z p0).Elements[to]? = some (newE k p0 z.Level):=by
 have:=hP.lt
 unfold putN
 rw [List.getElem?_append_right (by rw [List.length_take]; omega),List.length_take,Nat.min_eq_left (by omega),Nat.sub_self]
 rfl
theorem Put.at_to:(putN n to k x z p0).Elements[to+1]? = some (firE to x):=by
 have:=hP.lt
 unfold putN
 rw [List.getElem?_append_right (by simp; omega),List.length_take,Nat.min_eq_left (by omega),show to+1 - to=1 by omega]
 rfl
theorem Put.at_gt {j:Nat} (h:to<j):(putN n to k x z p0).Elements[j+1]? = (n.Elements[j]?).map (shE to):=by
 have:=hP.lt
 unfold putN
 rw [List.getElem?_append_right (by simp; omega),List.length_take,Nat.min_eq_left (by omega),show j+1 - to=(j - to - 1)+2 by omega,List.getElem?_cons_succ,List.getElem?_cons_succ,List.getElem?_map,List.getElem?_drop,show to+1+(j - to - 1)=j by omega]
theorem Put.find {p:GPort} (h0:0≤p.Element) {y:GElement} (hy:n.Elements[p.Element.toNat]? = some y):∃ w,(putN n to k x z p0).Elements[(shP to p).Element.toNat]? = some w∧outl w=outl y∧w.Level=y.Level:=by
 by_cases h:p.Element<to
 ·rw [Qw0 h,hP.at_lt (by omega),hy]
  exact ⟨y,rfl,rfl,rfl⟩
 ·rw [Zb8 (by omega)]
  dsimp only
  rw [show (p.Element+1).toNat=p.Element.toNat+1 by omega]
  by_cases he:p.Element.toNat=to
  ·rw [he,hP.at_to]
   rw [he,hP.xx] at hy
   cases hy
   exact ⟨_,rfl,rfl,rfl⟩
  ·rw [hP.at_gt (by omega),hy]
   exact ⟨_,rfl,rfl,rfl⟩
end
theorem Qtk {els:List GElement} {i:Nat} {lv:Int}:∀ {l:List GPort} {u:List (Int×Int)},(u++l.map pq).Nodup →
  (∀ p ∈ l,0≤p.Element∧p.Element<i∧∃ y,els[p.Element.toNat]? = some y∧0≤p.Outlet∧p.Outlet<outl y∧lv≤y.Level)→Qg6 els i lv u l=true
 | [],_,_,_=>rfl
 | p::l,u,hu,h=>by
  obtain ⟨h0,h1,y,h2,h3,h4,h5⟩:=h p List.mem_cons_self
  rw [Qg6,Bool.and_eq_true]
  refine ⟨?_,Qtk (by rw [List.append_assoc]; exact hu) fun q hq=>h q (List.mem_cons_of_mem _ hq)⟩
  have hn:pq p ∉ u:=fun hm=>by
   rw [List.nodup_append] at hu
   exact hu.2.2 _ hm (pq p) (by simp) rfl
  have hg:getI els p.Element=some y:=by unfold getI; rw [if_pos h0,h2]
  rw [Qw9,hg]
  simp only [Bool.and_eq_true,decide_eq_true_eq]
  exact ⟨⟨Qeq.2 (by omega),Qeq.2 (by omega),h5⟩,by simpa using hn⟩
theorem Q21 {t:Int} {els:List GElement}:∀ {l:List GElement} {i:Nat} {u:List (Int×Int)},(u++l.flatMap fun x=>x.From.map pq).Nodup→(∀ x ∈ l,0≤x.Level∧x.Level≤t - 1) →
  (∀ (j:Nat) x p,l[j]? = some x→p ∈ x.From→0≤p.Element∧p.Element<(i:Int)+j∧∃ y,els[p.Element.toNat]? = some y∧0≤p.Outlet∧p.Outlet<outl y∧x.Level≤y.Level)→Qpi t els i u l=true
 | [],_,_,_,_,_=>rfl
 | x::l,i,u,hu,hl,h=>by
  rw [List.flatMap_cons,← List.append_assoc] at hu
  rw [Qpi,Bool.and_eq_true,Bool.and_eq_true]
  refine ⟨⟨Qeq.2 (hl x List.mem_cons_self),Qtk (List.nodup_append.1 hu).1 fun p hp=>?_⟩,Q21 hu (fun y hy=>hl y (List.mem_cons_of_mem _ hy)) fun j y p hj hp=>?_⟩
  ·obtain ⟨a,b,c⟩:=h 0 x p rfl hp
   exact ⟨a,by omega,c⟩
  ·obtain ⟨a,b,c⟩:=h (j+1) y p (by simpa using hj) hp
   exact ⟨a,by omega,c⟩
theorem Zl3 {to:Nat} {p q:GPort} (h:pq (shP to p)=pq (shP to q)):pq p=pq q:=by
 unfold shP pq at *
 simp only [Prod.mk.injEq] at *
 split at h<;>split at h<;>simp_all<;>omega
theorem Znh {to:Nat} (p:GPort):pq (shP to p) ≠ ((to:Int),0):=by
 unfold shP pq
 intro h
 simp only [Prod.mk.injEq] at h
 split at h<;>simp_all<;>omega
theorem Q15 {to:Nat}:∀ (l:List GPort),(l.map pq).Nodup→((l.map (shP to)).map pq).Nodup
 | [],_=>by simp
 | p::l,h=>by
  rw [List.map_cons,List.nodup_cons] at h
  rw [List.map_cons,List.map_cons,List.nodup_cons]
  refine ⟨fun hm=>h.1 ?_,Q15 l h.2⟩
  obtain ⟨a,ha,e⟩:=List.mem_map.1 hm
  obtain ⟨b,hb,rfl⟩:=List.mem_map.1 ha
  rw [← Zl3 e]
  exact List.mem_map.2 ⟨b,hb,rfl⟩
theorem Zcq (l:List GElement):(l.flatMap fun x=>x.From.map pq)=(l.flatMap fun x=>x.From).map pq:=by rw [List.map_flatMap]
theorem Zjh (to:Nat) (l:List GElement):(l.map (shE to)).flatMap (fun x=>x.From)=(l.flatMap fun x=>x.From).map (shP to):=by
 rw [List.flatMap_map,List.map_flatMap]
 rfl
section
variable {n : GNet} (hv : NetV n) {to : Nat} {k : Int} {x z : GElement} {p0 : GPort} {R : List GPort} (hP : Put n to k x z p0 R)
include hv hP
theorem Put.low {p:GPort} (hp:p ∈ x.From):0≤p.Element∧p.Element<to:=by
 obtain ⟨a,b,_⟩:=hv.port to x p hP.xx hp
 exact ⟨a,b⟩
theorem Put.port0:0≤p0.Element∧p0.Element<to∧0≤p0.Outlet∧p0.Outlet<outl z∧x.Level≤z.Level:=by
 obtain ⟨a,b,y,c,d,e,f⟩:=hv.port to x p0 hP.xx (by rw [hP.ff]; exact List.mem_cons_self)
 rw [hP.zz] at c
 cases c
 exact ⟨a,b,d,e,f⟩
theorem Put.rest {p:GPort} (hp:p ∈ R):p.Element<to:=(hP.low hv (by rw [hP.ff]; exact List.mem_cons_of_mem _ hp)).2
theorem Put.nodup:((putN n to k x z p0).Elements.flatMap fun x=>x.From.map pq).Nodup:=by
 have hd:=hv.dist
 rw [Zcq] at hd ⊢
 have e1:(n.Elements.flatMap fun x=>x.From)=(n.Elements.take to).flatMap (fun x=>x.From)++p0::(R++(n.Elements.drop (to+1)).flatMap fun x=>x.From):=by
  conv=>lhs; rw [hP.split]
  rw [List.flatMap_append,List.flatMap_cons,hP.ff]
  rfl
 have eA:((n.Elements.take to).flatMap fun x=>x.From).map (shP to)=(n.Elements.take to).flatMap fun x=>x.From:=by
  refine Zfm fun p hp=>?_
  obtain ⟨y,hy,hp⟩:=List.mem_flatMap.1 hp
  obtain ⟨j,hj,e⟩:=List.mem_take_iff_getElem.1 hy
  have:=(hv.port j y p (by rw [← e]; exact List.getElem?_eq_getElem (by omega)) hp).2.1
  omega
 have e2:((putN n to k x z p0).Elements.flatMap fun x=>x.From)=(n.Elements.take to).flatMap (fun x=>x.From)++p0::(⟨(to:Int),0⟩::(R.map (shP to)++((n.Elements.drop (to+1)).flatMap fun x=>x.From).map (shP to))):=by
  unfold putN
  rw [List.flatMap_append,List.flatMap_cons,List.flatMap_cons,Zjh]
  show _++([p0]++(firP to x.From++_))=_
  rw [hP.ff]
  rfl
 have h2:=Q15 (to:=to) _ hd
 rw [e1,List.map_append,eA,List.map_cons,List.map_append (l₁:=R),Qw0 (hP.port0 hv).2.1] at h2
 rw [e2]
 have hperm:(((n.Elements.take to).flatMap fun x=>x.From)++p0::(⟨(to:Int),0⟩::(R.map (shP to)++((n.Elements.drop (to+1)).flatMap fun x=>x.From).map (shP to)))).Perm
   (⟨(to:Int),0⟩::(((n.Elements.take to).flatMap fun x=>x.From)++p0::(R.map (shP to)++((n.Elements.drop (to+1)).flatMap fun x=>x.From).map (shP to)))):=by
  refine (List.Perm.append_left _ (List.Perm.swap _ _ _)).trans ?_
  exact List.perm_middle
 refine (hperm.map pq).nodup_iff.2 ?_
 rw [List.map_cons,List.nodup_cons]
 refine ⟨fun hm=>?_,h2⟩
 obtain ⟨q,hq,e⟩:=List.mem_map.1 hm
 have hq':q ∈ ((n.Elements.flatMap fun x=>x.From).map (shP to)):=by
  rw [e1,List.map_append,eA,List.map_cons,List.map_append (l₁:=R),Qw0 (hP.port0 hv).2.1]
  exact hq
 obtain ⟨w,_,rfl⟩:=List.mem_map.1 hq'
 exact Znh w e
omit hv hP in
theorem Qvf {y:GElement} (hy:y ∈ (putN n to k x z p0).Elements):y ∈ n.Elements∨y=newE k p0 z.Level∨y=firE to x∨∃ w ∈ n.Elements,y=shE to w:=by
 unfold putN at hy
 rw [List.mem_append,List.mem_cons,List.mem_cons,List.mem_map] at hy
 rcases hy with h | h | h | ⟨w,h,rfl⟩
 ·exact .inl (List.mem_of_mem_take h)
 ·exact .inr (.inl h)
 ·exact .inr (.inr (.inl h))
 ·exact .inr (.inr (.inr ⟨w,List.mem_of_mem_drop h,rfl⟩))
end
theorem Q2r (to:Nat) (l:List GPort):(firP to l).length=l.length:=by cases l<;>simp [firP]
theorem Zer (to:Nat) (x:GElement):Qfw (shE to x)=Qfw x:=by
 unfold Qfw shE
 simp only [List.length_map]
theorem Zas (to:Nat) (x:GElement):Qfw (firE to x)=Qfw x:=by
 unfold Qfw firE
 simp only [Q2r]
theorem Zar {k:Int} (hk:k=3∨k=6) (p:GPort) (lv:Int):Qfw (newE k p lv)=true:=by
 rcases hk with rfl | rfl<;>rfl
section
variable {n : GNet} (hv : NetV n) {to : Nat} {k : Int} {x z : GElement} {p0 : GPort} {R : List GPort} (hP : Put n to k x z p0 R)
include hv hP
theorem Put.port (j:Nat) (y:GElement) (p:GPort) (hj:(putN n to k x z p0).Elements[j]? = some y) (hp:p ∈ y.From):0≤p.Element∧p.Element<j∧∃ w,(putN n to k x z p0).Elements[p.Element.toNat]? = some w∧0≤p.Outlet∧p.Outlet<outl w∧y.Level≤w.Level:=by
 have hsh:∀ (i:Nat) (u:GElement) (q:GPort),n.Elements[i]? = some u→q ∈ u.From→0≤(shP to q).Element∧(shP to q).Element<(if q.Element<to then (i:Int) else i+1)∧∃ w,(putN n to k x z p0).Elements[(shP to q).Element.toNat]? = some w∧0≤(shP to q).Outlet∧(shP to q).Outlet<outl w∧u.Level≤w.Level:=fun i u q hu hq=>by
  obtain ⟨a,b,v,c,d,e,f⟩:=hv.port i u q hu hq
  obtain ⟨w,g1,g2,g3⟩:=hP.find a c
  by_cases h:q.Element<to
  ·rw [Qw0 h] at g1 ⊢
   rw [if_pos h]
   exact ⟨a,b,w,g1,d,by omega,by omega⟩
  ·rw [if_neg h]
   rw [Zb8 (by omega)] at g1 ⊢
   dsimp only at g1 ⊢
   exact ⟨by omega,by omega,w,g1,d,by omega,by omega⟩
 by_cases h1:j<to
 ·rw [hP.at_lt h1] at hj
  obtain ⟨a,b,c⟩:=hsh j y p hj hp
  have:=(hv.port j y p hj hp).2.1
  have h:p.Element<to:=by omega
  rw [if_pos h] at b
  rw [Qw0 h] at a b c
  exact ⟨a,b,c⟩
 by_cases h2:j=to
 ·subst h2
  rw [hP.at_new] at hj
  cases hj
  rw [show p=p0 from by simpa [newE] using hp]
  obtain ⟨a,b,c,d,_⟩:=hP.port0 hv
  refine ⟨a,b,z,?_,c,d,Int.le_refl _⟩
  rw [hP.at_lt (by omega)]
  exact hP.zz
 by_cases h3:j=to+1
 ·subst h3
  rw [hP.at_to] at hj
  cases hj
  have hp':p ∈ firP to x.From:=hp
  rw [hP.ff,firP] at hp'
  rcases List.mem_cons.1 hp' with rfl | hp'
  ·refine ⟨by simp,by dsimp only; omega,newE k p0 z.Level,?_,Int.le_refl _,?_,(hP.port0 hv).2.2.2.2⟩
   ·dsimp only
    rw [Int.toNat_natCast]
    exact hP.at_new
   ·rcases hP.kk with rfl | rfl<;>(show (0:Int)<1; decide)
  ·obtain ⟨q,hq,rfl⟩:=List.mem_map.1 hp'
   have hl:=hP.rest hv hq
   obtain ⟨a,b,c⟩:=hsh to x q hP.xx (by rw [hP.ff]; exact List.mem_cons_of_mem _ hq)
   rw [if_pos hl] at b
   exact ⟨a,by omega,c⟩
 ·obtain ⟨i,rfl⟩:∃ i,j=i+1:=⟨j - 1,by omega⟩
  rw [hP.at_gt (by omega),Option.map_eq_some_iff] at hj
  obtain ⟨u,hu,rfl⟩:=hj
  have hp':p ∈ u.From.map (shP to):=hp
  obtain ⟨q,hq,rfl⟩:=List.mem_map.1 hp'
  obtain ⟨a,b,c⟩:=hsh i u q hu hq
  refine ⟨a,?_,c⟩
  split at b<;>omega
theorem Put.valid (hl:n.Elements.length≤15):netB (putN n to k x z p0)=true:=by
 have hlen:=hP.len
 unfold netB
 simp only [Bool.and_eq_true]
 refine ⟨⟨⟨hv.tab,Qeq.2 (by omega)⟩,List.all_eq_true.2 fun y hy=>?_⟩,Q21 (by simpa using hP.nodup hv) (fun y hy=>?_) fun j y p hj hp=>?_⟩
 ·rcases Qvf hy with h | rfl | rfl | ⟨w,h,rfl⟩
  ·exact hv.alone y h
  ·exact Zar hP.kk _ _
  ·rw [Zas]; exact hv.alone x (List.mem_of_getElem? hP.xx)
  ·rw [Zer]; exact hv.alone w h
 ·rcases Qvf hy with h | rfl | rfl | ⟨w,h,rfl⟩
  ·exact hv.level y h
  ·exact hv.level z (List.mem_of_getElem? hP.zz)
  ·exact hv.level x (List.mem_of_getElem? hP.xx)
  ·exact hv.level w h
 ·obtain ⟨a,b,c⟩:=hP.port hv j y p hj hp
  exact ⟨a,by omega,c⟩
end
end Go.Proofs.YtmbhnllcfmiajaaGreat
