/-
  Plain laws on nets: open ends, states, widths. No conditions but small sizes.
-/
import Derived.Test.YtmbhnllcfmiajaaGreatPN6
import Derived.Test.YtmbhnllcfmiajaaGreatPOpn
namespace Go.Proofs.YtmbhnllcfmiajaaGreat
open Go.RowKit
structure NetV (n:GNet):Prop where
 tab:tabB n.Table=true
 len:1≤n.Elements.length∧n.Elements.length≤16
 alone:∀ x ∈ n.Elements,Qib x=true
 level:∀ x ∈ n.Elements,0≤x.Level∧x.Level≤(n.Table.length:Int) - 1
 port:∀ (i:Nat) x p,n.Elements[i]? = some x→p ∈ x.From→0≤p.Element∧p.Element<i∧∃ y,n.Elements[p.Element.toNat]? = some y∧0≤p.Outlet∧p.Outlet<outl y∧x.Level≤y.Level
 dist:(n.Elements.flatMap fun x=>x.From.map pq).Nodup
theorem Qp6 {els:List GElement} {i:Nat} {lv:Int}:∀ {l:List GPort} {u:List (Int×Int)},Qhd els i lv u l=true→u.Nodup →
  (u++l.map pq).Nodup∧∀ p ∈ l,0≤p.Element∧p.Element<i∧∃ y,els[p.Element.toNat]? = some y∧0≤p.Outlet∧p.Outlet<outl y∧lv≤y.Level
 | [],u,_,hu=>⟨by simpa using hu,by simp⟩
 | p::l,u,h,hu=>by
  rw [Qhd,Bool.and_eq_true] at h
  obtain ⟨h1,h2⟩:=h
  rw [Qze,Bool.and_eq_true,Bool.and_eq_true] at h1
  obtain ⟨⟨h3,h4⟩,h5⟩:=h1
  have hn:pq p ∉ u:=by simpa using h5
  have hu':(u++[pq p]).Nodup:=by
   rw [List.nodup_append]
   exact ⟨hu,by simp,fun a ha b hb=>by simp at hb; subst hb; exact fun e=>hn (e ▸ ha)⟩
  obtain ⟨k1,k2⟩:=Qp6 h2 hu'
  refine ⟨by rw [List.map_cons]; rw [List.append_assoc] at k1; exact k1,fun q hq=>?_⟩
  rcases List.mem_cons.1 hq with rfl | hq
  ·obtain ⟨b1,b2⟩:=Qkj.1 h3
   cases hg:getI els q.Element with
   | none=>rw [hg] at h4; cases h4
   | some y=>
    rw [hg] at h4
    simp only [Bool.and_eq_true,decide_eq_true_eq] at h4
    obtain ⟨c1,c2⟩:=Qkj.1 h4.1
    exact ⟨b1,by omega,y,(Qu0 hg).2,c1,by omega,h4.2⟩
  ·exact k2 q hq
theorem Qu3 {t:Int} {els:List GElement}:∀ {l:List GElement} {i:Nat} {u:List (Int×Int)},Qqm t els i u l=true→u.Nodup →
  (u++l.flatMap fun x=>x.From.map pq).Nodup∧(∀ x ∈ l,0≤x.Level∧x.Level≤t - 1)∧∀ (j:Nat) x p,l[j]? = some x→p ∈ x.From→0≤p.Element∧p.Element<(i:Int)+j∧∃ y,els[p.Element.toNat]? = some y∧0≤p.Outlet∧p.Outlet<outl y∧x.Level≤y.Level
 | [],i,u,_,hu=>⟨by simpa using hu,by simp,fun j x p h=>by simp at h⟩
 | x::l,i,u,h,hu=>by
  rw [Qqm,Bool.and_eq_true,Bool.and_eq_true] at h
  obtain ⟨⟨h1,h2⟩,h3⟩:=h
  obtain ⟨k1,k2⟩:=Qp6 h2 hu
  obtain ⟨m1,m2,m3⟩:=Qu3 h3 k1
  refine ⟨by rw [List.flatMap_cons]; rw [List.append_assoc] at m1; exact m1,fun y hy=>?_,fun j y p hj hp=>?_⟩
  ·rcases List.mem_cons.1 hy with rfl | hy
   ·exact Qkj.1 h1
   ·exact m2 y hy
  ·cases j with
   | zero=>
    simp at hj
    subst hj
    obtain ⟨a,b,c⟩:=k2 p hp
    exact ⟨a,by omega,c⟩
   | succ j=>
    obtain ⟨a,b,c⟩:=m3 j y p (by simpa using hj) hp
    exact ⟨a,by omega,c⟩
theorem Q5c {n:GNet} (h:netB n=true):NetV n:=by
 unfold netB at h
 simp only [Bool.and_eq_true] at h
 obtain ⟨⟨⟨h1,h2⟩,h3⟩,h4⟩:=h
 obtain ⟨k1,k2,k3⟩:=Qu3 h4 List.nodup_nil
 have:=Qkj.1 h2
 exact ⟨h1,⟨by omega,by omega⟩,fun x hx=>List.all_eq_true.1 h3 x hx,k2,fun i x p hi hp=>by
  obtain ⟨a,b,c⟩:=k3 i x p hi hp
  exact ⟨a,by omega,c⟩,by simpa using k1⟩
section
variable {N : Nat} {n : GNet} (hs : Small n) (hv : NetV n) (hN : 1001 ≤ N)
include hs hN in
include hs hv hN in
include hs hN in
include hs hv hN in
end
end Go.Proofs.YtmbhnllcfmiajaaGreat
