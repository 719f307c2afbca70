/-
  Plain laws on nets: open ends, states, widths. No conditions but small sizes.
-/
import Derived.Test.YtmbhnllcfmiajaaGreatPN6
import Derived.Test.YtmbhnllcfmiajaaGreatPOpn
namespace Go.Proofs.YtmbhnllcfmiajaaGreat
open Go.RowKit
structure NetV (n:GNet):Prop where
 tab:tabB n.Table=true
 len:1≤n.Elements.length∧n.Elements.length≤16
 alone:∀ x ∈ n.Elements,Qfw x=true
 level:∀ x ∈ n.Elements,0≤x.Level∧x.Level≤(n.Table.length:Int) - 1
 port:∀ (i:Nat) x p,n.Elements[i]? = some x→p ∈ x.From→0≤p.Element∧p.Element<i∧∃ y,n.Elements[p.Element.toNat]? = some y∧0≤p.Outlet∧p.Outlet<outl y∧x.Level≤y.Level
 dist:(n.Elements.flatMap fun x=>x.From.map pq).Nodup
theorem Qrh {els:List GElement} {i:Nat} {lv:Int}:∀ {l:List GPort} {u:List (Int×Int)},Qg6 els i lv u l=true→u.Nodup →
  (u++l.map pq).Nodup∧∀ p ∈ l,0≤p.Element∧p.Element<i∧∃ y,els[p.Element.toNat]? = some y∧0≤p.Outlet∧p.Outlet<outl y∧lv≤y.Level
 | [],u,_,hu=>⟨by simpa using hu,by simp⟩
 | p::l,u,h,hu=>by
  rw [Qg6,Bool.and_eq_true] at h
  obtain ⟨h1,h2⟩:=h
  rw [Qw9,Bool.and_eq_true,Bool.and_eq_true] at h1
  obtain ⟨⟨h3,h4⟩,h5⟩:=h1
  have hn:pq p ∉ u:=by simpa using h5
  have hu':(u++[pq p]).Nodup:=by
   rw [List.nodup_append]
   exact ⟨hu,by simp,fun a ha b hb=>by simp at hb; subst hb; exact fun e=>hn (e ▸ ha)⟩
  obtain ⟨k1,k2⟩:=Qrh h2 hu'
  refine ⟨by rw [List.map_cons]; rw [List.append_assoc] at k1; exact k1,fun q hq=>?_⟩
  rcases List.mem_cons.1 hq with rfl | hq
  ·obtain ⟨b1,b2⟩:=Qeq.1 h3
   cases hg:getI els q.Element with
   | none=>rw [hg] at h4; cases h4
   | some y=>
    rw [hg] at h4
    simp only [Bool.and_eq_true,decide_eq_true_eq] at h4
    obtain ⟨c1,c2⟩:=Qeq.1 h4.1
    exact ⟨b1,by omega,y,(Qxo hg).2,c1,by omega,h4.2⟩
  ·exact k2 q hq
theorem Qxt {t:Int} {els:List GElement}:∀ {l:List GElement} {i:Nat} {u:List (Int×Int)},Qpi t els i u l=true→u.Nodup →
  (u++l.flatMap fun x=>x.From.map pq).Nodup∧(∀ x ∈ l,0≤x.Level∧x.Level≤t - 1)∧∀ (j:Nat) x p,l[j]? = some x→p ∈ x.From→0≤p.Element∧p.Element<(i:Int)+j∧∃ y,els[p.Element.toNat]? = some y∧0≤p.Outlet∧p.Outlet<outl y∧x.Level≤y.Level
 | [],i,u,_,hu=>⟨by simpa using hu,by simp,fun j x p h=>by simp at h⟩
 | x::l,i,u,h,hu=>by
  rw [Qpi,Bool.and_eq_true,Bool.and_eq_true] at h
  obtain ⟨⟨h1,h2⟩,h3⟩:=h
  obtain ⟨k1,k2⟩:=Qrh h2 hu
  obtain ⟨m1,m2,m3⟩:=Qxt h3 k1
  refine ⟨by rw [List.flatMap_cons]; rw [List.append_assoc] at m1; exact m1,fun y hy=>?_,fun j y p hj hp=>?_⟩
  ·rcases List.mem_cons.1 hy with rfl | hy
   ·exact Qeq.1 h1
   ·exact m2 y hy
  ·cases j with
   | zero=>
    simp at hj
    subst hj
    obtain ⟨a,b,c⟩:=k2 p hp
    exact ⟨a,by omega,c⟩
   | succ j=>
    obtain ⟨a,b,c⟩:=m3 j y p (by simpa using hj) hp
    exact ⟨a,by omega,c⟩
theorem Zi4 {n:GNet} (h:netB n=true):NetV n:=by
 unfold netB at h
 simp only [Bool.and_eq_true] at h
 obtain ⟨⟨⟨h1,h2⟩,h3⟩,h4⟩:=h
 obtain ⟨k1,k2,k3⟩:=Qxt h4 List.nodup_nil
 have:=Qeq.1 h2
 exact ⟨h1,⟨by omega,by omega⟩,fun x hx=>List.all_eq_true.1 h3 x hx,k2,fun i x p hi hp=>by
  obtain ⟨a,b,c⟩:=k3 i x p hi hp
  exact ⟨a,by omega,c⟩,by simpa using k1⟩
section
variable {N : Nat} {n : GNet} (hs : Small n) (hv : NetV n) (hN : 1001 ≤ N)
include hs hN in
include hs hv hN in
include hs hN in
include hs hv hN in
end
def stB (n:GNet) (s:List Int):Bool:=decide (s.length=n.Elements.length)&&s.all fun x=>btw x 0 1000000000000
theorem Q79 {N:Nat} {n:GNet} (hs:Small n) (hN:1001≤N) {s:List Int} (hl:s.length≤1000):Qi1 N n s=some (bif netB n&&stB n s then 0 else 1):=by
 have hc:Qcu N s=some (s.any fun x=>!btw x 0 1000000000000):=by
  unfold Qcu Qd1 Qbp
  refine Qhj (F:=Qb4 N s fun _=>some (-1)) (k:=fun _=>some (-1)) (q:=Qf9 N) (fun n y=>rfl) (fun x=>?_) rfl (by omega) (by omega)
  simp only [Qf9,Qig,Qjl,Option.bind_some]
 unfold Qi1 Qhy stB
 rw [Zi6 hs hN,hc]
 simp only [Option.bind_some,Qsq]
 cases netB n with
 | false=>rfl
 | true=>
  by_cases h1:s.length=n.Elements.length
  ·rw [decide_eq_true h1,show ((s.length:Int) != (n.Elements.length:Int))=false by rw [bne_eq_false_iff_eq]; omega]
   cases s.all fun x=>btw x 0 1000000000000<;>rfl
  ·rw [decide_eq_false h1,show ((s.length:Int) != (n.Elements.length:Int))=true by rw [bne_iff_ne]; omega]; rfl
def widI (x:GElement) (d:Int):Int:=if x.Wide - d / x.Narrow>0 then x.Wide - d / x.Narrow else 0
theorem Zlm {x:GElement} (hx:Qfw x=true) {d:Int} (h0:0≤d) (h1:d≤9000000000000000000):(x.Narrow != 0)=true∧d.tdiv x.Narrow=d / x.Narrow∧0≤d / x.Narrow∧d / x.Narrow≤d∧w64 (d / x.Narrow)=d / x.Narrow∧w64 (x.Wide - d / x.Narrow)=x.Wide - d / x.Narrow∧0≤x.Wide∧x.Wide≤1000000∧1≤x.Narrow:=by
 unfold Qfw at hx
 simp only [Bool.and_eq_true] at hx
 obtain ⟨⟨⟨⟨⟨_,hw⟩,hn⟩,_⟩,_⟩,_⟩:=hx
 obtain ⟨w0,w1⟩:=Qeq.1 hw
 obtain ⟨n0,n1⟩:=Qeq.1 hn
 have a:=Int.ediv_nonneg h0 (show 0≤x.Narrow by omega)
 have b:=Int.ediv_le_self x.Narrow h0
 exact ⟨by rw [bne_iff_ne]; omega,Int.tdiv_eq_ediv_of_nonneg h0,a,b,Qbd (by omega) (by omega),Qbd (by omega) (by omega),w0,w1,n0⟩
theorem Q7y (N:Nat) {x:GElement} (hx:Qfw x=true) {d:Int} (h0:0≤d) (h1:d≤9000000000000000000):Qff N x d=some (widI x d):=by
 obtain ⟨a,b,c,e,f,g,_⟩:=Zlm hx h0 h1
 unfold Qff widI
 rw [a,b,f,g]
 rfl
end Go.Proofs.YtmbhnllcfmiajaaGreat
