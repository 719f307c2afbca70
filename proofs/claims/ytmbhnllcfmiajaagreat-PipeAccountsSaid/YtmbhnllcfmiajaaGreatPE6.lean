/-
  Plain laws on nets: open ends, states, widths. No conditions but small sizes.
-/
import Derived.Test.YtmbhnllcfmiajaaGreatPN6
import Derived.Test.YtmbhnllcfmiajaaGreatPOpn
namespace Go.Proofs.YtmbhnllcfmiajaaGreat
open Go.RowKit
structure NetV (n:GNet):Prop where
 tab:tabB n.Table=true
 len:1≤n.Elements.length∧n.Elements.length≤16
 alone:∀ x ∈ n.Elements,Qhu x=true
 level:∀ x ∈ n.Elements,0≤x.Level∧x.Level≤(n.Table.length:Int) - 1
 port:∀ (i:Nat) x p,n.Elements[i]? = some x→p ∈ x.From→0≤p.Element∧p.Element<i∧∃ y,n.Elements[p.Element.toNat]? = some y∧0≤p.Outlet∧p.Outlet<outl y∧x.Level≤y.Level
 dist:(n.Elements.flatMap fun x=>x.From.map pq).Nodup
theorem Qtv {els:List GElement} {i:Nat} {lv:Int}:∀ {l:List GPort} {u:List (Int×Int)},Qiy els i lv u l=true→u.Nodup →
  (u++l.map pq).Nodup∧∀ p ∈ l,0≤p.Element∧p.Element<i∧∃ y,els[p.Element.toNat]? = some y∧0≤p.Outlet∧p.Outlet<outl y∧lv≤y.Level
 | [],u,_,hu=>⟨by simpa using hu,by simp⟩
 | p::l,u,h,hu=>by
  rw [Qiy,Bool.and_eq_true] at h
  obtain ⟨h1,h2⟩:=h
  rw [Q5p,Bool.and_eq_true,Bool.and_eq_true] at h1
  obtain ⟨⟨h3,h4⟩,h5⟩:=h1
  have hn:pq p ∉ u:=by simpa using h5
  have hu':(u++[pq p]).Nodup:=by
   rw [List.nodup_append]
   exact ⟨hu,by simp,fun a ha b hb=>by simp at hb; subst hb; exact fun e=>hn (e ▸ ha)⟩
  obtain ⟨k1,k2⟩:=Qtv h2 hu'
  refine ⟨by rw [List.map_cons]; rw [List.append_assoc] at k1; exact k1,fun q hq=>?_⟩
  rcases List.mem_cons.1 hq with rfl | hq
  ·obtain ⟨b1,b2⟩:=Qfw.1 h3
   cases hg:getI els q.Element with
   | none=>rw [hg] at h4; cases h4
   | some y=>
    rw [hg] at h4
    simp only [Bool.and_eq_true,decide_eq_true_eq] at h4
    obtain ⟨c1,c2⟩:=Qfw.1 h4.1
    exact ⟨b1,by omega,y,(Q0x hg).2,c1,by omega,h4.2⟩
  ·exact k2 q hq
theorem Q03 {t:Int} {els:List GElement}:∀ {l:List GElement} {i:Nat} {u:List (Int×Int)},Qum t els i u l=true→u.Nodup →
  (u++l.flatMap fun x=>x.From.map pq).Nodup∧(∀ x ∈ l,0≤x.Level∧x.Level≤t - 1)∧∀ (j:Nat) x p,l[j]? = some x→p ∈ x.From→0≤p.Element∧p.Element<(i:Int)+j∧∃ y,els[p.Element.toNat]? = some y∧0≤p.Outlet∧p.Outlet<outl y∧x.Level≤y.Level
 | [],i,u,_,hu=>⟨by simpa using hu,by simp,fun j x p h=>by simp at h⟩
 | x::l,i,u,h,hu=>by
  rw [Qum,Bool.and_eq_true,Bool.and_eq_true] at h
  obtain ⟨⟨h1,h2⟩,h3⟩:=h
  obtain ⟨k1,k2⟩:=Qtv h2 hu
  obtain ⟨m1,m2,m3⟩:=Q03 h3 k1
  refine ⟨by rw [List.flatMap_cons]; rw [List.append_assoc] at m1; exact m1,fun y hy=>?_,fun j y p hj hp=>?_⟩
  ·rcases List.mem_cons.1 hy with rfl | hy
   ·exact Qfw.1 h1
   ·exact m2 y hy
  ·cases j with
   | zero=>
    simp at hj
    subst hj
    obtain ⟨a,b,c⟩:=k2 p hp
    exact ⟨a,by omega,c⟩
   | succ j=>
    obtain ⟨a,b,c⟩:=m3 j y p (by simpa using hj) hp
    exact ⟨a,by omega,c⟩
theorem Zm0 {n:GNet} (h:netB n=true):NetV n:=by
 unfold netB at h
 simp only [Bool.and_eq_true] at h
 obtain ⟨⟨⟨h1,h2⟩,h3⟩,h4⟩:=h
 obtain ⟨k1,k2,k3⟩:=Q03 h4 List.nodup_nil
 have:=Qfw.1 h2
 exact ⟨h1,⟨by omega,by omega⟩,fun x hx=>List.all_eq_true.1 h3 x hx,k2,fun i x p hi hp=>by
  obtain ⟨a,b,c⟩:=k3 i x p hi hp
  exact ⟨a,by omega,c⟩,by simpa using k1⟩
def Qk4:Nat→List GElement→List GPort
 | _,[]=>[]
 | i,x::l=>(List.range (outl x).toNat).map (fun k:Nat=>(⟨(i:Int),(k:Int)⟩:GPort))++Qk4 (i+1) l
def Qxw (n:GNet):List (Int×Int):=n.Elements.flatMap fun x=>x.From.map pq
def Qnu (n:GNet):List GPort:=(Qk4 0 n.Elements).filter fun p=>!(Qxw n).contains (pq p)
section
variable {N : Nat} {n : GNet} (hs : Small n) (hv : NetV n) (hN : 1001 ≤ N)
theorem Q7k (x:GElement) (hx:x.From.length≤1000) (k:List (Int×Int)→Option (List (Int×Int))):∀ (m j:Nat) (u:List (Int×Int)),(x.From.drop j).length<m→(u++(x.From.drop j).map pq).Nodup →
  Qc8 N k x m j u=k (u++(x.From.drop j).map pq):=by
 intro m
 induction m with
 | zero=>intro j _ h; exact absurd h (Nat.not_lt_zero _)
 | succ m ih=>
  intro j u h hu
  rw [Qc8]
  cases hd:x.From.drop j with
  | nil=>
   have:=Qbx hd
   simp [show ¬ ((j:Int)<x.From.length) from by omega]
  | cons p l=>
   obtain ⟨hg,hd',hlt⟩:=Qbl hd
   rw [hd] at hu
   have hn:u.contains (p.Element,p.Outlet)=false:=by
    rw [← Bool.not_eq_true,List.contains_iff_mem]
    intro hm
    rw [List.nodup_append] at hu
    exact hu.2.2 _ hm (pq p) (by simp) rfl
   have ea:addQ u (p.Element,p.Outlet)=u++[pq p]:=by
    unfold addQ
    rw [hn]; rfl
   simp only [show decide ((j:Int)<x.From.length)=true from by simpa using hlt,cond_true,Qbu hg,Option.bind_some,ea]
   rw [Qa2 (x:=(j:Int)+1) (by omega) (by omega),show (j:Int)+1=((j+1:Nat):Int) by omega,ih (j+1) _ (by rw [hd']; rw [hd] at h; simp at h; omega) (by rw [hd',List.append_assoc]; exact hu),hd',List.append_assoc]
   rfl
include hs hN in
theorem Zb0 (k:List (Int×Int)→Option (List (Int×Int))):∀ (m i:Nat) (u:List (Int×Int)),(n.Elements.drop i).length<m→(u++(n.Elements.drop i).flatMap fun x=>x.From.map pq).Nodup →
  Qc9 N n k m i u=k (u++(n.Elements.drop i).flatMap fun x=>x.From.map pq):=by
 intro m
 induction m with
 | zero=>intro i _ h; exact absurd h (Nat.not_lt_zero _)
 | succ m ih=>
  intro i u h hu
  rw [Qc9]
  cases hd:n.Elements.drop i with
  | nil=>
   have:=Qbx hd
   simp [show ¬ ((i:Int)<n.Elements.length) from by omega]
  | cons x l=>
   obtain ⟨hg,hd',hlt⟩:=Qbl hd
   have e0:=hs.e
   have hx:=hs.x x (List.mem_of_getElem? hg)
   rw [hd,List.flatMap_cons,← List.append_assoc] at hu
   simp only [show decide ((i:Int)<n.Elements.length)=true from by simpa using hlt,cond_true,Qbb,Qbu hg,Option.bind_some]
   refine (Q7k x (by omega) _ N 0 u (by simp; omega) (by rw [List.drop_zero]; exact (List.nodup_append.1 hu).1)).trans ?_
   rw [List.drop_zero,Qa2 (x:=(i:Int)+1) (by omega) (by omega),show (i:Int)+1=((i+1:Nat):Int) by omega,ih (i+1) _ (by rw [hd']; rw [hd] at h; simp at h; omega) (by rw [hd']; exact hu),hd',List.flatMap_cons,List.append_assoc]
include hs hv hN in
theorem Zmf:Qf6 N n=some (Qxw n):=by
 have e0:=hs.e
 unfold Qf6
 simp only [Qbb]
 refine (Zb0 hs hN _ N 0 [] (by simp; omega) (by rw [List.drop_zero]; exact hv.dist)).trans ?_
 rw [List.drop_zero,List.nil_append]
 rfl
theorem Q8c (i:Nat) (u:List (Int×Int)) (o:Nat) (ho:o≤1000) (r:List GPort) (k:Unit→Option (List GPort)) (hk:k ()=some r):∀ (m j:Nat),o - j<m→j≤o →
  Qcr N i u k o m j=some ((((List.range' j (o - j)).map (fun k:Nat=>(⟨(i:Int),(k:Int)⟩:GPort))).filter fun p=>!u.contains (pq p))++r):=by
 intro m
 induction m with
 | zero=>intro j h; exact absurd h (Nat.not_lt_zero _)
 | succ m ih=>
  intro j h hj
  rw [Qcr]
  by_cases hlt:j<o
  ·rw [show decide ((j:Int)<(o:Int))=true by simpa using hlt,cond_true,Qa2 (x:=(j:Int)+1) (by omega) (by omega),show (j:Int)+1=((j+1:Nat):Int) by omega,ih (j+1) (by omega) (by omega),show o - j=(o - (j+1))+1 by omega,List.range'_succ,List.map_cons,List.filter_cons]
   cases hu:u.contains (pq ⟨(i:Int),(j:Int)⟩) with
   | true=>
    rw [show u.contains ((i:Int),(j:Int))=true from hu]
    simp
   | false=>
    rw [show u.contains ((i:Int),(j:Int))=false from hu]
    simp [yld]
  ·rw [show decide ((j:Int)<(o:Int))=false by simpa using hlt,cond_false,hk,show o - j=0 by omega]
   rfl
include hs hN in
theorem Zd6 (u:List (Int×Int)):∀ (m i:Nat),(n.Elements.drop i).length<m →
  Qcs N n.Elements u m i=some ((Qk4 i (n.Elements.drop i)).filter fun p=>!u.contains (pq p)):=by
 intro m
 induction m with
 | zero=>intro i h; exact absurd h (Nat.not_lt_zero _)
 | succ m ih=>
  intro i h
  rw [Qcs]
  cases hd:n.Elements.drop i with
  | nil=>
   have:=Qbx hd
   simp [show ¬ ((i:Int)<n.Elements.length) from by omega,Qk4]
  | cons x l=>
   obtain ⟨hg,hd',hlt⟩:=Qbl hd
   have e0:=hs.e
   obtain ⟨o0,o1⟩:=Qrf (hs.x x (List.mem_of_getElem? hg)).2
   simp only [show decide ((i:Int)<n.Elements.length)=true from by simpa using hlt,cond_true,Qbb,Qbu hg,Option.bind_some,Zcu]
   have h1:=ih (i+1) (by rw [hd']; rw [hd] at h; simp at h; omega)
   rw [Qa2 (x:=(i:Int)+1) (by omega) (by omega),show (i:Int)+1=((i+1:Nat):Int) by omega]
   have h2:=Q8c (N:=N) i u (outl x).toNat (by omega) _ (fun _=>Qcs N n.Elements u m ((i+1:Nat):Int)) h1 N 0 (by omega) (Nat.zero_le _)
   rw [show (((outl x).toNat:Nat):Int)=outl x by omega] at h2
   refine h2.trans ?_
   rw [hd',Qk4,List.filter_append,Nat.sub_zero,List.range_eq_range']
theorem Qvz:∀ (l:List GElement) (i:Nat),(∀ x ∈ l,x.Weights.length≤25)→(Qk4 i l).length≤25 * l.length
 | [],_,_=>by simp [Qk4]
 | x::l,i,h=>by
  have:=Qvz l (i+1) fun y hy=>h y (List.mem_cons_of_mem _ hy)
  have:=Qrf (h x List.mem_cons_self)
  simp only [Qk4,List.length_append,List.length_map,List.length_range,List.length_cons]
  omega
include hs hv hN in
end
def stB (n:GNet) (s:List Int):Bool:=decide (s.length=n.Elements.length)&&s.all fun x=>btw x 0 1000000000000
theorem Zca {N:Nat} {n:GNet} (hs:Small n) (hN:1001≤N) {s:List Int} (hl:s.length≤1000):Qj9 N n s=some (bif netB n&&stB n s then 0 else 1):=by
 have hc:Qcx N s=some (s.any fun x=>!btw x 0 1000000000000):=by
  unfold Qcx Qee Qbb
  refine Qil (F:=Qb6 N s fun _=>some (-1)) (k:=fun _=>some (-1)) (q:=Qg0 N) (fun n y=>rfl) (fun x=>?_) rfl (by omega) (by omega)
  simp only [Qg0,Qjn,Qkq,Option.bind_some]
 unfold Qj9 Qi0 stB
 rw [Zm2 hs hN,hc]
 simp only [Option.bind_some,Qu4]
 cases netB n with
 | false=>rfl
 | true=>
  by_cases h1:s.length=n.Elements.length
  ·rw [decide_eq_true h1,show ((s.length:Int) != (n.Elements.length:Int))=false by rw [bne_eq_false_iff_eq]; omega]
   cases s.all fun x=>btw x 0 1000000000000<;>rfl
  ·rw [decide_eq_false h1,show ((s.length:Int) != (n.Elements.length:Int))=true by rw [bne_iff_ne]; omega]; rfl
def widI (x:GElement) (d:Int):Int:=if x.Wide - d / x.Narrow>0 then x.Wide - d / x.Narrow else 0
theorem Zju {x:GElement} (hx:Qhu x=true) {d:Int} (h0:0≤d) (h1:d≤9000000000000000000):(x.Narrow != 0)=true∧d.tdiv x.Narrow=d / x.Narrow∧0≤d / x.Narrow∧d / x.Narrow≤d∧w64 (d / x.Narrow)=d / x.Narrow∧w64 (x.Wide - d / x.Narrow)=x.Wide - d / x.Narrow∧0≤x.Wide∧x.Wide≤1000000∧1≤x.Narrow:=by
 unfold Qhu at hx
 simp only [Bool.and_eq_true] at hx
 obtain ⟨⟨⟨⟨⟨_,hw⟩,hn⟩,_⟩,_⟩,_⟩:=hx
 obtain ⟨w0,w1⟩:=Qfw.1 hw
 obtain ⟨n0,n1⟩:=Qfw.1 hn
 have a:=Int.ediv_nonneg h0 (show 0≤x.Narrow by omega)
 have b:=Int.ediv_le_self x.Narrow h0
 exact ⟨by rw [bne_iff_ne]; omega,Int.tdiv_eq_ediv_of_nonneg h0,a,b,Qa2 (by omega) (by omega),Qa2 (by omega) (by omega),w0,w1,n0⟩
theorem Zby (N:Nat) {x:GElement} (hx:Qhu x=true) {d:Int} (h0:0≤d) (h1:d≤9000000000000000000):Qfu N x d=some (widI x d):=by
 obtain ⟨a,b,c,e,f,g,_⟩:=Zju hx h0 h1
 unfold Qfu widI
 rw [a,b,f,g]
 rfl
end Go.Proofs.YtmbhnllcfmiajaaGreat
