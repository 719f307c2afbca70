/-
  The engine, part W: a block of one's own read as data in one operation; scopes; a slice of one's own is not nil. Plain definitions and laws; no conditions.
-/
import Derived.Test.YtmbhnllcfmiajaaGreatEngV
import Derived.Scope
namespace Go.Proofs.YtmbhnllcfmiajaaGreat
open Go.RowKit
section
variable {F : Fence} {n : Nat} {P : Program} {Q : Exit → Act → World → Prop} {a : Act} {w : World}
end
section
variable {P : Program} {X : Nat → Nat → Prop} {φ0 : Nat → FSlot} {w0 : World} {ro : Option Nat} {Q : Exit → AS → Prop} {s : AS} {c : Code}
end
section
variable {P : Program} {o : Oper} {X : Nat → Nat → Prop} {φ φ' : Nat → FSlot} {w w' : World}
def kill (ns:List Nat) (φ:Nat→FSlot):Nat→FSlot:=fun k=>if ns.contains k then .dead else φ k
theorem Q9b {ns:List Nat} {k:Nat} (h:k ∈ ns):kill ns φ k=.dead:=by simp [kill,h]
theorem Qih {ns:List Nat} {k:Nat} (h:k ∉ ns):kill ns φ k=φ k:=by simp [kill,h]
theorem Qh3 {ns:List Nat} {q c:Nat} (hq:(kill ns φ q).lies c):(φ q).lies c∧q ∉ ns:=by
 by_cases e:q ∈ ns
 ·rw [Q9b e] at hq; exact (Qa0 hq).elim
 ·rw [Qih e] at hq; exact ⟨hq,e⟩
theorem Zcu (ns:List Nat):Evo X φ w (kill ns φ) w:=by
 have ho:∀ {q s},kill ns φ q=s→s ≠ .dead→φ q=s:=fun {q s} h hs=>by
  by_cases e:q ∈ ns
  ·rw [Q9b e] at h; exact absurd h.symm hs
  ·rwa [Qih e] at h
 refine ⟨rfl,rfl,rfl,Nat.le_refl _,fun _ _ _=>rfl,fun b' ⟨q,hq⟩=>.inl ⟨q,(Qh3 hq).1⟩,fun b' off hdat=>⟨⟨hdat.lt,hdat.hid,fun q hq=>hdat.own q (ho hq (by simp)),fun q L hq=>hdat.tok q L (ho hq (by simp)),fun q Y hq=>hdat.far q Y (ho hq (by simp)),fun q bs z hq=>hdat.mat q bs z (ho hq (by simp))⟩,rfl⟩,fun q hq=>?_,fun q b' hq=>?_,fun q t hq=>?_,fun q Y hq=>?_,fun q bs hq=>?_,fun _ _ _ _=>.same rfl⟩
 ·unfold kill; split<;>simp [hq]
 ·unfold kill; split
  ·exact .inr rfl
  ·exact .inl hq
 ·unfold kill; split
  ·exact .inl rfl
  ·exact .inr ⟨hq,fun _ _ _=>rfl⟩
 ·unfold kill; split
  ·exact .inl rfl
  ·exact .inr ⟨Y,hq⟩
 ·unfold kill; split
  ·exact .inl rfl
  ·exact .inr ⟨bs,hq,.refl bs⟩
def wake (ns:List Nat) (φ0 φ:Nat→FSlot):Nat→FSlot:=fun k=>if ns.contains k then φ0 k else φ k
theorem Qi8 {ns:List Nat} {φ0:Nat→FSlot} {k:Nat} (h:k ∈ ns):wake ns φ0 φ k=φ0 k:=by simp [wake,h]
theorem Qek {ns:List Nat} {φ0:Nat→FSlot} {k:Nat} (h:k ∉ ns):wake ns φ0 φ k=φ k:=by simp [wake,h]
inductive Fresh (ns:List Nat) (eff:List (Nat×Slot)):AV→Prop where
 | any:Fresh ns eff .any
 | lit (v:Value):Fresh ns eff (.lit v)
 | ref (n' m j i:Nat) (h:n' ∉ ns):Fresh ns eff (.ref n' m j i)
 | own (n' m j len:Nat) (h:n' ∉ ns):Fresh ns eff (.own n' m j len)
 | gro (n':Nat) (ty:TypeId) (m len:Nat) (h:n' ∉ ns):Fresh ns eff (.gro n' ty m len)
 | acc (n':Nat) (ty:TypeId) (m:Nat) (xs:List (List AV)) (h:n' ∉ ns) (ht:(n',Slot.tok) ∈ eff) (hx:∀ x ∈ xs,∀ a ∈ x,∃ v,a=.lit v):Fresh ns eff (.acc n' ty m xs)
 | tup (l:List AV) (h:∀ a ∈ l,Fresh ns eff a):Fresh ns eff (.tup l)
 | agg (l:List AV) (h:∀ a ∈ l,Fresh ns eff a):Fresh ns eff (.agg l)
theorem Fresh.rel {ns:List Nat} {φ0:Nat→FSlot} {eff:List (Nat×Slot)} {a:AV} (h:Fresh ns eff a) (hd:Qb9 (wake ns φ0 φ)) (he:∀ p ∈ eff,SlotOK X φ w p.1 p.2)
  (hX:∀ b' off,DataAt X φ w b' off→(∀ n ∈ ns,φ0 n ≠ .own b')→DataAt X (wake ns φ0 φ) w b' off):∀ {v:Value},RelV X φ w a v→RelV X (wake ns φ0 φ) w a v:=by
 have ne:∀ {n'},n' ∉ ns→wake ns φ0 φ n'=φ n':=fun h=>Qek h
 induction h with
 | any=>intro v _; exact .any v
 | lit u=>intro v hv; cases hv; exact .lit _
 | ref n' m j i h=>intro v hv; cases hv with | ref _ _ _ _ A hn hb=>exact .ref n' m j i A (by rw [ne h]; exact hn) (by rw [ne h]; exact hb)
 | own n' m j len h=>intro v hv; cases hv with | own _ _ _ _ A cap hc hm hn hb=>exact .own n' m j len A cap hc hm (by rw [ne h]; exact hn) (by rw [ne h]; exact hb)
 | gro n' ty m len h=>intro v hv; cases hv with | gro _ _ _ _ A cap hc hm hn hv hb=>exact .gro n' ty m len A cap hc hm (by rw [ne h]; exact hn) (by rw [ne h]; exact hv) (by rw [ne h]; exact hb)
 | acc n' ty m xs h ht hx=>
  intro v hv
  cases hv with
  | acc _ _ _ _ A len cap g ok hr hn htip=>
   obtain ⟨t,htok,_⟩:=he (n',.tok) ht
   dsimp only at htok
   have htip':=htip t htok
   refine .acc n' ty m xs A len cap g ⟨ok.hlen,ok.hcap,ok.hmost,ok.hsize,fun hne=>?_⟩ (fun j x hj i a hi=>?_) (by rw [ne h]; exact hn) (by rw [ne h]; exact htip)
   ·obtain ⟨b0,o0,hA,hc⟩:=ok.hcells hne
    refine ⟨b0,o0,hA,fun j x hj i hi=>⟨?_,(hc j x hj i hi).2⟩⟩
    have hb0:∀ n ∈ ns,φ0 n ≠ .own b0:=by
     intro n hnn hb
     cases t with
     | none=>
      have:=htip'.1
      rw [ok.hlen] at this
      exact hne (List.eq_nil_of_length_eq_zero this)
     | some p=>
      obtain ⟨b2,L⟩:=p
      have hA2:=htip'.1
      rw [hA] at hA2
      cases hA2
      have h1:(wake ns φ0 φ n').lies b0:=by rw [ne h]; exact .tok htok
      have h2:(wake ns φ0 φ n).lies b0:=.own (by rw [Qi8 hnn]; exact hb)
      exact h (hd _ _ _ h1 h2 ▸ hnn)
    exact hX _ _ (hc j x hj i hi).1 hb0
   ·obtain ⟨u,rfl⟩:=hx x (List.mem_of_getElem? hj) a (List.mem_of_getElem? hi)
    have:=hr j x hj i _ hi
    rw [Qcf this]
    exact .lit _
 | tup l h ih=>
  intro v hv
  cases hv with
  | tup _ vs hs hr=>exact .tup l vs hs fun i a hi=>ih a (List.mem_of_getElem? hi) (hr i a hi)
 | agg l h ih=>
  intro v hv
  cases hv with
  | agg _ vs hs hr=>exact .agg l vs hs fun i a hi=>ih a (List.mem_of_getElem? hi) (hr i a hi)
inductive SFresh (ns:List Nat) (eff:List (Nat×Slot)):Slot→Prop where
 | dead:SFresh ns eff .dead
 | tok:SFresh ns eff .tok
 | own (m:Nat) (xs:List (List AV)) (h:∀ x ∈ xs,∀ a ∈ x,Fresh ns eff a):SFresh ns eff (.own m xs)
 | gro (m:Nat) (xs:List (List AV)) (h:∀ x ∈ xs,∀ a ∈ x,Fresh ns eff a):SFresh ns eff (.gro m xs)
inductive Cv (B:List (Nat×Nat×List (List AV))):AV→AV→Prop where
 | same (a:AV):Cv B a a
 | dat (n m j len:Nat) (xs zs:List (List AV)) (h:(n,m,xs) ∈ B) (hl:j+len≤xs.length) (hz:zs.length=len) (hs:∀ (i:Nat) y z,xs[j+i]? = some y→zs[i]? = some z→y.length=z.length) (hr:∀ (i:Nat) y z,xs[j+i]? = some y→zs[i]? = some z→∀ (q:Nat) a a',y[q]? = some a→z[q]? = some a'→Cv B a a'):Cv B (.own n m j len) (.dat m zs)
 | dptr (n m j i:Nat) (xs:List (List AV)) (c c':List AV) (h:(n,m,xs) ∈ B) (hj:xs[j]? = some c) (hl:c.length=c'.length) (hr:∀ (q:Nat) a a',c[q]? = some a→c'[q]? = some a'→Cv B a a'):Cv B (.ref n m j i) (.dptr c' i)
 | agg (l l':List AV) (hl:l.length=l'.length) (hr:∀ (q:Nat) a a',l[q]? = some a→l'[q]? = some a'→Cv B a a'):Cv B (.agg l) (.agg l')
 | fn (f:Fn) (l l' c c':List AV) (hl:l.length=l'.length) (hc:c.length=c'.length) (hr:∀ (q:Nat) a a',l[q]? = some a→l'[q]? = some a'→Cv B a a') (hr':∀ (q:Nat) a a',c[q]? = some a→c'[q]? = some a'→Cv B a a'):Cv B (.fn f l c) (.fn f l' c')
theorem Cv.rel {B:List (Nat×Nat×List (List AV))} {a a':AV} (h:Cv B a a') (hB:∀ p ∈ B,∃ b,φ p.1=.own b∧OwnOK X φ w b p.2.1 p.2.2) (ev:Evo X φ w φ' w) (hdat:∀ p ∈ B,∀ b off,φ p.1=.own b→DataAt X φ' w b off):∀ {v:Value},RelV X φ w a v→RelV X φ' w a' v:=by
 have geti:∀ {l l':List AV},l.length=l'.length→∀ (q:Nat) a',l'[q]? = some a'→∃ a,l[q]? = some a:=fun {l l'} hl q a' hq=>by
  have:=(List.getElem?_eq_some_iff.1 hq).1
  exact ⟨_,List.getElem?_eq_getElem (by omega)⟩
 have cellat:∀ {b m:Nat} {cur:Array Value} {ty:TypeId} {xs:List (List AV)} {j:Nat} {c:List AV} {q:Nat},w.heap[b]? = some (.cells cur ty (0,0))→xs.length * m≤cur.size→xs[j]? = some c→q<m→w.cell? ⟨b,j * m+q,none⟩=some (cur.getD (j * m+q) undef):=fun {b m cur ty xs j c q} hc hs hj hq=>by
  have hjl:j<xs.length:=(List.getElem?_eq_some_iff.1 hj).1
  have hpos:j * m+q<cur.size:=by
   have:(j+1) * m≤xs.length * m:=Nat.mul_le_mul_right m hjl
   rw [Nat.add_mul] at this
   omega
  rw [World.cell?]
  simp only [hc]
  simp [Array.getD_eq_getD_getElem?,hpos]
 induction h with
 | same a=>intro v hv; exact hv.evo ev
 | dat n m j len xs zs h hl hz hs hr ih=>
  intro v hv
  obtain ⟨b,hn,hown⟩:=hB _ h
  dsimp only at hn hown
  obtain ⟨cap,hc1,hc2,rfl⟩:=Qzm hv hn
  obtain ⟨cur,ty,hcell,hsz,hlen,hrel⟩:=hown.blk
  have hx:∀ (i:Nat) z,zs[i]? = some z→∃ y,xs[j+i]? = some y:=fun i z hi=>by
   have:=(List.getElem?_eq_some_iff.1 hi).1
   exact ⟨_,List.getElem?_eq_getElem (by omega)⟩
  refine .dat m zs _ len cap (fun i q=>cur.getD ((j+i) * m+q) undef) ⟨hz.symm,hc1,hc2,fun z hz'=>?_,fun _=>⟨b,j * m,rfl,fun i z hi q hq=>⟨hdat _ h b _ hn,?_⟩⟩⟩ fun i z hi q c hq=>?_
  ·obtain ⟨i,hi⟩:=List.getElem?_of_mem hz'
   obtain ⟨y,hy⟩:=hx i z hi
   rw [← hs i y z hy hi]
   exact hlen y (List.mem_of_getElem? hy)
  ·obtain ⟨y,hy⟩:=hx i z hi
   rw [show j * m+i * m+q=(j+i) * m+q from by rw [Nat.add_mul]]
   exact cellat hcell hsz hy hq
  ·obtain ⟨y,hy⟩:=hx i z hi
   obtain ⟨u,hu⟩:=geti (hs i y z hy hi) q c hq
   exact ih i y z hy hi q u c hu hq (hrel (j+i) y hy q u hu)
 | dptr n m j i xs c c' h hj hl hr ih=>
  intro v hv
  obtain ⟨b,hn,hown⟩:=hB _ h
  dsimp only at hn hown
  obtain rfl:=Qm5 hv hn
  obtain ⟨cur,ty,hcell,hsz,hlen,hrel⟩:=hown.blk
  refine .dptr c' i b (j * m) (fun k=>cur.getD (j * m+k) undef) (fun k hk=>⟨hdat _ h b _ hn,?_⟩) fun k u hk=>?_
  ·exact cellat hcell hsz hj (by rw [← hl,hlen c (List.mem_of_getElem? hj)] at hk; exact hk)
  ·obtain ⟨u',hu'⟩:=geti hl k u hk
   exact ih k u' u hu' hk (hrel j c hj k u' hu')
 | agg l l' hl hr ih=>
  intro v hv
  cases hv with
  | agg _ vs hs h=>
   refine .agg l' vs (hs.trans hl) fun i a hi=>?_
   obtain ⟨u,hu⟩:=geti hl i a hi
   exact ih i u a hu hi (h i u hu)
 | fn f l l' c c' hl hc hr hr' ih ih'=>
  intro v hv
  cases hv with
  | fn _ _ _ us vs hu hv h1 h2=>
   refine .fn f l' c' us vs (hu.trans hl) (hv.trans hc) (fun i a hi=>?_) fun i a hi=>?_
   ·obtain ⟨u,hu⟩:=geti hl i a hi
    exact ih i u a hu hi (h1 i u hu)
   ·obtain ⟨u,hu⟩:=geti hc i a hi
    exact ih' i u a hu hi (h2 i u hu)
theorem Qyb {rd rd':List (Operand×AV)} {bl eff:List (Nat×Slot)} {r:AV} (B:List (Nat×Nat×List (List AV))) (hrd:∀ q ∈ rd',∃ p ∈ rd,p.1=q.1∧Cv B p.2 q.2)
  (hbl:∀ n ∈ B.map (·.1),n ∉ bl.map (·.1)) (heff:∀ n ∈ B.map (·.1),n ∉ eff.map (·.1)) (hr:Fresh (B.map (·.1)) eff r) (hs:∀ p ∈ eff,SFresh (B.map (·.1)) eff p.2) (h:Qcg P o rd' bl r eff):Qcg P o rd (B.map (fun p=>(p.1,Slot.own p.2.1 p.2.2))++bl) r eff:=by
 intro X φ a w hrv hb hd hX hlt next Q k
 have hB:∀ p ∈ B,∃ b,φ p.1=.own b∧OwnOK X φ w b p.2.1 p.2.2:=fun p hp=>hb (p.1,.own p.2.1 p.2.2) (List.mem_append_left _ (List.mem_map.2 ⟨p,hp,rfl⟩))
 generalize hns:B.map (·.1)=ns at hbl heff hr hs
 have hown:∀ n ∈ ns,∃ b,φ n=.own b∧b<w.heap.size∧∀ off,¬ X b off:=fun n hn=>by
  rw [← hns] at hn
  obtain ⟨p,hp,rfl⟩:=List.mem_map.1 hn
  obtain ⟨b,h1,h2⟩:=hB p hp
  exact ⟨b,h1,h2.lt,h2.hid⟩
 have hown':∀ n ∈ ns,∃ b,φ n=.own b:=fun n hn=>⟨_,(hown n hn).choose_spec.1⟩
 have ev:Evo X φ w (kill ns φ) w:=Zcu ns
 have nhold:∀ n ∈ ns,∀ b,φ n=.own b→¬ Qi7 (kill ns φ) b:=fun n hn b hb ⟨q,hq⟩=>(Qh3 hq).2 (hd _ _ _ (Qh3 hq).1 (.own hb) ▸ hn)
 have datB:∀ n ∈ ns,∀ b off,φ n=.own b→DataAt X (kill ns φ) w b off:=fun n hn b off hb=>by
  obtain ⟨b',h1,h2,h3⟩:=hown n hn
  rw [hb] at h1
  cases h1
  exact ⟨h2,h3 off,fun q hq=>nhold n hn b hb ⟨q,.own hq⟩,fun q L hq=>(nhold n hn b hb ⟨q,.tok hq⟩).elim,fun q Y hq hy=>nhold n hn b hb ⟨q,.far hq hy⟩,fun q bs z hq hz=>nhold n hn b hb ⟨q,.mat hq hz⟩⟩
 refine h X (kill ns φ) a w (fun q hq=>?_) (fun p hp=>?_) (fun q q' c h1 h2=>hd _ _ _ (Qh3 h1).1 (Qh3 h2).1) hX (fun q c hq=>hlt q c (Qh3 hq).1) next Q ?_
 ·obtain ⟨p,hp,e1,e2⟩:=hrd q hq
  rw [← e1]
  exact e2.rel hB ev (fun p hp b off hb=>datB p.1 (hns ▸ List.mem_map_of_mem hp) b off hb) (hrv p hp)
 ·have hpn:p.1 ∉ ns:=fun e=>hbl _ e (List.mem_map_of_mem hp)
  exact (hb p (List.mem_append_right _ hp)).evo ev (Qih hpn) fun _ _=>rfl
 ·intro v φ1 w' hv he hd1 hother hheap hev
  have nhold1:∀ n ∈ ns,∀ b,φ n=.own b→¬ Qi7 φ1 b:=fun n hn b hb hh=>by
   rcases hev.new b hh with h1 | h1
   ·exact nhold n hn b hb h1
   ·obtain ⟨b',h2,h3,_⟩:=hown n hn
    rw [hb] at h2
    cases h2
    omega
  have hsame:∀ n ∈ ns,∀ b,φ n=.own b→w'.heap[b]? = w.heap[b]? := fun n hn b hb=>by
   obtain ⟨b',h2,h3,_⟩:=hown n hn
   rw [hb] at h2
   cases h2
   exact hev.blk b h3 (nhold n hn b hb)
  have hd2:Qb9 (wake ns φ φ1):=fun q q' c h1 h2=>by
   by_cases e:q ∈ ns
   ·rw [Qi8 e] at h1
    by_cases e':q' ∈ ns
    ·rw [Qi8 e'] at h2
     exact hd _ _ _ h1 h2
    ·rw [Qek e'] at h2
     obtain ⟨b,hb,_⟩:=hown q e
     rw [hb] at h1
     exact (nhold1 q e b hb ⟨q',Qfh h1 ▸ h2⟩).elim
   ·rw [Qek e] at h1
    by_cases e':q' ∈ ns
    ·rw [Qi8 e'] at h2
     obtain ⟨b,hb,_⟩:=hown q' e'
     rw [hb] at h2
     exact (nhold1 q' e' b hb ⟨q,Qfh h2 ▸ h1⟩).elim
    ·rw [Qek e'] at h2
     exact hd1 _ _ _ h1 h2
  have hdata:∀ c off,DataAt X φ1 w' c off→(∀ n ∈ ns,φ n ≠ .own c)→DataAt X (wake ns φ φ1) w' c off:=fun c off hc hcb=>⟨hc.lt,hc.hid,fun q hq=>by
    by_cases e:q ∈ ns
    ·rw [Qi8 e] at hq; exact hcb q e hq
    ·rw [Qek e] at hq; exact hc.own q hq,
   fun q L hq=>by
    by_cases e:q ∈ ns
    ·rw [Qi8 e] at hq; obtain ⟨b,hb,_⟩:=hown q e; rw [hb] at hq; cases hq
    ·rw [Qek e] at hq; exact hc.tok q L hq,
   fun q Y hq=>by
    by_cases e:q ∈ ns
    ·rw [Qi8 e] at hq; obtain ⟨b,hb,_⟩:=hown q e; rw [hb] at hq; cases hq
    ·rw [Qek e] at hq; exact hc.far q Y hq,
   fun q bs z hq=>by
    by_cases e:q ∈ ns
    ·rw [Qi8 e] at hq; obtain ⟨b,hb,_⟩:=hown q e; rw [hb] at hq; cases hq
    ·rw [Qek e] at hq; exact hc.mat q bs z hq⟩
  have frel:∀ {a:AV} {v:Value},Fresh ns eff a→RelV X φ1 w' a v→RelV X (wake ns φ φ1) w' a v:=fun hf hv=>hf.rel hd2 he hdata hv
  refine k v (wake ns φ φ1) w' (frel hr hv) (fun p hp=>?_) hd2 (fun q hq=>?_) (fun c hc hne=>hheap c hc fun p hp=>?_) ?_
  ·have hpn:p.1 ∉ ns:=fun e=>heff _ e (List.mem_map_of_mem hp)
   have hok:=he p hp
   have hf:=hs p hp
   obtain ⟨p1,p2⟩:=p
   dsimp only at hok hf hpn ⊢
   have own_:∀ {c m' zs},OwnOK X φ1 w' c m' zs→(∀ x ∈ zs,∀ a ∈ x,Fresh ns eff a)→OwnOK X (wake ns φ φ1) w' c m' zs:=fun ho hz=>by
    obtain ⟨⟨cur,ty,h1,h2,h3,h4⟩,h5⟩:=ho
    exact ⟨⟨cur,ty,h1,h2,h3,fun j x hj i a hi=>frel (hz x (List.mem_of_getElem? hj) a (List.mem_of_getElem? hi)) (h4 j x hj i a hi)⟩,h5⟩
   cases hf with
   | dead=>exact (Qek hpn).trans hok
   | tok=>obtain ⟨t,h1,h2⟩:=hok; exact ⟨t,(Qek hpn).trans h1,h2⟩
   | own m' zs hz=>obtain ⟨c,h1,h2⟩:=hok; exact ⟨c,(Qek hpn).trans h1,own_ h2 hz⟩
   | gro m' zs hz=>
    rcases hok with ⟨h1,h2⟩ | ⟨c,h1,h2⟩
    ·exact .inl ⟨h1,(Qek hpn).trans h2⟩
    ·exact .inr ⟨c,(Qek hpn).trans h1,own_ h2 hz⟩
  ·by_cases e:q ∈ ns
   ·rw [Qi8 e]
   ·rw [Qek e,hother q hq,Qih e]
  ·exact fun hl=>hne p hp (Qh3 hl).1
  ·refine ⟨hev.os,hev.tape,hev.output,hev.size,fun c hc hnc=>hev.blk c hc fun ⟨q,hq⟩=>hnc ⟨q,(Qh3 hq).1⟩,fun c ⟨q,hq⟩=>?_,fun c off hc=>?_,fun q hq=>?_,fun q c hq=>?_,fun q t hq=>?_,fun q Y hq=>?_,fun q bs hq=>?_,fun q c hq hq'=>?_⟩
   ·by_cases e:q ∈ ns
    ·rw [Qi8 e] at hq
     exact .inl ⟨q,hq⟩
    ·rw [Qek e] at hq
     rcases hev.new c ⟨q,hq⟩ with ⟨q',h1⟩ | h1
     ·exact .inl ⟨q',(Qh3 h1).1⟩
     ·exact .inr h1
   ·obtain ⟨h1,h2⟩:=ev.dat c off hc
    obtain ⟨h3,h4⟩:=hev.dat c off h1
    exact ⟨hdata c off h3 fun n _ e=>hc.own n e,h4.trans h2⟩
   ·by_cases e:q ∈ ns
    ·rw [Qi8 e]; exact hq
    ·rw [Qek e]; exact hev.dead q (by rw [Qih e]; exact hq)
   ·by_cases e:q ∈ ns
    ·rw [Qi8 e]; exact .inl hq
    ·rw [Qek e]; exact hev.own q c (by rw [Qih e]; exact hq)
   ·by_cases e:q ∈ ns
    ·obtain ⟨b,hb,_⟩:=hown q e; rw [hb] at hq; cases hq
    ·rw [Qek e]; exact hev.tok q t (by rw [Qih e]; exact hq)
   ·by_cases e:q ∈ ns
    ·obtain ⟨b,hb,_⟩:=hown q e; rw [hb] at hq; cases hq
    ·rw [Qek e]; exact hev.far q Y (by rw [Qih e]; exact hq)
   ·by_cases e:q ∈ ns
    ·obtain ⟨b,hb,_⟩:=hown q e; rw [hb] at hq; cases hq
    ·rw [Qek e]; exact hev.mat q bs (by rw [Qih e]; exact hq)
   ·by_cases e:q ∈ ns
    ·exact .same (hsame q e c hq)
    ·rw [Qek e] at hq'
     exact hev.shape q c (by rw [Qih e]; exact hq) hq'
def isIn {α:Type} (l:List α) (x:α) (k:Nat):Prop:=l[k]? = some x
theorem isIn.mem {α:Type} {l:List α} {x:α} {k:Nat} (h:isIn l x k):x ∈ l:=List.mem_of_getElem? h
theorem Qz9 {B:List (Nat×Nat×List (List AV))} {n m:Nat} {α:Type} {c:α→List AV} {e:List α} {len:Nat} (k:Nat) (hk:isIn B (n,m,e.map c) k) (h:decide (len≤e.length)=true):Cv B (.own n m 0 len) (.dat m ((e.take len).map c)):=by
 have hl:=of_decide_eq_true h
 have key:∀ (i:Nat) y z,(e.map c)[0+i]? = some y→((e.take len).map c)[i]? = some z→y=z:=fun i y z h1 h2=>by
  simp only [Nat.zero_add,List.getElem?_map,List.getElem?_take] at h1 h2
  split at h2
  ·exact Option.some.inj (h1.symm.trans h2)
  ·cases h2
 exact .dat n m 0 len _ _ hk.mem (by simpa using hl) (by simp; omega) (fun i y z h1 h2=>by rw [key i y z h1 h2]) fun i y z h1 h2 q a a' h3 h4=>by
  rw [key i y z h1 h2] at h3
  rw [h3] at h4
  cases h4
  exact .same _
theorem Qzx {R:AV→AV→Prop} {l k:List AV} (h:LPw R l k):∀ (q:Nat) a a',l[q]? = some a→k[q]? = some a'→R a a':=fun q a a' h1 h2=>by
 obtain ⟨b,hb,hr⟩:=h.get q a' h2
 rw [h1] at hb
 cases hb
 exact hr
theorem Qoi {B:List (Nat×Nat×List (List AV))} {n m i:Nat} {c c':List AV} (k:Nat) (hk:isIn B (n,m,[c]) k) (h:LPw (Cv B) c c'):Cv B (.ref n m 0 i) (.dptr c' i):=.dptr n m 0 i _ c c' hk.mem rfl h.length (Qzx h)
theorem Zeb {B:List (Nat×Nat×List (List AV))} {f:Fn} {l l' c c':List AV} (h:LPw (Cv B) l l') (h':LPw (Cv B) c c'):Cv B (.fn f l c) (.fn f l' c'):=.fn f l l' c c' h.length h'.length (Qzx h) (Qzx h')
def BR (B:List (Nat×Nat×List (List AV))):List (Operand×AV)→List (Operand×AV)→Prop
 | [],[]=>True
 | p::l,q::k=>p.1=q.1∧Cv B p.2 q.2∧BR B l k
 | _,_=>False
theorem BR.get {B:List (Nat×Nat×List (List AV))}:∀ {l k:List (Operand×AV)},BR B l k→∀ q ∈ k,∃ p ∈ l,p.1=q.1∧Cv B p.2 q.2
 | [],[],_,q,hq=>by cases hq
 | p::l,q'::k,h,q,hq=>by
  rcases List.mem_cons.1 hq with rfl | hq
  ·exact ⟨p,by simp,h.1,h.2.1⟩
  ·obtain ⟨p',hp',e⟩:=BR.get h.2.2 q hq
   exact ⟨p',List.mem_cons_of_mem _ hp',e⟩
theorem Zcn {α:Type} {c:α→List AV} (h:∀ x,∀ a ∈ c x,∃ v,a=.lit v) (l:List α):∀ x ∈ l.map c,∀ a ∈ x,∃ v,a=.lit v:=fun x hx=>by
 obtain ⟨y,_,rfl⟩:=List.mem_map.1 hx
 exact h y
theorem Qu6 {ns:List Nat} {eff:List (Nat×Slot)}:∀ p ∈ ([]:List (Nat×Slot)),SFresh ns eff p.2:=by simp
theorem Zb9 {ns:List Nat} {eff:List (Nat×Slot)} {p:Nat×Slot} {l:List (Nat×Slot)} (h:SFresh ns eff p.2) (hl:∀ p ∈ l,SFresh ns eff p.2):∀ q ∈ p::l,SFresh ns eff q.2:=fun q hq=>by
 rcases List.mem_cons.1 hq with rfl | hq
 ·exact h
 ·exact hl q hq
theorem Zjc:∀ a ∈ ([]:List AV),∃ v,a=.lit v:=by simp
theorem Zco {v:Value} {l:List AV} (h:∀ a ∈ l,∃ v,a=.lit v):∀ a ∈ AV.lit v::l,∃ v,a=.lit v:=fun b hb=>by
 rcases List.mem_cons.1 hb with rfl | hb
 ·exact ⟨v,rfl⟩
 ·exact h b hb
theorem Qzz {l l':List AV} (h:∀ a ∈ l,∃ v,a=.lit v) (h':∀ a ∈ l',∃ v,a=.lit v):∀ a ∈ l++l',∃ v,a=.lit v:=fun a ha=>by
 rcases List.mem_append.1 ha with ha | ha
 ·exact h a ha
 ·exact h' a ha
theorem nin {n:Nat} {ns:List Nat} (h:ns.contains n=false):n ∉ ns:=fun hm=>by simp [hm] at h
def Zan (l k:List Nat):Bool:=l.all fun n=>!k.contains n
theorem Qsp {l k:List Nat} (h:Zan l k=true):∀ n ∈ l,n ∉ k:=fun n hn hk=>by
 have:=List.all_eq_true.1 h n hn
 simp [hk] at this
theorem Qjk {rd rd':List (Operand×AV)} {bl eff:List (Nat×Slot)} {r:AV} (B:List (Nat×Nat×List (List AV))) (hrd:BR B rd rd') (hb:(Zan (B.map (·.1)) (bl.map (·.1))&&Zan (B.map (·.1)) (eff.map (·.1)))=true) (hr:Fresh (B.map (·.1)) eff r) (hs:∀ p ∈ eff,SFresh (B.map (·.1)) eff p.2) (h:Qcg P o rd' bl r eff):Qcg P o rd (B.map (fun p=>(p.1,Slot.own p.2.1 p.2.2))++bl) r eff:=by
 rw [Bool.and_eq_true] at hb
 exact Qyb B hrd.get (Qsp hb.1) (Qsp hb.2) hr hs h
theorem emf {α:Type} {l:List α} (h:l.isEmpty=false):(!l.isEmpty)=true:=by rw [h]; rfl
end
abbrev amv := @Qt4
abbrev ag_ := @Qsl
abbrev aas := @Qp2
abbrev nlc := @Qlz
abbrev apk := @Qt2
abbrev rnc := @Qu8
abbrev ald := @Qt5
abbrev rn0 := @Zio
abbrev nld := @Qto
abbrev nl0 := @Qtn
abbrev bno := @Zef
abbrev afa := @Qsm
abbrev spb := @Q8a
abbrev asb := @Zkh
abbrev thn := @Zii
abbrev cko := @Zka
abbrev jko := @Q9c
abbrev acv := @Q5a
abbrev aid := @Q49
abbrev aln := @Zaj
abbrev alm := @Q47
abbrev mgt := @Zjb
abbrev gsm := @Qxo
abbrev wmr := @Zke
abbrev wjn := @Zel
abbrev mto := @Zma
abbrev arm := @Q5d
abbrev bln := @Zee
abbrev ald_ := @Qsk
abbrev afd := @Qp0
abbrev awk := @Q44
abbrev anc := @Qt3
abbrev wsq := @Qsd
abbrev slc := @Zb6
abbrev spr := @Zil
abbrev rqr := @Q8f
abbrev lrf := @Less.rfl
abbrev ast := @Qsg
abbrev aio := @Q48
theorem bfe {β:Type} {c:Bool} {a b:Option β} {r:β} {G:Prop} (h:(bif c then a else b)=some r) (h1:c=true→a=some r→G) (h2:c=false→b=some r→G):G:=by
 cases c
 ·exact h2 rfl h
 ·exact h1 rfl h
section
variable {P : Program} {X : Nat → Nat → Prop} {φ0 : Nat → FSlot} {w0 : World} {ro : Option Nat} {Q : Exit → AS → Prop} {s : AS}
theorem wft {x y:Code} {o:Operand} {b:Bool} (hb:b=true) (h:AWp P X φ0 w0 ro x Q s) (hc:opd s.regs o=.lit (.bool b):=by kernel_rfl):AWp P X φ0 w0 ro (.cond o x y) Q s:=Zkf hb hc h
theorem wfn {x y:Code} {o:Operand} {b:Bool} (hb:b=false) (h:AWp P X φ0 w0 ro y Q s) (hc:opd s.regs o=.lit (.bool b):=by kernel_rfl):AWp P X φ0 w0 ro (.cond o x y) Q s:=Zkg hb hc h
theorem wtr {c:Operand} {x y:Code} (h:AWp P X φ0 w0 ro x Q s) (hc:opd s.regs c=.lit (.bool true):=by kernel_rfl):AWp P X φ0 w0 ro (.cond c x y) Q s:=Q25 hc h
theorem wfa {c:Operand} {x y:Code} (h:AWp P X φ0 w0 ro y Q s) (hc:opd s.regs c=.lit (.bool false):=by kernel_rfl):AWp P X φ0 w0 ro (.cond c x y) Q s:=Qx7 hc h
theorem rot {t:Tmp} {v:AV} (h:s.regs.getD t .any=v:=by kernel_rfl):Q5f P s (.tmp t) v:=Q8l h
end
theorem lcc {M:Nat→Nat→Prop} {u v:Value} {l k:List AV} (h:LPw (RW M) l k):LPw (RW M) (.lit u::.lit v::l) (.lit u::.lit v::k):=lc rwl (lc rwl h)
theorem nlcc {k:Nat} {u v:Value} {l:List AV} (h:∀ a ∈ l,NLt k a):∀ b ∈ AV.lit u::AV.lit v::l,NLt k b:=Qlz nll (Qlz nll h)
theorem rncc {M:Nat→Nat→Prop} {u v:Value} {l l':List AV} (h:LPw (Rn M) l l'):LPw (Rn M) (.lit u::.lit v::l) (.lit u::.lit v::l'):=Qu8 (.plain _ nll) (Qu8 (.plain _ nll) h)
theorem rnd {M:Nat→Nat→Prop} {m:Nat} {α:Type} {c:α→List AV} {l:List α} (h:∀ x,∀ a ∈ c x,NLt 0 a):RW M (.dat m (l.map c)) (.dat m (l.map c)):=.rn (.plain _ (Qto h l))
theorem pld {M:Nat→Nat→Prop} {m:Nat} {α:Type} {c:α→List AV} {l:List α} (h:∀ x,∀ a ∈ c x,NLt 0 a):Rn M (.dat m (l.map c)) (.dat m (l.map c)):=.plain _ (Qto h l)
end Go.Proofs.YtmbhnllcfmiajaaGreat
