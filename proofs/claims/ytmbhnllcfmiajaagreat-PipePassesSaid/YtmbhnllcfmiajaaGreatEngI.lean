/-
  The engine, part I: append of whatever; composite values; functions as values; calls. Plain laws; no conditions.
-/
import Derived.Test.YtmbhnllcfmiajaaGreatEngH
import Derived.Conc.MuLone
namespace Go.Proofs.YtmbhnllcfmiajaaGreat
open Go.RowKit
section
variable {P : Program} {o : Oper} {X : Nat → Nat → Prop} {φ : Nat → FSlot} {w : World} {r : AV}
theorem Zck {n0:Option Nat} {n:Nat} {T:Option (Nat×Nat)} (hd:Qb9 φ) (hn:φ n=.unused) (hc:(n0=none∧T=none)∨∃ k,n0=some k∧φ k=.tok T) :
  Evo X φ w (fun k=>if k=n then .tok T else if some k=n0 then .dead else φ k) w∧Qb9 (fun k=>if k=n then FSlot.tok T else if some k=n0 then .dead else φ k):=by
 have ne:∀ k,φ k ≠ .unused→k ≠ n:=fun k hk e=>hk (e ▸ hn)
 have dead0:∀ k,some k=n0→φ k=.tok T:=fun k hk=>by
  rcases hc with ⟨rfl,_⟩ | ⟨k0,rfl,h⟩
  ·cases hk
  ·cases hk; exact h
 have from0:∀ b L,T=some (b,L)→∃ k,some k=n0∧φ k=.tok (some (b,L)):=fun b L hT=>by
  rcases hc with ⟨_,rfl⟩ | ⟨k0,rfl,h⟩
  ·cases hT
  ·exact ⟨k0,rfl,hT ▸ h⟩
 refine ⟨⟨rfl,rfl,rfl,Nat.le_refl _,fun _ _ _=>rfl,fun b ⟨k,hk⟩=>?_,fun b off hdat=>⟨⟨hdat.lt,hdat.hid,fun k hk=>?_,fun k L hk=>?_,fun k Y hk=>?_,fun k bs q hk=>?_⟩,rfl⟩,fun k hk=>?_,fun k b hk=>?_,fun k t hk=>?_,fun k Y hk=>?_,fun k bs hk=>?_,fun _ _ _ _=>.same rfl⟩,fun k k' b hk hk'=>?_⟩
 ·dsimp only at hk
  split at hk
  ·obtain ⟨L,e'⟩:=Qla hk
   obtain ⟨k0,_,h⟩:=from0 b L e'
   exact .inl ⟨k0,.tok h⟩
  ·split at hk
   ·exact (Qa0 hk).elim
   ·exact .inl ⟨k,hk⟩
 ·split at hk
  ·cases hk
  ·split at hk
   ·cases hk
   ·exact hdat.own k hk
 ·split at hk
  ·have e':T=some (b,L):=by simpa using hk
   obtain ⟨k0,_,h⟩:=from0 b L e'
   exact hdat.tok k0 L h
  ·split at hk
   ·cases hk
   ·exact hdat.tok k L hk
 ·split at hk
  ·cases hk
  ·split at hk
   ·cases hk
   ·exact hdat.far k Y hk
 ·split at hk
  ·cases hk
  ·split at hk
   ·cases hk
   ·exact hdat.mat k bs q hk
 ·rw [if_neg (ne k (by rw [hk]; simp)),if_neg (fun e=>by rw [dead0 k e] at hk; cases hk)]
  exact hk
 ·rw [if_neg (ne k (by rw [hk]; simp)),if_neg (fun e=>by rw [dead0 k e] at hk; cases hk)]
  exact .inl hk
 ·rw [if_neg (ne k (by rw [hk]; simp))]
  by_cases e:some k=n0
  ·rw [if_pos e]; exact .inl rfl
  ·rw [if_neg e]; exact .inr ⟨hk,fun _ _ _=>rfl⟩
 ·rw [if_neg (ne k (by rw [hk]; simp)),if_neg (fun e=>by rw [dead0 k e] at hk; cases hk)]
  exact .inr ⟨Y,hk⟩
 ·rw [if_neg (ne k (by rw [hk]; simp)),if_neg (fun e=>by rw [dead0 k e] at hk; cases hk)]
  exact .inr ⟨bs,hk,.refl bs⟩
 ·have back:∀ k,(if k=n then FSlot.tok T else if some k=n0 then .dead else φ k).lies b→k=n∧(∃ L,T=some (b,L))∨(k ≠ n∧some k ≠ n0∧(φ k).lies b):=fun k hk=>by
   split at hk
   ·exact .inl ⟨by assumption,Qla hk⟩
   ·split at hk
    ·exact (Qa0 hk).elim
    ·exact .inr ⟨by assumption,by assumption,hk⟩
  rcases back k hk with ⟨h1,L,hL⟩ | ⟨h1,h2,h3⟩<;>rcases back k' hk' with ⟨h1',L',hL'⟩ | ⟨h1',h2',h3'⟩
  ·rw [h1,h1']
  ·obtain ⟨k0,e0,h⟩:=from0 b L hL
   have:=hd k' k0 b h3' (.tok h)
   subst this
   exact absurd e0 h2'
  ·obtain ⟨k0,e0,h⟩:=from0 b L' hL'
   have:=hd k k0 b h3 (.tok h)
   subst this
   exact absurd e0 h2
  ·exact hd k k' b h3 h3'
theorem DatOK.nil (m:Nat) (A:Option Addr) (cap:Nat) (g:Nat→Nat→Value) (h:cap≤maxLen):DatOK X φ w m [] A 0 cap g:=⟨rfl,Nat.zero_le _,h,by simp,fun h=>absurd rfl h⟩
theorem Qv4 {x y:Operand} {t e:TypeId} {m m' bytes:Nat} {v u:AV} {xs:List (List AV)} {n0:Option Nat} {n:Nat} (h:o.op=.call { callee:=.builtin .append,args := #[x,y],argTypes := #[t,t] }) (ht:P.underlying t=some (.slice e)) (he:TE P e m bytes)
  (hv:Base e m v xs n0) (hu:Qs3 u=some (m',[])):Qcg P o [(x,v),(y,u)] (Qsc n0++[(n,.unused)]) (.acc n e m xs) (Qic n0++[(n,.tok)]):=by
 intro X φ a w hrd hbl hd hX hlt next Q k
 have hn:φ n=.unused:=hbl (n,.unused) (by simp)
 obtain ⟨i,z,hi,hz,hisz,hiby,hzs⟩:=he.inf
 obtain ⟨A,len,cap,g,hy,ok,hr⟩:=Qm6 (hrd (y,u) (by simp)) hu
 dsimp only at hy
 have elen:len=0:=by simpa using ok.hlen
 subst elen
 have hx:=hrd (x,v) (by simp)
 dsimp only at hx
 have hTI:(sizeOf e).run P w=.ok m w:=by simp [sizeOf,typeInfo,hi,hisz]
 have nothing:∀ sv:Value,(sv=.slice none 0 0∨∃ g n cap,sv=.slice (some g) n cap∧n≤cap)→(Builtin.append_ #[t,t] o.type #[sv,.slice A 0 cap]).run P w=.ok sv w:=fun sv hs=>by
  have hf:(Builtin.firstCells m 0 (.slice A 0 cap)).run P w=.ok #[] w:=by
   cases A with
   | none=>rfl
   | some a=>simp [Builtin.firstCells,loadCells,loadCellsFrom]
  rcases hs with rfl | ⟨g,n,c,rfl,hn⟩
  ·simp [Builtin.append_,run_underlying ht,hTI,Builtin.lenOf,hf]
  ·simp [Builtin.append_,run_underlying ht,hTI,Builtin.lenOf,hf,hn,storeCells]
 obtain ⟨T,hT,hxv,hrel⟩:∃ T,((n0=none∧T=none)∨∃ k,n0=some k∧φ k=.tok T∧∀ b L,T=some (b,L)→(∃ cur ty s,w.heap[b]? = some (.cells cur ty s))∧∀ off,¬ X b off)∧(a.eval x=.slice none 0 0∨∃ g n cap,a.eval x=.slice (some g) n cap∧n≤cap) ∧
   ∃ A len cap g,a.eval x=.slice A len cap∧DatOK X φ w m xs A len cap g∧(∀ j z,xs[j]? = some z→∀ i c,z[i]? = some c→RelV X φ w c (g j i))∧Tip w T e m A len cap:=by
  cases hv with
  | nil=>
   have:=Qcf hx
   exact ⟨none,.inl ⟨rfl,rfl⟩,.inl this,none,0,0,fun _ _=>undef,this,DatOK.nil m none 0 _ (Nat.zero_le _),by simp,⟨rfl,rfl⟩⟩
  | acc k0 xs=>
   obtain ⟨T,hT,hT2⟩:=hbl (k0,.tok) (by simp [Qsc])
   cases hxe:a.eval x with
   | slice A len cap=>
    rw [hxe] at hx
    cases hx with
    | acc _ _ _ _ _ _ _ gx okx hrx hnx htip=>
     have tip:=htip T hT
     refine ⟨T,.inr ⟨k0,rfl,hT,hT2⟩,?_,A,len,cap,gx,rfl,okx,hrx,tip⟩
     unfold Tip at tip
     cases T with
     | none=>
      obtain ⟨rfl,rfl⟩:=tip
      cases A with
      | none=>exact .inl rfl
      | some ad=>exact .inr ⟨ad,0,0,rfl,Nat.le_refl _⟩
     | some p=>obtain ⟨b,L⟩:=p; obtain ⟨rfl,_⟩:=tip; exact .inr ⟨_,len,cap,rfl,okx.hcap⟩
   | _=>rw [hxe] at hx; cases hx
 obtain ⟨A',len',cap',g',hxe,okx,hrx,tip⟩:=hrel
 obtain ⟨evo,hd'⟩:=Zck (X:=X) (w:=w) hd hn (T:=T) (n0:=n0) (by rcases hT with h | ⟨k,h1,h2,_⟩; exact .inl h; exact .inr ⟨k,h1,h2⟩)
 have hexec:(execOp a.eval o).run P w=.ok (.value (a.eval x)) w:=by
  simp only [execOp,h,resolve,invoke,builtin,Sem.run_bind,Sem.run_pure,Result.andThen_ok,List.map_toArray,List.map_cons,List.map_nil,hy,nothing _ hxv]
 refine Qgp hexec ?_
 refine k _ _ w ?_ (fun p hp=>?_) hd' (fun q hq=>?_) (fun _ _ _=>rfl) evo
 ·rw [hxe]
  exact RelV.acc n e m xs A' len' cap' g' (okx.evo evo) (fun j z hj i c hi=>(hrx j z hj i c hi).evo evo) (by simp) (fun t ht'=>by
   have e':T=t:=by simpa using ht'
   subst e'; exact tip)
 ·rcases List.mem_append.1 hp with hp | hp
  ·cases hn0:n0 with
   | none=>rw [hn0] at hp; cases hp
   | some k0=>
    rw [hn0] at hp
    simp [Qic] at hp
    subst hp
    have hk0:k0 ≠ n:=fun e'=>by
     rcases hT with ⟨h5,_⟩ | ⟨k1,h5,h6,_⟩
     ·rw [h5] at hn0; cases hn0
     ·rw [h5] at hn0
      cases hn0
      rw [e',hn] at h6
      cases h6
    show (if k0=n then _ else if some k0=some k0 then FSlot.dead else φ k0)=.dead
    simp [hk0]
  ·simp at hp
   subst hp
   refine ⟨T,by simp,fun b L e'=>?_⟩
   rcases hT with ⟨_,h6⟩ | ⟨k1,_,_,h6⟩
   ·rw [h6] at e'; cases e'
   ·exact h6 b L e'
 ·have hqn:q ≠ n:=fun e'=>hq (by simp [e'])
  have hq0:some q ≠ n0:=fun e'=>hq (by rw [← e']; simp [Qic])
  simp [hqn,hq0]
theorem Qer {x y:Operand} {t e:TypeId} {m m' bytes:Nat} {v u:AV} {xs ys:List (List AV)} {n0:Option Nat} {n:Nat} (h:o.op=.call { callee:=.builtin .append,args := #[x,y],argTypes := #[t,t] }) (ht:P.underlying t=some (.slice e)) (he:TE P e m bytes)
  (hv:Base e m v xs n0) (hu:Qs3 u=some (m',ys)) (hm':m'=m) (h1:(ys.all fun y=>y.all AV.one)=true) (hb:(xs.length+ys.length) * bytes≤140737488355328) (h63:xs.length+ys.length≤maxLen) {zs:List (List AV)} (hz:xs++ys=zs) {bl eff:List (Nat×Slot)} (hbl:Qsc n0++[(n,.unused)]=bl) (heff:Qic n0++[(n,.tok)]=eff) :
  Qcg P o [(x,v),(y,u)] bl (.acc n e m zs) eff:=by
 subst hz hbl heff
 by_cases hne:ys=[]
 ·subst hne
  rw [List.append_nil]
  exact Qv4 h ht he hv hu
 ·exact Qyc h ht he hv hu hm' hne h1 hb h63
theorem Qfl {fn:Fn} {first captured:Array Operand} {rd:List (Operand×AV)} {fs cs:List AV} (h:o.op=.makeFunc fn first captured) (hf:first.toList.zip fs++captured.toList.zip cs=rd) (h1:fs.length=first.size) (h2:cs.length=captured.size):Qcg P o rd [] (.fn fn fs cs) []:=Qbv fun X φ a w hrd _=>by
 refine ⟨.func fn (first.map a.eval) (captured.map a.eval),by simp [execOp,h,Instr.makeFunc],.fn _ _ _ _ _ (by simp [h1]) (by simp [h2]) (fun i v hi=>?_) (fun i v hi=>?_)⟩
 ·have hil:=(List.getElem?_eq_some_iff.1 hi).1
  have hix:i<first.size:=by omega
  have:=hrd (first[i],v) (by
   rw [← hf]
   refine List.mem_append_left _ (List.mem_of_getElem? (i:=i) ?_)
   simp [List.getElem?_zip_eq_some,hix,hi])
  simpa [Array.getD_eq_getD_getElem?,hix] using this
 ·have hil:=(List.getElem?_eq_some_iff.1 hi).1
  have hix:i<captured.size:=by omega
  have:=hrd (captured[i],v) (by
   rw [← hf]
   refine List.mem_append_right _ (List.mem_of_getElem? (i:=i) ?_)
   simp [List.getElem?_zip_eq_some,hix,hi])
  simpa [Array.getD_eq_getD_getElem?,hix] using this
def Q8x:AV→Bool
 | .dptr .. => true
 | .fn (.func _) _ _=>true
 | _=>false
theorem Qt3 {x:Operand} {v:AV} (h:o.op=.nilCheck x) (hv:Q8x v=true):Qcg P o [(x,v)] [] v []:=Qbv fun X φ a w hrd _=>by
 have hx:=hrd (x,v) (by simp)
 dsimp only at hx
 refine ⟨a.eval x,?_,hx⟩
 cases v with
 | dptr cs i=>
  cases hu:a.eval x with
  | pointer A=>
   rw [hu] at hx
   cases hx with
   | dptr _ _ b of g' hc hr=>simp only [execOp,h,hu]; rfl
  | _=>rw [hu] at hx; cases hx
 | fn f first cap=>
  cases f with
  | func g=>
   cases hu:a.eval x with
   | func fn us vs=>
    rw [hu] at hx
    cases hx with
    | fn=>simp only [execOp,h,hu]; rfl
   | _=>rw [hu] at hx; cases hx
  | _=>cases hv
 | _=>cases hv
theorem Qbb {x:Operand} {n m j i:Nat} {xs:List (List AV)} (h:o.op=.nilCheck x):Qcg P o [(x,.ref n m j i)] [(n,.own m xs)] (.ref n m j i) []:=Qbv fun X φ a w hrd hbl=>by
 obtain ⟨b,hb,hown⟩:=hbl (n,.own m xs) (by simp)
 have hx:=hrd (x,.ref n m j i) (by simp)
 have hv:a.eval x=_:=Qm5 hx hb
 exact ⟨a.eval x,by simp only [execOp,h,hv]; rfl,hx⟩
inductive Rn (M:Nat→Nat→Prop):AV→AV→Prop where
 | plain (a:AV) (h:NLt 0 a):Rn M a a
 | ref {n n':Nat} (h:M n n') (m j i:Nat):Rn M (.ref n m j i) (.ref n' m j i)
 | own {n n':Nat} (h:M n n') (m j len:Nat):Rn M (.own n m j len) (.own n' m j len)
 | acc {n n':Nat} (h:M n n') (ty:TypeId) (m:Nat) (xs:List (List AV)) (hx:∀ x ∈ xs,∀ a ∈ x,NLt 0 a):Rn M (.acc n ty m xs) (.acc n' ty m xs)
 | gro {n n':Nat} (h:M n n') (ty:TypeId) (m len:Nat):Rn M (.gro n ty m len) (.gro n' ty m len)
 | row {n n':Nat} (h:M n n') (k m j len:Nat):Rn M (.row n k m j len) (.row n' k m j len)
 | rowp {n n':Nat} (h:M n n') (k m j i:Nat):Rn M (.rowp n k m j i) (.rowp n' k m j i)
 | mp {n n':Nat} (h:M n n'):Rn M (.mp n) (.mp n')
 | agg (l l':List AV) (hl:l.length=l'.length) (h:∀ (i:Nat) a a',l[i]? = some a→l'[i]? = some a'→Rn M a a'):Rn M (.agg l) (.agg l')
 | tup (l l':List AV) (hl:l.length=l'.length) (h:∀ (i:Nat) a a',l[i]? = some a→l'[i]? = some a'→Rn M a a'):Rn M (.tup l) (.tup l')
 | fn (f:Fn) (l l' c c':List AV) (hl:l.length=l'.length) (hc:c.length=c'.length) (h:∀ (i:Nat) a a',l[i]? = some a→l'[i]? = some a'→Rn M a a') (h':∀ (i:Nat) a a',c[i]? = some a→c'[i]? = some a'→Rn M a a'):Rn M (.fn f l c) (.fn f l' c')
theorem Rn.symm {M:Nat→Nat→Prop} {a a':AV} (h:Rn M a a'):Rn (fun n n'=>M n' n) a' a:=by
 induction h with
 | plain a h=>exact .plain a h
 | ref h m j i=>exact Rn.ref (M:=fun n n'=>M n' n) h m j i
 | own h m j len=>exact Rn.own (M:=fun n n'=>M n' n) h m j len
 | acc h ty m xs hx=>exact Rn.acc (M:=fun n n'=>M n' n) h ty m xs hx
 | gro h ty m len=>exact Rn.gro (M:=fun n n'=>M n' n) h ty m len
 | row h k m j len=>exact Rn.row (M:=fun n n'=>M n' n) h k m j len
 | rowp h k m j i=>exact Rn.rowp (M:=fun n n'=>M n' n) h k m j i
 | mp h=>exact Rn.mp (M:=fun n n'=>M n' n) h
 | agg l l' hl _ ih=>exact .agg _ _ hl.symm fun i a a' h1 h2=>ih i a' a h2 h1
 | tup l l' hl _ ih=>exact .tup _ _ hl.symm fun i a a' h1 h2=>ih i a' a h2 h1
 | fn f l l' c c' hl hc _ _ ih1 ih2=>exact .fn f _ _ _ _ hl.symm hc.symm (fun i a a' h1 h2=>ih1 i a' a h2 h1) (fun i a a' h1 h2=>ih2 i a' a h2 h1)
theorem RelV.ren {X':Nat→Nat→Prop} {φ':Nat→FSlot} {M:Nat→Nat→Prop} (hd:∀ b off,DataAt X φ w b off→DataAt X' φ' w b off) (hn:∀ n n',M n n'→φ' n'=φ n) {a a':AV} (hr:Rn M a a'):∀ {v:Value},RelV X φ w a v→RelV X' φ' w a' v:=by
 induction hr with
 | plain a h=>exact fun hv=>hv.env (k:=0) (fun n hn=>absurd hn (Nat.not_lt_zero n)) hd h
 | ref h m j i=>
  intro v hv
  cases hv with
  | ref _ _ _ _ A hu hb=>exact .ref _ _ _ _ A (by rw [hn _ _ h]; exact hu) (by rw [hn _ _ h]; exact hb)
 | own h m j len=>
  intro v hv
  cases hv with
  | own _ _ _ _ A cap h1 h2 hu hb=>exact .own _ _ _ _ A cap h1 h2 (by rw [hn _ _ h]; exact hu) (by rw [hn _ _ h]; exact hb)
 | acc h ty m xs hx=>
  intro v hv
  cases hv with
  | acc _ _ _ _ A len cap g ok hr hu ht=>exact .acc _ ty m xs A len cap g (ok.env hd) (fun j x hj i a hi=>(hr j x hj i a hi).env (k:=0) (fun n hn=>absurd hn (Nat.not_lt_zero n)) hd (hx x (List.mem_of_getElem? hj) a (List.mem_of_getElem? hi))) (by rw [hn _ _ h]; exact hu) (by rw [hn _ _ h]; exact ht)
 | gro h ty m len=>
  intro v hv
  cases hv with
  | gro _ _ _ _ A cap hc hm hu hvd hb=>exact .gro _ ty m len A cap hc hm (by rw [hn _ _ h]; exact hu) (by rw [hn _ _ h]; exact hvd) (by rw [hn _ _ h]; exact hb)
 | row h k m j len=>
  intro v hv
  cases hv with
  | row _ _ _ _ _ A cap h1 h2 hu hb=>exact .row _ _ _ _ _ A cap h1 h2 (by rw [hn _ _ h]; exact hu) (by rw [hn _ _ h]; exact hb)
 | rowp h k m j i=>
  intro v hv
  cases hv with
  | rowp _ _ _ _ _ A hu hb=>exact .rowp _ _ _ _ _ A (by rw [hn _ _ h]; exact hu) (by rw [hn _ _ h]; exact hb)
 | mp h=>
  intro v hv
  cases hv with
  | mp _ A hu hb=>exact .mp _ A (by rw [hn _ _ h]; exact hu) (by rw [hn _ _ h]; exact hb)
 | agg l l' hl _ ih=>
  intro v hv
  cases hv with
  | agg _ vs hs h=>
   refine .agg _ vs (hs.trans hl) fun i a' hi=>?_
   have hlt:=(List.getElem?_eq_some_iff.1 hi).1
   exact ih i _ a' (List.getElem?_eq_getElem (by omega)) hi (h i _ (List.getElem?_eq_getElem (by omega)))
 | tup l l' hl _ ih=>
  intro v hv
  cases hv with
  | tup _ vs hs h=>
   refine .tup _ vs (hs.trans hl) fun i a' hi=>?_
   have hlt:=(List.getElem?_eq_some_iff.1 hi).1
   exact ih i _ a' (List.getElem?_eq_getElem (by omega)) hi (h i _ (List.getElem?_eq_getElem (by omega)))
 | fn f l l' c c' hl hc _ _ ih1 ih2=>
  intro v hv
  cases hv with
  | fn _ _ _ us vs hu hv h1 h2=>
   refine .fn f _ _ us vs (hu.trans hl) (hv.trans hc) (fun i a' hi=>?_) (fun i a' hi=>?_)
   ·have hlt:=(List.getElem?_eq_some_iff.1 hi).1
    exact ih1 i _ a' (List.getElem?_eq_getElem (by omega)) hi (h1 i _ (List.getElem?_eq_getElem (by omega)))
   ·have hlt:=(List.getElem?_eq_some_iff.1 hi).1
    exact ih2 i _ a' (List.getElem?_eq_getElem (by omega)) hi (h2 i _ (List.getElem?_eq_getElem (by omega)))
end
inductive SRn (M:Nat→Nat→Prop):Slot→Slot→Prop where
 | dead:SRn M .dead .dead
 | tok:SRn M .tok .tok
 | own (m:Nat) (xs xs':List (List AV)) (hl:xs.length=xs'.length) (hx:∀ (j:Nat) x x',xs[j]? = some x→xs'[j]? = some x'→x.length=x'.length) (h:∀ (j:Nat) x x',xs[j]? = some x→xs'[j]? = some x'→∀ (i:Nat) a a',x[i]? = some a→x'[i]? = some a'→Rn M a a'):SRn M (.own m xs) (.own m xs')
 | gro (m:Nat) (xs xs':List (List AV)) (hl:xs.length=xs'.length) (hx:∀ (j:Nat) x x',xs[j]? = some x→xs'[j]? = some x'→x.length=x'.length) (h:∀ (j:Nat) x x',xs[j]? = some x→xs'[j]? = some x'→∀ (i:Nat) a a',x[i]? = some a→x'[i]? = some a'→Rn M a a'):SRn M (.gro m xs) (.gro m xs')
 | mat (m:Nat) (rows:List (List (List AV))) (h:∀ r ∈ rows,∀ x ∈ r,∀ a ∈ x,NLt 0 a):SRn M (.mat m rows) (.mat m rows)
 | mp (es:Array MapEntry) (clock:Nat):SRn M (.mp es clock) (.mp es clock)
theorem SRn.plain {M:Nat→Nat→Prop} {m:Nat} {xs:List (List AV)} (h:∀ x ∈ xs,∀ a ∈ x,NLt 0 a):SRn M (.own m xs) (.own m xs):=
 .own m xs xs rfl (fun j x x' h1 h2=>by rw [h1] at h2; cases h2; rfl) fun j x x' h1 h2 i a a' h3 h4=>by
  rw [h1] at h2; cases h2; rw [h3] at h4; cases h4
  exact .plain a (h x (List.mem_of_getElem? h1) a (List.mem_of_getElem? h3))
section
variable {P : Program} {o : Oper} {X : Nat → Nat → Prop} {φ : Nat → FSlot} {w : World} {r : AV}
theorem OwnOK.ren {X':Nat→Nat→Prop} {φ':Nat→FSlot} {M:Nat→Nat→Prop} (hd:∀ b off,DataAt X φ w b off→DataAt X' φ' w b off) (hn:∀ n n',M n n'→φ' n'=φ n) {b m:Nat} {xs xs':List (List AV)} (h:OwnOK X φ w b m xs) (hr:SRn M (.own m xs) (.own m xs')) (hX:∀ off,¬ X' b off):OwnOK X' φ' w b m xs':=by
 cases hr with
 | own _ _ _ hl hx hr=>
  obtain ⟨cur,ty,h1,h2,h3,h4⟩:=h.blk
  have back:∀ (j:Nat) x',xs'[j]? = some x'→∃ x,xs[j]? = some x:=fun j x' hj=>⟨_,List.getElem?_eq_getElem (by have:=(List.getElem?_eq_some_iff.1 hj).1; omega)⟩
  refine ⟨⟨cur,ty,h1,by rw [← hl]; exact h2,fun x' hx'=>?_,fun j x' hj i a' hi=>?_⟩,hX⟩
  ·obtain ⟨j,hj,rfl⟩:=List.getElem_of_mem hx'
   have hj':=List.getElem?_eq_getElem hj
   obtain ⟨x,hxj⟩:=back j _ hj'
   rw [← hx j x _ hxj hj']
   exact h3 x (List.mem_of_getElem? hxj)
  ·obtain ⟨x,hxj⟩:=back j x' hj
   have hlt:=(List.getElem?_eq_some_iff.1 hi).1
   have:=hx j x x' hxj hj
   exact RelV.ren hd hn (hr j x x' hxj hj i _ a' (List.getElem?_eq_getElem (by omega)) hi) (h4 j x hxj i _ (List.getElem?_eq_getElem (by omega)))
theorem Qok {C:Array Value→World→(Ending→World→Prop)→Prop} (hC:∀ vals w R R',(∀ e w,R e w→R' e w)→C vals w R→C vals w R') {E:Value→Ending→Prop} {args argr:List AV} {σ σr σ' σr':List Slot} {res res':AV} {vals:Array Value} (ρ:List Nat) (hnd:ρ.Nodup)
  (spec:Zaw C E args σ res σ') (hargs:Rn (fun n n'=>ρ[n]? = some n'∧n<σ.length) (.agg args) (.agg argr))
  (hlr:σr.length=σ.length) (hσ:∀ (n:Nat) s s',σ[n]? = some s→σr[n]? = some s'→(s ≠ .dead∧s ≠ .tok)∧SRn (fun n n'=>ρ[n]? = some n'∧n<σ.length) s s') (hl':σ'.length=ρ.length) (hlr':σr'.length=ρ.length) (hle:σ.length≤ρ.length)
  (hσ':∀ (n:Nat) s s',σ'[n]? = some s→σr'[n]? = some s'→SRn (fun n n'=>ρ[n]? = some n') s s') (hres:Rn (fun n n'=>ρ[n]? = some n') res res')
  (hvals:RelV X φ w (.agg argr) (.agg vals)) (hb:∀ p ∈ (ρ.take σ.length).zip σr++(ρ.drop σ.length).map (fun n=>(n,Slot.unused)),SlotOK X φ w p.1 p.2) (hd:Qb9 φ) (hX:∀ b off,X b off→b<w.heap.size) (hlt:∀ n b,(φ n).lies b→b<w.heap.size) :
  C vals w fun e w'=>∃ v φ',E v e∧RelV X φ' w' res' v∧(∀ p ∈ ρ.zip σr',SlotOK X φ' w' p.1 p.2)∧Qb9 φ'∧(∀ n,n ∉ (ρ.zip σr').map (·.1)→φ' n=φ n)∧(∀ b,b<w.heap.size→(∀ p ∈ ρ.zip σr',¬ (φ p.1).lies b)→w'.heap[b]? = w.heap[b]?)∧Evo X φ w φ' w':=by
 have hold:∀ n n' s,ρ[n]? = some n'→σ[n]? = some s→∃ s',σr[n]? = some s'∧SlotOK X φ w n' s':=fun n n' s hn hs=>by
  have hlt:=(List.getElem?_eq_some_iff.1 hs).1
  have hs':=List.getElem?_eq_getElem (show n<σr.length by omega)
  refine ⟨_,hs',hb (n',_) (List.mem_append_left _ (List.mem_of_getElem? (i:=n) ?_))⟩
  rw [List.getElem?_zip_eq_some]
  exact ⟨by rw [List.getElem?_take,if_pos hlt]; exact hn,hs'⟩
 have hnew:∀ n n',ρ[n]? = some n'→σ.length≤n→φ n'=.unused:=fun n n' hn hge=>
  hb (n',.unused) (List.mem_append_right _ (List.mem_map.2 ⟨n',List.mem_of_getElem? (i:=n - σ.length) (by rw [List.getElem?_drop,show σ.length+(n - σ.length)=n from by omega]; exact hn),rfl⟩))
 have hown:∀ n n',ρ[n]? = some n'→n<σ.length→(∃ b,φ n'=.own b)∨φ n'=.tok none∨∃ bs,φ n'=.mat bs:=fun n n' hn hlt=>by
  obtain ⟨s',hs',hok⟩:=hold n n' _ hn (List.getElem?_eq_getElem hlt)
  obtain ⟨h1,h2⟩:=hσ n _ s' (List.getElem?_eq_getElem hlt) hs'
  generalize σ[n]=s at h1 h2
  cases h2 with
  | dead=>exact absurd rfl h1.1
  | tok=>exact absurd rfl h1.2
  | own m xs xs'=>obtain ⟨b,hb',_⟩:=hok; exact .inl ⟨b,hb'⟩
  | gro m xs xs'=>
   rcases hok with ⟨_,h⟩ | ⟨b,hb',_⟩
   ·exact .inr (.inl h)
   ·exact .inl ⟨b,hb'⟩
  | mat m rows=>obtain ⟨bs,hb',_⟩:=hok; exact .inr (.inr ⟨bs,hb'⟩)
  | mp es clock=>obtain ⟨b,hb',_⟩:=hok; exact .inl ⟨b,hb'⟩
 have inj:∀ (n1 n2 n':Nat),ρ[n1]? = some n'→ρ[n2]? = some n'→n1=n2:=fun n1 n2 n' h1 h2=>by
  have l1:=(List.getElem?_eq_some_iff.1 h1)
  have l2:=(List.getElem?_eq_some_iff.1 h2)
  obtain ⟨l1,e1⟩:=l1
  obtain ⟨l2,e2⟩:=l2
  exact (List.getElem_inj hnd).1 (e1.trans e2.symm)
 let φc:Nat→FSlot:=fun n=>if n<σ.length then (match ρ[n]? with | some n'=>φ n' | none=>.unused) else .unused
 let X':Nat→Nat→Prop:=fun b off=>X b off∨(b<w.heap.size∧((∃ n',φ n'=.own b∧∀ n,n<σ.length→ρ[n]? ≠ some n')∨(∃ n' L,φ n'=.tok (some (b,L))∧L≤off)∨(∃ n' Y,φ n'=.far Y∧Y b off)∨∃ (n':Nat) (bs:List (Option Nat)) (k:Nat),φ n'=.mat bs∧bs[k]? = some (some b)∧∀ n,n<σ.length→ρ[n]? ≠ some n'))
 have cM:∀ n n',ρ[n]? = some n'∧n<σ.length→φc n=φ n':=fun n n' ⟨h1,h2⟩=>by
  show (if n<σ.length then _ else _)=_
  rw [if_pos h2,h1]
 have cinv:∀ n b,(φc n).lies b→∃ n',ρ[n]? = some n'∧n<σ.length∧Blk φ n' b:=fun n b hb'=>by
  have hb2:(if n<σ.length then (match ρ[n]? with | some n'=>φ n' | none=>.unused) else FSlot.unused).lies b:=hb'
  by_cases hn:n<σ.length
  ·rw [if_pos hn] at hb2
   have hρ:=List.getElem?_eq_getElem (show n<ρ.length by omega)
   rw [hρ] at hb2
   dsimp only at hb2
   rcases hown n _ hρ hn with ⟨b',hb3⟩ | hb3 | ⟨bs,hb3⟩
   ·rw [hb3] at hb2
    obtain rfl:=Qfh hb2
    exact ⟨_,hρ,hn,.inl hb3⟩
   ·rw [hb3] at hb2
    exact (Qc1 hb2).elim
   ·rw [hb3] at hb2
    obtain ⟨k,hk⟩:=Qvl hb2
    exact ⟨_,hρ,hn,.inr ⟨bs,k,hb3,hk⟩⟩
  ·rw [if_neg hn] at hb2
   exact (Qdp hb2).elim
 have fwd:∀ b off,DataAt X φ w b off→DataAt X' φc w b off:=fun b off hdat=>⟨hdat.lt,fun hx=>by
  rcases hx with hx | ⟨_,⟨n',h1,_⟩ | ⟨n',L,h1,h2⟩ | ⟨n',Y,h1,h2⟩ | ⟨n',bs,k,h1,h2,_⟩⟩
  ·exact hdat.hid hx
  ·exact hdat.own n' h1
  ·exact absurd (hdat.tok n' L h1) (by omega)
  ·exact hdat.far n' Y h1 h2
  ·exact hdat.mat n' bs k h1 h2,fun n hn=>by
  obtain ⟨n',_,_,h3⟩:=cinv n b (.inl hn)
  exact hdat.blk h3,fun n L hn=>by
  obtain ⟨n',_,_,h3⟩:=cinv n b (.tok hn)
  exact (hdat.blk h3).elim,fun n Y hn hy=>by
  obtain ⟨n',_,_,h3⟩:=cinv n b (.far hn hy)
  exact hdat.blk h3,fun n bs k hn hk=>by
  obtain ⟨n',_,_,h3⟩:=cinv n b (.mat hn hk)
  exact hdat.blk h3⟩
 have hX':∀ b off,X' b off→b<w.heap.size:=fun b off hx=>by
  rcases hx with hx | ⟨hx,_⟩
  ·exact hX b off hx
  ·exact hx
 have hXown:∀ n n' b,ρ[n]? = some n'→n<σ.length→Blk φ n' b→(∀ off,¬ X b off)→∀ off,¬ X' b off:=fun n n' b h1 h2 h3 h4 off hx=>by
  rcases hx with hx | ⟨_,⟨n2,h5,h6⟩ | ⟨n2,L,h5,_⟩ | ⟨n2,Y,h5,hy⟩ | ⟨n2,bs,k,h5,hk,h6⟩⟩
  ·exact h4 off hx
  ·have:=hd n' n2 b h3.lies (.inl h5)
   subst this
   exact h6 n h2 h1
  ·have:=hd n' n2 b h3.lies (.tok h5)
   subst this
   exact h3.notok h5
  ·have:=hd n' n2 b h3.lies (.far h5 hy)
   subst this
   exact h3.nofar h5
  ·have:=hd n' n2 b h3.lies (.mat h5 hk)
   subst this
   exact h6 n h2 h1
 have henv:EnvOK X' φc w (fun n=>σ.getD n .unused):=⟨fun n=>by
  by_cases hn:n<σ.length
  ·have hρ:=List.getElem?_eq_getElem (show n<ρ.length by omega)
   obtain ⟨s',hs',hok⟩:=hold n _ _ hρ (List.getElem?_eq_getElem hn)
   obtain ⟨h1,h2⟩:=hσ n _ s' (List.getElem?_eq_getElem hn) hs'
   have e:σ.getD n .unused=σ[n]:=by simp [hn]
   show SlotOK X' φc w n (σ.getD n .unused)
   rw [e]
   have hc:=cM n _ ⟨hρ,hn⟩
   generalize σ[n]=s at h1 h2
   generalize ρ[n]=n' at hρ hok hc
   cases h2 with
   | dead=>exact absurd rfl h1.1
   | tok=>exact absurd rfl h1.2
   | own m xs xs' hl hx hr=>
    obtain ⟨b,hb',hok'⟩:=hok
    exact ⟨b,hc.trans hb',OwnOK.ren fwd (M:=fun n' n=>ρ[n]? = some n'∧n<σ.length) (fun n' n hM=>cM n n' hM) hok' (.own m xs' xs hl.symm (fun j x x' h1 h2=>(hx j x' x h2 h1).symm) fun j x x' h1 h2 i a a' h3 h4=>(hr j x' x h2 h1 i a' a h4 h3).symm) (hXown n n' b hρ hn (.inl hb') hok'.hid)⟩
   | gro m xs xs' hl hx hr=>
    rcases hok with ⟨h3,h4⟩ | ⟨b,hb',hok'⟩
    ·refine .inl ⟨?_,hc.trans h4⟩
     exact List.eq_nil_of_length_eq_zero (by rw [hl,h3]; rfl)
    ·exact .inr ⟨b,hc.trans hb',OwnOK.ren fwd (M:=fun n' n=>ρ[n]? = some n'∧n<σ.length) (fun n' n hM=>cM n n' hM) hok' (.own m xs' xs hl.symm (fun j x x' h1 h2=>(hx j x' x h2 h1).symm) fun j x x' h1 h2 i a a' h3 h4=>(hr j x' x h2 h1 i a' a h4 h3).symm) (hXown n n' b hρ hn (.inl hb') hok'.hid)⟩
   | mat m rows hx=>
    obtain ⟨bs,m1,m2,m3,m4⟩:=hok
    refine ⟨bs,hc.trans m1,m2,m3,fun k xs hk=>?_⟩
    rcases m4 k xs hk with m5 | ⟨b,m5,m6⟩
    ·exact .inl m5
    ·exact .inr ⟨b,m5,OwnOK.ren fwd (M:=fun n' n=>ρ[n]? = some n'∧n<σ.length) (fun n' n hM=>cM n n' hM) m6 (.plain (hx xs (List.mem_of_getElem? hk))) (hXown n n' b hρ hn (.inr ⟨bs,k,m1,m5⟩) m6.hid)⟩
   | mp es clock=>
    obtain ⟨b,hb',hok'⟩:=hok
    exact ⟨b,hc.trans hb',hok'.blk,hXown n n' b hρ hn (.inl hb') hok'.hid⟩
  ·have e:σ.getD n .unused=.unused:=by simp [List.getElem?_eq_none (Nat.le_of_not_lt hn)]
   show SlotOK X' φc w n (σ.getD n .unused)
   rw [e]
   show (if n<σ.length then _ else _)=_
   rw [if_neg hn],fun n n' b h1 h2=>by
  obtain ⟨m1,e1,_,h3⟩:=cinv n b h1
  obtain ⟨m2,e2,_,h4⟩:=cinv n' b h2
  have:=hd m1 m2 b h3.lies h4.lies
  subst this
  exact inj n n' m1 e1 e2,hX'⟩
 have hargs':=RelV.ren fwd (fun n' n hM=>cM n n' hM) hargs.symm hvals
 cases hargs' with
 | agg _ _ hsz hall=>
  refine hC _ _ _ _ ?_ (spec X' φc w _ hsz hall henv)
  rintro e w' ⟨v,φc',hE,hrv,henv',hevo⟩
  let φ':Nat→FSlot:=fun n'=>if n' ∈ ρ then φc' (ρ.idxOf n') else φ n'
  have bM:∀ n n',ρ[n]? = some n'→φ' n'=φc' n:=fun n n' hn=>by
   have hm:n' ∈ ρ:=List.mem_of_getElem? hn
   have hi:ρ.idxOf n'=n:=by
    have h5:ρ.idxOf n'<ρ.length:=List.idxOf_lt_length_of_mem hm
    have h6:ρ[ρ.idxOf n']? = some n':=by rw [List.getElem?_eq_getElem h5,List.getElem_idxOf h5]
    exact inj _ _ _ h6 hn
   show (if n' ∈ ρ then φc' (ρ.idxOf n') else φ n')=_
   rw [if_pos hm,hi]
  have oM:∀ n',n' ∉ ρ→φ' n'=φ n':=fun n' hn=>by
   show (if n' ∈ ρ then φc' (ρ.idxOf n') else φ n')=_
   rw [if_neg hn]
  have get:∀ n',n' ∈ ρ→∃ n,ρ[n]? = some n':=fun n' hn=>List.getElem?_of_mem hn
  have oldn:∀ n n',ρ[n]? = some n'→φ n' ≠ .unused→n<σ.length:=fun n n' hn hne=>by
   rcases Nat.lt_or_ge n σ.length with h' | h'
   ·exact h'
   ·exact absurd (hnew n n' hn h') hne
  have back:∀ b off,DataAt X' φc' w' b off→DataAt X φ' w' b off:=fun b off hdat=>⟨hdat.lt,fun hx=>hdat.hid (.inl hx),fun n' hn'=>by
   by_cases hm:n' ∈ ρ
   ·obtain ⟨n,hn⟩:=get n' hm
    rw [bM n n' hn] at hn'
    exact hdat.own n hn'
   ·rw [oM n' hm] at hn'
    exact hdat.hid (.inr ⟨hlt n' b (.inl hn'),.inl ⟨n',hn',fun n _ hn=>hm (List.mem_of_getElem? hn)⟩⟩),fun n' L hn'=>by
   by_cases hm:n' ∈ ρ
   ·obtain ⟨n,hn⟩:=get n' hm
    rw [bM n n' hn] at hn'
    exact hdat.tok n L hn'
   ·rw [oM n' hm] at hn'
    rcases Nat.lt_or_ge off L with h' | h'
    ·exact h'
    ·exact absurd (.inr ⟨hlt n' b (.tok hn'),.inr (.inl ⟨n',L,hn',h'⟩)⟩) hdat.hid,fun n' Y hn' hy=>by
   by_cases hm:n' ∈ ρ
   ·obtain ⟨n,hn⟩:=get n' hm
    rw [bM n n' hn] at hn'
    exact hdat.far n Y hn' hy
   ·rw [oM n' hm] at hn'
    exact hdat.hid (.inr ⟨hlt n' b (.far hn' hy),.inr (.inr (.inl ⟨n',Y,hn',hy⟩))⟩),fun n' bs k hn' hk=>by
   by_cases hm:n' ∈ ρ
   ·obtain ⟨n,hn⟩:=get n' hm
    rw [bM n n' hn] at hn'
    exact hdat.mat n bs k hn' hk
   ·rw [oM n' hm] at hn'
    exact hdat.hid (.inr ⟨hlt n' b (.mat hn' hk),.inr (.inr (.inr ⟨n',bs,k,hn',hk,fun n _ hn=>hm (List.mem_of_getElem? hn)⟩))⟩)⟩
  have cev:∀ b,b<w.heap.size→(∀ n',n' ∈ ρ→¬ (φ n').lies b)→w'.heap[b]? = w.heap[b]? := fun b hb' hno=>hevo.blk b hb' fun ⟨n,hn⟩=>by
   obtain ⟨n',h3,_,h4⟩:=cinv n b hn
   exact hno n' (List.mem_of_getElem? h3) h4.lies
  have evo:Evo X φ w φ' w':=by
   refine ⟨hevo.os,hevo.tape,hevo.output,hevo.size,fun b hb' hno=>cev b hb' fun n' _ hl=>hno ⟨n',hl⟩,fun b ⟨n',hn'⟩=>?_,fun b off hdat=>?_,fun n' hn'=>?_,fun n' b hn'=>?_,fun n' t hn'=>?_,fun n' Y hn'=>?_,fun n' bs hn'=>?_,fun n' b hn' hn2=>?_⟩
   ·by_cases hm:n' ∈ ρ
    ·obtain ⟨n,hn⟩:=get n' hm
     rw [bM n n' hn] at hn'
     rcases hevo.new b ⟨n,hn'⟩ with ⟨n2,h3⟩ | h3
     ·obtain ⟨n3,_,_,h4⟩:=cinv n2 b h3
      exact .inl ⟨n3,h4.lies⟩
     ·exact .inr h3
    ·rw [oM n' hm] at hn'
     exact .inl ⟨n',hn'⟩
   ·obtain ⟨h3,h4⟩:=hevo.dat b off (fwd b off hdat)
    exact ⟨back b off h3,h4⟩
   ·have hm:n' ∉ ρ:=fun hm=>by
     obtain ⟨n,hn⟩:=get n' hm
     rcases hown n n' hn (oldn n n' hn (by rw [hn']; simp)) with ⟨b,hb'⟩ | hb' | ⟨bs,hb'⟩<;>rw [hb'] at hn'<;>cases hn'
    rw [oM n' hm]; exact hn'
   ·by_cases hm:n' ∈ ρ
    ·obtain ⟨n,hn⟩:=get n' hm
     have hlt':=oldn n n' hn (by rw [hn']; simp)
     rw [bM n n' hn]
     exact hevo.own n b ((cM n n' ⟨hn,hlt'⟩).trans hn')
    ·rw [oM n' hm]; exact .inl hn'
   ·by_cases hm:n' ∈ ρ
    ·obtain ⟨n,hn⟩:=get n' hm
     have hlt':=oldn n n' hn (by rw [hn']; simp)
     have ht:t=none:=by
      rcases hown n n' hn hlt' with ⟨b,hb'⟩ | hb' | ⟨bs,hb'⟩<;>rw [hb'] at hn'<;>cases hn'
      rfl
     subst ht
     rw [bM n n' hn]
     rcases hevo.tok n none ((cM n n' ⟨hn,hlt'⟩).trans hn') with e | ⟨e,_⟩
     ·exact .inl e
     ·exact .inr ⟨e,fun b L e=>by cases e⟩
    ·rw [oM n' hm]
     refine .inr ⟨hn',fun b L ht=>cev b (hlt n' b (.tok (L:=L) (by rw [hn',ht]))) fun n2 hm2 hl2=>?_⟩
     have:=hd n' n2 b (.tok (L:=L) (by rw [hn',ht])) hl2
     subst this
     exact hm hm2
   ·have hm:n' ∉ ρ:=fun hm=>by
     obtain ⟨n,hn⟩:=get n' hm
     rcases hown n n' hn (oldn n n' hn (by rw [hn']; simp)) with ⟨b,hb'⟩ | hb' | ⟨bs,hb'⟩<;>rw [hb'] at hn'<;>cases hn'
    rw [oM n' hm]; exact .inr ⟨Y,hn'⟩
   ·by_cases hm:n' ∈ ρ
    ·obtain ⟨n,hn⟩:=get n' hm
     have hlt':=oldn n n' hn (by rw [hn']; simp)
     rw [bM n n' hn]
     exact hevo.mat n bs ((cM n n' ⟨hn,hlt'⟩).trans hn')
    ·rw [oM n' hm]; exact .inr ⟨bs,hn',.refl bs⟩
   ·by_cases hm:n' ∈ ρ
    ·obtain ⟨n,hn⟩:=get n' hm
     have hlt':=oldn n n' hn (by rw [hn']; simp)
     rw [bM n n' hn] at hn2
     exact hevo.shape n b ((cM n n' ⟨hn,hlt'⟩).trans hn') hn2
    ·refine .same (cev b (hlt n' b (.inl hn')) fun n2 hm2 hl2=>?_)
     have:=hd n' n2 b (.inl hn') hl2
     subst this
     exact hm hm2
  refine ⟨v,φ',hE,RelV.ren back (fun n n' hM=>bM n n' hM) hres hrv,(fun p hp=>?_),(fun n1 n2 b h3 h4=>?_),(fun n' hn'=>oM n' fun hm=>hn' ?_),(fun b hb' hno=>cev b hb' fun n' hm=>?_),evo⟩
  ·obtain ⟨n,hn⟩:=List.getElem?_of_mem hp
   obtain ⟨n',s'⟩:=p
   rw [List.getElem?_zip_eq_some] at hn
   obtain ⟨hn1,hn2⟩:=hn
   have hn1':n<ρ.length:=(List.getElem?_eq_some_iff.1 hn1).1
   have hs:=List.getElem?_eq_getElem (show n<σ'.length by omega)
   have h3:=hσ' n _ s' hs hn2
   have h4:=henv'.slot n
   have e:σ'.getD n .unused=σ'[n]:=by simp [show n<σ'.length by omega]
   simp only [e] at h4
   generalize σ'[n]=s at h3 h4
   cases h3 with
   | tok=>
    obtain ⟨t,ht,ht2⟩:=h4
    exact ⟨t,(bM n n' hn1).trans ht,fun b L e=>⟨(ht2 b L e).1,fun off hx=>(ht2 b L e).2 off (.inl hx)⟩⟩
   | dead=>exact (bM n n' hn1).trans h4
   | own m xs xs' hl hx hr'=>
    obtain ⟨b,hb1,hb2⟩:=h4
    exact ⟨b,(bM n n' hn1).trans hb1,OwnOK.ren back (fun n n' hM=>bM n n' hM) hb2 (.own m xs xs' hl hx hr') fun off hx=>hb2.hid off (.inl hx)⟩
   | gro m xs xs' hl hx hr'=>
    rcases h4 with ⟨h5,h6⟩ | ⟨b,hb1,hb2⟩
    ·exact .inl ⟨List.eq_nil_of_length_eq_zero (by rw [← hl,h5]; rfl),(bM n n' hn1).trans h6⟩
    ·exact .inr ⟨b,(bM n n' hn1).trans hb1,OwnOK.ren back (fun n n' hM=>bM n n' hM) hb2 (.own m xs xs' hl hx hr') fun off hx=>hb2.hid off (.inl hx)⟩
   | mat m rows hx=>
    obtain ⟨bs,m1,m2,m3,m4⟩:=h4
    refine ⟨bs,(bM n n' hn1).trans m1,m2,m3,fun k xs hk=>?_⟩
    rcases m4 k xs hk with m5 | ⟨b,m5,m6⟩
    ·exact .inl m5
    ·exact .inr ⟨b,m5,OwnOK.ren back (fun n n' hM=>bM n n' hM) m6 (.plain (hx xs (List.mem_of_getElem? hk))) fun off hx=>m6.hid off (.inl hx)⟩
   | mp es clock=>
    obtain ⟨b,hb1,hb2⟩:=h4
    exact ⟨b,(bM n n' hn1).trans hb1,hb2.blk,fun off hx=>hb2.hid off (.inl hx)⟩
  ·by_cases hm1:n1 ∈ ρ<;>by_cases hm2:n2 ∈ ρ
   ·obtain ⟨i1,e1⟩:=get n1 hm1
    obtain ⟨i2,e2⟩:=get n2 hm2
    rw [bM i1 n1 e1] at h3
    rw [bM i2 n2 e2] at h4
    have:=henv'.distinct i1 i2 b h3 h4
    subst this
    rw [e1] at e2; cases e2; rfl
   ·obtain ⟨i1,e1⟩:=get n1 hm1
    rw [bM i1 n1 e1] at h3
    rw [oM n2 hm2] at h4
    rcases hevo.new b ⟨i1,h3⟩ with ⟨i3,h5⟩ | h5
    ·obtain ⟨n3,h6,_,h7⟩:=cinv i3 b h5
     have:=hd n3 n2 b h7.lies h4
     subst this
     exact absurd (List.mem_of_getElem? h6) hm2
    ·have:=hlt n2 b h4; omega
   ·obtain ⟨i2,e2⟩:=get n2 hm2
    rw [bM i2 n2 e2] at h4
    rw [oM n1 hm1] at h3
    rcases hevo.new b ⟨i2,h4⟩ with ⟨i3,h5⟩ | h5
    ·obtain ⟨n3,h6,_,h7⟩:=cinv i3 b h5
     have:=hd n3 n1 b h7.lies h3
     subst this
     exact absurd (List.mem_of_getElem? h6) hm1
    ·have:=hlt n1 b h3; omega
   ·rw [oM n1 hm1] at h3
    rw [oM n2 hm2] at h4
    exact hd n1 n2 b h3 h4
  ·obtain ⟨n,hn⟩:=get n' hm
   have hnl:=(List.getElem?_eq_some_iff.1 hn).1
   exact List.mem_map.2 ⟨(n',σr'[n]'(by omega)),List.mem_of_getElem? (i:=n) (by rw [List.getElem?_zip_eq_some]; exact ⟨hn,List.getElem?_eq_getElem (by omega)⟩),rfl⟩
  ·obtain ⟨n,hn⟩:=get n' hm
   have hnl:=(List.getElem?_eq_some_iff.1 hn).1
   exact hno (n',σr'[n]'(by omega)) (List.mem_of_getElem? (i:=n) (by rw [List.getElem?_zip_eq_some]; exact ⟨hn,List.getElem?_eq_getElem (by omega)⟩))
theorem Qx1 {a:Act} {f:Operand} {xs:Array Operand} {ts:Array TypeId} {g:FuncId} {first cap vs:List AV} (h:o.op=.call { callee:=.value f,args:=xs,argTypes:=ts })
  (hcall:∀ vals w,(callFunc g vals).run P w=.ok (.enter g vals) w) (hvl:vs.length=xs.size) (hr:∀ p ∈ (f,AV.fn (.func g) first cap)::xs.toList.zip vs,RelV X φ w p.2 (a.eval p.1)) :
  ∃ vals,(execOp a.eval o).run P w=.ok (.enter g vals) w∧RelV X φ w (.agg (first++vs++cap)) (.agg vals):=by
 have hf:=hr (f,.fn (.func g) first cap) (by simp)
 dsimp only at hf
 cases hfe:a.eval f with
 | func fn us cs=>
  rw [hfe] at hf
  cases hf with
  | fn _ _ _ _ _ hu hc h1 h2=>
   have hvals:RelV X φ w (.agg (first++vs++cap)) (.agg (us++xs.map a.eval++cs)):=.agg _ _ (by simp [hu,hc,hvl]) fun i v hi=>by
    rw [Array.getD_eq_getD_getElem?]
    by_cases hi1:i<first.length
    ·rw [List.append_assoc,List.getElem?_append_left hi1] at hi
     have:=h1 i v hi
     rw [Array.getD_eq_getD_getElem?] at this
     rwa [Array.append_assoc,Array.getElem?_append_left (by omega)]
    ·by_cases hi2:i<first.length+vs.length
     ·rw [List.append_assoc,List.getElem?_append_right (by omega),List.getElem?_append_left (by omega)] at hi
      have hix:i - first.length<xs.size:=by omega
      have:=hr (xs[i - first.length],v) (List.mem_cons_of_mem _ (List.mem_of_getElem? (i:=i - first.length) (by rw [List.getElem?_zip_eq_some]; exact ⟨by simp [hix],hi⟩)))
      rw [Array.append_assoc,Array.getElem?_append_right (by omega),Array.getElem?_append_left (by simp; omega),hu]
      simpa [hix] using this
     ·rw [List.append_assoc,List.getElem?_append_right (by omega),List.getElem?_append_right (by omega)] at hi
      have:=h2 _ v hi
      rw [Array.getD_eq_getD_getElem?] at this
      rw [Array.append_assoc,Array.getElem?_append_right (by omega),Array.getElem?_append_right (by simp; omega)]
      have e:i - us.size - (Array.map a.eval xs).size=i - first.length - vs.length:=by simp; omega
      rw [e]
      exact this
   have hexec:(execOp a.eval o).run P w=.ok (.enter g (us++xs.map a.eval++cs)) w:=by
    simp only [execOp,h,resolve,hfe,Deferred.ofValue,invoke,Sem.run_bind,Sem.run_pure,Result.andThen_ok,hcall]
   exact ⟨_,hexec,hvals⟩
 | _=>rw [hfe] at hf; cases hf
theorem Qt6 {f:Operand} {xs:Array Operand} {ts:Array TypeId} {g:FuncId} {first cap vs args:List AV} {σ σr σ' σr':List Slot} {res res':AV} (ρ:List Nat) (hnd:ρ.Nodup) (h:o.op=.call { callee:=.value f,args:=xs,argTypes:=ts })
  (hcall:∀ vals w,(callFunc g vals).run P w=.ok (.enter g vals) w) (spec:Spec P g args σ res σ') (hvl:vs.length=xs.size) (hargs:Rn (fun n n'=>ρ[n]? = some n'∧n<σ.length) (.agg args) (.agg (first++vs++cap)))
  (hlr:σr.length=σ.length) (hσ:∀ (n:Nat) s s',σ[n]? = some s→σr[n]? = some s'→(s ≠ .dead∧s ≠ .tok)∧SRn (fun n n'=>ρ[n]? = some n'∧n<σ.length) s s') (hl':σ'.length=ρ.length) (hlr':σr'.length=ρ.length) (hle:σ.length≤ρ.length)
  (hσ':∀ (n:Nat) s s',σ'[n]? = some s→σr'[n]? = some s'→SRn (fun n n'=>ρ[n]? = some n') s s') (hres:Rn (fun n n'=>ρ[n]? = some n') res res')
  {bl eff:List (Nat×Slot)} (hbl:(ρ.take σ.length).zip σr++(ρ.drop σ.length).map (fun n=>(n,Slot.unused))=bl) (heff:ρ.zip σr'=eff) {rd:List (Operand×AV)} (hrd:(f,.fn (.func g) first cap)::xs.toList.zip vs=rd) :
  Qcg P o rd bl res' eff:=by
 subst hbl heff hrd
 intro X φ a w hr hb hd hX hlt next Q K
 obtain ⟨vals,h1,h2⟩:=Qx1 h hcall hvl hr
 refine Q4t h1 (Qok (C:=Calls P g) (fun _ _ _ _ hR h=>h.mono hR) (E:=fun v e=>e=.returned v) ρ hnd spec hargs hlr hσ hl' hlr' hle hσ' hres h2 hb hd hX hlt |>.mono ?_)
 rintro e w' ⟨v,φ',he,h3,h4,h5,h6,h7,h8⟩
 exact ⟨v,he,K v φ' w' h3 h4 h5 h6 h7 h8⟩
end
end Go.Proofs.YtmbhnllcfmiajaaGreat
