/-
  The engine, part A: abstract values and how they stand to the model's values in a world; how a world may evolve. Plain definitions and laws; no conditions.
-/
import Derived.Test.YtmbhnllcfmiajaaGreatProg
import Derived.WalkKit
import Derived.Orders
import Derived.OrdersIn
import Derived.RangeFuncLeaves
import Derived.RangeFuncFrom
namespace Go.Proofs.YtmbhnllcfmiajaaGreat
open Go.RowKit
inductive AV where
 | any
 | lit (v:Value)
 | agg (l:List AV)
 | tup (l:List AV)
 | fn (f:Fn) (first cap:List AV)
 | dat (m:Nat) (xs:List (List AV))
 | dptr (cs:List AV) (i:Nat)
 | ref (n m j i:Nat)
 | own (n m j len:Nat)
 | acc (n:Nat) (ty:TypeId) (m:Nat) (xs:List (List AV))
 | gro (n:Nat) (ty:TypeId) (m len:Nat)
 | row (n k m j len:Nat)
 | rowp (n k m j i:Nat)
 | mp (n:Nat)
inductive FSlot where
 | unused
 | dead
 | own (b:Nat)
 | tok (t:Option (Nat×Nat))
 | far (Y:Nat→Nat→Prop)
 | mat (bs:List (Option Nat))
def FSlot.lies (s:FSlot) (b:Nat):Prop:=s=.own b∨(∃ L,s=.tok (some (b,L)))∨(∃ Y,s=.far Y∧∃ off,Y b off)∨∃ bs,s=.mat bs∧∃ k:Nat,bs[k]? = some (some b)
theorem Qdp {b:Nat} (h:FSlot.unused.lies b):False:=by rcases h with e | ⟨L,e⟩ | ⟨Y,e,_⟩ | ⟨bs,e,_⟩<;>cases e
theorem Qa0 {b:Nat} (h:FSlot.dead.lies b):False:=by rcases h with e | ⟨L,e⟩ | ⟨Y,e,_⟩ | ⟨bs,e,_⟩<;>cases e
theorem Qc1 {b:Nat} (h:(FSlot.tok none).lies b):False:=by rcases h with e | ⟨L,e⟩ | ⟨Y,e,_⟩ | ⟨bs,e,_⟩<;>cases e
theorem Qfh {b b':Nat} (h:(FSlot.own b').lies b):b'=b:=by rcases h with e | ⟨L,e⟩ | ⟨Y,e,_⟩ | ⟨bs,e,_⟩<;>cases e; rfl
theorem Qla {t:Option (Nat×Nat)} {b:Nat} (h:(FSlot.tok t).lies b):∃ L,t=some (b,L):=by rcases h with e | ⟨L,e⟩ | ⟨Y,e,_⟩ | ⟨bs,e,_⟩<;>cases e; exact ⟨L,rfl⟩
theorem Qlb {Y:Nat→Nat→Prop} {b:Nat} (h:(FSlot.far Y).lies b):∃ off,Y b off:=by rcases h with e | ⟨L,e⟩ | ⟨Y,e,h⟩ | ⟨bs,e,_⟩<;>cases e; exact h
theorem Qvl {bs:List (Option Nat)} {b:Nat} (h:(FSlot.mat bs).lies b):∃ k:Nat,bs[k]? = some (some b):=by rcases h with e | ⟨L,e⟩ | ⟨Y,e,h⟩ | ⟨bs,e,h⟩<;>cases e; exact h
theorem FSlot.lies.own {s:FSlot} {b:Nat} (h:s=.own b):s.lies b:=.inl h
theorem FSlot.lies.tok {s:FSlot} {b L:Nat} (h:s=.tok (some (b,L))):s.lies b:=.inr (.inl ⟨L,h⟩)
theorem FSlot.lies.far {s:FSlot} {Y:Nat→Nat→Prop} {b off:Nat} (h:s=.far Y) (hy:Y b off):s.lies b:=.inr (.inr (.inl ⟨Y,h,off,hy⟩))
theorem FSlot.lies.mat {s:FSlot} {bs:List (Option Nat)} {b k:Nat} (h:s=.mat bs) (hk:bs[k]? = some (some b)):s.lies b:=.inr (.inr (.inr ⟨bs,h,k,hk⟩))
def Qi7 (φ:Nat→FSlot) (b:Nat):Prop:=∃ n,(φ n).lies b
def Blk (φ:Nat→FSlot) (n b:Nat):Prop:=φ n=.own b∨∃ (bs:List (Option Nat)) (k:Nat),φ n=.mat bs∧bs[k]? = some (some b)
theorem Blk.lies {φ:Nat→FSlot} {n b:Nat} (h:Blk φ n b):(φ n).lies b:=by
 rcases h with h | ⟨bs,k,h,hk⟩
 ·exact .own h
 ·exact .mat h hk
theorem Blk.notok {φ:Nat→FSlot} {n b:Nat} {t:Option (Nat×Nat)} (h:Blk φ n b) (k:φ n=.tok t):False:=by rcases h with h | ⟨_,_,h,_⟩<;>rw [k] at h<;>cases h
theorem Blk.nofar {φ:Nat→FSlot} {n b:Nat} {Y:Nat→Nat→Prop} (h:Blk φ n b) (k:φ n=.far Y):False:=by rcases h with h | ⟨_,_,h,_⟩<;>rw [k] at h<;>cases h
structure DataAt (X:Nat→Nat→Prop) (φ:Nat→FSlot) (w:World) (b off:Nat):Prop where
 lt:b<w.heap.size
 hid:¬ X b off
 own:∀ n,φ n ≠ .own b
 tok:∀ n L,φ n=.tok (some (b,L))→off<L
 far:∀ n Y,φ n=.far Y→¬ Y b off
 mat:∀ (n:Nat) (bs:List (Option Nat)) (k:Nat),φ n=.mat bs→bs[k]? ≠ some (some b)
theorem DataAt.blk {X:Nat→Nat→Prop} {φ:Nat→FSlot} {w:World} {b off n:Nat} (h:DataAt X φ w b off) (k:Blk φ n b):False:=by
 rcases k with k | ⟨bs,q,k,hq⟩
 ·exact h.own n k
 ·exact h.mat n bs q k hq
def Tip (w:World) (t:Option (Nat×Nat)) (ty:TypeId) (m:Nat) (A:Option Addr) (len cap:Nat):Prop:=
 match t with
 | none=>len=0∧cap=0
 | some (b,L)=>A=some ⟨b,0,none⟩∧L=len * m∧∃ cur,w.heap[b]? = some (.cells cur ty (0,0))∧cur.size=cap * m∧cap≤maxLen
section
variable (X : Nat → Nat → Prop) (φ : Nat → FSlot) (w : World)
structure DatOK (m:Nat) (xs:List (List AV)) (A:Option Addr) (len cap:Nat) (g:Nat→Nat→Value):Prop where
 hlen:len=xs.length
 hcap:len≤cap
 hmost:cap≤maxLen
 hsize:∀ x ∈ xs,x.length=m
 hcells:xs ≠ []→∃ b o,A=some ⟨b,o,none⟩∧∀ j x,xs[j]? = some x→∀ i,i<m→DataAt X φ w b (o+j * m+i)∧w.cell? ⟨b,o+j * m+i,none⟩=some (g j i)
inductive RelV:AV→Value→Prop where
 | any (v:Value):RelV .any v
 | lit (v:Value):RelV (.lit v) v
 | agg (l:List AV) (vs:Array Value) (hs:vs.size=l.length) (h:∀ i a,l[i]? = some a→RelV a (vs.getD i undef)):RelV (.agg l) (.agg vs)
 | tup (l:List AV) (vs:Array Value) (hs:vs.size=l.length) (h:∀ i a,l[i]? = some a→RelV a (vs.getD i undef)):RelV (.tup l) (.tuple vs)
 | fn (f:Fn) (first cap:List AV) (us vs:Array Value) (hu:us.size=first.length) (hv:vs.size=cap.length)
   (h1:∀ i a,first[i]? = some a→RelV a (us.getD i undef)) (h2:∀ i a,cap[i]? = some a→RelV a (vs.getD i undef)):RelV (.fn f first cap) (.func f us vs)
 | dat (m:Nat) (xs:List (List AV)) (A:Option Addr) (len cap:Nat) (g:Nat→Nat→Value) (ok:DatOK X φ w m xs A len cap g)
   (h:∀ j x,xs[j]? = some x→∀ i a,x[i]? = some a→RelV a (g j i)):RelV (.dat m xs) (.slice A len cap)
 | dptr (cs:List AV) (i b o:Nat) (g:Nat→Value) (hc:∀ k,k<cs.length→DataAt X φ w b (o+k)∧w.cell? ⟨b,o+k,none⟩=some (g k))
   (h:∀ k a,cs[k]? = some a→RelV a (g k)):RelV (.dptr cs i) (.pointer (some ⟨b,o+i,none⟩))
 | ref (n m j i:Nat) (A:Option Addr) (hn:φ n ≠ .unused) (h:∀ b,φ n=.own b→A=some ⟨b,j * m+i,none⟩):RelV (.ref n m j i) (.pointer A)
 | own (n m j len:Nat) (A:Option Addr) (cap:Nat) (hc:len≤cap) (hm:cap≤maxLen) (hn:φ n ≠ .unused) (h:∀ b,φ n=.own b→A=some ⟨b,j * m,none⟩):RelV (.own n m j len) (.slice A len cap)
 | acc (n:Nat) (ty:TypeId) (m:Nat) (xs:List (List AV)) (A:Option Addr) (len cap:Nat) (g:Nat→Nat→Value) (ok:DatOK X φ w m xs A len cap g)
   (h:∀ j x,xs[j]? = some x→∀ i a,x[i]? = some a→RelV a (g j i)) (hn:φ n ≠ .unused) (ht:∀ t,φ n=.tok t→Tip w t ty m A len cap):RelV (.acc n ty m xs) (.slice A len cap)
 | gro (n:Nat) (ty:TypeId) (m len:Nat) (A:Option Addr) (cap:Nat) (hc:len≤cap) (hm:cap≤maxLen) (hn:φ n ≠ .unused) (hv:φ n=.tok none→len=0∧cap=0)
   (h:∀ b,φ n=.own b→A=some ⟨b,0,none⟩∧∃ cur,w.heap[b]? = some (.cells cur ty (0,0))∧cur.size=cap * m):RelV (.gro n ty m len) (.slice A len cap)
 | row (n k m j len:Nat) (A:Option Addr) (cap:Nat) (hc:len≤cap) (hm:cap≤maxLen) (hn:φ n ≠ .unused) (h:len ≠ 0→∀ bs,φ n=.mat bs→k<bs.length∧∀ b,bs[k]? = some (some b)→A=some ⟨b,j * m,none⟩):RelV (.row n k m j len) (.slice A len cap)
 | rowp (n k m j i:Nat) (A:Option Addr) (hn:φ n ≠ .unused) (h:∀ bs,φ n=.mat bs→k<bs.length∧∀ b,bs[k]? = some (some b)→A=some ⟨b,j * m+i,none⟩):RelV (.rowp n k m j i) (.pointer A)
 | mp (n:Nat) (A:Option Nat) (hn:φ n ≠ .unused) (h:∀ b,φ n=.own b→A=some b):RelV (.mp n) (.map A)
end
def MatLe (bs bs':List (Option Nat)):Prop:=bs.length≤bs'.length∧∀ k b,k<bs.length→bs'[k]? = some (some b)→bs[k]? = some (some b)
theorem MatLe.refl (bs:List (Option Nat)):MatLe bs bs:=⟨Nat.le_refl _,fun _ _ _ h=>h⟩
theorem MatLe.trans {a b c:List (Option Nat)} (h:MatLe a b) (k:MatLe b c):MatLe a c:=⟨Nat.le_trans h.1 k.1,fun i x hi hx=>h.2 i x hi (k.2 i x (Nat.lt_of_lt_of_le hi h.1) hx)⟩
def Shape (w w':World) (b:Nat):Prop:=∀ cur ty s,w.heap[b]? = some (.cells cur ty s)→∃ cur',w'.heap[b]? = some (.cells cur' ty s)∧cur'.size=cur.size
theorem Shape.same {w w':World} {b:Nat} (h:w'.heap[b]? = w.heap[b]?):Shape w w' b:=fun cur _ _ hc=>⟨cur,h.trans hc,rfl⟩
theorem Shape.trans {w w' w'':World} {b:Nat} (h:Shape w w' b) (k:Shape w' w'' b):Shape w w'' b:=fun cur ty s hc=>by
 obtain ⟨c1,h1,h2⟩:=h cur ty s hc
 obtain ⟨c2,h3,h4⟩:=k c1 ty s h1
 exact ⟨c2,h3,h4.trans h2⟩
structure Evo (X:Nat→Nat→Prop) (φ:Nat→FSlot) (w:World) (φ':Nat→FSlot) (w':World):Prop where
 os:w'.os=w.os
 tape:w'.tape=w.tape
 output:w'.output=w.output
 size:w.heap.size≤w'.heap.size
 blk:∀ b,b<w.heap.size→¬ Qi7 φ b→w'.heap[b]? = w.heap[b]?
 new:∀ b,Qi7 φ' b→Qi7 φ b∨w.heap.size≤b
 dat:∀ b off,DataAt X φ w b off→DataAt X φ' w' b off∧w'.cell? ⟨b,off,none⟩=w.cell? ⟨b,off,none⟩
 dead:∀ n,φ n=.dead→φ' n=.dead
 own:∀ n b,φ n=.own b→φ' n=.own b∨φ' n=.dead
 tok:∀ n t,φ n=.tok t→φ' n=.dead∨(φ' n=.tok t∧∀ b L,t=some (b,L)→w'.heap[b]? = w.heap[b]?)
 far:∀ n Y,φ n=.far Y→φ' n=.dead∨∃ Y',φ' n=.far Y'
 mat:∀ n bs,φ n=.mat bs→φ' n=.dead∨∃ bs',φ' n=.mat bs'∧MatLe bs bs'
 shape:∀ n b,φ n=.own b→φ' n=.own b→Shape w w' b
structure Evo0 (X:Nat→Nat→Prop) (φ:Nat→FSlot) (w:World) (φ':Nat→FSlot) (w':World):Prop where
 os:w'.os=w.os
 tape:w'.tape=w.tape
 output:w'.output=w.output
 size:w.heap.size≤w'.heap.size
 dat:∀ b off,DataAt X φ w b off→DataAt X φ' w' b off∧w'.cell? ⟨b,off,none⟩=w.cell? ⟨b,off,none⟩
 dead:∀ n,φ n=.dead→φ' n=.dead
 own:∀ n b,φ n=.own b→φ' n=.own b∨φ' n=.dead
 tok:∀ n t,φ n=.tok t→φ' n=.dead∨(φ' n=.tok t∧∀ b L,t=some (b,L)→w'.heap[b]? = w.heap[b]?)
 far:∀ n Y,φ n=.far Y→φ' n=.dead∨∃ Y',φ' n=.far Y'
 mat:∀ n bs,φ n=.mat bs→φ' n=.dead∨∃ bs',φ' n=.mat bs'∧MatLe bs bs'
 shape:∀ n b,φ n=.own b→φ' n=.own b→Shape w w' b
theorem Evo.to0 {X:Nat→Nat→Prop} {φ φ':Nat→FSlot} {w w':World} (h:Evo X φ w φ' w'):Evo0 X φ w φ' w':=⟨h.os,h.tape,h.output,h.size,h.dat,h.dead,h.own,h.tok,h.far,h.mat,h.shape⟩
section
variable {X : Nat → Nat → Prop} {φ φ' φ'' : Nat → FSlot} {w w' w'' : World}
theorem Evo.refl:Evo X φ w φ w:=⟨rfl,rfl,rfl,Nat.le_refl _,fun _ _ _=>rfl,fun _ h=>.inl h,fun _ _ h=>⟨h,rfl⟩,fun _ h=>h,fun _ _ h=>.inl h,fun _ _ h=>.inr ⟨h,fun _ _ _=>rfl⟩,fun _ Y h=>.inr ⟨Y,h⟩,fun _ bs h=>.inr ⟨bs,h,.refl bs⟩,fun _ _ _ _=>.same rfl⟩
theorem Evo.trans (h:Evo X φ w φ' w') (k:Evo X φ' w' φ'' w''):Evo X φ w φ'' w'' where
 os:=k.os.trans h.os
 tape:=k.tape.trans h.tape
 output:=k.output.trans h.output
 size:=Nat.le_trans h.size k.size
 blk:=fun b hb hn=>by
  have hn':¬ Qi7 φ' b:=fun hh=>by
   rcases h.new b hh with h1 | h1
   ·exact hn h1
   ·omega
  rw [k.blk b (Nat.lt_of_lt_of_le hb h.size) hn',h.blk b hb hn]
 new:=fun b hb=>by
  rcases k.new b hb with h1 | h1
  ·exact h.new b h1
  ·exact .inr (Nat.le_trans h.size h1)
 dat:=fun b off hd=>by
  obtain ⟨h1,h2⟩:=h.dat b off hd
  obtain ⟨k1,k2⟩:=k.dat b off h1
  exact ⟨k1,k2.trans h2⟩
 dead:=fun n hn=>k.dead n (h.dead n hn)
 own:=fun n b hn=>by
  rcases h.own n b hn with h1 | h1
  ·exact k.own n b h1
  ·exact .inr (k.dead n h1)
 tok:=fun n t hn=>by
  rcases h.tok n t hn with h1 | ⟨h1,h2⟩
  ·exact .inl (k.dead n h1)
  ·rcases k.tok n t h1 with k1 | ⟨k1,k2⟩
   ·exact .inl k1
   ·exact .inr ⟨k1,fun b L hbl=>(k2 b L hbl).trans (h2 b L hbl)⟩
 far:=fun n Y hn=>by
  rcases h.far n Y hn with h1 | ⟨Y',h1⟩
  ·exact .inl (k.dead n h1)
  ·exact k.far n Y' h1
 mat:=fun n bs hn=>by
  rcases h.mat n bs hn with h1 | ⟨bs',h1,hl⟩
  ·exact .inl (k.dead n h1)
  ·rcases k.mat n bs' h1 with k1 | ⟨bs'',k1,kl⟩
   ·exact .inl k1
   ·exact .inr ⟨bs'',k1,hl.trans kl⟩
 shape:=fun n b hn hn''=>by
  rcases h.own n b hn with h1 | h1
  ·exact (h.shape n b hn h1).trans (k.shape n b h1 hn'')
  ·rw [k.dead n h1] at hn''; cases hn''
theorem Evo0.unused (h:Evo0 X φ w φ' w') {n:Nat} (hn:φ n ≠ .unused):φ' n ≠ .unused:=by
 cases hf:φ n with
 | unused=>exact absurd hf hn
 | dead=>rw [h.dead n hf]; simp
 | own b=>rcases h.own n b hf with e | e<;>rw [e]<;>simp
 | tok t=>rcases h.tok n t hf with e | ⟨e,_⟩<;>rw [e]<;>simp
 | far Y=>rcases h.far n Y hf with e | ⟨Y',e⟩<;>rw [e]<;>simp
 | mat bs=>rcases h.mat n bs hf with e | ⟨bs',e,_⟩<;>rw [e]<;>simp
theorem Evo0.own' (h:Evo0 X φ w φ' w') {n b:Nat} (hn:φ n ≠ .unused) (hb:φ' n=.own b):φ n=.own b:=by
 cases hf:φ n with
 | unused=>exact absurd hf hn
 | dead=>have:=h.dead n hf; rw [this] at hb; cases hb
 | own b'=>rcases h.own n b' hf with e | e<;>rw [e] at hb<;>cases hb; rfl
 | tok t=>rcases h.tok n t hf with e | ⟨e,_⟩<;>rw [e] at hb<;>cases hb
 | far Y=>rcases h.far n Y hf with e | ⟨Y',e⟩<;>rw [e] at hb<;>cases hb
 | mat bs=>rcases h.mat n bs hf with e | ⟨bs',e,_⟩<;>rw [e] at hb<;>cases hb
theorem Evo0.mat' (h:Evo0 X φ w φ' w') {n:Nat} {bs':List (Option Nat)} (hn:φ n ≠ .unused) (hb:φ' n=.mat bs'):∃ bs,φ n=.mat bs∧MatLe bs bs':=by
 cases hf:φ n with
 | unused=>exact absurd hf hn
 | dead=>have:=h.dead n hf; rw [this] at hb; cases hb
 | own b'=>rcases h.own n b' hf with e | e<;>rw [e] at hb<;>cases hb
 | tok t=>rcases h.tok n t hf with e | ⟨e,_⟩<;>rw [e] at hb<;>cases hb
 | far Y=>rcases h.far n Y hf with e | ⟨Y',e⟩<;>rw [e] at hb<;>cases hb
 | mat bs=>rcases h.mat n bs hf with e | ⟨bs2,e,hl⟩<;>rw [e] at hb<;>cases hb; exact ⟨bs,rfl,hl⟩
theorem Evo.unused (h:Evo X φ w φ' w') {n:Nat} (hn:φ n ≠ .unused):φ' n ≠ .unused:=h.to0.unused hn
theorem Evo.own' (h:Evo X φ w φ' w') {n b:Nat} (hn:φ n ≠ .unused) (hb:φ' n=.own b):φ n=.own b:=h.to0.own' hn hb
theorem DatOK.evo0 {m:Nat} {xs:List (List AV)} {A:Option Addr} {len cap:Nat} {g:Nat→Nat→Value} (h:DatOK X φ w m xs A len cap g) (e:Evo0 X φ w φ' w'):DatOK X φ' w' m xs A len cap g:=
 ⟨h.hlen,h.hcap,h.hmost,h.hsize,fun hx=>by
  obtain ⟨b,o,hA,hc⟩:=h.hcells hx
  exact ⟨b,o,hA,fun j x hj i hi=>by
   obtain ⟨h1,h2⟩:=hc j x hj i hi
   obtain ⟨e1,e2⟩:=e.dat _ _ h1
   exact ⟨e1,e2.trans h2⟩⟩⟩
theorem RelV.evo0 {a:AV} {v:Value} (h:RelV X φ w a v) (e:Evo0 X φ w φ' w'):RelV X φ' w' a v:=by
 induction h with
 | any v=>exact .any v
 | lit v=>exact .lit v
 | agg l vs hs _ ih=>exact .agg l vs hs ih
 | tup l vs hs _ ih=>exact .tup l vs hs ih
 | fn f first cap us vs hu hv _ _ ih1 ih2=>exact .fn f first cap us vs hu hv ih1 ih2
 | dat m xs A len cap g ok _ ih=>exact .dat m xs A len cap g (ok.evo0 e) ih
 | dptr cs i b o g hc _ ih=>
  refine .dptr cs i b o g (fun k hk=>?_) ih
  obtain ⟨h1,h2⟩:=hc k hk
  obtain ⟨e1,e2⟩:=e.dat _ _ h1
  exact ⟨e1,e2.trans h2⟩
 | ref n m j i A hn h=>exact .ref n m j i A (e.unused hn) (fun b hb=>h b (e.own' hn hb))
 | own n m j len A cap hc hm hn h=>exact .own n m j len A cap hc hm (e.unused hn) (fun b hb=>h b (e.own' hn hb))
 | acc n ty m xs A len cap g ok _ hn ht ih=>
  refine .acc n ty m xs A len cap g (ok.evo0 e) ih (e.unused hn) (fun t hb=>?_)
  cases hf:φ n with
  | unused=>exact absurd hf hn
  | dead=>have:=e.dead n hf; rw [this] at hb; cases hb
  | own b'=>rcases e.own n b' hf with e' | e'<;>rw [e'] at hb<;>cases hb
  | far Y=>rcases e.far n Y hf with e' | ⟨Y',e'⟩<;>rw [e'] at hb<;>cases hb
  | mat bs=>rcases e.mat n bs hf with e' | ⟨bs',e',_⟩<;>rw [e'] at hb<;>cases hb
  | tok t'=>
   rcases e.tok n t' hf with e' | ⟨e',hu⟩<;>rw [e'] at hb<;>cases hb
   have:=ht t hf
   unfold Tip at this ⊢
   cases t with
   | none=>exact this
   | some p=>
    obtain ⟨b,L⟩:=p
    obtain ⟨h1,h2,cur,h3,h4⟩:=this
    exact ⟨h1,h2,cur,(hu b L rfl).trans h3,h4⟩
 | gro n ty m len A cap hc hm hn hv h=>
  refine .gro n ty m len A cap hc hm (e.unused hn) (fun hb=>?_) (fun b hb=>?_)
  ·cases hf:φ n with
   | unused=>exact absurd hf hn
   | dead=>have:=e.dead n hf; rw [this] at hb; cases hb
   | own b'=>rcases e.own n b' hf with e' | e'<;>rw [e'] at hb<;>cases hb
   | far Y=>rcases e.far n Y hf with e' | ⟨Y',e'⟩<;>rw [e'] at hb<;>cases hb
   | mat bs=>rcases e.mat n bs hf with e' | ⟨bs',e',_⟩<;>rw [e'] at hb<;>cases hb
   | tok t'=>rcases e.tok n t' hf with e' | ⟨e',_⟩<;>rw [e'] at hb<;>cases hb; exact hv hf
  ·have hb':=e.own' hn hb
   obtain ⟨h1,cur,h2,h3⟩:=h b hb'
   obtain ⟨cur',h4,h5⟩:=e.shape n b hb' hb cur ty _ h2
   exact ⟨h1,cur',h4,h5.trans h3⟩
 | row n k m j len A cap hc hm hn h=>
  refine .row n k m j len A cap hc hm (e.unused hn) fun h0 bs' hb=>?_
  obtain ⟨bs,h1,h2⟩:=e.mat' hn hb
  exact ⟨Nat.lt_of_lt_of_le (h h0 bs h1).1 h2.1,fun b hk=>(h h0 bs h1).2 b (h2.2 k b (h h0 bs h1).1 hk)⟩
 | rowp n k m j i A hn h=>
  refine .rowp n k m j i A (e.unused hn) fun bs' hb=>?_
  obtain ⟨bs,h1,h2⟩:=e.mat' hn hb
  exact ⟨Nat.lt_of_lt_of_le (h bs h1).1 h2.1,fun b hk=>(h bs h1).2 b (h2.2 k b (h bs h1).1 hk)⟩
 | mp n A hn h=>exact .mp n A (e.unused hn) (fun b hb=>h b (e.own' hn hb))
theorem RelV.evo {a:AV} {v:Value} (h:RelV X φ w a v) (e:Evo X φ w φ' w'):RelV X φ' w' a v:=h.evo0 e.to0
theorem DatOK.evo {m:Nat} {xs:List (List AV)} {A:Option Addr} {len cap:Nat} {g:Nat→Nat→Value} (h:DatOK X φ w m xs A len cap g) (e:Evo X φ w φ' w'):DatOK X φ' w' m xs A len cap g:=h.evo0 e.to0
end
inductive Slot where
 | unused
 | dead
 | own (m:Nat) (xs:List (List AV))
 | tok
 | gro (m:Nat) (xs:List (List AV))
 | far (J:(Nat→Nat→Prop)→(Nat→Nat→Prop)→World→Prop)
 | mat (m:Nat) (rows:List (List (List AV)))
 | mp (es:Array MapEntry) (clock:Nat)
section
variable (X : Nat → Nat → Prop) (φ : Nat → FSlot) (w : World)
structure FarAt (Y D:Nat→Nat→Prop) (B:World):Prop where
 own:∀ b off,Y b off→b<w.heap.size∧w.heap[b]? = B.heap[b]? ∧ ∀ off',¬ X b off'
 dat:∀ b off,D b off→¬ Y b off→DataAt X φ w b off∧w.cell? ⟨b,off,none⟩=B.cell? ⟨b,off,none⟩
 os:w.os=B.os
 tape:w.tape=B.tape
 output:w.output=B.output
 size:B.heap.size≤w.heap.size
end
section
variable (X : Nat → Nat → Prop) (φ : Nat → FSlot) (w : World)
structure OwnOK (b m:Nat) (xs:List (List AV)):Prop where
 blk:∃ cur ty,w.heap[b]? = some (.cells cur ty (0,0))∧xs.length * m≤cur.size∧(∀ x ∈ xs,x.length=m)∧(∀ j x,xs[j]? = some x→∀ i a,x[i]? = some a→RelV X φ w a (cur.getD (j * m+i) undef))
 hid:∀ off,¬ X b off
structure MpOK (b:Nat) (es:Array MapEntry) (clock:Nat):Prop where
 blk:w.heap[b]? = some (.map es clock)
 hid:∀ off,¬ X b off
def SlotOK (n:Nat):Slot→Prop
 | .unused=>φ n=.unused
 | .dead=>φ n=.dead
 | .own m xs=>∃ b,φ n=.own b∧OwnOK X φ w b m xs
 | .tok=>∃ t,φ n=.tok t∧∀ b L,t=some (b,L)→(∃ cur ty s,w.heap[b]? = some (.cells cur ty s))∧∀ off,¬ X b off
 | .gro m xs=>(xs=[]∧φ n=.tok none)∨∃ b,φ n=.own b∧OwnOK X φ w b m xs
 | .far J=>∃ Y D B,φ n=.far Y∧J Y D B∧FarAt X φ w Y D B
 | .mat m rows=>∃ bs,φ n=.mat bs∧bs.length=rows.length∧(∀ (k k' b:Nat),bs[k]? = some (some b)→bs[k']? = some (some b)→k=k') ∧
   ∀ (k:Nat) (xs:List (List AV)),rows[k]? = some xs→(xs=[]∧bs[k]? = some none)∨∃ b,bs[k]? = some (some b)∧OwnOK X φ w b m xs
 | .mp es clock=>∃ b,φ n=.own b∧MpOK X w b es clock
def Qb9:Prop:=∀ n n' b,(φ n).lies b→(φ n').lies b→n=n'
structure EnvOK (σ:Nat→Slot):Prop where
 slot:∀ n,SlotOK X φ w n (σ n)
 distinct:Qb9 φ
 hid:∀ b off,X b off→b<w.heap.size
end
section
variable {X : Nat → Nat → Prop} {φ φ' : Nat → FSlot} {w w' : World}
theorem OwnOK.lt {b m:Nat} {xs:List (List AV)} (h:OwnOK X φ w b m xs):b<w.heap.size:=by
 obtain ⟨cur,ty,h,_⟩:=h.blk
 exact (Array.getElem?_eq_some_iff.1 h).1
theorem SlotOK.evo0 {n:Nat} {s:Slot} (h:SlotOK X φ w n s) (e:Evo0 X φ w φ' w') (hn:φ' n=φ n) (hb:∀ b,(φ n).lies b→w'.heap[b]? = w.heap[b]?):SlotOK X φ' w' n s:=by
 cases s with
 | unused=>exact hn.trans h
 | dead=>exact hn.trans h
 | own m xs=>
  obtain ⟨b,h1,⟨cur,ty,h2,h3,h4,h5⟩,h6⟩:=h
  exact ⟨b,hn.trans h1,⟨cur,ty,(hb b (.inl h1)).trans h2,h3,h4,fun j x hj i a hi=>(h5 j x hj i a hi).evo0 e⟩,h6⟩
 | tok=>
  obtain ⟨t,h1,h2⟩:=h
  exact ⟨t,hn.trans h1,fun b L hbl=>⟨by rw [hb b (.tok (by rw [h1,hbl]))]; exact (h2 b L hbl).1,(h2 b L hbl).2⟩⟩
 | gro m xs=>
  rcases h with ⟨h1,h2⟩ | ⟨b,h1,⟨cur,ty,h2,h3,h4,h5⟩,h6⟩
  ·exact .inl ⟨h1,hn.trans h2⟩
  ·exact .inr ⟨b,hn.trans h1,⟨cur,ty,(hb b (.inl h1)).trans h2,h3,h4,fun j x hj i a hi=>(h5 j x hj i a hi).evo0 e⟩,h6⟩
 | far J=>
  obtain ⟨Y,D,B,h1,h2,h3⟩:=h
  exact ⟨Y,D,B,hn.trans h1,h2,⟨fun b off hy=>⟨Nat.lt_of_lt_of_le (h3.own b off hy).1 e.size,(hb b (.far h1 hy)).trans (h3.own b off hy).2.1,(h3.own b off hy).2.2⟩,
   fun b off hx hy=>⟨(e.dat b off (h3.dat b off hx hy).1).1,(e.dat b off (h3.dat b off hx hy).1).2.trans (h3.dat b off hx hy).2⟩,
   e.os.trans h3.os,e.tape.trans h3.tape,e.output.trans h3.output,Nat.le_trans h3.size e.size⟩⟩
 | mat m rows=>
  obtain ⟨bs,h1,h2,h3,h4⟩:=h
  refine ⟨bs,hn.trans h1,h2,h3,fun k xs hx=>?_⟩
  rcases h4 k xs hx with h5 | ⟨b,hk,⟨cur,ty,c2,c3,c4,c5⟩,c6⟩
  ·exact .inl h5
  ·exact .inr ⟨b,hk,⟨cur,ty,(hb b (.mat h1 hk)).trans c2,c3,c4,fun j x hj i a hi=>(c5 j x hj i a hi).evo0 e⟩,c6⟩
 | mp es clock=>
  obtain ⟨b,h1,h2,h3⟩:=h
  exact ⟨b,hn.trans h1,(hb b (.inl h1)).trans h2,h3⟩
theorem SlotOK.evo {n:Nat} {s:Slot} (h:SlotOK X φ w n s) (e:Evo X φ w φ' w') (hn:φ' n=φ n) (hb:∀ b,(φ n).lies b→w'.heap[b]? = w.heap[b]?):SlotOK X φ' w' n s:=h.evo0 e.to0 hn hb
theorem SlotOK.lt {n:Nat} {s:Slot} (h:SlotOK X φ w n s) {b:Nat} (hb:(φ n).lies b):b<w.heap.size:=by
 cases s with
 | unused=>
  have h':φ n=.unused:=h
  rw [h'] at hb
  exact (Qdp hb).elim
 | dead=>
  have h':φ n=.dead:=h
  rw [h'] at hb
  exact (Qa0 hb).elim
 | own m xs=>
  obtain ⟨b',h1,h2⟩:=h
  rw [h1] at hb
  obtain rfl:=Qfh hb
  exact h2.lt
 | tok=>
  obtain ⟨t,h1,h2⟩:=h
  rw [h1] at hb
  obtain ⟨L,rfl⟩:=Qla hb
  obtain ⟨_,_,_,h3⟩:=(h2 b L rfl).1
  exact (Array.getElem?_eq_some_iff.1 h3).1
 | gro m xs=>
  rcases h with ⟨h1,h2⟩ | ⟨b',h1,h2⟩
  ·rw [h2] at hb
   exact (Qc1 hb).elim
  ·rw [h1] at hb
   obtain rfl:=Qfh hb
   exact h2.lt
 | far J=>
  obtain ⟨Y,D,B,h1,h2,h3⟩:=h
  rw [h1] at hb
  obtain ⟨off,hy⟩:=Qlb hb
  exact (h3.own b off hy).1
 | mat m rows=>
  obtain ⟨bs,h1,h2,h3,h4⟩:=h
  rw [h1] at hb
  obtain ⟨k,hk⟩:=Qvl hb
  have hlt:k<rows.length:=h2 ▸ (List.getElem?_eq_some_iff.1 hk).1
  rcases h4 k _ (List.getElem?_eq_getElem hlt) with ⟨_,h5⟩ | ⟨b',h5,h6⟩
  ·rw [h5] at hk; cases hk
  ·rw [h5] at hk; cases hk; exact h6.lt
 | mp es clock=>
  obtain ⟨b',h1,h2,_⟩:=h
  rw [h1] at hb
  obtain rfl:=Qfh hb
  exact (Array.getElem?_eq_some_iff.1 h2).1
end
structure AS where
 regs:List AV
 own:List Slot
def AS.slot (s:AS) (n:Nat):Slot:=s.own.getD n .unused
def Qxd (a b:Nat):Nat:=(a+b) * (a+b)+a
theorem Qxc {a b c d:Nat} (h:Qxd a b=Qxd c d):a=c∧b=d:=by
 have key:∀ x y u v:Nat,x+y<u+v→Qxd x y<Qxd u v:=fun x y u v hl=>by
  unfold Qxd
  have h1:(x+y+1) * (x+y+1)≤(u+v) * (u+v):=Nat.mul_le_mul hl hl
  have h2:(x+y+1) * (x+y+1)=(x+y) * (x+y)+(x+y)+(x+y)+1:=by rw [Nat.add_mul,Nat.mul_add]; omega
  omega
 rcases Nat.lt_trichotomy (a+b) (c+d) with h1 | h1 | h1
 ·have:=key _ _ _ _ h1; omega
 ·unfold Qxd at h; rw [h1] at h; omega
 ·have:=key _ _ _ _ h1; omega
def Q4x:List Nat→Nat
 | []=>0
 | b::l=>Qxd b (Q4x l)+1
theorem Qxy:∀ {l k:List Nat},Q4x l=Q4x k→l=k
 | [],[],_=>rfl
 | [],_::_,h=>by simp [Q4x] at h
 | _::_,[],h=>by simp [Q4x] at h
 | a::l,b::k,h=>by
  obtain ⟨h1,h2⟩:=Qxc (Nat.add_right_cancel h)
  rw [h1,Qxy h2]
def dclo (g:Nat) (bs:List Nat):Deferred:={ target:=.fn (.func g) (bs.map fun b=>Value.pointer (some ⟨b,0,none⟩)).toArray,args := #[] }
def Qoh (g:Nat) (bs:List Nat):Nat:=Qxd g (Q4x bs)+2
noncomputable def Qom (w0:World):List Deferred:=open Classical in if h:∃ p:Nat×List Nat,Qoh p.1 p.2=w0.drawn then [dclo h.choose.1 h.choose.2] else []
theorem Ql1 {w0:World} (h:w0.drawn≤1):Qom w0=[]:=by
 unfold Qom
 rw [dif_neg]
 rintro ⟨p,hp⟩
 unfold Qoh at hp
 omega
theorem Qmc {w0:World} (h:w0.drawn=0):Qom w0=[]:=Ql1 (by omega)
theorem Qtz {w0:World} {g:Nat} {bs:List Nat} (h:w0.drawn=Qoh g bs):Qom w0=[dclo g bs]:=by
 unfold Qom
 have he:∃ p:Nat×List Nat,Qoh p.1 p.2=w0.drawn:=⟨(g,bs),h.symm⟩
 rw [dif_pos he]
 have hs:=he.choose_spec.trans h
 obtain ⟨h1,h2⟩:=Qxc (Nat.add_right_cancel hs)
 rw [h1,Qxy h2]
def Marks (φ:Nat→FSlot) (w0 w:World) (ds:List Deferred):Prop:=∃ l:List Nat,ds=l.map (fun D=>{ target:=.collected D,args := #[] })++Qom w0∧(w0.drawn=1→l=[])∧l.Nodup∧∀ D ∈ l,w0.heap.size≤D∧w.heap[D]? = some (.deferred (some []))∧¬ Qi7 φ D
structure Sim (X:Nat→Nat→Prop) (φ0:Nat→FSlot) (w0:World) (φ:Nat→FSlot) (s:AS) (a:Act) (w:World):Prop where
 low:∀ n b,(φ0 n).lies b→b<w0.heap.size
 defers:Marks φ w0 w a.defers
 size:a.tmps.size=s.regs.length
 regs:∀ t v,s.regs[t]? = some v→RelV X φ w v (a.tmps.getD t undef)
 env:EnvOK X φ w s.slot
 evo:Evo X φ0 w0 φ w
theorem Marks.base (φ:Nat→FSlot) (w0 w:World):Marks φ w0 w (Qom w0):=⟨[],rfl,fun _=>rfl,List.nodup_nil,by simp⟩
theorem Marks.nil0 (φ:Nat→FSlot) {w0:World} (w:World) (h:w0.drawn=0):Marks φ w0 w []:=⟨[],by rw [Qmc h]; rfl,fun _=>rfl,List.nodup_nil,by simp⟩
theorem Marks.nil1 (φ:Nat→FSlot) {w0:World} (w:World) (h:w0.drawn≤1):Marks φ w0 w []:=⟨[],by rw [Ql1 h]; rfl,fun _=>rfl,List.nodup_nil,by simp⟩
theorem Evo.to_at {X:Nat→Nat→Prop} {φ φ':Nat→FSlot} {w w':World} {k:Nat} (h:Evo X φ w φ' w'):Evo X φ { w with drawn:=k } φ' w':=
 ⟨h.os,h.tape,h.output,h.size,h.blk,h.new,fun b off hd=>h.dat b off ⟨hd.lt,hd.hid,hd.own,hd.tok,hd.far,hd.mat⟩,h.dead,h.own,h.tok,h.far,h.mat,h.shape⟩
theorem Evo.of_at {X:Nat→Nat→Prop} {φ φ':Nat→FSlot} {w w':World} {k:Nat} (h:Evo X φ { w with drawn:=k } φ' w'):Evo X φ w φ' w':=
 ⟨h.os,h.tape,h.output,h.size,h.blk,h.new,fun b off hd=>h.dat b off ⟨hd.lt,hd.hid,hd.own,hd.tok,hd.far,hd.mat⟩,h.dead,h.own,h.tok,h.far,h.mat,h.shape⟩
theorem Marks.to {φ φ':Nat→FSlot} {w0 w w':World} {ds:List Deferred} (h:Marks φ w0 w ds) (hs:∀ D:Nat,w.heap[D]? = some (Obj.deferred (some []))→¬ Qi7 φ D→w'.heap[D]? = w.heap[D]? ∧ ¬ Qi7 φ' D):Marks φ' w0 w' ds:=by
 obtain ⟨l,h1,h0,h2,h3⟩:=h
 exact ⟨l,h1,h0,h2,fun D hD=>⟨(h3 D hD).1,(hs D (h3 D hD).2.1 (h3 D hD).2.2).1.trans (h3 D hD).2.1,(hs D (h3 D hD).2.1 (h3 D hD).2.2).2⟩⟩
theorem Marks.evo {X:Nat→Nat→Prop} {φ φ':Nat→FSlot} {w0 w w':World} {ds:List Deferred} (h:Marks φ w0 w ds) (e:Evo X φ w φ' w'):Marks φ' w0 w' ds:=
 h.to fun D hD hn=>⟨e.blk D (Array.getElem?_eq_some_iff.1 hD).1 hn,fun hh=>by
  rcases e.new D hh with h1 | h1
  ·exact hn h1
  ·have:=(Array.getElem?_eq_some_iff.1 hD).1
   omega⟩
theorem Q9o {X:Nat→Nat→Prop} {φ:Nat→FSlot} {w w':World} {row:Option Nat} (hg:w.grownBy w' row) (hr:∀ r,row=some r→¬ Qi7 φ r∧(∃ o:Obj,w.heap[r]? = some o∧o.isCells=false)∧∃ o:Obj,w'.heap[r]? = some o∧o.isCells=false) (hc:∀ n b,(φ n).lies b→b<w.heap.size):Evo0 X φ w φ w':=by
 have key:∀ n b,(φ n).lies b→w'.heap[b]? = w.heap[b]? := fun n b h=>hg.block b (hc n b h) fun e=>(hr b e.symm).1 ⟨n,h⟩
 refine ⟨hg.os,hg.tape,hg.output,hg.size,fun b off hd=>⟨⟨Nat.lt_of_lt_of_le hd.lt hg.size,hd.hid,hd.own,hd.tok,hd.far,hd.mat⟩,?_⟩,fun _ h=>h,fun _ _ h=>.inl h,fun n t h=>.inr ⟨h,fun b L hb=>?_⟩,fun _ Y h=>.inr ⟨Y,h⟩,fun _ bs h=>.inr ⟨bs,h,.refl bs⟩,fun n b h _=>.same ?_⟩
 ·unfold World.cell?
  by_cases e:row=some b
  ·obtain ⟨_,⟨o,ho,hk⟩,o',ho',hk'⟩:=hr b e
   dsimp only
   rw [ho,ho']
   cases o<;>cases o'<;>first | rfl | (cases hk; done) | (cases hk'; done)
  ·dsimp only
   rw [hg.block b hd.lt (fun h=>e h.symm)]
 ·exact key n b (.tok (L:=L) (by rw [h,hb]))
 ·exact key n b (.own h)
def opd (regs:List AV):Operand→AV
 | .tmp t=>regs.getD t .any
 | .const v=>.lit v
 | .global g=>.lit (.pointer (some ⟨g,0,none⟩))
 | .func f=>.fn (.func f) [] []
theorem Sim.opd {X:Nat→Nat→Prop} {φ0 φ:Nat→FSlot} {w0 w:World} {s:AS} {a:Act} (h:Sim X φ0 w0 φ s a w) (x:Operand):RelV X φ w (opd s.regs x) (a.eval x):=by
 cases x with
 | tmp t=>
  simp only [Go.Proofs.YtmbhnllcfmiajaaGreat.opd,Act.eval,List.getD_eq_getElem?_getD]
  cases ht:s.regs[t]? with
  | none=>exact .any _
  | some v=>exact h.regs t v ht
 | const v=>exact .lit v
 | global g=>exact .lit _
 | func f=>exact .fn _ _ _ _ _ rfl rfl (by simp) (by simp)
end Go.Proofs.YtmbhnllcfmiajaaGreat
namespace Go.Proofs.YtmbhnllcfmiajaaGreat
open Go.RowKit
def FR (ro:Option Nat):Fence:={ Fence.wide with round:=ro }
theorem Qpl {ro:Option Nat} {n:Nat} {P:Program} {f:FuncId} {args:Array Value} {w:World} {R:Ending→World→Prop}:CallsIn (FR ro) n P f args w R ↔ Calls P f args w R:=callsIn_wide (n:=n)
def Does (P:Program) (o:Oper) (a:Act) (w:World) (next:Act→World→Prop) (Q:Exit→Act→World→Prop):Prop:=∀ ro,o.wpIn (FR ro) 0 P a w next Q
theorem Qjx {P:Program} {o:Oper} {ρ:Operand→Value} {w w':World} {x:Next} (h:(execOp ρ o).run P w=.ok x w') (hx:∀ d,x ≠ .defer d):∀ c,o.op ≠ .defer c:=fun c hc=>by
 simp only [execOp,hc,Sem.run_bind] at h
 cases hr:(resolve ρ c o.type).run P w with
 | ok d w1=>
  rw [hr] at h
  simp only [Result.andThen_ok,Sem.run_pure,Result.ok.injEq] at h
  exact hx _ h.1.symm
 | halt e w1=>rw [hr] at h; cases h
theorem Qgp {P:Program} {o:Oper} {a:Act} {w w':World} {next:Act→World→Prop} {Q:Exit→Act→World→Prop} {v:Value} (h:(execOp a.eval o).run P w=.ok (.value v) w') (k:next (a.put o.dst v) w'):Does P o a w next Q:=fun ro=>by
 refine ⟨fun _ _=>trivial,?_⟩
 rw [Oper.semAt_eq _ _ _ (Qjx h fun d e=>by cases e),h]
 exact k
theorem Qxv {P:Program} {o:Oper} {a:Act} {w w':World} {next:Act→World→Prop} {Q:Exit→Act→World→Prop} (h:(execOp a.eval o).run P w=.ok .skip w') (k:next (a.put o.dst undef) w'):Does P o a w next Q:=fun ro=>by
 refine ⟨fun _ _=>trivial,?_⟩
 rw [Oper.semAt_eq _ _ _ (Qjx h fun d e=>by cases e),h]
 exact k
theorem Q4t {P:Program} {o:Oper} {a:Act} {w w':World} {next:Act→World→Prop} {Q:Exit→Act→World→Prop} {f:FuncId} {args:Array Value} (h:(execOp a.eval o).run P w=.ok (.enter f args) w') (k:Calls P f args w' fun e w''=>∃ v,e=.returned v∧next (a.put o.dst v) w''):Does P o a w next Q:=fun ro=>by
 refine ⟨fun _ _=>trivial,?_⟩
 rw [Oper.semAt_eq _ _ _ (Qjx h fun d e=>by cases e),h]
 refine ⟨fun e=>(by cases e),Qpl.2 (k.mono ?_)⟩
 rintro e w2 ⟨v,rfl,hk⟩
 exact hk
def Qcg (P:Program) (o:Oper) (rd:List (Operand×AV)) (bl:List (Nat×Slot)) (r:AV) (eff:List (Nat×Slot)):Prop:=
 ∀ (X:Nat→Nat→Prop) (φ:Nat→FSlot) (a:Act) (w:World),(∀ p ∈ rd,RelV X φ w p.2 (a.eval p.1))→(∀ p ∈ bl,SlotOK X φ w p.1 p.2)→Qb9 φ→(∀ b off,X b off→b<w.heap.size) →
  (∀ n b,(φ n).lies b→b<w.heap.size) →
  ∀ (next:Act→World→Prop) (Q:Exit→Act→World→Prop),
   (∀ v φ' w',RelV X φ' w' r v→(∀ p ∈ eff,SlotOK X φ' w' p.1 p.2)→Qb9 φ'→(∀ n,n ∉ eff.map (·.1)→φ' n=φ n) →
    (∀ b,b<w.heap.size→(∀ p ∈ eff,¬ (φ p.1).lies b)→w'.heap[b]? = w.heap[b]?)→Evo X φ w φ' w'→next (a.put o.dst v) w')→Does P o a w next Q
structure Rec where
 rd:List (Operand×AV)
 bl:List (Nat×Slot)
 r:AV
 eff:List (Nat×Slot)
 skip:Bool
def putA (regs:List AV) (dst:Option Tmp) (r:AV):List AV:=match dst with | some d=>regs.set d r | none=>regs
def setL:List Slot→Nat→Slot→List Slot
 | [],0,s=>[s]
 | [],n+1,s=>.unused::setL [] n s
 | _::l,0,s=>s::l
 | x::l,n+1,s=>x::setL l n s
def setE (own:List Slot):List (Nat×Slot)→List Slot
 | []=>own
 | p::l=>setE (setL own p.1 p.2) l
def runL:List (Oper×Rec)→List AV→List Slot→List (List AV×List Slot)×List AV×List Slot
 | [],regs,own=>([],regs,own)
 | (o,c)::l,regs,own=>
  ((c.rd.map (fun p=>opd regs p.1),c.bl.map (fun p=>own.getD p.1 .unused))::(runL l (putA regs o.dst c.r) (setE own c.eff)).1,(runL l (putA regs o.dst c.r) (setE own c.eff)).2)
def AV.isAny:AV→Bool
 | .any=>true
 | _=>false
def AV.isUndef:AV→Bool
 | .lit (.tuple vs)=>vs.isEmpty
 | _=>false
def Qsb:Value→Option Bool
 | .bool b=>some b
 | _=>none
def Qvq (ops:Array Oper) (o:Oper) (c:Rec):Bool:=
 match o.guard with
 | none=>!c.skip
 | some (j,want)=>match c.rd with
  | (.tmp d,.lit v)::_=>((ops[j]?).bind (·.dst))==some d&&c.skip==(Qsb v != some want)&&(!c.skip||(c.r.isUndef&&c.eff.isEmpty))
  | _=>false
def Rec.slots (c:Rec):List Tmp:=c.rd.filterMap fun p=>match p.1 with | .tmp t=>some t | _=>none
def Qln (o:Oper) (c:Rec) (o':Oper) (c':Rec):Bool:=
 (match o.dst with | some d=>c'.slots.contains d||o'.dst==some d | none=>false) ||
 (match o'.dst with | some d=>c.slots.contains d | none=>false) ||
 (c.eff.any fun p=>c'.bl.any fun q=>p.1==q.1)||(c'.eff.any fun p=>c.bl.any fun q=>p.1==q.1)
def Zep (acc:List Nat) (o:Oper):Nat:=o.after.toList.foldl (fun s e=>if Region.binds .any e then s ||| (2 ^ e.on ||| acc.getD e.on 0) else s) 0
def Qfy:List (Oper×Rec)→List (Oper×Rec)→List Nat→Bool
 | [],_,_=>true
 | (o,c)::l,pre,acc=>
  (o.after.all fun e=>!Region.binds .any e||e.on<pre.length) &&
  ((List.range pre.length).all fun j=>(Zep acc o).testBit j||(match pre[j]? with | some (o',c')=>!Qln o' c' o c | none=>true)) &&
  Qfy l (pre++[(o,c)]) (acc++[Zep acc o])
def Q2h (ops:Array Oper) (l:List (Oper×Rec)) (n:Nat):Bool:=
 l.all fun p=>Qvq ops p.1 p.2&&(match p.1.dst with | some d=>d<n | none=>true)&&(p.2.eff.all fun q=>p.2.bl.any fun r=>q.1==r.1)
def valS:List (Oper×Rec)→Nat→(Nat→Bool)→AV→Tmp→AV
 | [],_,_,v,_=>v
 | (o,c)::l,i,S,v,t=>valS l (i+1) S (if S i&&o.dst==some t then c.r else v) t
def Qld (n:Nat):List (Nat×Slot)→Slot→Slot
 | [],s=>s
 | p::l,s=>Qld n l (if p.1=n then p.2 else s)
def Qj7:List (Oper×Rec)→Nat→(Nat→Bool)→Slot→Nat→Slot
 | [],_,_,s,_=>s
 | (_,c)::l,i,S,s,n=>Qj7 l (i+1) S (if S i then Qld n c.eff s else s) n
theorem Ql5 {t:Tmp} {S S':Nat→Bool}:∀ (l:List (Oper×Rec)) (i:Nat) (v:AV),(∀ j p,l[j]? = some p→(S (i+j)&&p.1.dst==some t)=(S' (i+j)&&p.1.dst==some t))→valS l i S v t=valS l i S' v t
 | [],_,_,_=>rfl
 | p::l,i,v,h=>by
  have h0:=h 0 p rfl
  simp only [Nat.add_zero] at h0
  simp only [valS,h0]
  exact Ql5 l (i+1) _ fun j q hj=>by
   have:=h (j+1) q (by simpa using hj)
   rwa [show i+(j+1)=i+1+j from by omega] at this
theorem Qnr {t:Tmp} {S:Nat→Bool}:∀ (l:List (Oper×Rec)) (i:Nat) (v:AV),(∀ j p,l[j]? = some p→(S (i+j)&&p.1.dst==some t)=false)→valS l i S v t=v
 | [],_,_,_=>rfl
 | p::l,i,v,h=>by
  have h0:=h 0 p rfl
  simp only [Nat.add_zero] at h0
  simp only [valS,h0]
  exact Qnr l (i+1) v fun j q hj=>by
   have:=h (j+1) q (by simpa using hj)
   rwa [show i+(j+1)=i+1+j from by omega] at this
theorem Qwt {t:Tmp} {S:Nat→Bool}:∀ (l:List (Oper×Rec)) (i k:Nat) (v:AV) (o:Oper) (c:Rec),l[k]? = some (o,c)→S (i+k)=true→o.dst=some t→(∀ j p,k<j→l[j]? = some p→(S (i+j)&&p.1.dst==some t)=false)→valS l i S v t=c.r
 | [],_,k,_,_,_,h,_,_,_=>by simp at h
 | p::l,i,0,v,o,c,h,hs,hd,hn=>by
  simp at h
  subst h
  simp only [Nat.add_zero] at hs
  simp only [valS,hs,hd,Bool.true_and,beq_self_eq_true,if_true]
  exact Qnr l (i+1) _ fun j q hj=>by
   have:=hn (j+1) q (by omega) (by simpa using hj)
   rwa [show i+(j+1)=i+1+j from by omega] at this
 | p::l,i,k+1,v,o,c,h,hs,hd,hn=>by
  rw [valS]
  exact Qwt l (i+1) k _ o c (by simpa using h) (by rw [show i+1+k=i+(k+1) from by omega]; exact hs) hd fun j q hj hq=>by
   have:=hn (j+1) q (by omega) (by simpa using hq)
   rwa [show i+(j+1)=i+1+j from by omega] at this
theorem Qib {n:Nat}:∀ {l:List (Nat×Slot)} {s:Slot},n ∉ l.map (·.1)→Qld n l s=s
 | [],_,_=>rfl
 | p::l,s,h=>by
  simp only [List.map_cons,List.mem_cons,not_or] at h
  rw [Qld,if_neg (fun e=>h.1 e.symm)]
  exact Qib h.2
theorem Qxu {n:Nat}:∀ {l:List (Nat×Slot)} {s s':Slot},n ∈ l.map (·.1)→Qld n l s=Qld n l s'
 | [],_,_,h=>by simp at h
 | p::l,s,s',h=>by
  rw [Qld,Qld]
  by_cases e:p.1=n
  ·rw [if_pos e,if_pos e]
  ·rw [if_neg e,if_neg e]
   simp only [List.map_cons,List.mem_cons] at h
   exact Qxu (h.resolve_left (fun e'=>e e'.symm))
theorem Qr7 {n:Nat}:∀ {l:List (Nat×Slot)} {s:Slot},n ∈ l.map (·.1)→(n,Qld n l s) ∈ l
 | [],_,h=>by simp at h
 | p::l,s,h=>by
  rw [Qld]
  by_cases hm:n ∈ l.map (·.1)
  ·exact List.mem_cons_of_mem _ (Qr7 hm)
  ·rw [Qib hm]
   simp only [List.map_cons,List.mem_cons] at h
   have e:=h.resolve_right hm
   rw [if_pos e.symm,e]
   simp
theorem Qk6 {n:Nat} {S S':Nat→Bool}:∀ (l:List (Oper×Rec)) (i:Nat) (s:Slot),(∀ j p,l[j]? = some p→n ∈ p.2.eff.map (·.1)→S (i+j)=S' (i+j))→Qj7 l i S s n=Qj7 l i S' s n
 | [],_,_,_=>rfl
 | p::l,i,s,h=>by
  have h0:=h 0 p rfl
  simp only [Nat.add_zero] at h0
  have e:(if S i then Qld n p.2.eff s else s)=(if S' i then Qld n p.2.eff s else s):=by
   by_cases hm:n ∈ p.2.eff.map (·.1)
   ·rw [h0 hm]
   ·rw [Qib hm]; simp
  simp only [Qj7,e]
  exact Qk6 l (i+1) _ fun j q hj=>by
   have:=h (j+1) q (by simpa using hj)
   rwa [show i+(j+1)=i+1+j from by omega] at this
theorem Ql7 {n:Nat} {S:Nat→Bool}:∀ (l:List (Oper×Rec)) (i:Nat) (s:Slot),(∀ j p,l[j]? = some p→n ∈ p.2.eff.map (·.1)→S (i+j)=false)→Qj7 l i S s n=s
 | [],_,_,_=>rfl
 | p::l,i,s,h=>by
  have h0:=h 0 p rfl
  simp only [Nat.add_zero] at h0
  have e:(if S i then Qld n p.2.eff s else s)=s:=by
   by_cases hm:n ∈ p.2.eff.map (·.1)
   ·rw [h0 hm]; simp
   ·rw [Qib hm]; simp
  simp only [Qj7,e]
  exact Ql7 l (i+1) _ fun j q hj=>by
   have:=h (j+1) q (by simpa using hj)
   rwa [show i+(j+1)=i+1+j from by omega] at this
theorem Qtg {n:Nat} {S:Nat→Bool}:∀ (l:List (Oper×Rec)) (i k:Nat) (s s':Slot) (o:Oper) (c:Rec),l[k]? = some (o,c)→S (i+k)=true→n ∈ c.eff.map (·.1)→(∀ j p,k<j→l[j]? = some p→n ∈ p.2.eff.map (·.1)→S (i+j)=false)→Qj7 l i S s n=Qld n c.eff s'
 | [],_,k,_,_,_,_,h,_,_,_=>by simp at h
 | p::l,i,0,s,s',o,c,h,hs,hd,hn=>by
  simp at h
  subst h
  simp only [Nat.add_zero] at hs
  simp only [Qj7,hs,if_true]
  rw [Qxu hd (s':=s')]
  exact Ql7 l (i+1) _ fun j q hj=>by
   have:=hn (j+1) q (by omega) (by simpa using hj)
   rwa [show i+(j+1)=i+1+j from by omega] at this
 | p::l,i,k+1,s,s',o,c,h,hs,hd,hn=>by
  rw [Qj7]
  exact Qtg l (i+1) k _ s' o c (by simpa using h) (by rw [show i+1+k=i+(k+1) from by omega]; exact hs) hd fun j q hj hq=>by
   have:=hn (j+1) q (by omega) (by simpa using hq)
   rwa [show i+(j+1)=i+1+j from by omega] at this
theorem Qjw:∀ (l:List Slot) (n:Nat) (s:Slot) (k:Nat),(setL l n s).getD k .unused=if n=k then s else l.getD k .unused
 | [],0,s,k=>by cases k<;>simp [setL]
 | [],n+1,s,0=>by simp [setL]
 | [],n+1,s,k+1=>by
  have:=Qjw [] n s k
  simp only [setL,List.getD_cons_succ,this,Nat.add_right_cancel_iff]
  simp
 | x::l,0,s,k=>by cases k<;>simp [setL]
 | x::l,n+1,s,0=>by simp [setL]
 | x::l,n+1,s,k+1=>by
  have:=Qjw l n s k
  simp only [setL,List.getD_cons_succ,this,Nat.add_right_cancel_iff]
theorem Qnz:∀ (l:List (Nat×Slot)) (own:List Slot) (k:Nat),(setE own l).getD k .unused=Qld k l (own.getD k .unused)
 | [],_,_=>rfl
 | p::l,own,k=>by rw [setE,Qnz l,Qjw,Qld]
theorem Qrg (regs:List AV) (d:Option Tmp) (r:AV):(putA regs d r).length=regs.length:=by
 cases d<;>simp [putA]
theorem Qw8 (regs:List AV) (d:Option Tmp) (r:AV) (t:Tmp) (ht:t<regs.length):(putA regs d r).getD t .any=if d==some t then r else regs.getD t .any:=by
 cases d with
 | none=>simp [putA]
 | some e=>
  simp only [putA,List.getD_eq_getElem?_getD,List.getElem?_set]
  by_cases h:e=t
  ·subst h; simp [ht]
  ·simp [h]
theorem Qu7:∀ (l:List (Oper×Rec)) (i:Nat) (regs:List AV) (own:List Slot) (k:Nat) (o:Oper) (c:Rec),l[k]? = some (o,c) →
  (runL l regs own).1[k]? = some (c.rd.map (fun p=>match p.1 with | .tmp t=>(if t<regs.length then valS l i (fun j=>decide (j<i+k)) (regs.getD t .any) t else .any) | x=>opd regs x),c.bl.map (fun p=>Qj7 l i (fun j=>decide (j<i+k)) (own.getD p.1 .unused) p.1))
 | [],_,_,_,k,_,_,h=>by simp at h
 | q::l,i,regs,own,0,o,c,h=>by
  simp at h
  subst h
  simp only [runL,List.getElem?_cons_zero,Option.some.injEq,Prod.mk.injEq]
  refine ⟨List.map_congr_left fun p _=>?_,List.map_congr_left fun p _=>?_⟩
  ·cases hp:p.1 with
   | tmp t=>
    dsimp only [opd]
    by_cases ht:t<regs.length
    ·rw [if_pos ht]
     exact (Qnr _ _ _ fun j q _=>by rw [show decide (i+j<i+0)=false from decide_eq_false (by omega)]; rfl).symm
    ·rw [if_neg ht]
     simp [List.getElem?_eq_none (Nat.le_of_not_lt ht)]
   | _=>rfl
  ·exact (Ql7 _ _ _ fun j q _ _=>decide_eq_false (by omega)).symm
 | (o',c')::l,i,regs,own,k+1,o,c,h=>by
  have ih:=Qu7 l (i+1) (putA regs o'.dst c'.r) (setE own c'.eff) k o c (by simpa using h)
  simp only [runL,List.getElem?_cons_succ]
  rw [ih]
  have hk:(fun j=>decide (j<i+(k+1)))=(fun j=>decide (j<i+1+k)):=by
   funext j
   rw [show i+(k+1)=i+1+k from by omega]
  rw [hk]
  have hi:decide (i<i+1+k)=true:=by simp; omega
  refine congrArg some (Prod.ext (List.map_congr_left fun p _=>?_) (List.map_congr_left fun p _=>?_))
  ·cases hp:p.1 with
   | tmp t=>
    dsimp only
    rw [Qrg]
    by_cases ht:t<regs.length
    ·rw [if_pos ht,if_pos ht,Qw8 _ _ _ _ ht,valS]
     simp [hi]
    ·rw [if_neg ht,if_neg ht]
   | _=>rfl
  ·rw [Qnz,Qj7]
   simp [hi]
theorem Q17:∀ (l:List (Oper×Rec)) (i:Nat) (regs:List AV) (own:List Slot),(runL l regs own).2.1.length=regs.length∧(∀ t,t<regs.length→(runL l regs own).2.1.getD t .any=valS l i (fun _=>true) (regs.getD t .any) t) ∧
  (∀ n,(runL l regs own).2.2.getD n .unused=Qj7 l i (fun _=>true) (own.getD n .unused) n)
 | [],_,_,_=>⟨rfl,fun _ _=>rfl,fun _=>rfl⟩
 | (o,c)::l,i,regs,own=>by
  obtain ⟨h1,h2,h3⟩:=Q17 l (i+1) (putA regs o.dst c.r) (setE own c.eff)
  rw [Qrg] at h1 h2
  refine ⟨h1,fun t ht=>?_,fun n=>?_⟩
  ·show (runL l _ _).2.1.getD t .any=_
   rw [h2 t ht,Qw8 _ _ _ _ ht,valS]
   simp
  ·show (runL l _ _).2.2.getD n .unused=_
   rw [h3 n,Qnz,Qj7]
   simp
end Go.Proofs.YtmbhnllcfmiajaaGreat
