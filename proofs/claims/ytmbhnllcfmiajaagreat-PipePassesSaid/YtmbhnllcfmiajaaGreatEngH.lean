/-
  The engine, part G: slices, new blocks, functions as values. Plain laws; no conditions.
-/
import Derived.Test.YtmbhnllcfmiajaaGreatEngF
import Derived.Laws.AppendOwn
import Derived.Laws.MakeOwn
namespace Go.Proofs.YtmbhnllcfmiajaaGreat
open Go.RowKit
section
variable {P : Program} {o : Oper} {X : Nat → Nat → Prop} {φ : Nat → FSlot} {w : World} {r : AV}
def Qs3:AV→Option (Nat×List (List AV))
 | .dat m xs=>some (m,xs)
 | .acc _ _ m xs=>some (m,xs)
 | _=>none
theorem Qm6 {v:AV} {u:Value} {m:Nat} {xs:List (List AV)} (h:RelV X φ w v u) (hv:Qs3 v=some (m,xs)):∃ A len cap g,u=.slice A len cap∧DatOK X φ w m xs A len cap g∧∀ j x,xs[j]? = some x→∀ i a,x[i]? = some a→RelV X φ w a (g j i):=by
 cases h with
 | dat _ _ A len cap g ok hr=>cases hv; exact ⟨A,len,cap,g,rfl,ok,hr⟩
 | acc _ _ _ _ A len cap g ok hr _ _=>cases hv; exact ⟨A,len,cap,g,rfl,ok,hr⟩
 | _=>cases hv
theorem DatOK.elem {m:Nat} {xs:List (List AV)} {A:Option Addr} {len cap:Nat} {g:Nat→Nat→Value} (ok:DatOK X φ w m xs A len cap g) (hr:∀ j x,xs[j]? = some x→∀ i a,x[i]? = some a→RelV X φ w a (g j i)) {j:Nat} {c:List AV} (hj:xs[j]? = some c) :
  ∃ b of,A=some ⟨b,of,none⟩∧RelV X φ w (.dptr c 0) (.pointer (some ⟨b,of+j * m,none⟩)):=by
 have hne:xs ≠ []:=fun e=>by rw [e] at hj; cases hj
 obtain ⟨b,of,hA,hc⟩:=ok.hcells hne
 have hm:=ok.hsize c (List.mem_of_getElem? hj)
 refine ⟨b,of,hA,?_⟩
 have:=RelV.dptr (X:=X) (φ:=φ) (w:=w) c 0 b (of+j * m) (g j) (fun k hk=>hc j c hj k (by omega)) (hr j c hj)
 simpa using this
theorem Qod {t e:TypeId} {gg:Bool} {m:Nat} (ht:P.underlying t=some (.slice e)) (he:TI P e gg m) (b of len cap:Nat) (k:IntKind) (i:Int) (h0:0≤i) (h1:i<len) (w:World) :
  (Instr.indexAt t (.slice (some ⟨b,of,none⟩) len cap) (.int k i)).run P w=.ok (.pointer (some ⟨b,of+i.toNat * m,none⟩)) w:=by
 simp [Instr.indexAt,run_underlying ht,asIntOf,h0,h1,he.size,Addr.add_lit]
theorem Q49 {x y:Operand} {t t' e:TypeId} {gg:Bool} {m m':Nat} {v:AV} {xs:List (List AV)} {k:IntKind} {i:Int} {c:List AV} (h:o.op=.indexAddr t x y) (ht:P.underlying t=some (.slice e)) (he:TI P e gg m) (hv:Qs3 v=some (m',xs)) (hm:m'=m) (h0:0≤i) (hi:xs[i.toNat]? = some c) (ht':t'=t) :
  Qcg P o [(x,v),(y,.lit (.int k i))] [] (.dptr c 0) []:=Qbv fun X φ a w hrd _=>by
 subst hm ht'
 obtain ⟨A,len,cap,g,hx,ok,hr⟩:=Qm6 (hrd (x,v) (by simp)) hv
 dsimp only at hx
 have hy:a.eval y=.int k i:=Qcf (hrd (y,.lit (.int k i)) (by simp))
 obtain ⟨b,of,rfl,hp⟩:=ok.elem hr hi
 have hlt:=(List.getElem?_eq_some_iff.1 hi).1
 refine ⟨_,?_,hp⟩
 simp only [execOp,h,hx,hy,Sem.run_bind,Qod ht he b of len cap k i h0 (by have:=ok.hlen; omega),Result.andThen_ok]
 rfl
theorem Q48 {x y:Operand} {t e:TypeId} {gg:Bool} {m n j j' len:Nat} {xs:List (List AV)} {k:IntKind} {i:Int} (h:o.op=.indexAddr t x y) (ht:P.underlying t=some (.slice e)) (he:TI P e gg m) (h0:0≤i) (hi:i.toNat<len) (hj:j+i.toNat=j') :
  Qcg P o [(x,.own n m j len),(y,.lit (.int k i))] [(n,.own m xs)] (.ref n m j' 0) []:=Qbv fun X φ a w hrd hbl=>by
 obtain ⟨b,hb,hown⟩:=hbl (n,.own m xs) (by simp)
 obtain ⟨cap,hc,hcm,hx⟩:=Qzm (hrd (x,.own n m j len) (by simp)) hb
 dsimp only at hx
 have hy:a.eval y=.int k i:=Qcf (hrd (y,.lit (.int k i)) (by simp))
 refine ⟨_,?_,.ref _ _ _ _ (some ⟨b,j * m+i.toNat * m,none⟩) (by rw [hb]; simp) fun b' hb'=>?_⟩
 ·simp only [execOp,h,hx,hy,Sem.run_bind,Qod ht he b (j * m) len cap k i h0 (by omega),Result.andThen_ok]
  rfl
 ·rw [hb] at hb'
  cases hb'
  rw [← hj,Nat.add_mul,Nat.add_zero]
theorem Qjq {x y:Operand} {t e:TypeId} {gg:Bool} {sz len n m j i i':Nat} {xs:List (List AV)} {k:IntKind} {q:Int} (h:o.op=.indexAddr t x y) (ht:P.underlying t=some (.array len e)) (he:TI P e gg sz) (h0:0≤q) (hq:q.toNat<len) (hi:i+q.toNat * sz=i') :
  Qcg P o [(x,.ref n m j i),(y,.lit (.int k q))] [(n,.own m xs)] (.ref n m j i') []:=Qbv fun X φ a w hrd hbl=>by
 obtain ⟨b,hb,hown⟩:=hbl (n,.own m xs) (by simp)
 have hx:a.eval x=_:=Qm5 (hrd (x,.ref n m j i) (by simp)) hb
 have hy:a.eval y=.int k q:=Qcf (hrd (y,.lit (.int k q)) (by simp))
 refine ⟨_,?_,.ref _ _ _ _ (some ⟨b,j * m+i+q.toNat * sz,none⟩) (by rw [hb]; simp) fun b' hb'=>?_⟩
 ·have h1:q<(len:Int):=by omega
  simp [execOp,h,hx,hy,Instr.indexAt,run_underlying ht,asIntOf,Instr.sureAddr,h0,h1,he.size,Addr.add_lit]
 ·rw [hb] at hb'
  cases hb'
  rw [← hi,Nat.add_assoc]
def lenA:AV→Option Nat
 | .dat _ xs=>some xs.length
 | .acc _ _ _ xs=>some xs.length
 | .own _ _ _ len=>some len
 | .gro _ _ _ len=>some len
 | .row _ _ _ _ len=>some len
 | .lit (.slice _ len _)=>some len
 | _=>none
theorem Zip {v:AV} {u:Value} {n:Nat} (h:RelV X φ w v u) (hv:lenA v=some n):∃ A cap,u=.slice A n cap:=by
 cases h with
 | dat _ _ A len cap g ok hr=>cases hv; exact ⟨A,cap,by rw [ok.hlen]⟩
 | acc _ _ _ _ A len cap g ok hr _ _=>cases hv; exact ⟨A,cap,by rw [ok.hlen]⟩
 | own _ _ _ _ A cap=>cases hv; exact ⟨A,cap,rfl⟩
 | gro _ _ _ _ A cap=>cases hv; exact ⟨A,cap,rfl⟩
 | row _ _ _ _ _ A cap=>cases hv; exact ⟨A,cap,rfl⟩
 | lit=>cases u with
  | slice A l c=>cases hv; exact ⟨A,c,rfl⟩
  | _=>cases hv
 | _=>cases hv
theorem Zaj {x:Operand} {t e:TypeId} {v:AV} {n:Nat} (h:o.op=.call { callee:=.builtin .len,args := #[x],argTypes := #[t] }) (ht:P.underlying t=some (.slice e)) (hv:lenA v=some n):Qcg P o [(x,v)] [] (.lit (.int .i64 (n:Int))) []:=Qbv fun X φ a w hrd _=>by
 obtain ⟨A,cap,hx⟩:=Zip (hrd (x,v) (by simp)) hv
 dsimp only at hx
 exact ⟨_,by simp [execOp,h,hx,resolve,invoke,builtin,Builtin.len_,run_underlying ht,goInt],.lit _⟩
theorem Qq8 (len cap:Nat) (lo hi:Option Value) (l h:Int) (hl:match lo with | none=>l=0 | some v=>∃ k,v=.int k l) (hh:match hi with | none=>h=len | some v=>∃ k,v=.int k h) (h0:0≤l) (h1:l≤h) (h2:h≤cap) (w:World) :
  (Instr.sliceBounds true len cap lo hi none).run P w=.ok (l.toNat,h.toNat,cap) w:=by
 have h4:0≤h:=by omega
 have h5:l≤((h.toNat:Nat):Int):=by omega
 have h6:l≤max h 0:=by omega
 cases lo with
 | none=>
  subst hl
  cases hi with
  | none=>subst hh; simp [Instr.sliceBounds]
  | some v=>obtain ⟨k,rfl⟩:=hh; simp [Instr.sliceBounds,Instr.sliceBound,asIntOf,h4,h2]
 | some u=>
  obtain ⟨k',rfl⟩:=hl
  cases hi with
  | none=>subst hh; simp [Instr.sliceBounds,Instr.sliceBound,asIntOf,h0,h1]
  | some v=>obtain ⟨k,rfl⟩:=hh; simp [Instr.sliceBounds,Instr.sliceBound,asIntOf,h4,h2,h0,h6]
theorem Q8b {t e:TypeId} {gg:Bool} {m:Nat} (ht:P.underlying t=some (.slice e)) (he:TI P e gg m) (A:Option Addr) (len cap:Nat) (lo hi:Option Value) (l h:Int) (hl:match lo with | none=>l=0 | some v=>∃ k,v=.int k l) (hh:match hi with | none=>h=len | some v=>∃ k,v=.int k h) (h0:0≤l) (h1:l≤h) (h2:h≤cap) (w:World) :
  (Instr.sliceAt t (.slice A len cap) lo hi none).run P w=.ok (.slice (if cap=l.toNat then A else A.map (·.add (l.toNat * m))) (h.toNat - l.toNat) (cap - l.toNat)) w:=by
 simp [Instr.sliceAt,Instr.slice,run_underlying ht,Qq8 len cap lo hi l h hl hh h0 h1 h2,he.size]
theorem Q2d {a:Act} {lo:Option Operand} {l:Int} {k:IntKind} {d:Int} (h:∀ y,lo=some y→a.eval y=.int k l) (hn:lo=none→l=d):match lo.map a.eval with | none=>l=d | some v=>∃ k,v=.int k l:=by
 cases lo with
 | none=>exact hn rfl
 | some y=>exact ⟨k,h y rfl⟩
def Qvy:Option Operand→IntKind→Int→List (Operand×AV)
 | none,_,_=>[]
 | some y,k,i=>[(y,.lit (.int k i))]
theorem Qke {x:Operand} {lo hi:Option Operand} {t e:TypeId} {gg:Bool} {m:Nat} {v:AV} {xs ys:List (List AV)} {k k':IntKind} {l hh:Int} (h:o.op=.slice t x lo hi none) (ht:P.underlying t=some (.slice e)) (he:TI P e gg m) (hv:Qs3 v=some (m,xs))
  (hl:lo=none→l=0) (hhi:hi=none→hh=xs.length) (h0:0≤l) (h1:l≤hh) (h2:hh≤xs.length) (hys:(xs.drop l.toNat).take (hh.toNat - l.toNat)=ys) :
  Qcg P o ((x,v)::(Qvy lo k l++Qvy hi k' hh)) [] (.dat m ys) []:=Qbv fun X φ a w hrd _=>by
 obtain ⟨A,len,cap,g,hx,ok,hr⟩:=Qm6 (hrd (x,v) (by simp)) hv
 dsimp only at hx
 have e1:=ok.hlen
 have e2:=ok.hcap
 have hlo:match lo.map a.eval with | none=>l=0 | some v=>∃ k,v=.int k l:=Q2d (k:=k) (fun y hy=>by subst hy; exact Qcf (hrd (y,.lit (.int k l)) (by simp [Qvy]))) hl
 have hhi':match hi.map a.eval with | none=>hh=(len:Int) | some v=>∃ k,v=.int k hh:=Q2d (k:=k') (fun y hy=>by subst hy; exact Qcf (hrd (y,.lit (.int k' hh)) (by simp [Qvy]))) (fun e=>by rw [hhi e,e1])
 have hlen:ys.length=hh.toNat - l.toNat:=by subst hys; simp; omega
 have hget:∀ j y,ys[j]? = some y→xs[l.toNat+j]? = some y:=fun j y hj=>by
  subst hys
  rw [List.getElem?_take] at hj
  split at hj
  ·rwa [List.getElem?_drop] at hj
  ·cases hj
 refine ⟨_,?_,RelV.dat m ys (if cap=l.toNat then A else A.map (·.add (l.toNat * m))) (hh.toNat - l.toNat) (cap - l.toNat) (fun j i=>g (l.toNat+j) i) ⟨hlen.symm,by omega,by have:=ok.hmost; omega,fun y hy=>?_,fun hne=>?_⟩ (fun j y hj i u hu=>hr _ y (hget j y hj) i u hu)⟩
 ·simp only [execOp,h,hx,Sem.run_bind,Option.map_none,Q8b ht he A len cap _ _ l hh hlo hhi' h0 h1 (by omega),Result.andThen_ok]
  rfl
 ·obtain ⟨j,hj,rfl⟩:=List.getElem_of_mem hy
  exact ok.hsize _ (List.mem_of_getElem? (hget j _ (List.getElem?_eq_getElem hj)))
 ·have hpos:0<ys.length:=List.length_pos_iff.2 hne
  have hxne:xs ≠ []:=fun e=>by
   rw [e] at h2
   simp at h2
   omega
  obtain ⟨b,of,hA,hc⟩:=ok.hcells hxne
  refine ⟨b,of+l.toNat * m,?_,fun j y hj i hi=>?_⟩
  ·rw [if_neg (by omega),hA]
   simp [Addr.add_lit]
  ·have:=hc _ y (hget j y hj) i hi
   rw [Nat.add_mul,← Nat.add_assoc] at this
   exact this
def upd (φ:Nat→FSlot) (n:Nat) (s:FSlot):Nat→FSlot:=fun k=>if k=n then s else φ k
theorem Evo.alloc {n:Nat} (hn:φ n=.unused) (hlt:∀ n b,(φ n).lies b→b<w.heap.size) (ob:Obj):Evo X φ w (upd φ n (.own w.heap.size)) (w.alloc ob):=by
 have ne:∀ k,φ k ≠ .unused→k ≠ n:=fun k hk e=>hk (e ▸ hn)
 refine ⟨rfl,rfl,rfl,by simp,fun b hb _=>heap_alloc_old w ob hb,fun b ⟨k,hk⟩=>?_,fun b off hd=>⟨⟨by simp; have:=hd.lt; omega,hd.hid,fun k hk=>?_,fun k L hk=>?_,fun k Y hk=>?_,fun k bs q hk=>?_⟩,World.cell?_of_block (heap_alloc_old w ob hd.lt)⟩,fun k hk=>?_,fun k b hk=>?_,fun k t hk=>?_,fun k Y hk=>?_,fun k bs hk=>?_,fun k b hk _=>?_⟩
 ·unfold upd at hk
  split at hk
  ·obtain rfl:=Qfh hk
   exact .inr (Nat.le_refl _)
  ·exact .inl ⟨k,hk⟩
 ·unfold upd at hk
  split at hk
  ·cases hk
   exact absurd hd.lt (Nat.lt_irrefl _)
  ·exact hd.own k hk
 ·unfold upd at hk
  split at hk
  ·cases hk
  ·exact hd.tok k L hk
 ·unfold upd at hk
  split at hk
  ·cases hk
  ·exact hd.far k Y hk
 ·unfold upd at hk
  split at hk
  ·cases hk
  ·exact hd.mat k bs q hk
 ·rw [upd,if_neg (ne k (by rw [hk]; simp))]; exact hk
 ·rw [upd,if_neg (ne k (by rw [hk]; simp))]; exact .inl hk
 ·rw [upd,if_neg (ne k (by rw [hk]; simp))]
  exact .inr ⟨hk,fun b L e=>heap_alloc_old w ob (hlt k b (.tok (L:=L) (by rw [hk,e])))⟩
 ·rw [upd,if_neg (ne k (by rw [hk]; simp))]; exact .inr ⟨Y,hk⟩
 ·rw [upd,if_neg (ne k (by rw [hk]; simp))]; exact .inr ⟨bs,hk,.refl bs⟩
 ·exact .same (heap_alloc_old w ob (hlt k b (.own hk)))
theorem Evo.alloc0 (hlt:∀ n b,(φ n).lies b→b<w.heap.size) (ob:Obj):Evo X φ w φ (w.alloc ob):=
 ⟨rfl,rfl,rfl,by simp,fun b hb _=>heap_alloc_old w ob hb,fun _ h=>.inl h,fun b _ hd=>⟨⟨by simp; have:=hd.lt; omega,hd.hid,hd.own,hd.tok,hd.far,hd.mat⟩,World.cell?_of_block (heap_alloc_old w ob hd.lt)⟩,fun _ h=>h,fun _ _ h=>.inl h,
  fun k _ hk=>.inr ⟨hk,fun b L e=>heap_alloc_old w ob (hlt k b (.tok (L:=L) (by rw [hk,e])))⟩,fun _ Y h=>.inr ⟨Y,h⟩,fun _ bs h=>.inr ⟨bs,h,.refl bs⟩,fun n b hn _=>.same (heap_alloc_old w ob (hlt n b (.own hn)))⟩
theorem Qpt {n:Nat} (hd:Qb9 φ) (hlt:∀ n b,(φ n).lies b→b<w.heap.size):Qb9 (upd φ n (.own w.heap.size)):=by
 intro k k' b hk hk'
 unfold upd at hk hk'
 split at hk<;>split at hk'
 ·simp_all
 ·obtain rfl:=Qfh hk
  have:=hlt _ _ hk'
  omega
 ·obtain rfl:=Qfh hk'
  have:=hlt _ _ hk
  omega
 ·exact hd k k' b hk hk'
theorem Qsh {rd:List (Operand×AV)} {n m:Nat} {xs:List (List AV)} {r:AV}
  (h:∀ (X:Nat→Nat→Prop) (φ:Nat→FSlot) (a:Act) (w:World),(∀ p ∈ rd,RelV X φ w p.2 (a.eval p.1))→∃ v cs ty,(execOp a.eval o).run P w=.ok (.value v) (w.alloc (.cells cs ty))∧xs.length * m≤cs.size∧(∀ x ∈ xs,x.length=m) ∧
   (∀ j x,xs[j]? = some x→∀ i u,x[i]? = some u→RelV X φ w u (cs.getD (j * m+i) undef))∧(∀ φ' w',φ' n=.own w.heap.size→RelV X φ' w' r v)):Qcg P o rd [(n,.unused)] r [(n,.own m xs)]:=by
 intro X φ a w hrd hbl hd hX hlt next Q k
 obtain ⟨v,cs,ty,hrun,h1,h2,h3,h4⟩:=h X φ a w hrd
 have hn:φ n=.unused:=hbl (n,.unused) (by simp)
 have evo:=Evo.alloc (X:=X) hn hlt (.cells cs ty)
 refine Qgp hrun ?_
 refine k v (upd φ n (.own w.heap.size)) _ (h4 _ _ (by simp [upd])) (fun p hp=>?_) (Qpt hd hlt) (fun k hk=>?_) (fun b hb _=>heap_alloc_old w _ hb) evo
 ·simp at hp
  subst hp
  refine ⟨w.heap.size,by simp [upd],⟨cs,ty,heap_alloc_new w _,h1,h2,fun j x hj i u hu=>(h3 j x hj i u hu).evo evo⟩,fun off hx=>?_⟩
  exact absurd (hX _ _ hx) (Nat.lt_irrefl _)
 ·simp at hk
  simp [upd,hk]
def TZ (P:Program) (t:TypeId) (zs:List Value):Prop:=∃ i z,P.info? t=some i∧i.zero=some z∧z.cells.toList=zs
theorem TZ.run {t:TypeId} {zs:List Value} (h:TZ P t zs) (w:World):∃ z,(zeroValue t).run P w=.ok z w∧z.cells.toList=zs:=by
 obtain ⟨i,z,h1,h2,h3⟩:=h
 exact ⟨z,by simp [zeroValue,typeInfo,h1,h2],h3⟩
theorem Q0o {t:TypeId} {zs:List Value} {n m:Nat} (h:o.op=.alloc t) (hz:TZ P t zs) (hm:zs.length=m):Qcg P o [] [(n,.unused)] (.ref n m 0 0) [(n,.own m [zs.map AV.lit])]:=Qsh fun X φ a w _=>by
 obtain ⟨z,hz1,hz2⟩:=hz.run w
 have hsz:z.cells.size=m:=by rw [← hm,← hz2]; simp
 refine ⟨.pointer (some ⟨w.heap.size,0,none⟩),z.cells,t,?_,by simp [hsz],by simp [hm],fun j x hj i u hu=>?_,fun φ' w' hf=>.ref _ _ _ _ _ (by rw [hf]; simp) fun b hb=>?_⟩
 ·simp only [execOp,h,Instr.alloc,Sem.run_bind,hz1,Result.andThen_ok,newVar,newRow,newObj]
  rfl
 ·cases j with
  | zero=>
   simp at hj
   subst hj
   rw [List.getElem?_map] at hu
   cases hzi:zs[i]? with
   | none=>rw [hzi] at hu; cases hu
   | some c=>
    rw [hzi] at hu
    cases hu
    have:z.cells.getD (0 * m+i) undef=c:=by
     have h5:z.cells.toList[i]? = some c:=by rw [hz2]; exact hzi
     rw [Array.getD_eq_getD_getElem?]
     simp only [Nat.zero_mul,Nat.zero_add]
     rw [← Array.getElem?_toList,h5]; rfl
    rw [this]
    exact .lit c
  | succ j=>simp at hj
 ·rw [hf] at hb
  cases hb
  simp
theorem Zak {t:TypeId} {x:Operand} {v:AV} {n m:Nat} {c:List AV} (h:o.op=.box t x) (h1:(stA v).all AV.one=true) (hc:stA v=c) (hm:c.length=m):Qcg P o [(x,v)] [(n,.unused)] (.ref n m 0 0) [(n,.own m [c])]:=Qsh fun X φ a w hrd=>by
 obtain ⟨h2,_,h3⟩:=Qu4 (hrd (x,v) (by simp)) h1
 dsimp only at h2 h3
 rw [hc] at h2 h3
 refine ⟨.pointer (some ⟨w.heap.size,0,none⟩),(a.eval x).cells,t,?_,by simp [h2,hm],by simp [hm],fun j z hj i u hu=>?_,fun φ' w' hf=>.ref _ _ _ _ _ (by rw [hf]; simp) fun b hb=>?_⟩
 ·simp only [execOp,h,Instr.box,Sem.run_bind,newVar,newRow,newObj]
  rfl
 ·cases j with
  | zero=>
   simp at hj
   subst hj
   have:=h3 i u hu
   rw [List.getD_eq_getElem?_getD,Array.getElem?_toList] at this
   rw [Array.getD_eq_getD_getElem?]
   simpa using this
  | succ j=>simp at hj
 ·rw [hf] at hb
  cases hb
  simp
end
end Go.Proofs.YtmbhnllcfmiajaaGreat
namespace Go.Proofs.YtmbhnllcfmiajaaGreat
open Go.RowKit
section
variable {P : Program} {o : Oper} {X : Nat → Nat → Prop} {φ : Nat → FSlot} {w : World} {r : AV}
structure TE (P:Program) (e:TypeId) (m bytes:Nat):Prop where
 inf:∃ i z,P.info? e=some i∧i.zero=some z∧i.size=m∧i.bytes=bytes∧z.cells.size=m
 pos:0<m
theorem Qpo {t ty e:TypeId} {m bytes:Nat} (ht:P.underlying t=some (.slice e)) (he:TE P e m bytes) (sv:Value) (n:Nat) (olds:List Value) (hol:olds.length=n * m)
  (hs:((∃ A,sv=.slice A 0 0)∧n=0)∨∃ g cap cur,sv=.slice (some ⟨g,0,none⟩) n cap∧w.heap[g]? = some (.cells cur e (0,0))∧cur.size=cap * m∧n≤cap∧cap≤maxLen∧cur.toList.take (n * m)=olds)
  (a:Addr) (k c:Nat) (news:List Value) (hl:news.length=k * m) (hnews:∀ (j:Nat) u,news[j]? = some u→w.cell? (a.add j)=some u) (h1:∀ u ∈ news,u.oneCell'=true) (hk:0<k) (hb:(n+k) * bytes≤140737488355328) (h63:n+k≤maxLen) :
  ∃ b' cap' cur' w',(Builtin.append_ #[t,t] ty #[sv,.slice (some a) k c]).run P w=.ok (.slice (some ⟨b',0,none⟩) (n+k) cap') w'∧cur'.size=cap' * m∧n+k≤cap'∧cap'≤maxLen∧cur'.toList.take ((n+k) * m)=olds++news ∧
   ((∃ cap,sv=.slice (some ⟨b',0,none⟩) n cap∧n+k≤cap∧w'=w.setRow b' cur')∨(b'=w.heap.size∧w'=w.drew.alloc (.cells cur' e))):=by
 obtain ⟨i,z,hi,hz,rfl,rfl,hzs⟩:=he.inf
 have hsmall:n+k≤9223372036854775807:=by simp only [maxLen] at h63; omega
 have hlen:(olds++news).length=(n+k) * i.size:=by rw [List.length_append,hol,hl,Nat.add_mul]
 have grown:∀ old:Nat,old<n+k→(olds.toArray++news.toArray++Builtin.zeroCells z.cells (grownCap w (n+k) old e - (n+k))).size=grownCap w (n+k) old e * i.size ∧
   (olds.toArray++news.toArray++Builtin.zeroCells z.cells (grownCap w (n+k) old e - (n+k))).toList.take ((n+k) * i.size)=olds++news:=by
  intro old _
  have hge:=grownCap_ge w (n+k) old e
  refine ⟨?_,?_⟩
  ·simp only [Array.size_append,List.size_toArray,size_zeroCells,hzs,hol,hl,← Nat.add_mul]
   congr 1
   omega
  ·simp only [Array.toList_append,List.append_assoc]
   rw [← List.append_assoc,← hlen]
   exact List.take_left
 rcases hs with ⟨⟨A,rfl⟩,rfl⟩ | ⟨g,cap,cur,rfl,hg,hcs,hnc,hcm,htake⟩
 ·have hx:olds=[]:=List.eq_nil_of_length_eq_zero (by simpa using hol)
  subst hx
  cases A with
  | some ad=>
   have hr:=run_append_grow (P:=P) w t ty e i z ht hi hz ad 0 0 [] (by simp) (by simp) a k c news hl hnews (by omega) (by omega) (growslice_fits (by omega) hb)
   obtain ⟨g1,g2⟩:=grown 0 (by omega)
   exact ⟨_,_,_,_,hr,g1,grownCap_ge w _ _ e,grownCap_le_maxLen w _ _ e h63,g2,.inr ⟨rfl,rfl⟩⟩
  | none=>
   have hr:=run_append_nil (P:=P) w t ty e i z ht hi hz a k c news hl hnews hk (by omega) (by have hb':=hb; simp only [Nat.zero_add] at hb'; omega)
   obtain ⟨g1,g2⟩:=grown 0 (by omega)
   simp only [Nat.zero_add,List.nil_append,Array.empty_append] at g1 g2 hr ⊢
   exact ⟨_,_,_,_,hr,g1,grownCap_ge w k 0 e,grownCap_le_maxLen w k 0 e (by simpa using h63),g2,.inr ⟨rfl,rfl⟩⟩
 ·by_cases hroom:n+k≤cap
  ·have hfit:n * i.size+news.length≤cur.size:=by rw [hl,hcs,← Nat.add_mul]; exact Nat.mul_le_mul_right _ hroom
   have hr:=run_append_room (P:=P) w t ty e i ht hi g n cap cur hg a k c news hl hnews h1 hroom hfit
   refine ⟨_,_,_,_,hr,?_,hroom,hcm,?_,.inl ⟨cap,rfl,hroom,rfl⟩⟩
   ·simp only [List.size_toArray,List.length_append,List.length_take,List.length_drop,Array.length_toList]
    omega
   ·rw [htake,← hlen]
    exact List.take_left
  ·have holds:∀ (j:Nat) u,olds[j]? = some u→w.cell? ((⟨g,0,none⟩:Addr).add j)=some u:=fun j u hu=>by
    rw [Addr.add_lit,Nat.zero_add,cell_of_row w g j cur e (0,0) hg]
    rw [← htake,List.getElem?_take] at hu
    split at hu
    ·simpa using hu
    ·cases hu
   have hr:=run_append_grow (P:=P) w t ty e i z ht hi hz ⟨g,0,none⟩ n cap olds hol holds a k c news hl hnews (by omega) (by omega) (growslice_fits (by omega) hb)
   obtain ⟨g1,g2⟩:=grown cap (by omega)
   exact ⟨_,_,_,_,hr,g1,grownCap_ge w _ _ e,grownCap_le_maxLen w _ _ e h63,g2,.inr ⟨rfl,rfl⟩⟩
theorem Qr8 {m:Nat} {xs:List (List AV)} {A:Option Addr} {len cap:Nat} {g:Nat→Nat→Value} (ok:DatOK X φ w m xs A len cap g) (hr:∀ j x,xs[j]? = some x→∀ i a,x[i]? = some a→RelV X φ w a (g j i)) (hm:0<m) (hne:xs ≠ []) (h1:(xs.all fun x=>x.all AV.one)=true) :
  ∃ (ad:Addr) (news:List Value),A=some ad∧news.length=len * m∧(∀ (j:Nat) u,news[j]? = some u→w.cell? (ad.add j)=some u)∧(∀ u ∈ news,u.oneCell'=true)∧∀ j i,j<xs.length→i<m→news[j * m+i]? = some (g j i):=by
 obtain ⟨b,of,hA,hc⟩:=ok.hcells hne
 have key:∀ k,k<xs.length * m→k / m<xs.length∧k % m<m∧k=k / m * m+k % m:=fun k hk=>⟨(Nat.div_lt_iff_lt_mul hm).2 hk,Nat.mod_lt _ hm,by rw [Nat.mul_comm]; exact (Nat.div_add_mod k m).symm⟩
 refine ⟨⟨b,of,none⟩,(List.range (xs.length * m)).map fun k=>g (k / m) (k % m),hA,by simp [ok.hlen],fun j u hj=>?_,fun u hu=>?_,fun j i hj hi=>?_⟩
 ·simp only [List.getElem?_map] at hj
  cases hjr:(List.range (xs.length * m))[j]? with
  | none=>rw [hjr] at hj; cases hj
  | some q=>
   rw [hjr] at hj
   cases hj
   have hlt:=(List.getElem?_eq_some_iff.1 hjr).1
   simp only [List.length_range] at hlt
   have:q=j:=by
    rw [List.getElem?_range hlt] at hjr
    cases hjr; rfl
   subst this
   obtain ⟨k1,k2,k3⟩:=key q hlt
   have:=(hc (q / m) _ (List.getElem?_eq_getElem k1) (q % m) k2).2
   rw [Addr.add_lit]
   rw [Nat.add_assoc,← k3] at this
   exact this
 ·simp only [List.mem_map,List.mem_range] at hu
  obtain ⟨k,hk,rfl⟩:=hu
  obtain ⟨k1,k2,_⟩:=key k hk
  have hx:=List.all_eq_true.1 h1 _ (List.getElem_mem k1)
  have hsz:=ok.hsize _ (List.getElem_mem k1)
  have hi':k % m<xs[k / m].length:=by omega
  exact AV.one_spec (hr _ _ (List.getElem?_eq_getElem k1) _ _ (List.getElem?_eq_getElem hi')) (List.all_eq_true.1 hx _ (List.getElem_mem hi'))
 ·have hlt:j * m+i<xs.length * m:=Qd6 hj hi
  rw [List.getElem?_map,List.getElem?_range hlt]
  have e1:(j * m+i) / m=j:=by
   rw [Nat.mul_comm,Nat.mul_add_div hm]
   simp [Nat.div_eq_of_lt hi]
  have e2:(j * m+i) % m=i:=by
   rw [Nat.mul_comm,Nat.mul_add_mod]
   exact Nat.mod_eq_of_lt hi
  simp [e1,e2]
theorem Q5e {n0:Option Nat} {n b' L':Nat} {e:TypeId} {cur':Array Value} {w':World} (hd:Qb9 φ) (hlt:∀ n b,(φ n).lies b→b<w.heap.size) (hn:φ n=.unused)
  (hc:(∃ (k L:Nat) (cur:Array Value),n0=some k∧φ k=.tok (some (b',L))∧w.heap[b']? = some (.cells cur e (0,0))∧L≤L'∧w'=w.setRow b' cur'∧∀ off,off<L→cur'[off]? = cur[off]?)∨(b'=w.heap.size∧w'=w.drew.alloc (.cells cur' e)∧∀ k,n0=some k→∃ t,φ k=.tok t)) :
  Evo X φ w (fun k=>if k=n then .tok (some (b',L')) else if some k=n0 then .dead else φ k) w'∧Qb9 (fun k=>if k=n then FSlot.tok (some (b',L')) else if some k=n0 then .dead else φ k):=by
 have ne:∀ k,φ k ≠ .unused→k ≠ n:=fun k hk e=>hk (e ▸ hn)
 have only:∀ k,(φ k).lies b'→some k=n0∨k=n:=fun k hk=>by
  rcases hc with ⟨k0,L,cur,rfl,h1,_⟩ | ⟨rfl,_⟩
  ·exact .inl (congrArg some (hd k k0 b' hk (.tok h1)))
  ·exact absurd (hlt k _ hk) (Nat.lt_irrefl _)
 have dead0:∀ k,some k=n0→∃ t,φ k=.tok t:=fun k hk=>by
  rcases hc with ⟨k0,L,cur,h0,h1,_⟩ | ⟨_,_,h2⟩
  ·rw [h0] at hk; cases hk; exact ⟨_,h1⟩
  ·exact h2 k hk.symm
 have hother:∀ b,b ≠ b'→b<w.heap.size→w'.heap[b]? = w.heap[b]? := fun b hb hbl=>by
  rcases hc with ⟨_,_,_,_,_,_,_,rfl,_⟩ | ⟨_,rfl,_⟩
  ·exact setRow_other w b' b cur' hb
  ·exact heap_alloc_old w.drew _ hbl
 have hsize:w.heap.size≤w'.heap.size:=by
  rcases hc with ⟨_,_,_,_,_,_,_,rfl,_⟩ | ⟨_,rfl,_⟩<;>simp
 refine ⟨⟨?_,?_,?_,hsize,fun b hb hnb=>?_,fun b ⟨k,hk⟩=>?_,fun b off hdat=>?_,fun k hk=>?_,fun k b hk=>?_,fun k t hk=>?_,fun k Y hk=>?_,fun k bs hk=>?_,fun k b hk _=>?_⟩,fun k k' b hk hk'=>?_⟩
 ·rcases hc with ⟨_,_,_,_,_,_,_,rfl,_⟩ | ⟨_,rfl,_⟩<;>rfl
 ·rcases hc with ⟨_,_,_,_,_,_,_,rfl,_⟩ | ⟨_,rfl,_⟩<;>rfl
 ·rcases hc with ⟨_,_,_,_,_,_,_,rfl,_⟩ | ⟨_,rfl,_⟩<;>rfl
 ·refine hother b (fun e=>?_) hb
  rcases hc with ⟨k0,L,cur,_,h1,_⟩ | ⟨h1,_⟩
  ·exact hnb ⟨k0,.tok (L:=L) (by rw [h1,e])⟩
  ·omega
 ·dsimp only at hk
  split at hk
  ·obtain ⟨L,e⟩:=Qla hk
   cases e
   rcases hc with ⟨k0,L,cur,_,h1,_⟩ | ⟨h1,_⟩
   ·exact .inl ⟨k0,.tok h1⟩
   ·exact .inr (by omega)
  ·split at hk
   ·exact (Qa0 hk).elim
   ·exact .inl ⟨k,hk⟩
 ·refine ⟨⟨Nat.lt_of_lt_of_le hdat.lt hsize,hdat.hid,fun k hk=>?_,fun k L hk=>?_,fun k Y hk=>?_,fun k bs q hk=>?_⟩,?_⟩
  ·split at hk
   ·cases hk
   ·split at hk
    ·cases hk
    ·exact hdat.own k hk
  ·split at hk
   ·cases hk
    rcases hc with ⟨k0,L,cur,_,h1,_,h3,_⟩ | ⟨h1,_⟩
    ·exact Nat.lt_of_lt_of_le (hdat.tok k0 L h1) h3
    ·exact absurd hdat.lt (by omega)
   ·split at hk
    ·cases hk
    ·exact hdat.tok k L hk
  ·split at hk
   ·cases hk
   ·split at hk
    ·cases hk
    ·exact hdat.far k Y hk
  ·split at hk
   ·cases hk
   ·split at hk
    ·cases hk
    ·exact hdat.mat k bs q hk
  ·by_cases e:b=b'
   ·subst e
    rcases hc with ⟨k0,L,cur,_,h1,h2,h3,rfl,h4⟩ | ⟨h1,_⟩
    ·have ho:=hdat.tok k0 L h1
     rw [cell_of_row w b off cur _ _ h2,cell_of_row _ b off cur' _ _ (setRow_heap w b cur cur' _ _ h2)]
     exact h4 off ho
    ·exact absurd hdat.lt (by omega)
   ·exact World.cell?_of_block (hother b e hdat.lt)
 ·rw [if_neg (ne k (by rw [hk]; simp)),if_neg (fun e=>by obtain ⟨t,ht⟩:=dead0 k e; rw [hk] at ht; cases ht)]
  exact hk
 ·rw [if_neg (ne k (by rw [hk]; simp)),if_neg (fun e=>by obtain ⟨t,ht⟩:=dead0 k e; rw [hk] at ht; cases ht)]
  exact .inl hk
 ·rw [if_neg (ne k (by rw [hk]; simp))]
  by_cases e:some k=n0
  ·rw [if_pos e]; exact .inl rfl
  ·rw [if_neg e]
   refine .inr ⟨hk,fun b L ht=>?_⟩
   subst ht
   have hl:(φ k).lies b:=.tok hk
   refine hother b (fun e'=>?_) (hlt k b hl)
   subst e'
   rcases only k hl with h | h
   ·exact e h
   ·exact ne k (by rw [hk]; simp) h
 ·rw [if_neg (ne k (by rw [hk]; simp)),if_neg (fun e=>by obtain ⟨t,ht⟩:=dead0 k e; rw [hk] at ht; cases ht)]
  exact .inr ⟨Y,hk⟩
 ·rw [if_neg (ne k (by rw [hk]; simp)),if_neg (fun e=>by obtain ⟨t,ht⟩:=dead0 k e; rw [hk] at ht; cases ht)]
  exact .inr ⟨bs,hk,.refl bs⟩
 ·have hl:(φ k).lies b:=.own hk
  refine .same (hother b (fun e'=>?_) (hlt k b hl))
  subst e'
  rcases only k hl with h | h
  ·obtain ⟨t,ht⟩:=dead0 k h; rw [hk] at ht; cases ht
  ·exact ne k (by rw [hk]; simp) h
 ·dsimp only at hk hk'
  split at hk<;>split at hk'
  ·simp_all
  ·obtain ⟨L,e⟩:=Qla hk
   cases e
   split at hk'
   ·exact (Qa0 hk').elim
   ·rcases only k' hk' with h | h<;>contradiction
  ·obtain ⟨L,e⟩:=Qla hk'
   cases e
   split at hk
   ·exact (Qa0 hk).elim
   ·rcases only k hk with h | h<;>contradiction
  ·split at hk
   ·exact (Qa0 hk).elim
   ·split at hk'
    ·exact (Qa0 hk').elim
    ·exact hd k k' b hk hk'
inductive Base (e:TypeId) (m:Nat):AV→List (List AV)→Option Nat→Prop where
 | nil:Base e m (.lit (.slice none 0 0)) [] none
 | acc (n:Nat) (xs:List (List AV)):Base e m (.acc n e m xs) xs (some n)
def Qsc:Option Nat→List (Nat×Slot)
 | none=>[]
 | some n=>[(n,.tok)]
def Qic:Option Nat→List (Nat×Slot)
 | none=>[]
 | some n=>[(n,.dead)]
theorem Qyc {x y:Operand} {t e:TypeId} {m m' bytes:Nat} {v u:AV} {xs ys:List (List AV)} {n0:Option Nat} {n:Nat} (h:o.op=.call { callee:=.builtin .append,args := #[x,y],argTypes := #[t,t] }) (ht:P.underlying t=some (.slice e)) (he:TE P e m bytes)
  (hv:Base e m v xs n0) (hu:Qs3 u=some (m',ys)) (hm':m'=m) (hne:ys ≠ []) (h1:(ys.all fun y=>y.all AV.one)=true) (hb:(xs.length+ys.length) * bytes≤140737488355328) (h63:xs.length+ys.length≤maxLen) :
  Qcg P o [(x,v),(y,u)] (Qsc n0++[(n,.unused)]) (.acc n e m (xs++ys)) (Qic n0++[(n,.tok)]):=by
 subst hm'
 intro X φ a w hrd hbl hd hX hlt next Q k
 have hn:φ n=.unused:=hbl (n,.unused) (by simp)
 have hpos:=he.pos
 obtain ⟨A,len,cap,g,hy,ok,hr⟩:=Qm6 (hrd (y,u) (by simp)) hu
 dsimp only at hy
 obtain ⟨ad,news,rfl,hnl,hnc,hn1,hng⟩:=Qr8 ok hr hpos hne h1
 have elen:=ok.hlen
 subst elen
 have hx:=hrd (x,v) (by simp)
 dsimp only at hx
 obtain ⟨olds,gx,hol,hog,hbase,hrx,hsz⟩:∃ (olds:List Value) (gx:Nat→Nat→Value),olds.length=xs.length * m'∧(∀ j i,j<xs.length→i<m'→olds[j * m'+i]? = some (gx j i)) ∧
   ((n0=none∧xs=[]∧∃ A,a.eval x=.slice A 0 0)∨∃ k0,n0=some k0∧((φ k0=.tok none∧xs=[]∧∃ A,a.eval x=.slice A 0 0)∨∃ b cap cur,φ k0=.tok (some (b,xs.length * m'))∧a.eval x=.slice (some ⟨b,0,none⟩) xs.length cap∧w.heap[b]? = some (.cells cur e (0,0))∧cur.size=cap * m'∧xs.length≤cap∧cap≤maxLen∧cur.toList.take (xs.length * m')=olds∧∀ off,¬ X b off)) ∧
   (∀ j z,xs[j]? = some z→∀ i c,z[i]? = some c→RelV X φ w c (gx j i))∧(∀ z ∈ xs,z.length=m'):=by
  cases hv with
  | nil=>
   refine ⟨[],fun _ _=>undef,by simp,by simp,.inl ⟨rfl,rfl,_,Qcf hx⟩,by simp,by simp⟩
  | acc k0 xs=>
   obtain ⟨T,hT,hT2⟩:=hbl (k0,.tok) (by simp [Qsc])
   cases hxe:a.eval x with
   | slice A len cap=>
    rw [hxe] at hx
    cases hx with
    | acc _ _ _ _ _ _ _ gx okx hrx hnx htip=>
     have tip:=htip T hT
     unfold Tip at tip
     cases T with
     | none=>
      obtain ⟨rfl,rfl⟩:=tip
      have hxs:xs=[]:=List.eq_nil_of_length_eq_zero okx.hlen.symm
      subst hxs
      exact ⟨[],gx,by simp,by simp,.inr ⟨k0,rfl,.inl ⟨hT,rfl,_,rfl⟩⟩,by simp,by simp⟩
     | some p=>
      obtain ⟨b,L⟩:=p
      obtain ⟨rfl,rfl,cur,hc1,hc2,hc3⟩:=tip
      have el:=okx.hlen
      subst el
      refine ⟨cur.toList.take (xs.length * m'),gx,?_,fun j i hj hi=>?_,.inr ⟨k0,rfl,.inr ⟨b,cap,cur,hT,rfl,hc1,hc2,okx.hcap,hc3,rfl,(hT2 b _ rfl).2⟩⟩,hrx,okx.hsize⟩
      ·have:=Nat.mul_le_mul_right m' okx.hcap
       simp; omega
      ·have hne':xs ≠ []:=fun e=>by rw [e] at hj; simp at hj
       obtain ⟨b2,o2,hA,hc⟩:=okx.hcells hne'
       cases hA
       have h4:=(hc j _ (List.getElem?_eq_getElem hj) i hi).2
       rw [Nat.zero_add,cell_of_row w b _ cur _ _ hc1] at h4
       rw [List.getElem?_take,if_pos (Qd6 hj hi)]
       simpa using h4
   | _=>rw [hxe] at hx; cases hx
 have hsv:((∃ A,a.eval x=.slice A 0 0)∧xs.length=0)∨∃ g cap cur,a.eval x=.slice (some ⟨g,0,none⟩) xs.length cap∧w.heap[g]? = some (.cells cur e (0,0))∧cur.size=cap * m'∧xs.length≤cap∧cap≤maxLen∧cur.toList.take (xs.length * m')=olds:=by
  rcases hbase with ⟨_,rfl,h3⟩ | ⟨k0,_,⟨_,rfl,h3⟩ | ⟨b,cap,cur,h2,h3,h4,h5,h6,h7,h8,_⟩⟩
  ·exact .inl ⟨h3,rfl⟩
  ·exact .inl ⟨h3,rfl⟩
  ·exact .inr ⟨b,cap,cur,h3,h4,h5,h6,h7,h8⟩
 obtain ⟨b',cap',cur',w',hrun,c1,c2,c3,c4,c5⟩:=Qpo (P:=P) (ty:=o.type) ht he (a.eval x) xs.length olds hol hsv ad ys.length cap news hnl hnc hn1 (List.length_pos_iff.2 hne) hb h63
 have hexec:(execOp a.eval o).run P w=.ok (.value (.slice (some ⟨b',0,none⟩) (xs.length+ys.length) cap')) w':=by
  simp only [execOp,h,resolve,invoke,builtin,Sem.run_bind,Sem.run_pure,Result.andThen_ok,List.map_toArray,List.map_cons,List.map_nil,hy,hrun]
 have hcl:cur'.toList.length=cap' * m':=by simpa using c1
 have cget:∀ off,off<(xs.length+ys.length) * m'→cur'[off]? = (olds++news)[off]? := fun off ho=>by
  rw [← c4,List.getElem?_take,if_pos ho,Array.getElem?_toList]
 have hL:xs.length * m'≤(xs.length+ys.length) * m':=Nat.mul_le_mul_right m' (by omega)
 have hcase:(∃ (k L:Nat) (cur:Array Value),n0=some k∧φ k=.tok (some (b',L))∧w.heap[b']? = some (.cells cur e (0,0))∧L≤(xs.length+ys.length) * m'∧w'=w.setRow b' cur'∧∀ off,off<L→cur'[off]? = cur[off]?)∨(b'=w.heap.size∧w'=w.drew.alloc (.cells cur' e)∧∀ k,n0=some k→∃ t,φ k=.tok t):=by
  rcases c5 with ⟨capx,h3,hroom,h4⟩ | ⟨h3,h4⟩
  ·rcases hbase with ⟨_,_,h6⟩ | ⟨k0,h5,⟨_,_,h6⟩ | ⟨b,cap,cur,h2,h6,h7,h8,h9,h10,h11,_⟩⟩
   ·obtain ⟨A,h6⟩:=h6
    rw [h6] at h3
    have hc:=(Value.slice.inj h3).2.2
    have:=List.length_pos_iff.2 hne
    omega
   ·obtain ⟨A,h6⟩:=h6
    rw [h6] at h3
    have hc:=(Value.slice.inj h3).2.2
    have:=List.length_pos_iff.2 hne
    omega
   ·rw [h6] at h3
    cases h3
    refine .inl ⟨k0,_,cur,h5,h2,h7,hL,h4,fun off ho=>?_⟩
    rw [cget off (by omega),List.getElem?_append_left (by omega),← h11,List.getElem?_take,if_pos ho,Array.getElem?_toList]
  ·refine .inr ⟨h3,h4,fun k hk=>?_⟩
   rcases hbase with ⟨h5,_⟩ | ⟨k0,h5,⟨h2,_⟩ | ⟨b,cap,cur,h2,_⟩⟩
   ·rw [h5] at hk; cases hk
   ·rw [h5] at hk; cases hk; exact ⟨_,h2⟩
   ·rw [h5] at hk; cases hk; exact ⟨_,h2⟩
 obtain ⟨evo,hd'⟩:=Q5e (X:=X) (L':=(xs.length+ys.length) * m') hd hlt hn hcase
 have hheap:w'.heap[b']? = some (.cells cur' e (0,0)):=by
  rcases hcase with ⟨_,_,cur,_,_,h3,_,rfl,_⟩ | ⟨rfl,rfl,_⟩
  ·exact setRow_heap w b' cur cur' _ _ h3
  ·exact heap_alloc_new w.drew _
 have hXb:∀ off,¬ X b' off:=fun off hx'=>by
  rcases hbase with hb0 | ⟨k0,h5,hb1⟩
  ·rcases hcase with ⟨k,L,cur,h6,_⟩ | ⟨h6,_⟩
   ·rw [hb0.1] at h6; cases h6
   ·have:=hX _ _ hx'; omega
  ·rcases hcase with ⟨k,L,cur,h6,h7,_⟩ | ⟨h6,_⟩
   ·rw [h5] at h6
    cases h6
    rcases hb1 with ⟨h8,_⟩ | ⟨b,cap,cur2,h8,_,_,_,_,_,_,h9⟩
    ·rw [h8] at h7; cases h7
    ·rw [h8] at h7; cases h7; exact h9 off hx'
   ·have:=hX _ _ hx'; omega
 have hown:∀ k,(fun k=>if k=n then FSlot.tok (some (b',(xs.length+ys.length) * m')) else if some k=n0 then .dead else φ k) k ≠ .own b':=fun k hk=>by
  have:=hd' k n b' (.inl hk) (.tok (if_pos rfl))
  subst this
  simp at hk
 refine Qgp hexec ?_
 refine k _ _ w' (RelV.acc n e m' (xs++ys) _ _ _ (fun j i=>cur'.getD (j * m'+i) undef) ⟨by simp,c2,c3,fun z hz=>?_,fun _=>⟨b',0,rfl,fun j z hj i hi=>?_⟩⟩ (fun j z hj i u hu=>?_) (by simp) (fun t ht=>?_)) (fun p hp=>?_) hd' (fun q hq=>?_) (fun b hb hfr=>?_) evo
 ·rcases List.mem_append.1 hz with hz | hz
  ·exact hsz z hz
  ·exact ok.hsize z hz
 ·have hjl:j<xs.length+ys.length:=by simpa using (List.getElem?_eq_some_iff.1 hj).1
  have hoff:=Qd6 hjl hi
  have hlt':j * m'+i<cur'.size:=by
   have:=Nat.mul_le_mul_right m' c2
   omega
  rw [Nat.zero_add]
  refine ⟨⟨(Array.getElem?_eq_some_iff.1 hheap).1,hXb _,hown,fun q L hq=>?_,fun q Y hq hy=>?_,fun q bs z hq hz=>?_⟩,?_⟩
  ·have hqn:=hd' q n b' (.tok hq) (.tok (if_pos rfl))
   subst hqn
   simp at hq
   omega
  ·have hqn:=hd' q n b' (.far hq hy) (.tok (if_pos rfl))
   subst hqn
   simp at hq
  ·have hqn:=hd' q n b' (.mat hq hz) (.tok (if_pos rfl))
   subst hqn
   simp at hq
  ·rw [cell_of_row w' b' _ cur' _ _ hheap]
   simp [Array.getD_eq_getD_getElem?,hlt']
 ·have hjl:j<xs.length+ys.length:=by simpa using (List.getElem?_eq_some_iff.1 hj).1
  have him:i<m':=by
   have hz:z ∈ xs++ys:=List.mem_of_getElem? hj
   have hlz:z.length=m':=by
    rcases List.mem_append.1 hz with hz | hz
    ·exact hsz z hz
    ·exact ok.hsize z hz
   have:=(List.getElem?_eq_some_iff.1 hu).1
   omega
  have hoff:=Qd6 hjl him
  refine RelV.evo ?_ evo
  rw [Array.getD_eq_getD_getElem?,cget _ hoff]
  by_cases hjx:j<xs.length
  ·rw [List.getElem?_append_left (by rw [hol]; exact Qd6 hjx him),hog j i hjx him]
   rw [List.getElem?_append_left hjx] at hj
   exact hrx j z hj i u hu
  ·have hge:olds.length≤j * m'+i:=by
    rw [hol]
    have:=Nat.mul_le_mul_right m' (Nat.le_of_not_lt hjx)
    omega
   rw [List.getElem?_append_right hge,hol]
   rw [List.getElem?_append_right (Nat.le_of_not_lt hjx)] at hj
   have e:j * m'+i - xs.length * m'=(j - xs.length) * m'+i:=by
    have:=Nat.mul_le_mul_right m' (Nat.le_of_not_lt hjx)
    rw [Nat.sub_mul]
    omega
   rw [e,hng (j - xs.length) i (by omega) him]
   exact hr _ z hj i u hu
 ·simp at ht
  subst ht
  exact ⟨rfl,rfl,cur',hheap,c1,c3⟩
 ·rcases List.mem_append.1 hp with hp | hp
  ·cases hn0:n0 with
   | none=>rw [hn0] at hp; cases hp
   | some k0=>
    rw [hn0] at hp
    simp [Qic] at hp
    subst hp
    have hk0:k0 ≠ n:=fun e=>by
     rcases hbase with ⟨h5,_⟩ | ⟨k1,h5,hb1⟩
     ·rw [h5] at hn0; cases hn0
     ·rw [h5] at hn0
      cases hn0
      subst e
      rcases hb1 with ⟨h8,_⟩ | ⟨b,cap,cur2,h8,_⟩<;>rw [h8] at hn<;>cases hn
    show (if k0=n then _ else if some k0=some k0 then FSlot.dead else φ k0)=.dead
    simp [hk0]
  ·simp at hp
   subst hp
   exact ⟨some (b',(xs.length+ys.length) * m'),by simp,fun b L e=>by
    cases e
    exact ⟨⟨_,_,_,hheap⟩,hXb⟩⟩
 ·have hqn:q ≠ n:=fun e=>hq (by simp [e])
  have hq0:some q ≠ n0:=fun e=>hq (by rw [← e]; simp [Qic])
  simp [hqn,hq0]
 ·rcases hcase with ⟨k0,L,cur,h6,h7,h8,_,rfl,_⟩ | ⟨_,rfl,_⟩
  ·refine setRow_other w b' b cur' fun e=>?_
   subst e
   refine hfr (k0,.dead) (by rw [h6]; simp [Qic]) ?_
   exact .tok h7
  ·exact heap_alloc_old w.drew _ hb
end
end Go.Proofs.YtmbhnllcfmiajaaGreat
