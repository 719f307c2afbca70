/-
  The engine: maps of one's own whose keys are rows of integers and that hold true. No conditions.
-/
import Derived.Test.YtmbhnllcfmiajaaGreatEngA
import Derived.MapKept
import Derived.WideKeyRuns
namespace Go.Proofs.YtmbhnllcfmiajaaGreat
open Go.RowKit
def kv (p:List Int):Value:=.agg (p.map (Value.int .i64)).toArray
def Qkx:Nat→List (List Int)→List MapEntry
 | _,[]=>[]
 | i,p::l=>{ key:=kv p,val:=.bool true,born:=i }::Qkx (i+1) l
def mset (ps:List (List Int)):Slot:=.mp (Qkx 0 ps).toArray ps.length
def addK (ps:List (List Int)) (p:List Int):List (List Int):=bif ps.contains p then ps else ps++[p]
theorem Qxk:∀ (i:Nat) (ps:List (List Int)) (p:List Int),Qkx i (ps++[p])=Qkx i ps++[{ key:=kv p,val:=.bool true,born:=i+ps.length }]
 | i,[],p=>by simp [Qkx]
 | i,q::l,p=>by simp [Qkx,Qxk (i+1) l p]; omega
theorem Qxj:∀ (ps:List (List Int)) (i j:Nat),(Qkx i ps)[j]? = ps[j]?.map fun q=>{ key:=kv q,val:=.bool true,born:=i+j }
 | [],i,j=>by simp [Qkx]
 | p::l,i,0=>by simp [Qkx]
 | p::l,i,j+1=>by
  simp only [Qkx,List.getElem?_cons_succ,Qxj l (i+1) j]
  rw [show i+1+j=i+(j+1) by omega]
theorem Zjf {ps:List (List Int)} {p:List Int} (h:ps.contains p=true):ps[ps.idxOf p]? = some p:=by
 have hm:p ∈ ps:=by simpa using h
 have hl:ps.idxOf p<ps.length:=List.idxOf_lt_length_iff.2 hm
 rw [List.getElem?_eq_getElem hl,List.getElem_idxOf]
theorem Zkc (m:Nat) (p:List Int):Instr.sameBits (m+1+1) (kv p) (kv p)=true:=by
 unfold kv Instr.sameBits
 simp only [beq_self_eq_true,Bool.true_and]
 rw [List.all_eq_true]
 intro x hx
 obtain ⟨y,hy⟩:∃ y,x=(y,y):=by
  obtain ⟨a,b⟩:=x
  have:∀ (l:List Value),(a,b) ∈ l.zip l→a=b:=fun l=>by
   induction l with
   | nil=>simp
   | cons v l ih=>simp only [List.zip_cons_cons,List.mem_cons,Prod.mk.injEq]; rintro (⟨rfl,rfl⟩ | h); rfl; exact ih h
  exact ⟨a,by rw [this _ hx]⟩
 subst hy
 have hm:=(List.of_mem_zip hx).1
 simp only [List.mem_map] at hm
 obtain ⟨z,_,rfl⟩:=hm
 simp [Instr.sameBits]
section
variable {P : Program}
def CkT (P:Program) (t:TypeId) (n:Nat):Prop:=∀ (w:World) (em:Bool) (p:List Int),p.length=n→(Instr.checkKey em 10000 t (kv p)).run P w=.ok () w
theorem ck2 {t:TypeId} {f0 f1:Field} {k0 k1:IntKind} (ht:P.underlying t=some (.struct #[f0,f1])) (h0:P.underlying f0.type=some (.int k0)) (h1:P.underlying f1.type=some (.int k1)) (o0:f0.offset=0) (o1:f1.offset=1):CkT P t 2:=fun w em p hp=>by
 obtain ⟨a,b,rfl⟩:∃ a b,p=[a,b]:=by
  match p,hp with
  | [a,b],_=>exact ⟨a,b,rfl⟩
 have ia:∀ (f:Field) (k:IntKind),P.underlying f.type=some (.int k)→(isAgg f.type).run P w=.ok false w:=fun f k h=>by
  unfold Go.isAgg
  simp only [Sem.run_bind,run_underlying h,Result.andThen_ok]
  rfl
 have ck:∀ (m:Nat) (f:Field) (k:IntKind) (x:Int),P.underlying f.type=some (.int k)→(Instr.checkKey em (m+1) f.type (.int .i64 x)).run P w=.ok () w:=fun m f k x h=>by
  rw [Instr.checkKey]
  simp [run_underlying h]
 have key:∀ m:Nat,(Instr.checkKey em (m+1+1) t (kv [a,b])).run P w=.ok () w:=fun m=>by
  rw [Instr.checkKey]
  simp [kv,run_underlying ht,part,ia f0 k0 h0,ia f1 k1 h1,o0,o1,ck m f0 k0 _ h0,ck m f1 k1 _ h1]
 exact key 9998
theorem Qsn {t:TypeId} {n:Nat} (E:EqT P 10000 t n) (w:World) (k:List Int) (hk:k.length=n):∀ (ps:List (List Int)) (i j:Nat),(∀ p ∈ ps,p.length=n) →
  (Instr.findAsking t (kv k) (Qkx i ps) j).run P w=.ok (if ps.contains k then some (j+ps.idxOf k,.bool true) else none) w
 | [],i,j,_=>by simp [Qkx,Instr.findAsking]
 | p::l,i,j,h=>by
  have e1:(Op.equal t (kv k) (kv p)).run P w=.ok (k==p) w:=E w k p hk (h p (by simp))
  have ih:=Qsn E w k hk l (i+1) (j+1) fun q hq=>h q (List.mem_cons_of_mem _ hq)
  simp only [Qkx,Instr.findAsking,Sem.run_bind,e1,Result.andThen_ok]
  cases hb:(k==p) with
  | true=>
   have:k=p:=by simpa using hb
   subst this
   simp
  | false=>
   have hne:k ≠ p:=by simpa using hb
   have hne':(p==k)=false:=by simpa using fun e=>hne e.symm
   simp only [Bool.false_eq_true,if_false,ih,List.contains_cons,hb,Bool.false_or,List.idxOf_cons,hne',cond_false]
   split<;>simp<;>omega
end
section
variable {X : Nat → Nat → Prop} {φ : Nat → FSlot} {w : World} {P : Program} {o : Oper}
def aI (p:List Int):AV:=.agg (p.map fun x=>AV.lit (.int .i64 x))
theorem Zfs {p:List Int} {v:Value} (h:RelV X φ w (aI p) v):v=kv p:=by
 cases h with
 | agg _ vs hs h=>
  simp only [List.length_map] at hs
  unfold kv
  congr 1
  apply Array.ext_getElem?
  intro i
  by_cases hi:i<p.length
  ·have h1:=h i (.lit (.int .i64 p[i])) (by simp [hi])
   have h2:=Qcf h1
   rw [Array.getD_eq_getD_getElem?,Array.getElem?_eq_getElem (by omega)] at h2
   simp only [Option.getD_some] at h2
   rw [Array.getElem?_eq_getElem (by omega),h2]
   simp [hi]
  ·rw [Array.getElem?_eq_none (by omega),Array.getElem?_eq_none (by simp; omega)]
theorem Zfr {n:Nat} {v:Value} (h:RelV X φ w (.mp n) v) {b:Nat} (hb:φ n=.own b):v=.map (some b):=by
 cases h with
 | mp _ A hn h=>rw [h b hb]
theorem Q0i {t:TypeId} {n:Nat} (h:o.op=.makeMap t none):Qcg P o [] [(n,.unused)] (.mp n) [(n,mset [])]:=by
 intro X φ a w hrd hbl hd hX hlt next Q k
 have hn:φ n=.unused:=hbl (n,.unused) (by simp)
 have evo:=Evo.alloc (X:=X) hn hlt (.map #[] 0)
 have hrun:(execOp a.eval o).run P w=.ok (.value (.map (some w.heap.size))) (w.alloc (.map #[] 0)):=by
  simp only [execOp,h]
  rfl
 refine Qgp hrun ?_
 refine k _ (upd φ n (.own w.heap.size)) _ (.mp _ _ (by simp [upd]) fun b hb=>by simp [upd] at hb; rw [hb]) (fun p hp=>?_) (Qpt hd hlt) (fun k hk=>?_) (fun b hb _=>heap_alloc_old w _ hb) evo
 ·simp at hp
  subst hp
  exact ⟨w.heap.size,by simp [upd],heap_alloc_new w _,fun off hx=>absurd (hX _ _ hx) (Nat.lt_irrefl _)⟩
 ·simp at hk
  simp [upd,hk]
theorem Q46 {x y:Operand} {t kt et:TypeId} {fs:Array Field} {n m:Nat} {ps:List (List Int)} {p:List Int} (h:o.op=.lookup t x y false) (ht:P.underlying t=some (.map kt et)) (hk:P.underlying kt=some (.struct fs)) (hz:∃ i,P.info? et=some i∧i.zero=some (.bool false))
  (C:CkT P kt m) (E:EqT P 10000 kt m) (hp:p.length=m) (hps:∀ q ∈ ps,q.length=m):Qcg P o [(x,.mp n),(y,aI p)] [(n,mset ps)] (.lit (.bool (ps.contains p))) []:=Qbv fun X φ a w hrd hbl=>by
 obtain ⟨b,hb,hblk,_⟩:=hbl (n,mset ps) (by simp)
 have h1:=Zfr (hrd (x,.mp n) (by simp)) hb
 have h2:=Zfs (hrd (y,aI p) (by simp))
 dsimp only at h1 h2
 have hw:(match P.underlying kt with | some (.array _ _) | some (.struct _)=>true | _=>false)=true:=by rw [hk]
 have h3:(Instr.findKey kt (kv p) (Qkx 0 ps)).run P w=_:=(run_findKey_eq w hw _ _).trans (Qsn E w p hp ps 0 0 hps)
 obtain ⟨i,z1,z2⟩:=hz
 have hzr:(zeroValue et).run P w=.ok (.bool false) w:=by simp [zeroValue,typeInfo,z1,z2]
 refine ⟨.bool (ps.contains p),?_,.lit _⟩
 simp only [execOp,h,h1,h2,Instr.lookup,Sem.run_bind,run_underlying ht,Result.andThen_ok,Sem.run_pure,MapKept.run_getObj_map hblk,C w _ p hp,h3]
 cases hc:ps.contains p<;>simp [hzr]
theorem Q45 {x y z:Operand} {t kt et:TypeId} {fs:Array Field} {n m:Nat} {ps:List (List Int)} {p:List Int} (h:o.op=.mapUpdate t x y z) (ht:P.underlying t=some (.map kt et)) (hk:P.underlying kt=some (.struct fs))
  (C:CkT P kt m) (E:EqT P 10000 kt m) (hp:p.length=m) (hps:∀ q ∈ ps,q.length=m):Qcg P o [(x,.mp n),(y,aI p),(z,.lit (.bool true))] [(n,mset ps)] .any [(n,mset (addK ps p))]:=by
 intro X φ a w hrd hbl hd hX hlt next Q k
 obtain ⟨b,hb,hblk,hid⟩:=hbl (n,mset ps) (by simp)
 have h1:=Zfr (hrd (x,.mp n) (by simp)) hb
 have h2:=Zfs (hrd (y,aI p) (by simp))
 have h4:=Qcf (hrd (z,.lit (.bool true)) (by simp))
 dsimp only at h1 h2 h4
 have hw:(match P.underlying kt with | some (.array _ _) | some (.struct _)=>true | _=>false)=true:=by rw [hk]
 have h3:(Instr.findKey kt (kv p) (Qkx 0 ps)).run P w=_:=(run_findKey_eq w hw _ _).trans (Qsn E w p hp ps 0 0 hps)
 have hlt':b<w.heap.size:=(Array.getElem?_eq_some_iff.1 hblk).1
 have hrun:(execOp a.eval o).run P w=.ok .skip (w.putObj b (.map (Qkx 0 (addK ps p)).toArray (addK ps p).length)):=by
  simp only [execOp,h,h1,h2,h4,Instr.mapUpdate,Sem.run_bind,run_underlying ht,Result.andThen_ok,Sem.run_pure,MapKept.run_getObj_map hblk,C w _ p hp,h3]
  cases hc:ps.contains p with
  | false=>
   have e:addK ps p=ps++[p]:=by rw [addK,hc]; rfl
   simp only [Bool.false_eq_true,if_false,MapKept.run_setObj_map _ hblk,Result.andThen_ok,e,Qxk,Nat.zero_add,List.push_toArray,List.length_append,List.length_singleton]
   rfl
  | true=>
   have e:addK ps p=ps:=by rw [addK,hc]; rfl
   have hg:(Qkx 0 ps).toArray[0+ps.idxOf p]? = some { key:=kv p,val:=.bool true,born:=ps.idxOf p }:=by
    rw [Nat.zero_add,List.getElem?_toArray,Qxj,Zjf hc]
    simp
   have hks:(Instr.keyThatStays (kv p) (kv p)).run P w=.ok (kv p) w:=by
    simp [Instr.keyThatStays,Zkc 9998 p]
   have hmod:((Qkx 0 ps).toArray.modify (0+ps.idxOf p) fun e=>{ e with key:=kv p,val:=.bool true })=(Qkx 0 ps).toArray:=by
    apply Array.ext_getElem?
    intro j
    rw [Array.getElem?_modify]
    split
    ·rename_i hj
     subst hj
     rw [hg]; rfl
    ·rfl
   simp only [if_true,hg,Option.map_some,Option.getD_some,Sem.run_bind,hks,Result.andThen_ok,hmod,MapKept.run_setObj_map _ hblk,e]
   rfl
 have evo:Evo X φ w φ (w.putObj b (.map (Qkx 0 (addK ps p)).toArray (addK ps p).length)):=by
  refine ⟨rfl,rfl,rfl,by simp,fun b' _ hb'=>Qbu fun e=>hb' ⟨n,e ▸ .own hb⟩,fun _ h=>.inl h,fun b' off hdat=>?_,fun _ h=>h,fun _ _ h=>.inl h,fun n' t ht=>.inr ⟨ht,fun b' L e=>Qbu fun eb=>?_⟩,fun _ Y h=>.inr ⟨Y,h⟩,fun _ bs h=>.inr ⟨bs,h,.refl bs⟩,fun n' b' hn' _=>?_⟩
  ·exact ⟨⟨by simpa using hdat.lt,hdat.hid,hdat.own,hdat.tok,hdat.far,hdat.mat⟩,Qk9 hblk rfl rfl b' off⟩
  ·subst e
   subst eb
   have:=hd n n' b' (.own hb) (.tok ht)
   subst this
   rw [hb] at ht; cases ht
  ·by_cases e:b'=b
   ·subst e
    intro cur ty s hc
    rw [hblk] at hc; cases hc
   ·exact .same (Qbu e)
 exact Qxv hrun (k undef φ _ (.any _) (fun q hq=>by simp at hq; subst hq; exact ⟨b,hb,Qk8 hlt',hid⟩) hd (fun _ _=>rfl) (fun b' _ hb'=>Qbu fun e=>hb' (n,mset (addK ps p)) (by simp) (e ▸ .inl hb)) evo)
end
def pk (q:Int×Int):List Int:=[q.1,q.2]
theorem Zl6 {a b:Int×Int} (h:pk a=pk b):a=b:=by
 obtain ⟨x,y⟩:=a
 obtain ⟨u,v⟩:=b
 simpa [pk] using h
def Qde (ps:List (Int×Int)):Slot:=mset (ps.map pk)
def addQ (ps:List (Int×Int)) (q:Int×Int):List (Int×Int):=bif ps.contains q then ps else ps++[q]
theorem Qri (ps:List (Int×Int)) (q:Int×Int):(ps.map pk).contains (pk q)=ps.contains q:=by
 rw [Bool.eq_iff_iff,List.contains_iff_mem,List.contains_iff_mem,List.mem_map]
 exact ⟨fun ⟨x,hx,e⟩=>Zl6 e ▸ hx,fun h=>⟨q,h,rfl⟩⟩
theorem Zl7 (ps:List (Int×Int)) (q:Int×Int):(addQ ps q).map pk=addK (ps.map pk) (pk q):=by
 unfold addQ addK
 rw [Qri]
 cases ps.contains q<;>simp
theorem Zfu (ps:List (Int×Int)):∀ q ∈ ps.map pk,q.length=2:=fun q hq=>by
 obtain ⟨x,_,rfl⟩:=List.mem_map.1 hq
 rfl
section
variable {P : Program} {o : Oper}
theorem Qpz {t:TypeId} {n:Nat} (h:o.op=.makeMap t none):Qcg P o [] [(n,.unused)] (.mp n) [(n,Qde [])]:=Q0i h
theorem Qle {x y:Operand} {t kt et:TypeId} {fs:Array Field} {n:Nat} {ps:List (Int×Int)} {a b:Int} (h:o.op=.lookup t x y false) (ht:P.underlying t=some (.map kt et)) (hk:P.underlying kt=some (.struct fs)) (hz:∃ i,P.info? et=some i∧i.zero=some (.bool false))
  (C:CkT P kt 2) (E:EqT P 10000 kt 2):Qcg P o [(x,.mp n),(y,.agg [.lit (.int .i64 a),.lit (.int .i64 b)])] [(n,Qde ps)] (.lit (.bool (ps.contains (a,b)))) []:=by
 rw [← Qri]
 exact Q46 (p:=pk (a,b)) h ht hk hz C E rfl (Zfu ps)
theorem Qsi {x y z:Operand} {t kt et:TypeId} {fs:Array Field} {n:Nat} {ps:List (Int×Int)} {a b:Int} (h:o.op=.mapUpdate t x y z) (ht:P.underlying t=some (.map kt et)) (hk:P.underlying kt=some (.struct fs))
  (C:CkT P kt 2) (E:EqT P 10000 kt 2):Qcg P o [(x,.mp n),(y,.agg [.lit (.int .i64 a),.lit (.int .i64 b)]),(z,.lit (.bool true))] [(n,Qde ps)] .any [(n,Qde (addQ ps (a,b)))]:=by
 unfold Qde
 rw [Zl7]
 exact Q45 (p:=pk (a,b)) h ht hk C E rfl (Zfu ps)
end
section
variable {P : Program} {X : Nat → Nat → Prop} {φ0 : Nat → FSlot} {w0 : World} {ro : Option Nat} {Q : Exit → AS → Prop} {s : AS}
theorem SImp.less {s s':Slot} (hsp:SPw Less s s'):SImp s s':=fun X φ w n hok=>by
 have hR:∀ a a' v,Less a a'→RelV X φ w a v→RelV X φ w a' v:=fun a a' v h hv=>h _ _ _ _ hv
 cases hsp with
 | unused=>exact hok
 | dead=>exact hok
 | tok=>exact hok
 | own m xs xs' hl' hp=>obtain ⟨b,hb,hown⟩:=hok; exact ⟨b,hb,hown.pw hR hl' hp⟩
 | gro m xs xs' hl' hp=>
  rcases hok with ⟨h1,h2⟩ | ⟨b,hb,hown⟩
  ·exact .inl ⟨List.eq_nil_of_length_eq_zero (by rw [← hl',h1]; rfl),h2⟩
  ·exact .inr ⟨b,hb,hown.pw hR hl' hp⟩
 | far J=>exact hok
 | mat m rows hp=>exact hok
 | mp es clock=>exact hok
theorem SImp.box {m:Nat} {l l':List AV} (h:LPw Less l l'):SImp (.own m [l]) (.own m [l']):=.less (.own m _ _ rfl fun j x x' h1 h2=>by
 cases j with
 | zero=>simp at h1 h2; subst h1; subst h2; exact h
 | succ j=>simp at h1)
def EffAll (n:Nat) (s':Slot):List (Nat×Slot)→Prop
 | []=>True
 | e::l=>(match Nat.beq e.1 n with | true=>SImp e.2 s' | false=>True)∧EffAll n s' l
def SAll (n:Nat) (s':Slot):List (Oper×Rec)→Prop
 | []=>True
 | p::l=>EffAll n s' p.2.eff∧SAll n s' l
theorem EffAll.imp {n:Nat} {s':Slot}:∀ {l:List (Nat×Slot)} {s:Slot},EffAll n s' l→SImp s s'→SImp (Qld n l s) s'
 | [],_,_,hs=>hs
 | e::l,s,h,hs=>by
  unfold Qld
  refine EffAll.imp h.2 ?_
  have h1:=h.1
  split
  ·rename_i he
   rw [he,Nat.beq_refl] at h1
   exact h1
  ·exact hs
theorem SAll.imp {n:Nat} {s':Slot} {S:Nat→Bool}:∀ {l:List (Oper×Rec)} {i:Nat} {s:Slot},SAll n s' l→SImp s s'→SImp (Qj7 l i S s n) s'
 | [],_,_,_,hs=>hs
 | p::l,i,s,h,hs=>by
  unfold Qj7
  refine SAll.imp h.2 ?_
  split
  ·exact h.1.imp hs
  ·exact hs
theorem StepAt.soft {l:List (Oper×Rec)} {own:List Slot} {o:Oper} {c:Rec} (n:Nat) (s':Slot) (h:Qcg P o c.rd (c.bl++[(n,s')]) c.r c.eff) (hs:SImp (own.getD n .unused) s') (ha:SAll n s' l):StepAt P l own o c:=
 ⟨[(n,s')],h,fun p hp S=>by
  rw [List.mem_singleton.1 hp]
  exact ha.imp hs⟩
def AllOkS (P:Program) (L:List (Oper×Rec)) (own:List Slot):List (Oper×Rec)→Prop
 | []=>True
 | p::l=>(p.2.skip=false→StepAt P L own p.1 p.2)∧AllOkS P L own l
theorem AllOkS.get {L:List (Oper×Rec)} {own:List Slot}:∀ {l:List (Oper×Rec)},AllOkS P L own l→∀ (i:Nat) (o:Oper) (c:Rec),l[i]? = some (o,c)→c.skip=false→StepAt P L own o c
 | _::_,h,0,o,c,hi=>by simp at hi; subst hi; exact h.1
 | _::_,h,i+1,o,c,hi=>fun hs=>AllOkS.get h.2 i o c (by simpa using hi) hs
 | [],_,_,_,_,hi=>by simp at hi
theorem Q9n {ops:Array Oper} {recs:List Rec} (hall:AllOkS P (ops.toList.zip recs) s.own (ops.toList.zip recs)) (hm:Met ops recs s):Facts none P ops (ops.toList.zip recs) s.regs s.own (after ops recs s).regs (after ops recs s).own:=by
 obtain ⟨h1,h2⟩:=hm
 rw [Bool.and_eq_true] at h2
 obtain ⟨h2,h3⟩:=h2
 have hl:ops.toList.length=recs.length:=by simpa using h2
 refine ⟨by rw [List.map_fst_zip (by omega)],fun i o c hi hs _=>hall.get i o c hi hs,?_,h3⟩
 have e:(ops.toList.zip recs).map (fun p=>(p.2.rd.map (·.2),p.2.bl.map (·.2)))=recs.map (fun c=>(c.rd.map (·.2),c.bl.map (·.2))):=by
  have:(fun p:Oper×Rec=>(p.2.rd.map (·.2),p.2.bl.map (·.2)))=(fun c:Rec=>(c.rd.map (·.2),c.bl.map (·.2))) ∘ Prod.snd:=rfl
  rw [this,← List.map_map,List.map_snd_zip (by omega)]
 rw [e,← h1]
 rfl
theorem Zaa {id:Nat} {ops:Array Oper} (recs:List Rec) (hall:AllOkS P (ops.toList.zip recs) s.own (ops.toList.zip recs)) (h:Q .normal (after ops recs s)) (hf:P.follows .mixedOrders=true:=by kernel_rfl) (hm:Met ops recs s:=by exact ⟨by kernel_rfl,by kernel_rfl⟩) (ho:Qfy (ops.toList.zip recs) [] []=true:=by kernel_rfl):AWp P X φ0 w0 ro (.region id ops true) Q s:=Qse hf _ (Q9n hall hm) ho h
def AllOkT (P:Program) (n:Nat) (U:Slot):List (Oper×Rec)→Prop
 | []=>True
 | p::l=>(p.2.skip=false→Qcg P p.1 p.2.rd p.2.bl p.2.r p.2.eff∨Qcg P p.1 p.2.rd (p.2.bl++[(n,U)]) p.2.r p.2.eff)∧AllOkT P n U l
theorem AllOkT.to {n:Nat} {U:Slot} {L:List (Oper×Rec)} {own:List Slot} (hs:SImp (own.getD n .unused) U) (ha:SAll n U L):∀ {l:List (Oper×Rec)},AllOkT P n U l→AllOkS P L own l
 | [],_=>trivial
 | _::_,h=>⟨fun k=>(h.1 k).elim .hard fun q=>.soft n U q hs ha,AllOkT.to hs ha h.2⟩
theorem hr_ {b:Bool} {A B:Prop} (h:A):b=false→A∨B:=fun _=>.inl h
theorem sf_ {b:Bool} {A B:Prop} (h:B):b=false→A∨B:=fun _=>.inr h
theorem Qk1 {id:Nat} {ops:Array Oper} (n:Nat) (U:Slot) (recs:List Rec) (hs:SImp (s.own.getD n .unused) U) (ha:SAll n U (ops.toList.zip recs)) (hall:AllOkT P n U (ops.toList.zip recs)) (h:Q .normal (after ops recs s)) (hf:P.follows .mixedOrders=true:=by kernel_rfl) (hm:Met ops recs s:=by exact ⟨by kernel_rfl,by kernel_rfl⟩) (ho:Qfy (ops.toList.zip recs) [] []=true:=by kernel_rfl):AWp P X φ0 w0 ro (.region id ops true) Q s:=Zaa recs (hall.to hs ha) h hf hm ho
end
theorem Zmm {P:Program} {t:TypeId} (h:((P.info? t).bind fun i=>i.zero)=some (.bool false)):∃ i,P.info? t=some i∧i.zero=some (.bool false):=by
 cases hi:P.info? t with
 | none=>rw [hi] at h; cases h
 | some i=>rw [hi] at h; exact ⟨i,rfl,h⟩
theorem Qhw {ρ:List Nat} {n n':Nat} (h:(ρ[n']? == some n)=true):Rn (fun n n'=>ρ[n']? = some n) (.mp n) (.mp n'):=.mp (by simpa using h)
theorem Zfo {ρ:List Nat} {k n n':Nat} (h:(ρ[n]? == some n'&&Nat.blt n k)=true):Rn (fun n n'=>ρ[n]? = some n'∧n<k) (.mp n) (.mp n'):=.mp (by simpa [Nat.blt_eq] using h)
theorem Zfp {ρ:List Nat} {n n':Nat} (h:(ρ[n]? == some n')=true):Rn (fun n n'=>ρ[n]? = some n') (.mp n) (.mp n'):=.mp (by simpa using h)
theorem Qe3 {R:AV→AV→Prop} {ps:List (Int×Int)}:SPw R (Qde ps) (Qde ps):=.mp _ _
theorem Qqj {M:Nat→Nat→Prop} {ps:List (Int×Int)}:SRn M (Qde ps) (Qde ps):=.mp _ _
theorem Zb5 {k:Nat} {ps:List (Int×Int)}:SNLt k (Qde ps):=.mp _ _
end Go.Proofs.YtmbhnllcfmiajaaGreat
