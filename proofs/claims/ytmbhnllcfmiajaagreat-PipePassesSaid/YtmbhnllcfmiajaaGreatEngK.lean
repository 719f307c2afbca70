/-
  The engine, part J: composite values, make, results in memory; names anew, slices frozen. Plain laws; no conditions.
-/
import Derived.Test.YtmbhnllcfmiajaaGreatEngI
namespace Go.Proofs.YtmbhnllcfmiajaaGreat
open Go.RowKit
section
variable {P : Program} {o : Oper} {X : Nat → Nat → Prop} {φ : Nat → FSlot} {w : World} {r : AV}
def Q4s (place:Nat→Option (Nat×Nat)) (cells:List AV):List (Nat×AV)→Option (List AV)
 | []=>some cells
 | (i,v)::rest=>match place i with
  | none=>none
  | some (off,size)=>if (stA v).length=size∧off+size≤cells.length∧(stA v).all AV.one=true then Q4s place (Qhf cells off (stA v)) rest else none
theorem Q9m (off:Nat):∀ (l:List Value) (i:Nat) (cs:Array Value),((l.zipIdx i).foldl (fun cs (p:Value×Nat)=>cs.setIfInBounds (off+p.2) p.1) cs).size=cs.size ∧
  ∀ k,((l.zipIdx i).foldl (fun cs (p:Value×Nat)=>cs.setIfInBounds (off+p.2) p.1) cs)[k]? = if off+i≤k∧k<off+i+l.length∧k<cs.size then l[k - (off+i)]? else cs[k]?
 | [],i,cs=>⟨rfl,fun k=>by simp; intro h1 h2; omega⟩
 | v::l,i,cs=>by
  obtain ⟨h1,h2⟩:=Q9m off l (i+1) (cs.setIfInBounds (off+i) v)
  simp only [List.zipIdx_cons,List.foldl_cons]
  refine ⟨by rw [h1]; simp,fun k=>?_⟩
  rw [h2 k]
  simp only [Array.size_setIfInBounds,List.length_cons]
  by_cases h3:off+(i+1)≤k∧k<off+(i+1)+l.length∧k<cs.size
  ·rw [if_pos h3,if_pos (by omega)]
   have:k - (off+i)=(k - (off+(i+1)))+1:=by omega
   rw [this,List.getElem?_cons_succ]
  ·rw [if_neg h3]
   by_cases h4:k=off+i
   ·subst h4
    by_cases h5:off+i<cs.size
    ·rw [if_pos (by omega)]
     simp [h5]
    ·rw [if_neg (by omega)]
     simp [h5]
   ·rw [if_neg (by omega),Array.getElem?_setIfInBounds_ne (by omega)]
theorem Qqp {place:Nat→Option (Nat×Nat)}:∀ (ps:List (Nat×AV)) (us:List (Nat×Value)) (cells:List AV) (cs:Array Value) (out:List AV),ps.length=us.length→(∀ (i:Nat) p u,ps[i]? = some p→us[i]? = some u→p.1=u.1∧RelV X φ w p.2 u.2)→cs.size=cells.length→(∀ (k:Nat) c,cells[k]? = some c→RelV X φ w c (cs.getD k undef))→Q4s place cells ps=some out →
  ∃ cs',Instr.fill place cs us=some cs'∧cs'.size=out.length∧∀ (k:Nat) c,out[k]? = some c→RelV X φ w c (cs'.getD k undef)
 | [],[],cells,cs,out,_,_,hs,hr,h=>by
  cases h
  exact ⟨cs,rfl,hs,hr⟩
 | (i,v)::ps,(i',u)::us,cells,cs,out,hl,hp,hs,hr,h=>by
  obtain ⟨e,hv⟩:=hp 0 _ _ rfl rfl
  dsimp only at e hv
  subst e
  simp only [Q4s] at h
  cases hpl:place i with
  | none=>rw [hpl] at h; cases h
  | some q=>
   obtain ⟨off,size⟩:=q
   rw [hpl] at h
   dsimp only at h
   split at h
   case isFalse=>cases h
   case isTrue hc=>
    obtain ⟨c1,c2,c3⟩:=hc
    obtain ⟨s1,s2,s3⟩:=Qu4 hv c3
    have hfs:=Q9m off u.cells.toList 0 cs
    have hz:u.cells.zipIdx.foldl (fun cs (c,j)=>cs.setIfInBounds (off+j) c) cs=(u.cells.toList.zipIdx 0).foldl (fun cs (p:Value×Nat)=>cs.setIfInBounds (off+p.2) p.1) cs:=by
     rw [← Array.foldl_toList,Array.toList_zipIdx]
    obtain ⟨f1,f2⟩:=hfs
    simp only [Instr.fill,hpl]
    rw [if_neg (by simp; omega),hz]
    generalize (u.cells.toList.zipIdx 0).foldl (fun cs (p:Value×Nat)=>cs.setIfInBounds (off+p.2) p.1) cs=cs2 at f1 f2
    have hspl:(Qhf cells off (stA v)).length=cells.length:=by simp [Qhf]; omega
    refine Qqp ps us _ cs2 out (by simpa using hl) (fun j p q h1 h2=>hp (j+1) p q (by simpa using h1) (by simpa using h2)) (by rw [f1,hspl,hs]) (fun k c hk=>?_) h
    rw [Array.getD_eq_getD_getElem?,f2 k]
    have hkl:=(List.getElem?_eq_some_iff.1 hk).1
    simp only [Nat.add_zero,Array.length_toList]
    by_cases h3:off≤k∧k<off+u.cells.size∧k<cs.size
    ·rw [if_pos h3]
     have hget:(Qhf cells off (stA v))[k]? = (stA v)[k - off]? := by
      simp only [Qhf,List.append_assoc]
      rw [List.getElem?_append_right (by simp; omega),List.getElem?_append_left (by simp; omega)]
      congr 1
      simp; omega
     rw [hget] at hk
     have:=s3 (k - off) c hk
     rwa [List.getD_eq_getElem?_getD] at this
    ·rw [if_neg h3]
     have hget:(Qhf cells off (stA v))[k]? = cells[k]? := by
      simp only [Qhf,List.append_assoc]
      by_cases h6:k<off
      ·rw [List.getElem?_append_left (by simp; omega),List.getElem?_take,if_pos h6]
      ·rw [List.getElem?_append_right (by simp; omega),List.getElem?_append_right (by simp; omega),List.getElem?_drop]
       congr 1
       simp; omega
     rw [hget] at hk
     have:=hr k c hk
     rwa [Array.getD_eq_getD_getElem?] at this
 | [],_::_,_,_,_,hl,_,_,_,_=>by simp at hl
 | _::_,[],_,_,_,hl,_,_,_,_=>by simp at hl
def PL (P:Program):List Field→List (Nat×Nat)→Prop
 | [],[]=>True
 | f::fs,p::ps=>f.offset=p.1∧(∃ g,TI P f.type g p.2)∧PL P fs ps
 | _,_=>False
structure TS0 (P:Program) (t:TypeId) (fs:Array Field) (pl:List (Nat×Nat)):Prop where
 und:P.underlying t=some (.struct fs)
 pl:PL P fs.toList pl
def TS (P:Program) (t:TypeId) (pl:List (Nat×Nat)):Prop:=∃ fs,TS0 P t fs pl
theorem Qxl {β α:Type} (f:α→Sem β) (w:World):∀ (l:List α) (us:List β),l.length=us.length→(∀ (i:Nat) x u,l[i]? = some x→us[i]? = some u→(f x).run P w=.ok u w)→(l.mapM f).run P w=.ok us w
 | [],[],_,_=>rfl
 | x::l,u::us,hl,h=>by
  have h0:=h 0 x u rfl rfl
  have ih:=Qxl f w l us (by simpa using hl) fun i y v hy hv=>h (i+1) y v (by simpa using hy) (by simpa using hv)
  simp only [List.mapM_cons,Sem.run_bind,h0,Result.andThen_ok,ih]
  rfl
 | [],_::_,hl,_=>by simp at hl
 | _::_,[],hl,_=>by simp at hl
theorem PL.spec:∀ {fs:List Field} {pl:List (Nat×Nat)},PL P fs pl→fs.length=pl.length∧∀ (i:Nat) (f:Field) (p:Nat×Nat),fs[i]? = some f→pl[i]? = some p→f.offset=p.1∧∃ g,TI P f.type g p.2
 | [],[],_=>⟨rfl,by simp⟩
 | _::_,_::_,h=>by
  obtain ⟨h1,h2⟩:=PL.spec h.2.2
  refine ⟨by simp [h1],fun i f p hf hp=>?_⟩
  cases i with
  | zero=>simp at hf hp; subst hf hp; exact ⟨h.1,h.2.1⟩
  | succ i=>exact h2 i f p (by simpa using hf) (by simpa using hp)
 | [],_::_,h=>h.elim
 | _::_,[],h=>h.elim
theorem TS0.places {t:TypeId} {fs:Array Field} {pl:List (Nat×Nat)} (h:TS0 P t fs pl) (w:World):(fs.mapM fun f=>do pure (f.offset,← sizeOf f.type):Sem (Array (Nat×Nat))).run P w=.ok pl.toArray w:=by
 obtain ⟨h1,h2⟩:=PL.spec h.pl
 have:=Qxl (P:=P) (fun f:Field=>(do pure (f.offset,← sizeOf f.type):Sem (Nat×Nat))) w fs.toList pl h1 fun i f p hf hp=>by
  obtain ⟨e,g,ti⟩:=h2 i f p hf hp
  simp only [Sem.run_bind,ti.size,Result.andThen_ok]
  rw [e]
  rfl
 rw [← Array.toArray_toList (xs:=fs),List.mapM_toArray,map_eq_pure_bind]
 simp only [Sem.run_bind] at this ⊢
 rw [this]
 rfl
theorem Qrl {a:Act} {parts:Array (Nat×Operand)} {vs:List AV} (hrd:∀ p ∈ (parts.toList.map (·.2)).zip vs,RelV X φ w p.2 (a.eval p.1)):∀ (i:Nat) p u,((parts.toList.map (·.1)).zip vs)[i]? = some p→(parts.map fun (i,x)=>(i,a.eval x)).toList[i]? = some u→p.1=u.1∧RelV X φ w p.2 u.2:=fun i p u hp hu=>by
 obtain ⟨k,v⟩:=p
 rw [List.getElem?_zip_eq_some] at hp
 obtain ⟨hp1,hp2⟩:=hp
 simp only [List.getElem?_map] at hp1
 simp only [Array.toList_map,List.getElem?_map] at hu
 cases hq:parts.toList[i]? with
 | none=>rw [hq] at hp1; cases hp1
 | some q=>
  rw [hq] at hp1 hu
  cases hp1
  cases hu
  exact ⟨rfl,hrd (q.2,v) (List.mem_of_getElem? (i:=i) (by rw [List.getElem?_zip_eq_some]; exact ⟨by simp [hq],hp2⟩))⟩
theorem Qa2 {t:TypeId} {parts:Array (Nat×Operand)} {vs cs:List AV} {pl:List (Nat×Nat)} {zs:List Value} (h:o.op=.build t parts) (ht0:TS P t pl) (hz:TZ P t zs) (hl:vs.length=parts.size) (hf:Q4s (fun i:Nat=>pl[i]?) (zs.map AV.lit) ((parts.toList.map (·.1)).zip vs)=some cs) {rd:List (Operand×AV)} (hrd:(parts.toList.map (·.2)).zip vs=rd):Qcg P o rd [] (.agg cs) []:=Qbv fun X φ a w hr _=>by
 subst hrd
 obtain ⟨fs,ht⟩:=ht0
 obtain ⟨z,hz1,hz2⟩:=hz.run w
 have hzs:z.cells.size=zs.length:=by rw [← hz2]; simp
 obtain ⟨cs',h1,h2,h3⟩:=Qqp (X:=X) (φ:=φ) (w:=w) _ (parts.map fun (i,x)=>(i,a.eval x)).toList (zs.map AV.lit) z.cells cs (by simp [hl]) (Qrl hr) (by simp [hzs]) (fun k c hk=>by
  rw [List.getElem?_map] at hk
  cases hzk:zs[k]? with
  | none=>rw [hzk] at hk; cases hk
  | some c'=>
   rw [hzk] at hk
   cases hk
   have:z.cells.getD k undef=c':=by
    have h5:z.cells.toList[k]? = some c':=by rw [hz2]; exact hzk
    rw [Array.getD_eq_getD_getElem?,← Array.getElem?_toList,h5]; rfl
   rw [this]
   exact .lit c') hf
 refine ⟨.agg cs',?_,.agg _ _ h2 h3⟩
 have hpl:=ht.places w
 have hfun:(fun i:Nat=>(pl.toArray)[i]?)=fun i:Nat=>pl[i]? := by funext i; simp
 simp only [execOp,h,Instr.build,Sem.run_bind,hz1,Result.andThen_ok,run_underlying ht.und]
 (try simp only [Sem.run_bind] at hpl)
 rw [hpl]
 simp only [Result.andThen_ok,hfun,h1]
 rfl
theorem Qp1 {t e:TypeId} {n m:Nat} {gg:Bool} {parts:Array (Nat×Operand)} {vs cs:List AV} {zs:List Value} (h:o.op=.build t parts) (ht:P.underlying t=some (.array n e)) (he:TI P e gg m) (hz:TZ P t zs) (hl:vs.length=parts.size) (hf:Q4s (fun i=>some (i * m,m)) (zs.map AV.lit) ((parts.toList.map (·.1)).zip vs)=some cs) {rd:List (Operand×AV)} (hrd:(parts.toList.map (·.2)).zip vs=rd):Qcg P o rd [] (.agg cs) []:=Qbv fun X φ a w hr _=>by
 subst hrd
 obtain ⟨z,hz1,hz2⟩:=hz.run w
 have hzs:z.cells.size=zs.length:=by rw [← hz2]; simp
 obtain ⟨cs',h1,h2,h3⟩:=Qqp (X:=X) (φ:=φ) (w:=w) _ (parts.map fun (i,x)=>(i,a.eval x)).toList (zs.map AV.lit) z.cells cs (by simp [hl]) (Qrl hr) (by simp [hzs]) (fun k c hk=>by
  rw [List.getElem?_map] at hk
  cases hzk:zs[k]? with
  | none=>rw [hzk] at hk; cases hk
  | some c'=>
   rw [hzk] at hk
   cases hk
   have:z.cells.getD k undef=c':=by
    have h5:z.cells.toList[k]? = some c':=by rw [hz2]; exact hzk
    rw [Array.getD_eq_getD_getElem?,← Array.getElem?_toList,h5]; rfl
   rw [this]
   exact .lit c') hf
 refine ⟨.agg cs',?_,.agg _ _ h2 h3⟩
 simp only [execOp,h,Instr.build,Sem.run_bind,hz1,Result.andThen_ok,run_underlying ht,he.size,h1]
 rfl
theorem Qr1 {m:Nat}:∀ {xs:List (List AV)},(∀ x ∈ xs,x.length=m)→∀ (j:Nat) x,xs[j]? = some x→∀ i,i<m→xs.flatten[j * m+i]? = x[i]?
 | [],_,j,x,h,_,_=>by simp at h
 | y::xs,hs,0,x,h,i,hi=>by
  simp at h
  subst h
  have:=hs y (by simp)
  rw [List.flatten_cons,List.getElem?_append_left (by omega)]
  simp
 | y::xs,hs,j+1,x,h,i,hi=>by
  have h0:=hs y (by simp)
  have ih:=Qr1 (fun z hz=>hs z (List.mem_cons_of_mem _ hz)) j x (by simpa using h) i hi
  have e:(j+1) * m+i - y.length=j * m+i:=by rw [Nat.add_mul]; omega
  have hle:y.length≤(j+1) * m+i:=by rw [Nat.add_mul]; omega
  rw [List.flatten_cons,List.getElem?_append_right hle,e]
  exact ih
theorem Qr0 {m:Nat}:∀ {xs:List (List AV)},(∀ x ∈ xs,x.length=m)→xs.flatten.length=xs.length * m
 | [],_=>by simp
 | x::xs,h=>by
  have h1:=h x (by simp)
  have ih:=Qr0 fun y hy=>h y (List.mem_cons_of_mem _ hy)
  rw [List.flatten_cons,List.length_append,ih,h1,List.length_cons,Nat.add_mul]
  omega
theorem Qbo {t e:TypeId} {n m:Nat} {gg:Bool} {parts:Array (Nat×Operand)} {vs:List AV} {xs:List (List AV)} {zs:List Value} (h:o.op=.buildSlice t n parts) (ht:P.underlying t=some (.slice e)) (he:TI P e gg m) (hz:TZ P e zs) (hzm:zs.length=m) (hm:0<m) (hl:vs.length=parts.size) (hbig:n * m≤16777216)
  (hf:Q4s (fun i=>some (i * m,m)) ((List.range (n * m)).map fun k=>AV.lit (zs.getD (k % m) undef)) ((parts.toList.map (·.1)).zip vs)=some xs.flatten) (hx:(xs.all fun x=>x.length==m)=true) (hxl:xs.length=n) {rd:List (Operand×AV)} (hrd:(parts.toList.map (·.2)).zip vs=rd):Qcg P o rd [] (.dat m xs) []:=by
 subst hrd
 intro X φ a w hr hb hd hX hlt next Q k
 obtain ⟨z,hz1,hz2⟩:=hz.run w
 have hzs:z.cells.size=m:=by rw [← hzm,← hz2]; simp
 have hxs:∀ x ∈ xs,x.length=m:=fun x hxm=>by simpa using List.all_eq_true.1 hx x hxm
 obtain ⟨cs',h1,h2,h3⟩:=Qqp (X:=X) (φ:=φ) (w:=w) _ (parts.map fun (i,x)=>(i,a.eval x)).toList _ ((Array.range (n * m)).map (z.cells[· % z.cells.size]!)) _ (by simp [hl]) (Qrl hr) (by simp) (fun k c hk=>by
  rw [List.getElem?_map] at hk
  cases hkr:(List.range (n * m))[k]? with
  | none=>rw [hkr] at hk; cases hk
  | some q=>
   rw [hkr] at hk
   cases hk
   have hlt:=(List.getElem?_eq_some_iff.1 hkr).1
   simp only [List.length_range] at hlt
   have hq:q=k:=by rw [List.getElem?_range hlt] at hkr; cases hkr; rfl
   subst hq
   have hmod:q % m<m:=Nat.mod_lt _ hm
   have:((Array.range (n * m)).map (z.cells[· % z.cells.size]!)).getD q undef=zs.getD (q % m) undef:=by
    rw [Array.getD_eq_getD_getElem?]
    have e1:z.cells[q % m]? = zs[q % m]? := by rw [← hz2,Array.getElem?_toList]
    have e2:q % m<z.cells.size:=by omega
    simp only [Array.getElem?_map,Array.getElem?_range,hlt,if_true,Option.map_some,Option.getD_some,hzs]
    rw [List.getD_eq_getElem?_getD,← e1,Array.getElem?_eq_getElem e2]
    simp [e2]
   rw [this]
   exact .lit _) hf
 have hflat:xs.flatten.length=n * m:=by
  rw [Qr0 hxs,hxl]
 have hexec:(execOp a.eval o).run P w=.ok (.value (.slice (some ⟨w.heap.size,0,none⟩) n n)) (w.alloc (.cells cs' e)):=by
  have hn:¬ (n * m>2 ^ 24):=by simpa using hbig
  simp only [execOp,h,Instr.buildSlice,Sem.run_bind,run_underlying ht,Result.andThen_ok,he.size,if_neg hn]
  by_cases h0:n * m=0
  ·have e:((Array.range (n * m)).map (z.cells[· % z.cells.size]!))=(Array.range (n * m)).map ((#[]:Array Value)[· % (#[]:Array Value).size]!):=by
    apply Array.ext
    ·simp
    ·intro i hi _; simp [h0] at hi
   have h1':=h1
   rw [e] at h1'
   simp only [if_pos h0,Sem.run_bind,Sem.run_pure,Result.andThen_ok,h1',newRow,newObj]
   rfl
  ·simp only [if_neg h0,Sem.run_bind,hz1,Sem.run_pure,Result.andThen_ok,h1,newRow,newObj]
   rfl
 have evo:=Evo.alloc0 (X:=X) hlt (.cells cs' e)
 refine Qgp hexec ?_
 have hn1:n≤maxLen:=by
  have:=Nat.le_mul_of_pos_right n hm
  simp only [maxLen]
  omega
 refine k _ φ _ (RelV.dat m xs _ _ _ (fun j i=>cs'.getD (j * m+i) undef) ⟨hxl.symm,Nat.le_refl _,hn1,hxs,fun _=>⟨w.heap.size,0,rfl,fun j x hj i hi=>⟨⟨by simp,fun hx=>Nat.lt_irrefl _ (hX _ _ hx),fun q hq=>?_,fun q L hq=>?_,fun q Y hq hy=>?_,fun q bs z hq hz=>?_⟩,?_⟩⟩⟩ (fun j x hj i u hu=>RelV.evo ?_ evo)) (by simp) hd (fun _ _=>rfl) (fun b hb _=>heap_alloc_old w _ hb) evo
 ·exact absurd (hlt q _ (.inl hq)) (Nat.lt_irrefl _)
 ·exact absurd (hlt q _ (.tok hq)) (Nat.lt_irrefl _)
 ·exact absurd (hlt q _ (.far hq hy)) (Nat.lt_irrefl _)
 ·exact absurd (hlt q _ (.mat hq hz)) (Nat.lt_irrefl _)
 ·have hjl:=(List.getElem?_eq_some_iff.1 hj).1
  have:=Qd6 hjl hi
  have hlt':j * m+i<cs'.size:=by rw [h2,hflat,← hxl]; exact this
  rw [Nat.zero_add,cell_of_row _ _ _ _ _ _ (heap_alloc_new w _)]
  simp [Array.getD_eq_getD_getElem?,hlt']
 ·have him:i<m:=by
   have:=hxs x (List.mem_of_getElem? hj)
   have:=(List.getElem?_eq_some_iff.1 hu).1
   omega
  exact h3 (j * m+i) u (by rw [Qr1 hxs j x hj i him]; exact hu)
theorem Qpn {t e:TypeId} {m bytes n:Nat} {x y:Operand} {k k':IntKind} {c:Int} {zs:List Value} {nm:Nat} {xs:List (List AV)} (h:o.op=.makeSlice t x y) (ht:P.underlying t=some (.slice e)) (he:TE P e m bytes) (hz:TZ P e zs) (hzm:zs.length=m) (h0:0≤c) (hn:c.toNat=n) (hb:(bytes:Int) * c≤281474976710656) (h63:c≤9223372036854775807) (hxs:List.replicate n (zs.map AV.lit)=xs) :
  Qcg P o [(x,.lit (.int k c)),(y,.lit (.int k' c))] [(nm,.unused)] (.own nm m 0 n) [(nm,.own m xs)]:=Qsh fun X φ a w hrd=>by
 have hx:a.eval x=.int k c:=Qcf (hrd (x,.lit (.int k c)) (by simp))
 have hy:a.eval y=.int k' c:=Qcf (hrd (y,.lit (.int k' c)) (by simp))
 obtain ⟨i,z,hi,hz',his,hib,hzs'⟩:=he.inf
 have hm:=he.pos
 subst his hib
 have hzl:z.cells.toList=zs:=by
  obtain ⟨i2,z2,e1,e2,e3⟩:=hz
  rw [hi] at e1
  cases e1
  rw [hz'] at e2
  cases e2
  exact e3
 have hr:=run_make (P:=P) w t e i z ht hi hz' k k' c c h0 (Int.le_refl _) hb h63
 subst hn
 refine ⟨_,_,e,by simp only [execOp,h,hx,hy,Sem.run_bind,hr,Result.andThen_ok]; rfl,?_,fun z' hz2=>?_,fun j z' hj q u hu=>?_,fun φ' w' hf=>.own _ _ _ _ _ _ (Nat.le_refl _) (by simp only [maxLen]; omega) (by rw [hf]; simp) fun b hb'=>?_⟩
 ·rw [← hxs]; simp [size_madeCells]
 ·rw [← hxs] at hz2
  rw [List.eq_of_mem_replicate hz2]
  simp [hzm]
 ·rw [← hxs] at hj
  have hjl:=(List.getElem?_eq_some_iff.1 hj).1
  simp only [List.length_replicate] at hjl
  rw [List.getElem?_replicate,if_pos hjl] at hj
  cases hj
  rw [List.getElem?_map] at hu
  cases hzq:zs[q]? with
  | none=>rw [hzq] at hu; cases hu
  | some v=>
   rw [hzq] at hu
   cases hu
   have hq:=(List.getElem?_eq_some_iff.1 hzq).1
   rw [hzm] at hq
   have hlt:=Qd6 hjl hq
   have e1:(j * i.size+q) % i.size=q:=by rw [Nat.mul_comm,Nat.mul_add_mod]; exact Nat.mod_eq_of_lt hq
   have e2:z.cells[q]? = some v:=by rw [← Array.getElem?_toList,hzl]; exact hzq
   have e3:q<z.cells.size:=(Array.getElem?_eq_some_iff.1 e2).1
   have:(madeCells z.cells (c.toNat * i.size)).getD (j * i.size+q) undef=v:=by
    rw [Array.getD_eq_getD_getElem?]
    unfold madeCells
    simp only [Array.getElem?_map,Array.getElem?_range,hlt,if_true,Option.map_some,Option.getD_some,hzs',e1]
    have:=(Array.getElem?_eq_some_iff.1 e2).2
    simp [e3,this]
   rw [this]
   exact .lit v
 ·rw [hf] at hb'
  cases hb'
  simp
theorem Qcc {s:AS} {ad:Tmp} {t:TypeId} {g:Bool} {sz n m j i:Nat} {xs:List (List AV)} {c:List AV} {v:AV} (hr:s.regs.getD ad .any=.ref n m j i) (hs:s.slot n=.own m xs) (ht:TI P t g sz) (hg:g=false→sz=1) (hj:xs[j]? = some c) (hi:i+sz≤c.length) (hv:ldA g sz i c=v):Q5f P s (.cell ad t) v:=by
 intro X φ0 w0 φ a w hsim
 have h1:=hsim.opd (.tmp ad)
 simp only [opd,Act.eval] at h1
 rw [hr] at h1
 have h2:=hsim.env.slot n
 rw [hs] at h2
 obtain ⟨b,hb,hown⟩:=h2
 have hx:a.tmps.getD ad undef=_:=Qm5 h1 hb
 obtain ⟨u,hu,hrel⟩:=(hown.cells hj).load ht hi hg
 refine ⟨u,?_,hv ▸ hrel⟩
 simp only [Qtj,hx,asAddr,Sem.run_bind,Sem.run_pure,Result.andThen_ok,hu]
end
end Go.Proofs.YtmbhnllcfmiajaaGreat
namespace Go.Proofs.YtmbhnllcfmiajaaGreat
open Go.RowKit
def LPw (R:AV→AV→Prop):List AV→List AV→Prop
 | [],[]=>True
 | a::l,b::k=>R a b∧LPw R l k
 | _,_=>False
section
variable {R : AV → AV → Prop}
theorem LPw.refl (h:∀ a,R a a):∀ l:List AV,LPw R l l
 | []=>trivial
 | a::l=>⟨h a,LPw.refl h l⟩
theorem LPw.length:∀ {l k:List AV},LPw R l k→l.length=k.length
 | [],[],_=>rfl
 | _::_,_::_,h=>by simp [LPw.length h.2]
theorem LPw.get:∀ {l k:List AV},LPw R l k→∀ (t:Nat) (b:AV),k[t]? = some b→∃ a,l[t]? = some a∧R a b
 | [],[],_,_,_,hb=>by simp at hb
 | _::_,_::_,h,0,b,hb=>by simp at hb; subst hb; exact ⟨_,rfl,h.1⟩
 | _::_,_::_,h,t+1,b,hb=>by simpa using LPw.get h.2 t b (by simpa using hb)
theorem LPw.set (h:∀ a,R a a):∀ (l:List AV) (t:Nat) {a b:AV},l[t]? = some a→R a b→LPw R l (l.set t b)
 | [],_,_,_,ht,_=>by simp at ht
 | x::l,0,a,b,ht,hr=>by simp at ht; subst ht; exact ⟨hr,LPw.refl h l⟩
 | x::l,t+1,a,b,ht,hr=>⟨h x,LPw.set h l t (by simpa using ht) hr⟩
end
inductive SPw (R:AV→AV→Prop):Slot→Slot→Prop where
 | unused:SPw R .unused .unused
 | dead:SPw R .dead .dead
 | tok:SPw R .tok .tok
 | own (m:Nat) (xs xs':List (List AV)) (hl:xs.length=xs'.length) (h:∀ (j:Nat) x x',xs[j]? = some x→xs'[j]? = some x'→LPw R x x'):SPw R (.own m xs) (.own m xs')
 | gro (m:Nat) (xs xs':List (List AV)) (hl:xs.length=xs'.length) (h:∀ (j:Nat) x x',xs[j]? = some x→xs'[j]? = some x'→LPw R x x'):SPw R (.gro m xs) (.gro m xs')
 | far (J:(Nat→Nat→Prop)→(Nat→Nat→Prop)→World→Prop):SPw R (.far J) (.far J)
 | mat (m:Nat) (rows:List (List (List AV))) (h:∀ r ∈ rows,∀ x ∈ r,LPw R x x):SPw R (.mat m rows) (.mat m rows)
 | mp (es:Array MapEntry) (clock:Nat):SPw R (.mp es clock) (.mp es clock)
theorem SPw.refl {R:AV→AV→Prop} (h:∀ a,R a a) (s:Slot):SPw R s s:=by
 cases s with
 | unused=>exact .unused
 | dead=>exact .dead
 | tok=>exact .tok
 | own m xs=>exact .own m xs xs rfl fun j x x' h1 h2=>by rw [h1] at h2; cases h2; exact LPw.refl h x
 | gro m xs=>exact .gro m xs xs rfl fun j x x' h1 h2=>by rw [h1] at h2; cases h2; exact LPw.refl h x
 | far J=>exact .far J
 | mat m rows=>exact .mat m rows fun _ _ x _=>LPw.refl h x
 | mp es clock=>exact .mp es clock
section
variable {P : Program} {X : Nat → Nat → Prop} {φ0 φ φ' : Nat → FSlot} {w0 w : World} {ro : Option Nat} {Q : Exit → AS → Prop} {s : AS} {c : Code} {R : AV → AV → Prop}
theorem OwnOK.pw {b m:Nat} {xs xs':List (List AV)} (h:OwnOK X φ w b m xs) (hR:∀ a a' v,R a a'→RelV X φ w a v→RelV X φ' w a' v) (hl:xs.length=xs'.length) (hp:∀ (j:Nat) x x',xs[j]? = some x→xs'[j]? = some x'→LPw R x x'):OwnOK X φ' w b m xs':=by
 obtain ⟨cur,ty,h1,h2,h3,h4⟩:=h.blk
 have back:∀ (j:Nat) (x':List AV),xs'[j]? = some x'→∃ x,xs[j]? = some x:=fun j x' hj=>⟨_,List.getElem?_eq_getElem (by have:=(List.getElem?_eq_some_iff.1 hj).1; omega)⟩
 refine ⟨⟨cur,ty,h1,by rw [← hl]; exact h2,fun x' hx'=>?_,fun j x' hj i a' hi=>?_⟩,h.hid⟩
 ·obtain ⟨j,hj,rfl⟩:=List.getElem_of_mem hx'
  have hj':=List.getElem?_eq_getElem hj
  obtain ⟨x,hxj⟩:=back j _ hj'
  rw [← (hp j x _ hxj hj').length]
  exact h3 x (List.mem_of_getElem? hxj)
 ·obtain ⟨x,hxj⟩:=back j x' hj
  obtain ⟨a,ha,hra⟩:=(hp j x x' hxj hj).get i a' hi
  exact hR a a' _ hra (h4 j x hxj i a ha)
def Mor (X:Nat→Nat→Prop) (φ0:Nat→FSlot) (w0:World) (s s':AS):Prop:=∀ φ a w,Sim X φ0 w0 φ s a w→∃ φ',Sim X φ0 w0 φ' s' a w
theorem Mor.rfl:Mor X φ0 w0 s s:=fun φ _ _ h=>⟨φ,h⟩
theorem Mor.trans {s1 s2 s3:AS} (h:Mor X φ0 w0 s1 s2) (k:Mor X φ0 w0 s2 s3):Mor X φ0 w0 s1 s3:=fun φ a w hs=>by
 obtain ⟨φ',h1⟩:=h φ a w hs
 exact k φ' a w h1
theorem Zke {s':AS} (h:Mor X φ0 w0 s s') (k:AWp P X φ0 w0 ro c Q s'):AWp P X φ0 w0 ro c Q s:=fun φ a w hs=>by
 obtain ⟨φ',h1⟩:=h φ a w hs
 exact k φ' a w h1
theorem Q5d {s':AS} {n:Nat} (h:Mor X φ0 w0 s s') (k:Qnh P X φ0 w0 ro c Q n s'):Qnh P X φ0 w0 ro c Q n s:=fun φ a w hs=>by
 obtain ⟨φ',h1⟩:=h φ a w hs
 exact k φ' a w h1
inductive RW (M:Nat→Nat→Prop):AV→AV→Prop where
 | any (a:AV):RW M a .any
 | rn {a a':AV} (h:Rn M a a'):RW M a a'
 | dat (n:Nat) (ty:TypeId) (m:Nat) (xs:List (List AV)) (hx:∀ x ∈ xs,∀ a ∈ x,NLt 0 a):RW M (.acc n ty m xs) (.dat m xs)
 | nil (m:Nat):RW M (.lit (.slice none 0 0)) (.dat m [])
 | agg (l l':List AV) (hl:l.length=l'.length) (h:∀ (i:Nat) a a',l[i]? = some a→l'[i]? = some a'→RW M a a'):RW M (.agg l) (.agg l')
theorem Zi8 (ρ:List Nat) (hnd:ρ.Nodup) {k0:Nat} (h0:∀ n,k0≤n→φ0 n=.unused) (hid:∀ n,n<k0→ρ[n]? = some n) {regs':List AV} {own':List Slot} (hr:LPw (RW fun n n'=>ρ[n']? = some n) s.regs regs') (hl:own'.length=ρ.length)
  (hs:∀ (n n':Nat) s2,ρ[n']? = some n→own'[n']? = some s2→SPw (RW fun n n'=>ρ[n']? = some n) (s.slot n) s2):Mor X φ0 w0 s ⟨regs',own'⟩:=fun φ a w hsim=>by
 let φ':Nat→FSlot:=fun n'=>match ρ[n']? with | some n=>φ n | none=>.unused
 have hM:∀ n n',ρ[n']? = some n→φ' n'=φ n:=fun n n' e=>by
  show (match ρ[n']? with | some n=>φ n | none=>_)=_
  rw [e]
 have inv:∀ n' b,(φ' n').lies b→∃ n,ρ[n']? = some n∧(φ n).lies b:=fun n' b hb=>by
  cases e:ρ[n']? with
  | none=>
   have:φ' n'=.unused:=by
    show (match ρ[n']? with | some n=>φ n | none=>_)=_
    rw [e]
   rw [this] at hb
   exact (Qdp hb).elim
  | some n=>rw [hM n n' e] at hb; exact ⟨n,rfl,hb⟩
 have fwd:∀ b off,DataAt X φ w b off→DataAt X φ' w b off:=fun b off hd=>⟨hd.lt,hd.hid,fun n' hn=>by
  obtain ⟨n,e,_⟩:=inv n' b (.inl hn)
  rw [hM n n' e] at hn
  exact hd.own n hn,fun n' L hn=>by
  obtain ⟨n,e,_⟩:=inv n' b (.tok hn)
  rw [hM n n' e] at hn
  exact hd.tok n L hn,fun n' Y hn hy=>by
  obtain ⟨n,e,_⟩:=inv n' b (.far hn hy)
  rw [hM n n' e] at hn
  exact hd.far n Y hn hy,fun n' bs k hn hk=>by
  obtain ⟨n,e,_⟩:=inv n' b (.mat hn hk)
  rw [hM n n' e] at hn
  exact hd.mat n bs k hn hk⟩
 have hR:∀ a a' v,RW (fun n n'=>ρ[n']? = some n) a a'→RelV X φ w a v→RelV X φ' w a' v:=fun a a' v hra=>by
  induction hra generalizing v with
  | agg l l' hl _ ih=>
   intro hv
   cases hv with
   | agg _ vs hs h=>
    refine .agg _ vs (hs.trans hl) fun i a' hi=>?_
    have hlt:=(List.getElem?_eq_some_iff.1 hi).1
    exact ih i _ a' (List.getElem?_eq_getElem (by omega)) hi _ (h i _ (List.getElem?_eq_getElem (by omega)))
  | any=>exact fun _=>.any v
  | rn hrn=>exact RelV.ren fwd hM hrn
  | dat n ty m xs hx=>
   intro hv
   cases hv with
   | acc _ _ _ _ A len cap g ok hr hu ht=>exact .dat m xs A len cap g (ok.env fwd) (fun j x hj i a hi=>(hr j x hj i a hi).env (k:=0) (fun n hn=>absurd hn (Nat.not_lt_zero n)) fwd (hx x (List.mem_of_getElem? hj) a (List.mem_of_getElem? hi)))
  | nil m=>
   intro hv
   have:=Qcf hv
   subst this
   exact .dat m [] none 0 0 (fun _ _=>undef) (DatOK.nil m none 0 _ (Nat.zero_le _)) (by simp)
 have inj:∀ (n1 n2 n':Nat),ρ[n1]? = some n'→ρ[n2]? = some n'→n1=n2:=fun n1 n2 n' h1 h2=>by
  obtain ⟨l1,e1⟩:=List.getElem?_eq_some_iff.1 h1
  obtain ⟨l2,e2⟩:=List.getElem?_eq_some_iff.1 h2
  exact (List.getElem_inj hnd).1 (e1.trans e2.symm)
 have low:∀ n,φ0 n ≠ .unused→φ' n=φ n:=fun n hn=>by
  have hlt:n<k0:=by
   rcases Nat.lt_or_ge n k0 with h' | h'
   ·exact h'
   ·exact absurd (h0 n h') hn
  exact hM n n (hid n hlt)
 refine ⟨φ',hsim.low,hsim.defers.to fun D _ hn=>⟨rfl,fun ⟨n',hb⟩=>hn (by obtain ⟨n,_,h⟩:=inv n' D hb; exact ⟨n,h⟩)⟩,hsim.size.trans hr.length,fun t v hv=>?_,⟨fun n'=>?_,fun n1 n2 b h1 h2=>?_,hsim.env.hid⟩,?_⟩
 ·obtain ⟨u,hu,hra⟩:=hr.get t v hv
  exact hR u v _ hra (hsim.regs t u hu)
 ·show SlotOK X φ' w n' (own'.getD n' .unused)
  cases e:ρ[n']? with
  | none=>
   have hge:own'.length≤n':=by rw [hl]; exact List.getElem?_eq_none_iff.1 e
   simp only [List.getD_eq_getElem?_getD,List.getElem?_eq_none hge,Option.getD_none]
   show (match ρ[n']? with | some n=>φ n | none=>_)=_
   rw [e]
  | some n=>
   have hlt:n'<own'.length:=by rw [hl]; exact (List.getElem?_eq_some_iff.1 e).1
   have hg:=List.getElem?_eq_getElem hlt
   have hsp:=hs n n' _ e hg
   simp only [List.getD_eq_getElem?_getD,hg,Option.getD_some]
   have hok:=hsim.env.slot n
   generalize s.slot n=s1 at hsp hok
   generalize own'[n']=s2 at hsp
   cases hsp with
   | unused=>exact (hM n n' e).trans hok
   | dead=>exact (hM n n' e).trans hok
   | tok=>obtain ⟨t,ht,ht'⟩:=hok; exact ⟨t,(hM n n' e).trans ht,ht'⟩
   | own m xs xs' hl' hp=>obtain ⟨b,hb,hown⟩:=hok; exact ⟨b,(hM n n' e).trans hb,hown.pw hR hl' hp⟩
   | gro m xs xs' hl' hp=>
    rcases hok with ⟨h1,h2⟩ | ⟨b,hb,hown⟩
    ·exact .inl ⟨List.eq_nil_of_length_eq_zero (by rw [← hl',h1]; rfl),(hM n n' e).trans h2⟩
    ·exact .inr ⟨b,(hM n n' e).trans hb,hown.pw hR hl' hp⟩
   | far J=>
    obtain ⟨Y,D,B,f1,f2,f3⟩:=hok
    exact ⟨Y,D,B,(hM n n' e).trans f1,f2,f3.own,fun b off hx hy=>⟨fwd b off (f3.dat b off hx hy).1,(f3.dat b off hx hy).2⟩,f3.os,f3.tape,f3.output,f3.size⟩
   | mat m rows hp=>
    obtain ⟨bs,m1,m2,m3,m4⟩:=hok
    refine ⟨bs,(hM n n' e).trans m1,m2,m3,fun k xs hk=>?_⟩
    rcases m4 k xs hk with m5 | ⟨b,m5,m6⟩
    ·exact .inl m5
    ·exact .inr ⟨b,m5,m6.pw hR rfl fun j x x' h1 h2=>by rw [h1] at h2; cases h2; exact hp xs (List.mem_of_getElem? hk) x (List.mem_of_getElem? h1)⟩
   | mp es clock=>obtain ⟨b,hb,hown⟩:=hok; exact ⟨b,(hM n n' e).trans hb,hown⟩
 ·obtain ⟨m1,e1,h3⟩:=inv n1 b h1
  obtain ⟨m2,e2,h4⟩:=inv n2 b h2
  have:=hsim.env.distinct m1 m2 b h3 h4
  subst this
  exact inj n1 n2 m1 e1 e2
 ·have ev:=hsim.evo
  refine ⟨ev.os,ev.tape,ev.output,ev.size,ev.blk,fun b ⟨n',hb⟩=>?_,fun b off hd=>?_,fun n hn=>?_,fun n b hn=>?_,fun n t hn=>?_,fun n Y hn=>?_,fun n bs hn=>?_,fun n b hn hn'=>?_⟩
  ·obtain ⟨n,_,hb'⟩:=inv n' b hb
   exact ev.new b ⟨n,hb'⟩
  ·obtain ⟨h1,h2⟩:=ev.dat b off hd
   exact ⟨fwd b off h1,h2⟩
  ·rw [low n (by rw [hn]; simp)]; exact ev.dead n hn
  ·rw [low n (by rw [hn]; simp)]; exact ev.own n b hn
  ·rw [low n (by rw [hn]; simp)]; exact ev.tok n t hn
  ·rw [low n (by rw [hn]; simp)]; exact ev.far n Y hn
  ·rw [low n (by rw [hn]; simp)]; exact ev.mat n bs hn
  ·rw [low n (by rw [hn]; simp)] at hn'; exact ev.shape n b hn hn'
theorem Qrr {regs':List AV} {own':List Slot} (h:∀ φ w,EnvOK X φ w s.slot→∃ φ',Evo X φ w φ' w∧Qb9 φ'∧(∀ n,SlotOK X φ' w n (own'.getD n .unused))∧(∀ a a' v,R a a'→RelV X φ w a v→RelV X φ' w a' v)) (hr:LPw R s.regs regs'):Mor X φ0 w0 s ⟨regs',own'⟩:=fun φ a w hsim=>by
 obtain ⟨φ',h1,h2,h3,h4⟩:=h φ w hsim.env
 exact ⟨φ',hsim.low,hsim.defers.evo h1,hsim.size.trans hr.length,fun t v hv=>by
  obtain ⟨u,hu,hra⟩:=hr.get t v hv
  exact h4 u v _ hra (hsim.regs t u hu),⟨h3,h2,hsim.env.hid⟩,hsim.evo.trans h1⟩
inductive Fz (n m:Nat) (xs:List (List AV)):AV→AV→Prop where
 | same (a:AV):Fz n m xs a a
 | any (a:AV):Fz n m xs a .any
 | fz (j len:Nat) (ys:List (List AV)) (h:j+len≤xs.length) (hy:(xs.drop j).take len=ys):Fz n m xs (.own n m j len) (.dat m ys)
 | agg (l l':List AV) (hl:l.length=l'.length) (h:∀ (i:Nat) a a',l[i]? = some a→l'[i]? = some a'→Fz n m xs a a'):Fz n m xs (.agg l) (.agg l')
theorem Fz.rel {n m:Nat} {xs:List (List AV)} (henv:EnvOK X φ w s.slot) (hs:s.slot n=.own m xs) (evo:Evo X φ w (upd φ n .dead) w) {a a':AV} (h:Fz n m xs a a'):∀ {v:Value},RelV X φ w a v→RelV X (upd φ n .dead) w a' v:=by
 have hslot:=henv.slot n
 rw [hs] at hslot
 obtain ⟨b,hb,hown⟩:=hslot
 induction h with
 | same a=>exact fun hv=>hv.evo evo
 | any a=>exact fun {v} _=>.any v
 | fz j len ys hle hy=>
  intro v hv
  obtain ⟨cap,hc,hcm,rfl⟩:=Qzm hv hb
  obtain ⟨cur,ty,h1,h2,h3,h4⟩:=hown.blk
  have hget:∀ (q:Nat) y,ys[q]? = some y→xs[j+q]? = some y:=fun q y hq=>by
   subst hy
   rw [List.getElem?_take] at hq
   split at hq
   ·rwa [List.getElem?_drop] at hq
   ·cases hq
  have hlen:ys.length=len:=by subst hy; simp; omega
  refine .dat m ys _ len cap (fun q i=>cur.getD ((j+q) * m+i) undef) ⟨hlen.symm,hc,hcm,fun y hy'=>?_,fun _=>⟨b,j * m,rfl,fun q y hq i hi=>⟨⟨hown.lt,hown.hid _,fun k hk=>?_,fun k L hk=>?_,fun k Y hk hy=>?_,fun k bs z hk hz=>?_⟩,?_⟩⟩⟩ (fun q y hq i a hi=>(h4 (j+q) y (hget q y hq) i a hi).evo evo)
  ·obtain ⟨q,hq,rfl⟩:=List.getElem_of_mem hy'
   exact h3 _ (List.mem_of_getElem? (hget q _ (List.getElem?_eq_getElem hq)))
  ·unfold upd at hk
   split at hk
   ·cases hk
   ·exact absurd (henv.distinct k n b (.inl hk) (.inl hb)) (by assumption)
  ·unfold upd at hk
   split at hk
   ·cases hk
   ·exact absurd (henv.distinct k n b (.tok hk) (.inl hb)) (by assumption)
  ·unfold upd at hk
   split at hk
   ·cases hk
   ·exact absurd (henv.distinct k n b (.far hk hy) (.inl hb)) (by assumption)
  ·unfold upd at hk
   split at hk
   ·cases hk
   ·exact absurd (henv.distinct k n b (.mat hk hz) (.inl hb)) (by assumption)
  ·have hjl:=(List.getElem?_eq_some_iff.1 (hget q y hq)).1
   have hlt:=Qd6 hjl hi
   have hlt':(j+q) * m+i<cur.size:=by omega
   rw [← Nat.add_mul,cell_of_row w b _ cur _ _ h1]
   simp [Array.getD_eq_getD_getElem?,hlt']
 | agg l l' hl _ ih=>
  intro v hv
  cases hv with
  | agg _ vs hs' hr=>
   refine .agg _ vs (hs'.trans hl) fun i a' hi=>?_
   have hlt:=(List.getElem?_eq_some_iff.1 hi).1
   exact ih i _ a' (List.getElem?_eq_getElem (by omega)) hi (hr i _ (List.getElem?_eq_getElem (by omega)))
theorem Qpc (n:Nat) {m:Nat} {xs:List (List AV)} (hs:s.slot n=.own m xs) {regs':List AV} {own':List Slot} (hr:LPw (Fz n m xs) s.regs regs') (hd:own'.getD n .unused=.dead) (ho:∀ k,k ≠ n→SPw (Fz n m xs) (s.slot k) (own'.getD k .unused)):Mor X φ0 w0 s ⟨regs',own'⟩:=
 Qrr (R:=Fz n m xs) (fun φ w henv=>by
  have hslot:=henv.slot n
  rw [hs] at hslot
  obtain ⟨b,hb,hown⟩:=hslot
  have evo:Evo X φ w (upd φ n .dead) w:=by
   refine ⟨rfl,rfl,rfl,Nat.le_refl _,fun _ _ _=>rfl,fun b' ⟨q,hq⟩=>?_,fun b' off hdat=>⟨⟨hdat.lt,hdat.hid,fun q hq=>?_,fun q L hq=>?_,fun q Y hq=>?_,fun q bs z hq=>?_⟩,rfl⟩,fun q hq=>?_,fun q b' hq=>?_,fun q t hq=>?_,fun q Y hq=>?_,fun q bs hq=>?_,fun _ _ _ _=>.same rfl⟩
   ·unfold upd at hq
    split at hq
    ·first | exact (Qa0 hq).elim | exact (Qc1 hq).elim
    ·exact .inl ⟨q,hq⟩
   ·unfold upd at hq
    split at hq
    ·cases hq
    ·exact hdat.own q hq
   ·unfold upd at hq
    split at hq
    ·cases hq
    ·exact hdat.tok q L hq
   ·unfold upd at hq
    split at hq
    ·cases hq
    ·exact hdat.far q Y hq
   ·unfold upd at hq
    split at hq
    ·cases hq
    ·exact hdat.mat q bs z hq
   ·unfold upd; split<;>simp [hq]
   ·unfold upd; split
    ·exact .inr rfl
    ·exact .inl hq
   ·unfold upd; split
    ·exact .inl rfl
    ·exact .inr ⟨hq,fun _ _ _=>rfl⟩
   ·unfold upd; split
    ·exact .inl rfl
    ·exact .inr ⟨Y,hq⟩
   ·unfold upd; split
    ·exact .inl rfl
    ·exact .inr ⟨bs,hq,.refl bs⟩
  have hR:∀ a a' v,Fz n m xs a a'→RelV X φ w a v→RelV X (upd φ n .dead) w a' v:=fun a a' v hf hv=>Fz.rel henv hs evo hf hv
  refine ⟨upd φ n .dead,evo,fun q q' b' h1 h2=>?_,fun q=>?_,hR⟩
  ·unfold upd at h1 h2
   split at h1
   ·first | exact (Qa0 h1).elim | exact (Qc1 h1).elim
   ·split at h2
    ·first | exact (Qa0 h2).elim | exact (Qc1 h2).elim
    ·exact henv.distinct q q' b' h1 h2
  ·by_cases e:q=n
   ·subst e
    rw [hd]
    show upd φ q .dead q=.dead
    simp [upd]
   ·have hsp:=ho q e
    have hok:=henv.slot q
    have eq:upd φ n .dead q=φ q:=by simp [upd,e]
    generalize s.slot q=s1 at hsp hok
    generalize own'.getD q .unused=s2 at hsp
    cases hsp with
    | unused=>exact eq.trans hok
    | dead=>exact eq.trans hok
    | tok=>obtain ⟨t,ht,ht'⟩:=hok; exact ⟨t,eq.trans ht,ht'⟩
    | own m xs xs' hl' hp=>obtain ⟨b,hb,hown⟩:=hok; exact ⟨b,eq.trans hb,hown.pw hR hl' hp⟩
    | gro m xs xs' hl' hp=>
     rcases hok with ⟨h1,h2⟩ | ⟨b,hb,hown⟩
     ·exact .inl ⟨List.eq_nil_of_length_eq_zero (by rw [← hl',h1]; rfl),eq.trans h2⟩
     ·exact .inr ⟨b,eq.trans hb,hown.pw hR hl' hp⟩
    | far J=>
     obtain ⟨Y,D,B,f1,f2,f3⟩:=hok
     exact ⟨Y,D,B,eq.trans f1,f2,f3.own,fun b off hx hy=>⟨(evo.dat b off (f3.dat b off hx hy).1).1,(f3.dat b off hx hy).2⟩,f3.os,f3.tape,f3.output,f3.size⟩
    | mat m rows hp=>
     obtain ⟨bs,m1,m2,m3,m4⟩:=hok
     refine ⟨bs,eq.trans m1,m2,m3,fun k xs hk=>?_⟩
     rcases m4 k xs hk with m5 | ⟨b,m5,m6⟩
     ·exact .inl m5
     ·exact .inr ⟨b,m5,m6.pw hR rfl fun j x x' h1 h2=>by rw [h1] at h2; cases h2; exact hp xs (List.mem_of_getElem? hk) x (List.mem_of_getElem? h1)⟩
    | mp es clock=>obtain ⟨b,hb,hown⟩:=hok; exact ⟨b,eq.trans hb,hown⟩) hr
inductive Op' (n:Nat) (ty:TypeId) (m:Nat):AV→AV→Prop where
 | same (a:AV):Op' n ty m a a
 | nil:Op' n ty m (.lit (.slice none 0 0)) (.acc n ty m [])
theorem Q2e (n:Nat) (ty:TypeId) (m:Nat) (hs:s.slot n=.unused) {regs':List AV} {own':List Slot} (hr:LPw (Op' n ty m) s.regs regs') (hd:own'.getD n .unused=.tok) (ho:∀ k,k ≠ n→SPw (Op' n ty m) (s.slot k) (own'.getD k .unused)):Mor X φ0 w0 s ⟨regs',own'⟩:=
 Qrr (R:=Op' n ty m) (fun φ w henv=>by
  have hn:φ n=.unused:=by
   have:=henv.slot n
   rw [hs] at this
   exact this
  have ne:∀ q,φ q ≠ .unused→q ≠ n:=fun q hq e=>hq (e ▸ hn)
  have evo:Evo X φ w (upd φ n (.tok none)) w:=by
   refine ⟨rfl,rfl,rfl,Nat.le_refl _,fun _ _ _=>rfl,fun b' ⟨q,hq⟩=>?_,fun b' off hdat=>⟨⟨hdat.lt,hdat.hid,fun q hq=>?_,fun q L hq=>?_,fun q Y hq=>?_,fun q bs z hq=>?_⟩,rfl⟩,fun q hq=>?_,fun q b' hq=>?_,fun q t hq=>?_,fun q Y hq=>?_,fun q bs hq=>?_,fun _ _ _ _=>.same rfl⟩
   ·unfold upd at hq
    split at hq
    ·first | exact (Qa0 hq).elim | exact (Qc1 hq).elim
    ·exact .inl ⟨q,hq⟩
   ·unfold upd at hq
    split at hq
    ·cases hq
    ·exact hdat.own q hq
   ·unfold upd at hq
    split at hq
    ·cases hq
    ·exact hdat.tok q L hq
   ·unfold upd at hq
    split at hq
    ·cases hq
    ·exact hdat.far q Y hq
   ·unfold upd at hq
    split at hq
    ·cases hq
    ·exact hdat.mat q bs z hq
   ·unfold upd; rw [if_neg (ne q (by rw [hq]; simp))]; exact hq
   ·unfold upd; rw [if_neg (ne q (by rw [hq]; simp))]; exact .inl hq
   ·unfold upd; rw [if_neg (ne q (by rw [hq]; simp))]; exact .inr ⟨hq,fun _ _ _=>rfl⟩
   ·unfold upd; rw [if_neg (ne q (by rw [hq]; simp))]; exact .inr ⟨Y,hq⟩
   ·unfold upd; rw [if_neg (ne q (by rw [hq]; simp))]; exact .inr ⟨bs,hq,.refl bs⟩
  have hR:∀ a a' v,Op' n ty m a a'→RelV X φ w a v→RelV X (upd φ n (.tok none)) w a' v:=fun a a' v hf hv=>by
   cases hf with
   | same=>exact hv.evo evo
   | nil=>
    have:=Qcf hv
    subst this
    exact .acc n ty m [] none 0 0 (fun _ _=>undef) (DatOK.nil m none 0 _ (Nat.zero_le _)) (by simp) (by simp [upd]) (fun t ht=>by
     have e:t=none:=by simp [upd] at ht; exact ht.symm
     subst e
     exact ⟨rfl,rfl⟩)
  refine ⟨upd φ n (.tok none),evo,fun q q' b' h1 h2=>?_,fun q=>?_,hR⟩
  ·unfold upd at h1 h2
   split at h1
   ·first | exact (Qa0 h1).elim | exact (Qc1 h1).elim
   ·split at h2
    ·first | exact (Qa0 h2).elim | exact (Qc1 h2).elim
    ·exact henv.distinct q q' b' h1 h2
  ·by_cases e:q=n
   ·subst e
    rw [hd]
    exact ⟨none,by simp [upd],fun b L e=>by cases e⟩
   ·have hsp:=ho q e
    have hok:=henv.slot q
    have eq:upd φ n (.tok none) q=φ q:=by simp [upd,e]
    generalize s.slot q=s1 at hsp hok
    generalize own'.getD q .unused=s2 at hsp
    cases hsp with
    | unused=>exact eq.trans hok
    | dead=>exact eq.trans hok
    | tok=>obtain ⟨t,ht,ht'⟩:=hok; exact ⟨t,eq.trans ht,ht'⟩
    | own m xs xs' hl' hp=>obtain ⟨b,hb,hown⟩:=hok; exact ⟨b,eq.trans hb,hown.pw hR hl' hp⟩
    | gro m xs xs' hl' hp=>
     rcases hok with ⟨h1,h2⟩ | ⟨b,hb,hown⟩
     ·exact .inl ⟨List.eq_nil_of_length_eq_zero (by rw [← hl',h1]; rfl),eq.trans h2⟩
     ·exact .inr ⟨b,eq.trans hb,hown.pw hR hl' hp⟩
    | far J=>
     obtain ⟨Y,D,B,f1,f2,f3⟩:=hok
     exact ⟨Y,D,B,eq.trans f1,f2,f3.own,fun b off hx hy=>⟨(evo.dat b off (f3.dat b off hx hy).1).1,(f3.dat b off hx hy).2⟩,f3.os,f3.tape,f3.output,f3.size⟩
    | mat m rows hp=>
     obtain ⟨bs,m1,m2,m3,m4⟩:=hok
     refine ⟨bs,eq.trans m1,m2,m3,fun k xs hk=>?_⟩
     rcases m4 k xs hk with m5 | ⟨b,m5,m6⟩
     ·exact .inl m5
     ·exact .inr ⟨b,m5,m6.pw hR rfl fun j x x' h1 h2=>by rw [h1] at h2; cases h2; exact hp xs (List.mem_of_getElem? hk) x (List.mem_of_getElem? h1)⟩
    | mp es clock=>obtain ⟨b,hb,hown⟩:=hok; exact ⟨b,eq.trans hb,hown⟩) hr
end
end Go.Proofs.YtmbhnllcfmiajaaGreat
