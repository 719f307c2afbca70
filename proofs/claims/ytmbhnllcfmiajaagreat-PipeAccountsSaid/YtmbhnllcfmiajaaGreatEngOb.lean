/-
  The engine: a slice literal as a block of one's own. Plain laws; no conditions.
-/
import Derived.Test.YtmbhnllcfmiajaaGreatEngN
namespace Go.Proofs.YtmbhnllcfmiajaaGreat
open Go.RowKit
section
variable {P : Program} {o : Oper}
theorem Qmy {t e:TypeId} {n m nm:Nat} {gg:Bool} {parts:Array (Nat×Operand)} {vs:List AV} {xs:List (List AV)} {zs:List Value} (h:o.op=.buildSlice t n parts) (ht:P.underlying t=some (.slice e)) (he:TI P e gg m) (hz:TZ P e zs) (hzm:zs.length=m) (hm:0<m) (hl:vs.length=parts.size) (hbig:n * m≤16777216)
  (hf:Q3p (fun i=>some (i * m,m)) ((List.range (n * m)).map fun k=>AV.lit (zs.getD (k % m) undef)) ((parts.toList.map (·.1)).zip vs)=some xs.flatten) (hx:(xs.all fun x=>x.length==m)=true) (hxl:xs.length=n) {rd:List (Operand×AV)} (hrd:(parts.toList.map (·.2)).zip vs=rd):Qck P o rd [(nm,.unused)] (.own nm m 0 n) [(nm,.own m xs)]:=by
 subst hrd
 refine Qqq fun X φ a w hr=>?_
 obtain ⟨z,hz1,hz2⟩:=hz.run w
 have hzs:z.cells.size=m:=by rw [← hzm,← hz2]; simp
 have hxs:∀ x ∈ xs,x.length=m:=fun x hxm=>by simpa using List.all_eq_true.1 hx x hxm
 obtain ⟨cs',h1,h2,h3⟩:=Qqg (X:=X) (φ:=φ) (w:=w) _ (parts.map fun (i,x)=>(i,a.eval x)).toList _ ((Array.range (n * m)).map (z.cells[· % z.cells.size]!)) _ (by simp [hl]) (Qqc hr) (by simp) (fun k c hk=>by
  rw [List.getElem?_map] at hk
  cases hkr:(List.range (n * m))[k]? with
  | none=>rw [hkr] at hk; cases hk
  | some q=>
   rw [hkr] at hk
   cases hk
   have hlt:=(List.getElem?_eq_some_iff.1 hkr).1
   simp only [List.length_range] at hlt
   have hq:q=k:=by rw [List.getElem?_range hlt] at hkr; cases hkr; rfl
   subst hq
   have hmod:q % m<m:=Nat.mod_lt _ hm
   have:((Array.range (n * m)).map (z.cells[· % z.cells.size]!)).getD q undef=zs.getD (q % m) undef:=by
    rw [Array.getD_eq_getD_getElem?]
    have e1:z.cells[q % m]? = zs[q % m]? := by rw [← hz2,Array.getElem?_toList]
    have e2:q % m<z.cells.size:=by omega
    simp only [Array.getElem?_map,Array.getElem?_range,hlt,if_true,Option.map_some,Option.getD_some,hzs]
    rw [List.getD_eq_getElem?_getD,← e1,Array.getElem?_eq_getElem e2]
    simp [e2]
   rw [this]
   exact .lit _) hf
 have hflat:xs.flatten.length=n * m:=by
  rw [Qpb hxs,hxl]
 have hexec:(execOp a.eval o).run P w=.ok (.value (.slice (some ⟨w.heap.size,0,none⟩) n n)) (w.alloc (.cells cs' e)):=by
  have hn:¬ (n * m>2 ^ 24):=by simpa using hbig
  simp only [execOp,h,Instr.buildSlice,Sem.run_bind,run_underlying ht,Result.andThen_ok,he.size,if_neg hn]
  by_cases h0:n * m=0
  ·have e:((Array.range (n * m)).map (z.cells[· % z.cells.size]!))=(Array.range (n * m)).map ((#[]:Array Value)[· % (#[]:Array Value).size]!):=by
    apply Array.ext
    ·simp
    ·intro i hi _; simp [h0] at hi
   have h1':=h1
   rw [e] at h1'
   simp only [if_pos h0,Sem.run_bind,Sem.run_pure,Result.andThen_ok,h1',newRow,newObj]
   rfl
  ·simp only [if_neg h0,Sem.run_bind,hz1,Sem.run_pure,Result.andThen_ok,h1,newRow,newObj]
   rfl
 have hn1:n≤maxLen:=by
  have:=Nat.le_mul_of_pos_right n hm
  simp only [maxLen]
  omega
 refine ⟨_,cs',e,hexec,by rw [h2,hflat,hxl]; exact Nat.le_refl _,hxs,fun j x hj i u hu=>?_,fun φ' w' hf=>.own _ _ _ _ _ _ (Nat.le_refl _) hn1 (by rw [hf]; simp) fun b hb'=>?_⟩
 ·have him:i<m:=by
   have:=hxs x (List.mem_of_getElem? hj)
   have:=(List.getElem?_eq_some_iff.1 hu).1
   omega
  exact h3 (j * m+i) u (by rw [Qpc hxs j x hj i him]; exact hu)
 ·rw [hf] at hb'
  cases hb'
  simp
end
end Go.Proofs.YtmbhnllcfmiajaaGreat
