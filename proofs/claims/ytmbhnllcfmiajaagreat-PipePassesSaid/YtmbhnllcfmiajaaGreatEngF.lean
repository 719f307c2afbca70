/-
  The engine, part E: the operations that only compute, and those that read memory. Plain laws; no conditions.
-/
import Derived.Test.YtmbhnllcfmiajaaGreatEngD
import Derived.Laws.StructEq
namespace Go.Proofs.YtmbhnllcfmiajaaGreat
open Go.RowKit
section
variable {P : Program} {o : Oper} {rd : List (Operand × AV)} {bl : List (Nat × Slot)} {r : AV}
theorem Qbv (h:∀ (X:Nat→Nat→Prop) (φ:Nat→FSlot) (a:Act) (w:World),(∀ p ∈ rd,RelV X φ w p.2 (a.eval p.1))→(∀ p ∈ bl,SlotOK X φ w p.1 p.2)→∃ v,(execOp a.eval o).run P w=.ok (.value v) w∧RelV X φ w r v):Qcg P o rd bl r []:=by
 intro X φ a w hr hb hd _ _ next Q k
 obtain ⟨v,h1,h2⟩:=h X φ a w hr hb
 refine Qgp h1 ?_
 exact k v φ w h2 (by simp) hd (fun _ _=>rfl) (fun _ _ _=>rfl) Evo.refl
theorem Qcf {X:Nat→Nat→Prop} {φ:Nat→FSlot} {w:World} {u v:Value} (h:RelV X φ w (.lit u) v):v=u:=by cases h; rfl
theorem Qt4 {x:Operand} {v:AV} (h:o.op=.move x):Qcg P o [(x,v)] [] v []:=Qbv fun X φ a w hr _=>⟨a.eval x,by simp [execOp,h],hr (x,v) (by simp)⟩
theorem Qp2 {x:Operand} {v:AV} (h:o.op=.assign x):Qcg P o [(x,v)] [] v []:=Qbv fun X φ a w hr _=>⟨a.eval x,by simp [execOp,h],hr (x,v) (by simp)⟩
theorem Qt2 {c x y:Operand} {b:Bool} {u v:AV} (h:o.op=.pick c x y) (hv:(bif b then u else v)=r):Qcg P o [(c,.lit (.bool b)),(x,u),(y,v)] [] r []:=Qbv fun X φ a w hr _=>by
 have h1:a.eval c=.bool b:=Qcf (hr (c,.lit (.bool b)) (by simp))
 have h2:=hr (x,u) (by simp)
 have h3:=hr (y,v) (by simp)
 subst hv
 refine ⟨if b then a.eval x else a.eval y,?_,?_⟩
 ·simp [execOp,h,h1,asBool]
 ·cases b
  ·exact h3
  ·exact h2
def binI:BinOp→IntKind→Int→Int→Option Value
 | .add,k,a,b=>some (.int k (k.wrap (a+b)))
 | .sub,k,a,b=>some (.int k (k.wrap (a - b)))
 | .mul,k,a,b=>some (.int k (k.wrap (a * b)))
 | .eql,_,a,b=>some (.bool (a==b))
 | .neq,_,a,b=>some (.bool (a != b))
 | .lss,_,a,b=>some (.bool (a<b))
 | .leq,_,a,b=>some (.bool (a≤b))
 | .gtr,_,a,b=>some (.bool (a>b))
 | .geq,_,a,b=>some (.bool (a≥b))
 | _,_,_,_=>none
theorem Zal {op:BinOp} {t t':TypeId} {x y:Operand} {k:IntKind} {a b:Int} {v:Value} (h:o.op=.binOp op t x y t') (hv:binI op k a b=some v):Qcg P o [(x,.lit (.int k a)),(y,.lit (.int k b))] [] (.lit v) []:=Qbv fun X φ ac w hr _=>by
 have h1:ac.eval x=.int k a:=Qcf (hr (x,.lit (.int k a)) (by simp))
 have h2:ac.eval y=.int k b:=Qcf (hr (y,.lit (.int k b)) (by simp))
 refine ⟨v,?_,.lit v⟩
 cases op<;>simp only [binI,Option.some.injEq] at hv<;>first | cases hv; done | (subst hv; simp [execOp,h,h1,h2,eqGuard,binOp,Op.intArith,Op.intCmp])
theorem Qon {t t':TypeId} {x y:Operand} {k:IntKind} {a b:Int} (h:o.op=.binOp .quo t x y t') (hb:b ≠ 0):Qcg P o [(x,.lit (.int k a)),(y,.lit (.int k b))] [] (.lit (.int k (k.wrap (a.tdiv b)))) []:=Qbv fun X φ ac w hr _=>by
 have h1:ac.eval x=.int k a:=Qcf (hr (x,.lit (.int k a)) (by simp))
 have h2:ac.eval y=.int k b:=Qcf (hr (y,.lit (.int k b)) (by simp))
 exact ⟨_,by simp [execOp,h,h1,h2,eqGuard,binOp,Op.intDiv,hb],.lit _⟩
theorem Qx9 {t t':TypeId} {x y:Operand} {k:IntKind} {a b:Int} (h:o.op=.binOp .rem t x y t') (hb:b ≠ 0):Qcg P o [(x,.lit (.int k a)),(y,.lit (.int k b))] [] (.lit (.int k (a.tmod b))) []:=Qbv fun X φ ac w hr _=>by
 have h1:ac.eval x=.int k a:=Qcf (hr (x,.lit (.int k a)) (by simp))
 have h2:ac.eval y=.int k b:=Qcf (hr (y,.lit (.int k b)) (by simp))
 exact ⟨_,by simp [execOp,h,h1,h2,eqGuard,binOp,Op.intDiv,hb],.lit _⟩
theorem Qj5 {t:TypeId} {x:Operand} {b:Bool} (h:o.op=.unOp .not t x):Qcg P o [(x,.lit (.bool b))] [] (.lit (.bool !b)) []:=Qbv fun X φ ac w hr _=>by
 have h1:ac.eval x=.bool b:=Qcf (hr (x,.lit (.bool b)) (by simp))
 exact ⟨_,by simp [execOp,h,h1,Op.unary],.lit _⟩
theorem Zah {t:TypeId} {x:Operand} {k:IntKind} {a:Int} (h:o.op=.unOp .neg t x):Qcg P o [(x,.lit (.int k a))] [] (.lit (.int k (k.wrap (0 - a)))) []:=Qbv fun X φ ac w hr _=>by
 have h1:ac.eval x=.int k a:=Qcf (hr (x,.lit (.int k a)) (by simp))
 exact ⟨_,by simp [execOp,h,h1,Op.unary,Op.intArith],.lit _⟩
theorem Q5a {t t':TypeId} {x:Operand} {k k':IntKind} {a:Int} (h:o.op=.convert t t' x) (ht:(P.underlying t).isSome=true) (ht':P.underlying t'=some (.int k')):Qcg P o [(x,.lit (.int k a))] [] (.lit (.int k' (k'.wrap a))) []:=Qbv fun X φ ac w hr _=>by
 have h1:ac.eval x=.int k a:=Qcf (hr (x,.lit (.int k a)) (by simp))
 obtain ⟨d,hd⟩:=Option.isSome_iff_exists.1 ht
 exact ⟨_,by simp [execOp,h,h1,convert,run_underlying hd,run_underlying ht',Conv.intToInt],.lit _⟩
theorem Qoo {x y:Operand} {ts:Array TypeId} {k:IntKind} {a b:Int} (h:o.op=.call { callee:=.builtin .max,args := #[x,y],argTypes:=ts }):Qcg P o [(x,.lit (.int k a)),(y,.lit (.int k b))] [] (.lit (.int k (if b>a then b else a))) []:=Qbv fun X φ ac w hr _=>by
 have h1:ac.eval x=.int k a:=Qcf (hr (x,.lit (.int k a)) (by simp))
 have h2:ac.eval y=.int k b:=Qcf (hr (y,.lit (.int k b)) (by simp))
 exact ⟨_,by simp [execOp,h,h1,h2,resolve,invoke,builtin,Builtin.max_,Builtin.max2],.lit _⟩
theorem Qsj {x y:Operand} {ts:Array TypeId} {k:IntKind} {a b:Int} (h:o.op=.call { callee:=.builtin .min,args := #[x,y],argTypes:=ts }):Qcg P o [(x,.lit (.int k a)),(y,.lit (.int k b))] [] (.lit (.int k (if b<a then b else a))) []:=Qbv fun X φ ac w hr _=>by
 have h1:ac.eval x=.int k a:=Qcf (hr (x,.lit (.int k a)) (by simp))
 have h2:ac.eval y=.int k b:=Qcf (hr (y,.lit (.int k b)) (by simp))
 exact ⟨_,by simp [execOp,h,h1,h2,resolve,invoke,builtin,Builtin.min_,Builtin.min2],.lit _⟩
theorem Qv3 {x:Operand} {i:Nat} {l:List AV} {v:AV} (h:o.op=.extract x i) (hv:l[i]? = some v):Qcg P o [(x,.tup l)] [] v []:=Qbv fun X φ ac w hr _=>by
 have h1:=hr (x,.tup l) (by simp)
 dsimp only at h1
 cases hx:ac.eval x with
 | tuple vs=>
  rw [hx] at h1
  cases h1 with
  | tup _ _ hs h2=>
   have hi:=(List.getElem?_eq_some_iff.1 hv).1
   have h3:=h2 i v hv
   refine ⟨vs.getD i undef,?_,h3⟩
   have hg:vs[i]? = some (vs.getD i undef):=by
    rw [Array.getD_eq_getD_getElem?,Array.getElem?_eq_getElem (by omega)]; rfl
   have he:Instr.extract (.tuple vs) i=pure (vs.getD i undef):=by
    unfold Instr.extract
    dsimp only
    rw [hg]
   simp only [execOp,h,hx,he,Sem.run_bind,Sem.run_pure,Result.andThen_ok]
 | _=>rw [hx] at h1; cases h1
structure TI (P:Program) (t:TypeId) (agg:Bool) (size:Nat):Prop where
 und:∃ d,P.underlying t=some d∧(match d with | .struct _ | .array _ _=>true | _=>false)=agg
 inf:∃ i,P.info? t=some i∧i.size=size
theorem TI.isAgg {t:TypeId} {g:Bool} {n:Nat} (h:TI P t g n) (w:World):(isAgg t).run P w=.ok g w:=by
 obtain ⟨d,hd,hg⟩:=h.und
 unfold Go.isAgg
 simp only [Sem.run_bind,run_underlying hd,Result.andThen_ok]
 subst hg
 cases d<;>rfl
theorem TI.size {t:TypeId} {g:Bool} {n:Nat} (h:TI P t g n) (w:World):(sizeOf t).run P w=.ok n w:=by
 obtain ⟨i,hi,hn⟩:=h.inf
 simp [sizeOf,typeInfo,hi,hn]
theorem Q0l {x:Operand} {t ft:TypeId} {f:Nat} {fs:Array Field} {fl:Field} {g:Bool} {n:Nat} {l:List AV} (h:o.op=.field t x f) (ht:P.underlying t=some (.struct fs)) (hf:fs[f]? = some fl) (hft:fl.type=ft) (hi:TI P ft g n)
  (hl:fl.offset+n≤l.length) (hn:g=false→n=1) (hv:(bif g then .agg ((l.drop fl.offset).take n) else l.getD fl.offset .any)=r):Qcg P o [(x,.agg l)] [] r []:=Qbv fun X φ ac w hr _=>by
 have h1:=hr (x,.agg l) (by simp)
 dsimp only at h1
 cases hx:ac.eval x with
 | agg vs=>
  rw [hx] at h1
  cases h1 with
  | agg _ _ hs h2=>
   subst hft
   cases g with
   | false=>
    have hn1:=hn rfl
    have hlt:fl.offset<vs.size:=by omega
    refine ⟨vs[fl.offset],?_,?_⟩
    ·have hg:vs[fl.offset]? = some vs[fl.offset]:=Array.getElem?_eq_getElem hlt
     simp [execOp,h,hx,Instr.field,run_underlying ht,hf,asAgg,part,hi.isAgg,hg]
    ·subst hv
     have:=h2 fl.offset (l.getD fl.offset .any) (by rw [List.getD_eq_getElem?_getD,List.getElem?_eq_getElem (by omega)]; rfl)
     simpa [Array.getD_eq_getD_getElem?,hlt] using this
   | true=>
    refine ⟨.agg (vs.extract fl.offset (fl.offset+n)),?_,?_⟩
    ·simp [execOp,h,hx,Instr.field,run_underlying ht,hf,asAgg,part,hi.isAgg,hi.size]
    ·subst hv
     refine .agg _ _ (by simp; omega) fun i a hia=>?_
     rw [List.getElem?_take] at hia
     split at hia
     ·rw [List.getElem?_drop] at hia
      have:=h2 _ a hia
      rw [Array.getD_eq_getD_getElem?] at this ⊢
      rwa [Array.getElem?_extract,if_pos (by omega)]
     ·cases hia
 | _=>rw [hx] at h1; cases h1
def EqT (P:Program) (d:Nat) (t:TypeId) (n:Nat):Prop:=∀ (w:World) (ls ks:List Int),ls.length=n→ks.length=n→(Op.equalIn d t (.agg (ls.map (Value.int .i64)).toArray) (.agg (ks.map (Value.int .i64)).toArray)).run P w=.ok (ls==ks) w
inductive EqF (P:Program) (d:Nat):Nat→List Field→Nat→Prop where
 | nil (n:Nat):EqF P d n [] n
 | int {off n : Nat} {f : Field} {fs : List Field} (k : IntKind) (h1 : (f.name != "_") = true) (h2 : f.offset = off) (h3 : P.underlying f.type = some (.int k)) (h : EqF P d (off + 1) fs n) : EqF P d off (f :: fs) n
 | agg {off n : Nat} {f : Field} {fs : List Field} (k : Nat) (h1 : (f.name != "_") = true) (h2 : f.offset = off) (h3 : TI P f.type true k) (h4 : EqT P (d + 1) f.type k) (h : EqF P d (off + k) fs n) : EqF P d off (f :: fs) n
theorem EqF.le {d off n:Nat} {fs:List Field} (h:EqF P d off fs n):off≤n:=by
 induction h with
 | nil=>exact Nat.le_refl _
 | int _ _ _ _ _ ih=>omega
 | agg _ _ _ _ _ _ ih=>omega
theorem EqF.run {d:Nat} (w:World) {n:Nat} (ls ks:List Int) (ha:ls.length=n) (hb:ks.length=n) {off:Nat} {fs:List Field} (h:EqF P d off fs n):(Op.eqFields (d+1) (ls.map (Value.int .i64)).toArray (ks.map (Value.int .i64)).toArray fs).run P w=.ok (ls.drop off==ks.drop off) w:=by
 induction h with
 | nil n=>
  rw [List.drop_of_length_le (by omega),List.drop_of_length_le (by omega)]
  rfl
 | @int off n f fs k h1 h2 h3 h ih=>
  have hle:=h.le
  have hn : (f.name ≠ "_") := by simpa using h1
  have hna:(isAgg f.type).run P w=.ok false w:=by
   unfold Go.isAgg
   simp only [Sem.run_bind,run_underlying h3,Result.andThen_ok]
   rfl
  have hp:∀ (l:List Int) (hl:l.length=n),(part f.type (l.map (Value.int .i64)).toArray f.offset).run P w=.ok (.int .i64 (l[off]'(by omega))) w:=fun l hl=>by
   subst h2
   have e:((l.map (Value.int .i64)).toArray)[f.offset]? = some (.int .i64 (l[f.offset]'(by omega))):=by simp
   simp only [part,Sem.run_bind,hna,Result.andThen_ok,Bool.false_eq_true,if_false,e]
   rfl
  have ih':=ih ha hb
  simp only [Op.eqFields,if_pos hn,Sem.run_bind,hp ls ha,hp ks hb,Result.andThen_ok,run_equalIn_int w d f.type .i64 k _ _ h3]
  rw [List.drop_eq_getElem_cons (show off<ls.length by omega),List.drop_eq_getElem_cons (show off<ks.length by omega)]
  cases he:(ls[off]'(by omega)==ks[off]'(by omega)) with
  | false=>simp only [Bool.not_false,if_true,List.cons_beq_cons,he,Bool.false_and]; rfl
  | true=>simp only [Bool.not_true,Bool.false_eq_true,if_false,ih',List.cons_beq_cons,he,Bool.true_and]
 | @agg off n f fs k h1 h2 h3 h4 h ih=>
  have hle:=h.le
  have hn : (f.name ≠ "_") := by simpa using h1
  have hp:∀ (l:List Int) (hl:l.length=n),(part f.type (l.map (Value.int .i64)).toArray f.offset).run P w=.ok (.agg (((l.drop off).take k).map (Value.int .i64)).toArray) w:=fun l hl=>by
   subst h2
   have e:(l.map (Value.int .i64)).toArray.extract f.offset (f.offset+k)=(((l.drop f.offset).take k).map (Value.int .i64)).toArray:=by
    simp [List.extract_eq_take_drop]
   simp only [part,Sem.run_bind,h3.isAgg,h3.size,Result.andThen_ok,if_true,e]
   rfl
  have ih':=ih ha hb
  simp only [Op.eqFields,if_pos hn,Sem.run_bind,hp ls ha,hp ks hb,Result.andThen_ok,h4 w _ _ (show ((ls.drop off).take k).length=k by simp; omega) (show ((ks.drop off).take k).length=k by simp; omega)]
  have sp:∀ l:List Int,l.drop off=(l.drop off).take k++l.drop (off+k):=fun l=>by
   rw [← List.drop_drop,List.take_append_drop]
  have e:(ls.drop off==ks.drop off)=(((ls.drop off).take k==(ks.drop off).take k)&&(ls.drop (off+k)==ks.drop (off+k))):=by
   have hl:((ls.drop off).take k).length=((ks.drop off).take k).length:=by simp; omega
   rw [Bool.eq_iff_iff,Bool.and_eq_true,beq_iff_eq,beq_iff_eq,beq_iff_eq]
   refine ⟨fun h=>⟨by rw [h],by rw [← List.drop_drop,← List.drop_drop,h]⟩,fun h=>?_⟩
   rw [sp ls,sp ks,h.1,h.2]
  cases he:((ls.drop off).take k==(ks.drop off).take k) with
  | false=>rw [e,he]; simp
  | true=>rw [e,he]; simp only [Bool.not_true,Bool.false_eq_true,if_false,ih',Bool.true_and]
theorem Qpg {d n:Nat} {t:TypeId} {fs:Array Field} (ht:P.underlying t=some (.struct fs)) (hp:P.stoodInHeld t=false) (h:EqF P d 0 fs.toList n):EqT P (d+2) t n:=fun w ls ks ha hb=>by
 have hf:P.fieldsOf t=fs:=by simp [Program.fieldsOf,ht]
 rw [run_equalIn_struct w (d+1) t _ _ (by rw [hf]; exact ht) hp,hf,h.run w ls ks ha hb]
 simp
def ints (l:List Int):List AV:=l.map fun x=>.lit (.int .i64 x)
theorem Qql {X:Nat→Nat→Prop} {φ:Nat→FSlot} {w:World} {l:List Int} {v:Value} (h:RelV X φ w (.agg (ints l)) v):v=.agg (l.map (Value.int .i64)).toArray:=by
 cases h with
 | agg _ vs hs hr=>
  congr 1
  apply Array.ext
  ·simpa [ints] using hs
  ·intro i h1 h2
   have hil:i<l.length:=by simpa using h2
   have:=hr i (.lit (.int .i64 l[i])) (by simp only [ints,List.getElem?_map,List.getElem?_eq_getElem hil,Option.map_some])
   have:=Qcf this
   rw [Array.getD_eq_getD_getElem?,Array.getElem?_eq_getElem h1] at this
   simpa using this
theorem Qop {t t':TypeId} {x y:Operand} (ls ks:List Int) {n:Nat} {d:Nat} (h:o.op=.binOp .eql t x y t') (hd:d=10000) (he:EqT P d t n) (hg:P.eqGuardType P.depth t=false) (ha:ls.length=n) (hb:ks.length=n) :
  Qcg P o [(x,.agg (ints ls)),(y,.agg (ints ks))] [] (.lit (.bool (ls==ks))) []:=Qbv fun X φ ac w hr _=>by
 have h1:=Qql (hr (x,.agg (ints ls)) (by simp))
 have h2:=Qql (hr (y,.agg (ints ks)) (by simp))
 dsimp only at h1 h2
 subst hd
 exact ⟨_,by simp only [execOp,h,h1,h2,Sem.run_bind,run_eqGuard_agg w _ t _ _ _ _ hg,Result.andThen_ok,run_eql_struct,he w ls ks ha hb]; rfl,.lit _⟩
theorem Zag {t t':TypeId} {x y:Operand} (ls ks:List Int) {n:Nat} {d:Nat} (h:o.op=.binOp .neq t x y t') (hd:d=10000) (he:EqT P d t n) (hg:P.eqGuardType P.depth t=false) (ha:ls.length=n) (hb:ks.length=n) :
  Qcg P o [(x,.agg (ints ls)),(y,.agg (ints ks))] [] (.lit (.bool !(ls==ks))) []:=Qbv fun X φ ac w hr _=>by
 have h1:=Qql (hr (x,.agg (ints ls)) (by simp))
 have h2:=Qql (hr (y,.agg (ints ks)) (by simp))
 dsimp only at h1 h2
 subst hd
 exact ⟨_,by simp only [execOp,h,h1,h2,Sem.run_bind,run_eqGuard_agg w _ t _ _ _ _ hg,Result.andThen_ok,run_neq_struct,he w ls ks ha hb]; rfl,.lit _⟩
end
end Go.Proofs.YtmbhnllcfmiajaaGreat
namespace Go.Proofs.YtmbhnllcfmiajaaGreat
open Go.RowKit
def CellsAt (X:Nat→Nat→Prop) (φ:Nat→FSlot) (w:World) (b o:Nat) (cs:List AV):Prop:=
 ∃ g:Nat→Value,∀ k a,cs[k]? = some a→w.cell? ⟨b,o+k,none⟩=some (g k)∧RelV X φ w a (g k)
section
variable {P : Program} {o : Oper} {X : Nat → Nat → Prop} {φ : Nat → FSlot} {w : World} {r : AV}
theorem Qd6 {j m n i:Nat} (hj:j<n) (hi:i<m):j * m+i<n * m:=by
 have h1:(j+1) * m≤n * m:=Nat.mul_le_mul_right m hj
 rw [Nat.add_mul] at h1
 omega
theorem OwnOK.cells {b m:Nat} {xs:List (List AV)} (h:OwnOK X φ w b m xs) {j:Nat} {c:List AV} (hj:xs[j]? = some c):CellsAt X φ w b (j * m) c:=by
 obtain ⟨cur,ty,h1,h2,h3,h4⟩:=h.blk
 refine ⟨fun k=>cur.getD (j * m+k) undef,fun k a hk=>⟨?_,h4 j c hj k a hk⟩⟩
 have hjl:=(List.getElem?_eq_some_iff.1 hj).1
 have hkl:=(List.getElem?_eq_some_iff.1 hk).1
 rw [h3 c (List.mem_of_getElem? hj)] at hkl
 have:=Qd6 hjl hkl
 have hlt:j * m+k<cur.size:=by omega
 simp only [World.cell?,h1]
 simp [Array.getD_eq_getD_getElem?,hlt]
theorem CellsAt.drop {b o:Nat} {cs:List AV} (h:CellsAt X φ w b o cs) (i:Nat):CellsAt X φ w b (o+i) (cs.drop i):=by
 obtain ⟨g,hg⟩:=h
 refine ⟨fun k=>g (i+k),fun k a hk=>?_⟩
 rw [List.getElem?_drop] at hk
 have:=hg _ a hk
 rwa [← Nat.add_assoc] at this
def ldA (g:Bool) (n i:Nat) (cs:List AV):AV:=bif g then .agg ((cs.drop i).take n) else cs.getD i .any
theorem CellsAt.load {b of i n:Nat} {cs:List AV} {t:TypeId} {g:Bool} (h:CellsAt X φ w b of cs) (ht:TI P t g n) (hn:i+n≤cs.length) (hg:g=false→n=1):∃ v,(loadVar t ⟨b,of+i,none⟩).run P w=.ok v w∧RelV X φ w (ldA g n i cs) v:=by
 obtain ⟨f,hf⟩:=h
 cases g with
 | false=>
  have h1:=hg rfl
  have hget:cs[i]? = some (cs.getD i .any):=by rw [List.getD_eq_getElem?_getD,List.getElem?_eq_getElem (by omega)]; rfl
  obtain ⟨h2,h3⟩:=hf i _ hget
  refine ⟨f i,?_,h3⟩
  have hl:(Go.load (⟨b,of+i,none⟩:Addr)).run P w=.ok (f i) w:=by simp [Go.load,Sem.run,h2]
  simp only [loadVar,Sem.run_bind,ht.isAgg,Result.andThen_ok,Bool.false_eq_true,if_false,hl]
 | true=>
  have hc:=run_loadCells (P:=P) w ⟨b,of+i,none⟩ n (fun k=>f (i+k)) (fun k hk=>by
   rw [Addr.add_lit]
   have:=(hf (i+k) (cs.getD (i+k) .any) (by rw [List.getD_eq_getElem?_getD,List.getElem?_eq_getElem (by omega)]; rfl)).1
   rwa [← Nat.add_assoc] at this)
  refine ⟨.agg ((List.range n).map fun k=>f (i+k)).toArray,?_,?_⟩
  ·simp only [loadVar,Sem.run_bind,ht.isAgg,ht.size,Result.andThen_ok,if_true,hc]
   rfl
  ·refine .agg _ _ (by simp; omega) fun k a hk=>?_
   rw [List.getElem?_take] at hk
   split at hk
   ·rename_i hkn
    rw [List.getElem?_drop] at hk
    have:=(hf _ a hk).2
    simpa [Array.getD_eq_getD_getElem?,hkn] using this
   ·cases hk
theorem Qm5 {n m j i:Nat} {v:Value} (h:RelV X φ w (.ref n m j i) v) {b:Nat} (hb:φ n=.own b):v=.pointer (some ⟨b,j * m+i,none⟩):=by
 cases h with
 | ref _ _ _ _ A hn h=>rw [h b hb]
theorem Qzm {n m j len:Nat} {v:Value} (h:RelV X φ w (.own n m j len) v) {b:Nat} (hb:φ n=.own b):∃ cap,len≤cap∧cap≤maxLen∧v=.slice (some ⟨b,j * m,none⟩) len cap:=by
 cases h with
 | own _ _ _ _ A cap hc hm hn h=>exact ⟨cap,hc,hm,by rw [h b hb]⟩
theorem Qt5 {x:Operand} {t:TypeId} {g:Bool} {sz n m j i:Nat} {xs:List (List AV)} {c:List AV} (h:o.op=.load t x) (ht:TI P t g sz) (hg:g=false→sz=1) (hj:xs[j]? = some c) (hi:i+sz≤c.length) (hr:ldA g sz i c=r) :
  Qcg P o [(x,.ref n m j i)] [(n,.own m xs)] r []:=Qbv fun X φ a w hrd hbl=>by
 obtain ⟨b,hb,hown⟩:=hbl (n,.own m xs) (by simp)
 have hx:a.eval x=_:=Qm5 (hrd (x,.ref n m j i) (by simp)) hb
 obtain ⟨v,hv,hrel⟩:=(hown.cells hj).load ht hi hg
 refine ⟨v,?_,hr ▸ hrel⟩
 simp only [execOp,h,hx,Instr.loadAt,Instr.sureAddr,Sem.run_bind,Sem.run_pure,Result.andThen_ok,hv]
theorem Qsk {x:Operand} {t:TypeId} {g:Bool} {sz i:Nat} {c:List AV} (h:o.op=.load t x) (ht:TI P t g sz) (hg:g=false→sz=1) (hi:i+sz≤c.length) (hr:ldA g sz i c=r) :
  Qcg P o [(x,.dptr c i)] [] r []:=Qbv fun X φ a w hrd _=>by
 have hx:=hrd (x,.dptr c i) (by simp)
 dsimp only at hx
 cases hv:a.eval x with
 | pointer A=>
  rw [hv] at hx
  cases hx with
  | dptr _ _ b of g' hc hrel=>
   have hcs:CellsAt X φ w b of c:=⟨g',fun k u hk=>⟨(hc k (List.getElem?_eq_some_iff.1 hk).1).2,hrel k u hk⟩⟩
   obtain ⟨v,hv',hrel'⟩:=hcs.load ht hi hg
   refine ⟨v,?_,hr ▸ hrel'⟩
   simp only [execOp,h,hv,Instr.loadAt,Instr.sureAddr,Sem.run_bind,Sem.run_pure,Result.andThen_ok,hv']
 | _=>rw [hv] at hx; cases hx
def AV.one:AV→Bool
 | .lit v=>v.oneCell'
 | .dat .. | .own .. | .ref .. | .dptr .. | .acc .. | .gro .. | .fn .. | .row .. | .rowp .. | .mp .. => true
 | _=>false
theorem AV.one_spec {a:AV} {v:Value} (h:RelV X φ w a v) (h1:a.one=true):v.oneCell'=true:=by
 cases h with
 | lit=>exact h1
 | any=>cases h1
 | agg=>cases h1
 | tup=>cases h1
 | _=>rfl
def stA:AV→List AV
 | .agg l=>l
 | a=>[a]
theorem Qu4 {a:AV} {v:Value} (h:RelV X φ w a v) (h1:(stA a).all AV.one=true):v.cells.size=(stA a).length∧(∀ u ∈ v.cells.toList,u.oneCell'=true)∧∀ k c,(stA a)[k]? = some c→RelV X φ w c (v.cells.toList.getD k undef):=by
 have single:∀ {a:AV} {v:Value},RelV X φ w a v→a.one=true→v.cells = #[v]∧stA a=[a]:=fun {a v} h ho=>by
  have h2:=AV.one_spec h ho
  refine ⟨?_,?_⟩
  ·cases v with
   | agg=>simp [Value.oneCell'] at h2
   | tuple=>simp [Value.oneCell'] at h2
   | _=>rfl
  ·cases a with
   | agg=>simp [AV.one] at ho
   | _=>rfl
 have fin:∀ {a:AV} {v:Value},RelV X φ w a v→a.one=true→v.cells.size=(stA a).length∧(∀ u ∈ v.cells.toList,u.oneCell'=true)∧∀ k c,(stA a)[k]? = some c→RelV X φ w c (v.cells.toList.getD k undef):=fun {a v} h ho=>by
  obtain ⟨e1,e2⟩:=single h ho
  rw [e1,e2]
  refine ⟨rfl,fun u hu=>?_,fun k c hk=>?_⟩
  ·simp at hu; subst hu; exact AV.one_spec h ho
  ·cases k with
   | zero=>simp at hk; subst hk; exact h
   | succ k=>simp at hk
 cases a with
 | agg l=>
  cases h with
  | agg _ vs hs hr=>
   refine ⟨hs,fun u hu=>?_,fun k c hk=>?_⟩
   ·obtain ⟨k,hk,rfl⟩:=List.getElem_of_mem hu
    have hk':k<vs.size:=by simpa [Value.cells] using hk
    have h3:=hr k l[k] (List.getElem?_eq_getElem (by omega))
    have h4:=List.all_eq_true.1 h1 l[k] (List.getElem_mem (show k<l.length by omega))
    have:=AV.one_spec h3 h4
    rw [Array.getD_eq_getD_getElem?,Array.getElem?_eq_getElem hk'] at this
    simpa [Value.cells] using this
   ·have:=hr k c hk
    rw [Array.getD_eq_getD_getElem?] at this
    rw [List.getD_eq_getElem?_getD]
    simpa [Value.cells] using this
 | any=>simp [stA,AV.one] at h1
 | tup=>simp [stA,AV.one] at h1
 | lit v=>exact fin h (by simpa [stA] using h1)
 | fn=>exact fin h rfl
 | dat=>exact fin h rfl
 | dptr=>exact fin h rfl
 | ref=>exact fin h rfl
 | own=>exact fin h rfl
 | acc=>exact fin h rfl
 | gro=>exact fin h rfl
 | row=>exact fin h rfl
 | rowp=>exact fin h rfl
 | mp=>exact fin h rfl
def Qhf (c:List AV) (i:Nat) (ys:List AV):List AV:=c.take i++ys++c.drop (i+ys.length)
theorem Evo.row {b:Nat} (hn:∃ n,Blk φ n b) (hd:Qb9 φ) (cs:Array Value) (hcs:∀ cur ty s,w.heap[b]? = some (.cells cur ty s)→cs.size=cur.size):Evo X φ w φ (w.setRow b cs):=by
 obtain ⟨n,hn⟩:=hn
 refine ⟨rfl,rfl,rfl,by simp,fun b' _ hb'=>setRow_other w b b' cs fun e=>hb' ⟨n,e ▸ hn.lies⟩,fun _ h=>.inl h,fun b' off hdat=>?_,fun _ h=>h,fun _ _ h=>.inl h,fun n' t ht=>.inr ⟨ht,fun b' L e=>setRow_other w b b' cs fun eb=>?_⟩,fun _ Y h=>.inr ⟨Y,h⟩,fun _ bs h=>.inr ⟨bs,h,.refl bs⟩,fun n' b' _ _ cur ty s hc=>?_⟩
 ·have hne:b' ≠ b:=fun e=>hdat.blk (e ▸ hn)
  refine ⟨⟨by simpa using hdat.lt,hdat.hid,hdat.own,hdat.tok,hdat.far,hdat.mat⟩,?_⟩
  exact World.cell?_of_block (setRow_other w b b' cs hne)
 ·subst e
  subst eb
  have:=hd n n' b' hn.lies (.tok ht)
  subst this
  exact hn.notok ht
 ·by_cases e:b'=b
  ·subst e
   exact ⟨cs,setRow_heap w b' cur _ ty _ hc,hcs cur ty s hc⟩
  ·exact ⟨cur,(setRow_other w b b' cs e).trans hc,rfl⟩
theorem Q4a {x y:Operand} {t:TypeId} {g:Bool} {n b m j i:Nat} {xs:List (List AV)} {c:List AV} {v:AV} {a:Act} (h:o.op=.store t x y) (ht:TI P t g (stA v).length) (h1:(stA v).all AV.one=true) (hj:xs[j]? = some c) (hi:i+(stA v).length≤c.length) {xs':List (List AV)} (hx':xs.set j (Qhf c i (stA v))=xs')
  (hx:a.eval x=.pointer (some ⟨b,j * m+i,none⟩)) (hv:RelV X φ w v (a.eval y)) (hown:OwnOK X φ w b m xs) (hb:Blk φ n b) (hd:Qb9 φ) :
  ∃ cs:Array Value,(execOp a.eval o).run P w=.ok .skip (w.setRow b cs)∧Evo X φ w φ (w.setRow b cs)∧OwnOK X φ (w.setRow b cs) b m xs':=by
 obtain ⟨hs,ho,hr⟩:=Qu4 hv h1
 obtain ⟨cur,ty,h2,h3,h4,h5⟩:=hown.blk
 have hjl:=(List.getElem?_eq_some_iff.1 hj).1
 have hcl:=h4 c (List.mem_of_getElem? hj)
 have hsz:j * m+i+(stA v).length≤cur.size:=by
  have h6:(j+1) * m≤xs.length * m:=Nat.mul_le_mul_right m hjl
  rw [Nat.add_mul] at h6
  omega
 generalize hvs:(a.eval y).cells=vs at hs ho hr
 have hst:=run_storeCells_at P b (j * m+i) ty vs.toList 0 cur w h2 (by simp; omega) ho
 simp only [Nat.add_zero] at hst
 have hrun:(execOp a.eval o).run P w=.ok .skip (w.setRow b (cur.toList.take (j * m+i)++vs.toList++cur.toList.drop (j * m+i+vs.toList.length)).toArray):=by
  simp only [execOp,h,hx,Instr.storeAt,Instr.sureAddr,Sem.run_bind,Sem.run_pure,Result.andThen_ok,storeVar,hvs,ht.size,hs,ne_eq,not_true_eq_false,if_false,hst]
 have hcs:∀ cur' ty' s',w.heap[b]? = some (.cells cur' ty' s')→(cur.toList.take (j * m+i)++vs.toList++cur.toList.drop (j * m+i+vs.toList.length)).toArray.size=cur'.size:=fun cur' ty' s' h'=>by
  rw [h2] at h'
  cases h'
  simp
  omega
 have hlv:vs.toList.length=(stA v).length:=by simpa using hs
 have evo:=Evo.row (X:=X) (w:=w) ⟨n,hb⟩ hd (cur.toList.take (j * m+i)++vs.toList++cur.toList.drop (j * m+i+vs.toList.length)).toArray hcs
 have hspl:(Qhf c i (stA v)).length=c.length:=by simp [Qhf]; omega
 refine ⟨_,hrun,evo,⟨_,ty,setRow_heap w b cur _ ty _ h2,?_,?_,?_⟩,hown.hid⟩
 ·rw [← hx',List.length_set]
  simp
  omega
 ·intro z hz
  rw [← hx'] at hz
  rcases List.mem_or_eq_of_mem_set hz with hz | rfl
  ·exact h4 z hz
  ·rw [hspl,hcl]
 ·intro j' z hz i' u hu
  refine RelV.evo ?_ evo
  rw [← hx'] at hz
  have hi'm:i'<m:=by
   have hlz:z.length=m:=by
    rcases List.mem_or_eq_of_mem_set (List.mem_of_getElem? hz) with hz | rfl
    ·exact h4 z hz
    ·rw [hspl,hcl]
   have:=(List.getElem?_eq_some_iff.1 hu).1
   omega
  by_cases hjj:j'=j
  ·subst hjj
   rw [List.getElem?_set_self hjl] at hz
   cases hz
   by_cases h6:i'<i
   ·have hget:(Qhf c i (stA v))[i']? = c[i']? := by
     simp only [Qhf,List.append_assoc]
     rw [List.getElem?_append_left (by simp; omega),List.getElem?_take,if_pos h6]
    rw [hget] at hu
    have:=h5 j' c hj i' u hu
    rw [Array.getD_eq_getD_getElem?] at this ⊢
    rw [List.append_assoc,List.getElem?_toArray,List.getElem?_append_left (by simp; omega),List.getElem?_take,if_pos (by omega)]
    simpa using this
   ·by_cases h7:i'<i+(stA v).length
    ·have hget:(Qhf c i (stA v))[i']? = (stA v)[i' - i]? := by
      simp only [Qhf,List.append_assoc]
      rw [List.getElem?_append_right (by simp; omega),List.getElem?_append_left (by simp; omega)]
      congr 1
      simp; omega
     rw [hget] at hu
     have:=hr (i' - i) u hu
     rw [List.getD_eq_getElem?_getD] at this
     rw [Array.getD_eq_getD_getElem?,List.append_assoc,List.getElem?_toArray,List.getElem?_append_right (by simp; omega),List.getElem?_append_left (by simp; omega)]
     have e:j' * m+i' - (List.take (j' * m+i) cur.toList).length=i' - i:=by simp; omega
     rw [e]
     exact this
    ·have hget:(Qhf c i (stA v))[i']? = c[i']? := by
      simp only [Qhf,List.append_assoc]
      rw [List.getElem?_append_right (by simp; omega),List.getElem?_append_right (by simp; omega),List.getElem?_drop]
      congr 1
      simp; omega
     rw [hget] at hu
     have:=h5 j' c hj i' u hu
     rw [Array.getD_eq_getD_getElem?] at this ⊢
     rw [List.append_assoc,List.getElem?_toArray,List.getElem?_append_right (by simp; omega),List.getElem?_append_right (by simp; omega),List.getElem?_drop]
     have e:j' * m+i+vs.toList.length+(j' * m+i' - (List.take (j' * m+i) cur.toList).length - vs.toList.length)=j' * m+i':=by simp; omega
     rw [e]
     simpa using this
  ·rw [List.getElem?_set_ne (Ne.symm hjj)] at hz
   have:=h5 j' z hz i' u hu
   rw [Array.getD_eq_getD_getElem?] at this ⊢
   by_cases h8:j'<j
   ·have h9:(j'+1) * m≤j * m:=Nat.mul_le_mul_right m h8
    rw [Nat.add_mul] at h9
    rw [List.append_assoc,List.getElem?_toArray,List.getElem?_append_left (by simp; omega),List.getElem?_take,if_pos (by omega)]
    simpa using this
   ·have h9:(j+1) * m≤j' * m:=Nat.mul_le_mul_right m (by omega)
    rw [Nat.add_mul] at h9
    rw [List.append_assoc,List.getElem?_toArray,List.getElem?_append_right (by simp; omega),List.getElem?_append_right (by simp; omega),List.getElem?_drop]
    have e:j * m+i+vs.toList.length+(j' * m+i' - (List.take (j * m+i) cur.toList).length - vs.toList.length)=j' * m+i':=by simp; omega
    rw [e]
    simpa using this
theorem Qsg {x y:Operand} {t:TypeId} {g:Bool} {n m j i:Nat} {xs:List (List AV)} {c:List AV} {v:AV} (h:o.op=.store t x y) (ht:TI P t g (stA v).length) (h1:(stA v).all AV.one=true) (hj:xs[j]? = some c) (hi:i+(stA v).length≤c.length) {xs':List (List AV)} (hx':xs.set j (Qhf c i (stA v))=xs') :
  Qcg P o [(x,.ref n m j i),(y,v)] [(n,.own m xs)] .any [(n,.own m xs')]:=by
 intro X φ a w hrd hbl hd hX hlt next Q k
 obtain ⟨b,hb,hown⟩:=hbl (n,.own m xs) (by simp)
 obtain ⟨cs,hrun,evo,hok⟩:=Q4a h ht h1 hj hi hx' (Qm5 (hrd (x,.ref n m j i) (by simp)) hb) (hrd (y,v) (by simp)) hown (.inl hb) hd
 exact Qxv hrun (k undef φ _ (.any _) (fun p hp=>by simp at hp; subst hp; exact ⟨b,hb,hok⟩) hd (fun _ _=>rfl) (fun b' _ hb'=>setRow_other w b b' _ fun e=>hb' (n,.own m xs') (by simp) (e ▸ .inl hb)) evo)
theorem Qr3 {t ft:TypeId} {f:Nat} {fs:Array Field} {fl:Field} {g:Bool} {n:Nat} (ht:P.underlying t=some (.struct fs)) (hf:fs[f]? = some fl) (hft:fl.type=ft) (hi:TI P ft g n) (hn:n ≠ 0) (b of:Nat) (w:World) :
  (Instr.fieldAt t (.pointer (some ⟨b,of,none⟩)) f).run P w=.ok (.pointer (some ⟨b,of+fl.offset,none⟩)) w:=by
 subst hft
 simp [Instr.fieldAt,run_underlying ht,hf,Instr.sureAddr,fieldPlace,hi.size,hn,Addr.add_lit]
theorem Qsm {x:Operand} {t ft:TypeId} {f:Nat} {fs:Array Field} {fl:Field} {g:Bool} {sz n m j i i':Nat} {xs:List (List AV)} (h:o.op=.fieldAddr t x f) (ht:P.underlying t=some (.struct fs)) (hf:fs[f]? = some fl) (hft:fl.type=ft) (hi:TI P ft g sz) (hn:sz ≠ 0) (hi':i+fl.offset=i') :
  Qcg P o [(x,.ref n m j i)] [(n,.own m xs)] (.ref n m j i') []:=Qbv fun X φ a w hrd hbl=>by
 obtain ⟨b,hb,hown⟩:=hbl (n,.own m xs) (by simp)
 have hx:a.eval x=_:=Qm5 (hrd (x,.ref n m j i) (by simp)) hb
 refine ⟨.pointer (some ⟨b,j * m+i+fl.offset,none⟩),?_,?_⟩
 ·simp only [execOp,h,hx,Sem.run_bind,Qr3 ht hf hft hi hn,Result.andThen_ok]
  rfl
 ·refine .ref _ _ _ _ _ (by rw [hb]; simp) fun b' hb'=>?_
  rw [hb] at hb'
  cases hb'
  rw [← hi',Nat.add_assoc]
theorem Qp0 {x:Operand} {t ft:TypeId} {f:Nat} {fs:Array Field} {fl:Field} {g:Bool} {sz i i':Nat} {c:List AV} (h:o.op=.fieldAddr t x f) (ht:P.underlying t=some (.struct fs)) (hf:fs[f]? = some fl) (hft:fl.type=ft) (hi:TI P ft g sz) (hn:sz ≠ 0) (hi':i+fl.offset=i') :
  Qcg P o [(x,.dptr c i)] [] (.dptr c i') []:=Qbv fun X φ a w hrd _=>by
 have hx:=hrd (x,.dptr c i) (by simp)
 dsimp only at hx
 cases hv:a.eval x with
 | pointer A=>
  rw [hv] at hx
  cases hx with
  | dptr _ _ b of g' hc hrel=>
   refine ⟨.pointer (some ⟨b,of+i+fl.offset,none⟩),?_,?_⟩
   ·simp only [execOp,h,hv,Sem.run_bind,Qr3 ht hf hft hi hn,Result.andThen_ok]
    rfl
   ·subst hi'
    rw [Nat.add_assoc]
    exact .dptr c _ b of g' hc hrel
 | _=>rw [hv] at hx; cases hx
end
end Go.Proofs.YtmbhnllcfmiajaaGreat
