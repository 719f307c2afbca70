/-
  The engine, part Z: from the arguments of a given statement to lists and numbers, whatever their type; a law's row out of what the law computes. Plain Zic and laws; no conditions.
-/
import Derived.Test.YtmbhnllcfmiajaaGreatEngW
import Derived.Test.YtmbhnllcfmiajaaGreatRows
import Derived.ProofKit
import Derived.Deep.Slices
import Derived.Deep.Fields
import Derived.ChangeSame
import Derived.Lib.SmallJoins
import Derived.SizedLaws
namespace Go.Proofs.YtmbhnllcfmiajaaGreat
open Go.ChangeShapes Go.WideShapes Go.ChangeAt Go.RowKit Go.Deep Go.Joins
theorem Tryz.own:ownKnob Tryz.prog.godebug=none:=by kernel_rfl
theorem Tryz.laidOut:laidOutB Tryz.prog=true:=by kernel_rfl
def noX:Nat→Nat→Prop:=fun _ _=>False
def noφ:Nat→FSlot:=fun _=>.unused
def RelL (w:World):List AV→List Value→Prop
 | [],[]=>True
 | a::l,v::k=>RelV noX noφ w a v∧RelL w l k
 | _,_=>False
theorem RelL.get {w:World}:∀ {l:List AV} {k:List Value},RelL w l k→k.length=l.length∧∀ i a,l[i]? = some a→RelV noX noφ w a (k.getD i undef)
 | [],[],_=>⟨rfl,by simp⟩
 | _::_,_::_,h=>by
  obtain ⟨h1,h2⟩:=RelL.get h.2
  refine ⟨by simp [h1],fun i a hi=>?_⟩
  cases i with
  | zero=>simp at hi; subst hi; exact h.1
  | succ i=>simpa using h2 i a (by simpa using hi)
theorem RelL.app {w:World}:∀ {l l':List AV} {k k':List Value},RelL w l k→RelL w l' k'→RelL w (l++l') (k++k')
 | [],_,[],_,_,h=>h
 | _::_,_,_::_,_,h,h'=>⟨h.1,RelL.app h.2 h'⟩
theorem Q9a {P:Program} {f:FuncId} {args:List AV} (h:Spec P f args [] (B true) []) {w:World} {vals:Array Value} (hr:RelL w args vals.toList):Calls P f vals w fun e w'=>e=.returned (.bool true)∧Below w.heap.size w w':=by
 obtain ⟨h1,h2⟩:=hr.get
 refine (h.calls (X:=noX) (φ:=noφ) (by simpa using h1) (fun i a hi=>?_) (fun _=>rfl) (fun _ _ h=>h.elim)).mono ?_
 ·have:=h2 i a hi
  simpa [Array.getD_eq_getD_getElem?,List.getD_eq_getElem?_getD] using this
 ·rintro e w' ⟨v,φ',rfl,hv,hb⟩
  rw [Qcf hv]
  exact ⟨rfl,hb⟩
def Opn (P:Program) (t:TypeId) (n:Nat) {T:Type} (c:T→List AV) (G:T→Prop):Prop:=
 P.cellsOf t=n∧(∀ x,(c x).length=n)∧∀ (H:Type) (enc:TypeId×Value→H) (w:World) (base:Nat) (spare:Nat→Bool) (held:Bool) (fuel:Nat) (cs:List Value) (x:DataW H×List MemPlace),
  DataW.trod enc P w base spare held fuel t cs=some x→(∀ q ∈ x.1.weights P t,q≤reachBytes)→∃ v:T,G v∧RelL w (c v) cs
theorem Qzt {P:Program} {t:TypeId} {k:IntKind} (ht:P.underlying t=some (.int k)) (hc:P.cellsOf t=1):Opn P t 1 (fun x:Int=>[K k x]) (fun x=>(Lit.int k x).wf=true):=
 ⟨hc,fun _=>rfl,fun _ _ _ _ _ _ _ _ _ h _=>by
  obtain ⟨n,rfl,_,hw⟩:=DataW.trod_int ht h
  exact ⟨n,hw,.lit _,trivial⟩⟩
theorem Zcg {P:Program} {t:TypeId} (ht:P.underlying t=some .bool) (hc:P.cellsOf t=1):Opn P t 1 (fun x:Bool=>[B x]) (fun _=>True):=
 ⟨hc,fun _=>rfl,fun _ _ _ _ _ _ _ _ _ h _=>by
  obtain ⟨n,rfl,_⟩:=DataW.trod_bool ht h
  exact ⟨n,trivial,.lit _,trivial⟩⟩
theorem Zim {w:World} {a:Addr} {v:Value} (h:w.cell? a=some v):a.spot=none∧a.block<w.heap.size:=by
 unfold World.cell? at h
 split at h
 ·rename_i hb
  split at h
  ·cases h
  ·rename_i hs
   exact ⟨by simpa using hs,(Array.getElem?_eq_some_iff.1 hb).1⟩
 ·cases h
theorem Qmd (b o i:Nat):(⟨b,o,none⟩:Addr).add i=⟨b,o+i,none⟩:=by
 unfold Addr.add
 split
 ·rename_i h
  subst h
  rfl
 ·rfl
theorem Qxb {T:Type} {p:Nat→T→Prop}:∀ (n:Nat),(∀ i,i<n→∃ x,p i x)→∃ l:List T,l.length=n∧∀ i x,l[i]? = some x→p i x
 | 0,_=>⟨[],rfl,by simp⟩
 | n+1,h=>by
  obtain ⟨l,h1,h2⟩:=Qxb n fun i hi=>h i (Nat.lt_succ_of_lt hi)
  obtain ⟨x,hx⟩:=h n (Nat.lt_succ_self n)
  refine ⟨l++[x],by simp [h1],fun i y hi=>?_⟩
  rcases Nat.lt_or_ge i n with hlt | hge
  ·rw [List.getElem?_append_left (by omega)] at hi
   exact h2 i y hi
  ·rw [List.getElem?_append_right (by omega)] at hi
   have:i=n:=by
    have:=(List.getElem?_eq_some_iff.1 hi).1
    simp at this
    omega
   subst this
   simp [h1] at hi
   exact hi ▸ hx
theorem Qq1 {H:Type} {P:Program} {e:TypeId}:∀ {l:List (DataW H)} {d:DataW H},d ∈ l→∀ q ∈ d.weights P e,q ∈ DataW.weightsAll P e l
 | [],_,h,_,_=>by cases h
 | x::l,d,h,q,hq=>by
  rw [DataW.weightsAll]
  rcases List.mem_cons.1 h with rfl | h
  ·exact List.mem_append_left _ hq
  ·exact List.mem_append_right _ (Qq1 h q hq)
theorem Qly {P:Program} {t e:TypeId} {n bb:Nat} {T:Type} {c:T→List AV} {G:T→Prop} (ht:P.underlying t=some (.slice e)) (hc:P.cellsOf t=1) (he:Opn P e n c G) (hn:0<n) (hbb:P.bytesOf e=bb) :
  Opn P t 1 (fun l:List T=>[.dat n (l.map c)]) (fun l=>l.length≤maxLen∧(∀ x ∈ l,G x)∧l.length * bb≤140737488351232):=
 ⟨hc,fun _=>rfl,fun H enc w base spare held fuel cs x h hwt=>by
  obtain ⟨hce,hcl,hop⟩:=he
  rcases open_slice ht h with ⟨rfl,_⟩ | ⟨a,len,cap,m,fu,D,Pl,rfl,hb,hl,hm,hmm,rfl,hi⟩
  ·exact ⟨[],⟨Nat.zero_le _,by simp,by simp⟩,.dat n [] none 0 0 (fun _ _=>undef) (DatOK.nil n none 0 _ (Nat.zero_le _)) (by simp),trivial⟩
  ·have hlm:len≤m:=by rw [hmm]; split<;>omega
   obtain ⟨l,hll,hlp⟩:=Qxb (p:=fun i (v:T)=>G v∧∃ cs',cs'.length=n∧(∀ j,j<n→w.cell? ((a.add (i * n)).add j)=cs'[j]?)∧RelL w (c v) cs') len fun i hil=>by
    obtain ⟨cs',h1,h2⟩:=hi i (by omega)
    obtain ⟨v,hG,hr⟩:=hop _ _ _ _ _ _ _ _ _ h2 fun q hq=>hwt q (by
     simp only [DataW.weights,ht]
     exact List.mem_cons_of_mem _ (List.mem_append_left _ (Qq1 (List.mem_map.2 ⟨i,List.mem_range.2 hil,rfl⟩) q hq)))
    rw [hce] at h1
    obtain ⟨_,h3,h4⟩:=World.cells?_some h1
    exact ⟨v,hG,cs',h3,h4,hr⟩
   refine ⟨l,⟨by omega,fun x hx=>?_,?_⟩,?_,trivial⟩
   ·obtain ⟨i,hi'⟩:=List.getElem?_of_mem hx
    exact (hlp i x hi').1
   ·have:=hwt ((((List.range len).map D).length+((List.range (m - len)).map fun j=>D (len+j)).length) * P.bytesOf e) (by
     simp only [DataW.weights,ht]
     exact List.mem_cons_self ..)
    rw [hbb,List.length_map,List.length_range,Nat.add_mul] at this
    rw [hll]
    exact Nat.le_trans (Nat.le_add_right _ _) this
   ·have elt:∀ (i:Nat) y,(l.map c)[i]? = some y→∃ v cs',l[i]? = some v∧y=c v∧cs'.length=n∧(∀ j,j<n→w.cell? ((a.add (i * n)).add j)=cs'[j]?)∧RelL w (c v) cs':=fun i y hy=>by
     rw [List.getElem?_map] at hy
     cases hv:l[i]? with
     | none=>rw [hv] at hy; cases hy
     | some v=>
      rw [hv] at hy
      cases hy
      obtain ⟨_,cs',h1,h2,h3⟩:=hlp i v hv
      exact ⟨v,cs',rfl,rfl,h1,h2,h3⟩
    have key:∀ (i:Nat) y,(l.map c)[i]? = some y→∀ j,j<n→∃ u,w.cell? ((a.add (i * n)).add j)=some u∧∀ q,y[j]? = some q→RelV noX noφ w q u:=fun i y hy j hj=>by
     obtain ⟨v,cs',hv,rfl,h1,h2,h3⟩:=elt i y hy
     obtain ⟨u,hu⟩:∃ u,cs'[j]? = some u:=⟨_,List.getElem?_eq_getElem (by omega)⟩
     refine ⟨u,(h2 j hj).trans hu,fun q hq=>?_⟩
     have:=(h3.get).2 j q hq
     rwa [List.getD_eq_getElem?_getD,hu] at this
    rw [← hll]
    refine .dat n _ (some a) l.length cap (fun i j=>(w.cell? ((a.add (i * n)).add j)).getD undef) ⟨by simp,by omega,hm,fun y hy=>?_,fun hne=>?_⟩ fun i y hy j q hq=>?_
    ·obtain ⟨v,_,rfl⟩:=List.mem_map.1 hy
     exact hcl v
    ·obtain ⟨y0,hy0⟩:∃ y0,(l.map c)[0]? = some y0:=by
      cases l with
      | nil=>exact absurd rfl hne
      | cons v l=>exact ⟨c v,rfl⟩
     obtain ⟨u,hu,_⟩:=key 0 y0 hy0 0 hn
     have ha0:(a.add (0 * n)).add 0=a:=by simp [Addr.add]
     rw [ha0] at hu
     obtain ⟨hs,hlt⟩:=Zim hu
     obtain ⟨b,o,sp⟩:=a
     dsimp only at hs
     subst hs
     refine ⟨b,o,rfl,fun i y hy j hj=>⟨⟨hlt,fun h=>h,(fun q h=>by cases h),(fun q L h=>by cases h),(fun q Y h=>by cases h),(fun q bs k h=>by cases h)⟩,?_⟩⟩
     obtain ⟨u,hu,_⟩:=key i y hy j hj
     rw [Qmd,Qmd] at hu
     rw [hu,Qmd,Qmd,hu]
     rfl
    ·have hj:j<n:=by
      have h1:=(List.getElem?_eq_some_iff.1 hq).1
      obtain ⟨v,_,rfl⟩:=List.mem_map.1 (List.mem_of_getElem? hy)
      rwa [hcl v] at h1
     obtain ⟨u,hu,hr⟩:=key i y hy j hj
     rw [hu]
     exact hr q hq⟩
theorem Qdw {H:Type} {enc:TypeId×Value→H} {P:Program} {w:World} {base:Nat} {spare:Nat→Bool} {held:Bool} {fuel:Nat} {cs:List Value} {fs:Array Field} {xs:List (DataW H×List MemPlace)} (hf:∀ (i:Nat) (f:Field),fs[i]? = some f→DataW.trod enc P w base spare held fuel f.type ((cs.drop f.offset).take (P.cellsOf f.type))=xs[i]?)
  (hxl:xs.length=fs.size) (hwt:∀ q ∈ DataW.weightsEach P (fs.toList.map (·.type)) (xs.map (·.1)),q≤reachBytes) {n:Nat} {T:Type} {c:T→List AV} {G:T→Prop} (j:Nat) (f:Field) (hj:fs[j]? = some f) (hop:Opn P f.type n c G):∃ v:T,G v∧RelL w (c v) ((cs.drop f.offset).take n):=by
 have hjl:j<xs.length:=by rw [hxl]; exact (Array.getElem?_eq_some_iff.1 hj).1
 have h1:=hf j f hj
 rw [List.getElem?_eq_getElem hjl,hop.1] at h1
 exact hop.2.2 _ _ _ _ _ _ _ _ _ h1 fun q hq=>hwt q (DataW.weights_mem_each (j:=j) (by simp [hj]) (by rw [List.getElem?_map,List.getElem?_eq_getElem hjl]; rfl) q hq)
theorem Qjt {H:Type} {P:Program} {t:TypeId} {fs:Array Field} {xs:List (DataW H×List MemPlace)} {pl:List MemPlace} (ht:P.underlying t=some (.struct fs)) (h:∀ q ∈ (DataW.agg (xs.map (·.1)),pl).1.weights P t,q≤reachBytes):∀ q ∈ DataW.weightsEach P (fs.toList.map (·.type)) (xs.map (·.1)),q≤reachBytes:=
 fun q hq=>h q (by simp only [DataW.weights,ht]; exact hq)
theorem Qwq {H:Type} {P:Program} {ts:List TypeId} {ds:List (DataW H)} (h:(DataW.weightsEach P ts ds).all (· ≤ reachBytes)=true) (j:Nat) {t:TypeId} {d:DataW H} (ht:ts[j]? = some t) (hd:ds[j]? = some d):∀ q ∈ d.weights P t,q≤reachBytes:=
 fun q hq=>by simpa using List.all_eq_true.1 h q (DataW.weights_mem_each ht hd q hq)
theorem Qgg {w:World} {A B':List AV} {cs:List Value} {k n k':Nat} (h:RelL w A (cs.take k)) (h':RelL w B' ((cs.drop k).take n)) (hk:k+n=k'):RelL w (A++B') (cs.take k'):=by
 subst hk
 rw [List.take_add]
 exact h.app h'
theorem Qlu {w:World} {A:List AV} {cs:List Value} {n:Nat} (h:RelL w A ((cs.drop 0).take n)):RelL w A (cs.take n):=h
theorem Qra {w:World} {A:List AV} {cs:List Value} {n:Nat} (h:RelL w A (cs.take n)) (hn:cs.length=n):RelL w A cs:=by
 subst hn
 rwa [List.take_length] at h
section
variable {H : Type} {enc : TypeId × Value → H} {P : Program} {w : World} {base : Nat} {spare : Nat → Bool} {held : Bool} {r : Reach} {b0 : Nat} {v : Value} {d : DataW H} {p : List MemPlace} {t : TypeId} {n : Nat} {T : Type} {c : T → List AV} {G : T → Prop}
theorem Qzs (ho:Opn P t 1 c G) (a:T→AV) (ha:∀ x,c x=[a x]) (h1:v.cells = #[v]) (h:DataW.Trod enc P w base spare held t v d p) (hwt:∀ q ∈ d.weights P t,q≤reachBytes):∃ x:T,G x∧RelV noX noφ w (a x) v:=by
 obtain ⟨fuel,hf⟩:=h
 obtain ⟨x,hG,hr⟩:=ho.2.2 _ _ _ _ _ _ _ _ _ hf hwt
 rw [ha,h1] at hr
 exact ⟨x,hG,hr.1⟩
theorem Zix {k:IntKind} (ht:P.underlying t=some (.int k)) (hc:P.cellsOf t=1) (hv:Value.okWide P w r b0 t v) (h:DataW.Trod enc P w base spare held t v d p) (hwt:∀ q ∈ d.weights P t,q≤reachBytes):∃ x:Int,(Lit.int k x).wf=true∧RelV noX noφ w (K k x) v:=by
 obtain ⟨n,rfl⟩:=okWide_int ht hv
 exact Qzs (Qzt ht hc) _ (fun _=>rfl) rfl h hwt
theorem Zcf (ht:P.underlying t=some .bool) (hc:P.cellsOf t=1) (hv:Value.okWide P w r b0 t v) (h:DataW.Trod enc P w base spare held t v d p) (hwt:∀ q ∈ d.weights P t,q≤reachBytes):∃ x:Bool,True∧RelV noX noφ w (B x) v:=by
 obtain ⟨n,rfl⟩:=okWide_bool ht hv
 exact Qzs (Zcg ht hc) _ (fun _=>rfl) rfl h hwt
theorem Qxe {e:TypeId} (ht:P.underlying t=some (.slice e)) (ho:Opn P t 1 c G) (a:T→AV) (ha:∀ x,c x=[a x]) (hv:Value.okWide P w r b0 t v) (h:DataW.Trod enc P w base spare held t v d p) (hwt:∀ q ∈ d.weights P t,q≤reachBytes):∃ x:T,G x∧RelV noX noφ w (a x) v:=by
 obtain ⟨A,len,cap,rfl⟩:=okWide_slice ht hv
 exact Qzs ho a ha rfl h hwt
theorem Q4l {fs:Array Field} (ht:P.underlying t=some (.struct fs)) (ho:Opn P t n c G) (hv:Value.okWide P w r b0 t v) (h:DataW.Trod enc P w base spare held t v d p) (hwt:∀ q ∈ d.weights P t,q≤reachBytes):∃ x:T,G x∧RelV noX noφ w (.agg (c x)) v:=by
 obtain ⟨cs,rfl,hsz⟩:=okWide_struct ht hv
 obtain ⟨fuel,hf⟩:=h
 obtain ⟨x,hG,hr⟩:=ho.2.2 _ _ _ _ _ _ _ _ _ hf hwt
 obtain ⟨h1,h2⟩:=hr.get
 refine ⟨x,hG,.agg _ cs (by simpa [Value.cells] using h1) fun i a hi=>?_⟩
 have:=h2 i a hi
 simpa [Value.cells,Array.getD_eq_getD_getElem?,List.getD_eq_getElem?_getD] using this
end
section
variable {H : Type} {enc : TypeId × Value → H} {P : Program}
theorem Qns (hl:laidOutB P=true) {W W':World} (hb:Below W.heap.size W W') {sp:Nat→Bool}:∀ (ts:List TypeId) (vs:List Value) (ds:List (DataW H)) (ps:List MemPlace),
  ts.all (fun t=>P.readableRec t&&decide (t<P.types.size))=true→DataW.TrodAll enc P W 0 (fun _=>true) true ts vs ds ps→(∀ x ∈ ps,x.block<W.heap.size)→(∀ x ∈ ps,sp x.block=true) →
  DataW.TrodAll enc P W' 0 sp true ts vs ds ps
 | [],[],[],_,_,h,_,_=>h
 | [],_::_,_,_,_,h,_,_=>by simp [DataW.TrodAll] at h
 | [],[],_::_,_,_,h,_,_=>by simp [DataW.TrodAll] at h
 | _::_,[],_,_,_,h,_,_=>by simp [DataW.TrodAll] at h
 | _::_,_::_,[],_,_,h,_,_=>by simp [DataW.TrodAll] at h
 | t::ts,v::vs,d::ds,ps,hr,h,hlt,hsp=>by
  obtain ⟨p,q,h1,h2,rfl⟩:=h
  rw [List.all_cons,Bool.and_eq_true,Bool.and_eq_true,decide_eq_true_eq] at hr
  refine ⟨p,q,?_,Qns hl hb ts vs ds q hr.2 h2 (fun x hx=>hlt x (List.mem_append_right _ hx)) (fun x hx=>hsp x (List.mem_append_right _ hx)),rfl⟩
  exact WideElems.Trod_stays hl hr.1.1 hr.1.2 h1 (fun x hx=>hb.same (hlt x (List.mem_append_left _ hx))) (fun x hx=>hsp x (List.mem_append_left _ hx))
theorem Zcp {f:Func} {s:ChangeSpec} {W W':World} {args:Array Value} {ds:List (DataW H)} {before:List MemPlace} (tb:TypeId)
  (hW:DataW.Whole enc P f.params.toList s.vars false W args.toList ds [] before) (hl:laidOutB P=true) (hp:f.params.toList.all (fun t=>P.readableRec t&&decide (t<P.types.size))=true)
  (hrt:f.resultTypes = #[tb]) (htb:P.underlying tb=some .bool) (hv:s.vars=[]) (hs1:(s.fn H (ds++[])).results=[.lit (.bool true)]) (hs2:(s.fn H (ds++[])).args=ds) (hs3:(s.fn H (ds++[])).vars=[])
  (hb:Below W.heap.size W W'):s.post enc P f false true false false W args (.bool true) W':=by
 have hlt:∀ p ∈ before,p.block<W.heap.size:=fun p hp=>hW.lt p hp
 have hold:∀ p ∈ before,(fun b=>decide (b<W.heap.size)) p.block=true:=fun p hp=>by simpa using hlt p hp
 obtain ⟨pa,pv,hA,hV,he,hz,hn⟩:=hW
 rw [hv] at hV
 have hpv:pv=[]:=hV
 subst hpv
 rw [List.append_nil] at he
 subst he
 have hargs:∀ sp:Nat→Bool,(∀ p ∈ before,sp p.block=true)→DataW.TrodAll enc P W' 0 sp true f.params.toList args.toList (s.fn H (ds++[])).args before:=fun sp hsp=>by
  rw [hs2]
  exact Qns hl hb _ _ _ _ hp hA hlt hsp
 have hvars:∀ sp:Nat→Bool,DataW.TrodVars enc P W' sp s.vars (s.fn H (ds++[])).vars []:=fun sp=>by
  rw [hv,hs3]
  exact rfl
 have hres:∀ (b:Nat) (sp:Nat→Bool) (hd:Bool),DataW.TrodAll enc P W' b sp hd f.resultTypes.toList ((Value.bool true).resultList f.resultTypes.size) (s.fn H (ds++[])).results []:=fun b sp hd=>by
  rw [hs1,hrt]
  exact trodAll_mk1 (shut_bool htb _)
 have hok:=ok_one (P:=P) (W':=W') (f:=f) (v:=.bool true) hrt rfl (okWide_bool_mk htb _)
 refine ⟨ds,[],before,[],before,[],⟨before,[],hA,by rw [hv]; exact rfl,by simp,hz,fun h=>by cases h⟩,hres _ _ _,hargs _ hold,hvars _,World.keptBut_mono (fun p hp=>⟨hp,Or.inr (Or.inl hp)⟩) (hb.frame (· ∈ before)),fun _=>?_⟩
 refine ⟨hok,_,_,([]++before)++[],⟨[]++before,[],trodAll_append (hargs _ (fun _ _=>rfl)) (hres _ _ _),hvars _,rfl,?_,?_⟩,?_⟩
 ·intro b off hp
  have hin:MemPlace.cell b off ∈ before:=by simpa using hp
  rw [hb.frozen (hlt _ hin)]
  exact hz b off hin
 ·intro ha
  cases ha
 ·intro p hp _
  simpa using hp
end
end Go.Proofs.YtmbhnllcfmiajaaGreat
