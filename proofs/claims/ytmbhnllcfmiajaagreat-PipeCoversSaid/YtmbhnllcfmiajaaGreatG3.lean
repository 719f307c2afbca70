/-
  The texts EngZ, Xo, X1, X2, X3 of the proof, one behind the other. No conditions.
-/
import Derived.Test.YtmbhnllcfmiajaaGreatG2
import Derived.Test.YtmbhnllcfmiajaaGreatRows
import Derived.ProofKit
import Derived.Deep.Slices
import Derived.Deep.Fields
import Derived.ChangeSame
import Derived.Lib.SmallJoins
import Derived.SizedLaws
namespace Go.Proofs.YtmbhnllcfmiajaaGreat
open _root_.Go.Proofs.Tryz
section
open Go.ChangeShapes Go.WideShapes Go.ChangeAt Go.RowKit Go.Deep Go.Joins
theorem Tryz.own:ownKnob prog.godebug=none:=by kernel_rfl
theorem Tryz.laidOut:laidOutB prog=true:=by kernel_rfl
def noX:Nat→Nat→Prop:=fun _ _=>False
def noφ:Nat→FSlot:=fun _=>.unused
def RelL (w:World):List AV→List Value→Prop
 |[],[]=>True
 |a::l,v::k=>RelV noX noφ w a v∧RelL w l k
 |_,_=>False
theorem RelL.get {w:World}:∀{l:List AV}{k:List Value},RelL w l k→k.length=l.length∧∀i a,l[i]? = some a→RelV noX noφ w a (k.getD i undef)
 |[],[],_=>⟨rfl,by simp⟩
 |_::_,_::_,h=>by
  obtain⟨h1,h2⟩:=RelL.get h.2
  refine⟨by simp[h1],fun i a hi=>?_⟩
  cases i with
  |zero=>simp at hi;subst hi;exact h.1
  |succ i=>simpa using h2 i a (by simpa using hi)
theorem RelL.app {w:World}:∀{l l':List AV}{k k':List Value},RelL w l k→RelL w l' k'→RelL w (l++l') (k++k')
 |[],_,[],_,_,h=>h
 |_::_,_,_::_,_,h,h'=>⟨h.1,RelL.app h.2 h'⟩
theorem Zdz {P:Program}{f:FuncId}{args:List AV}(h:Spec P f args [] (B true) []) {w:World}{vals:Array Value}(hr:RelL w args vals.toList):Calls P f vals w fun e w'=>e=.returned (.bool true)∧Below w.heap.size w w':=by
 obtain⟨h1,h2⟩:=hr.get
 refine(h.calls (X:=noX) (φ:=noφ) (by simpa using h1) (fun i a hi=>?_) (fun _=>rfl) (fun _ _ h=>h.elim)).mono ?_
 ·have:=h2 i a hi
  simpa [Array.getD_eq_getD_getElem?,List.getD_eq_getElem?_getD] using this
 ·rintro e w' ⟨v,φ',rfl,hv,hb⟩
  rw[Qcx hv]
  exact⟨rfl,hb⟩
def Opn (P:Program) (t:TypeId) (n:Nat) {T:Type}(c:T→List AV) (G:T→Prop):Prop:=
 P.cellsOf t=n∧(∀x,(c x).length=n)∧∀(H:Type) (enc:TypeId×Value→H) (w:World) (base:Nat) (spare:Nat→Bool) (held:Bool) (fuel:Nat) (cs:List Value) (x:DataW H×List MemPlace),
  DataW.trod enc P w base spare held fuel t cs=some x→(∀q∈x.1.weights P t,q≤reachBytes)→∃v:T,G v∧RelL w (c v) cs
theorem Zdd {P:Program}{t:TypeId}{k:IntKind}(ht:P.underlying t=some (.int k)) (hc:P.cellsOf t=1):Opn P t 1 (fun x:Int=>[K k x]) (fun x=>(Lit.int k x).wf=true):=
 ⟨hc,fun _=>rfl,fun _ _ _ _ _ _ _ _ _ h _=>by
  obtain⟨n,rfl,_,hw⟩:=DataW.trod_int ht h
  exact⟨n,hw,.lit _,trivial⟩⟩
theorem Zmt {w:World}{a:Addr}{v:Value}(h:w.cell? a=some v):a.spot=none∧a.block<w.heap.size:=by
 unfold World.cell? at h
 split at h
 ·rename_i hb
  split at h
  ·cases h
  ·rename_i hs
   exact⟨by simpa using hs,(Array.getElem?_eq_some_iff.1 hb).1⟩
 ·cases h
theorem Qqa (b o i:Nat):(⟨b,o,none⟩:Addr).add i=⟨b,o+i,none⟩:=by
 unfold Addr.add
 split
 ·rename_i h
  subst h
  rfl
 ·rfl
theorem Q10 {T:Type}{p:Nat→T→Prop}:∀(n:Nat),(∀i,i<n→∃x,p i x)→∃l:List T,l.length=n∧∀i x,l[i]? = some x→p i x
 |0,_=>⟨[],rfl,by simp⟩
 |n+1,h=>by
  obtain⟨l,h1,h2⟩:=Q10 n fun i hi=>h i (Nat.lt_succ_of_lt hi)
  obtain⟨x,hx⟩:=h n (Nat.lt_succ_self n)
  refine⟨l++[x],by simp[h1],fun i y hi=>?_⟩
  rcases Nat.lt_or_ge i n with hlt |hge
  ·rw[List.getElem?_append_left (by omega)] at hi
   exact h2 i y hi
  ·rw[List.getElem?_append_right (by omega)] at hi
   have:i=n:=by
    have:=(List.getElem?_eq_some_iff.1 hi).1
    simp at this
    omega
   subst this
   simp[h1] at hi
   exact hi▸hx
theorem Qvi {H:Type}{P:Program}{e:TypeId}:∀{l:List (DataW H)}{d:DataW H},d∈l→∀q∈d.weights P e,q∈DataW.weightsAll P e l
 |[],_,h,_,_=>by cases h
 |x::l,d,h,q,hq=>by
  rw[DataW.weightsAll]
  rcases List.mem_cons.1 h with rfl |h
  ·exact List.mem_append_left _ hq
  ·exact List.mem_append_right _ (Qvi h q hq)
theorem Qn8 {P:Program}{t e:TypeId}{n bb:Nat}{T:Type}{c:T→List AV}{G:T→Prop}(ht:P.underlying t=some (.slice e)) (hc:P.cellsOf t=1) (he:Opn P e n c G) (hn:0<n) (hbb:P.bytesOf e=bb) :
  Opn P t 1 (fun l:List T=>[.dat n (l.map c)]) (fun l=>l.length≤maxLen∧(∀x∈l,G x)∧l.length*bb≤140737488351232):=
 ⟨hc,fun _=>rfl,fun H enc w base spare held fuel cs x h hwt=>by
  obtain⟨hce,hcl,hop⟩:=he
  rcases open_slice ht h with ⟨rfl,_⟩ |⟨a,len,cap,m,fu,D,Pl,rfl,hb,hl,hm,hmm,rfl,hi⟩
  ·exact⟨[],⟨Nat.zero_le _,by simp,by simp⟩,.dat n [] none 0 0 (fun _ _=>undef) (DatOK.nil n none 0 _ (Nat.zero_le _)) (by simp),trivial⟩
  ·have hlm:len≤m:=by rw[hmm];split<;>omega
   obtain⟨l,hll,hlp⟩:=Q10 (p:=fun i (v:T)=>G v∧∃cs',cs'.length=n∧(∀j,j<n→w.cell? ((a.add (i*n)).add j)=cs'[j]?)∧RelL w (c v) cs') len fun i hil=>by
    obtain⟨cs',h1,h2⟩:=hi i (by omega)
    obtain⟨v,hG,hr⟩:=hop _ _ _ _ _ _ _ _ _ h2 fun q hq=>hwt q (by
     simp only[DataW.weights,ht]
     exact List.mem_cons_of_mem _ (List.mem_append_left _ (Qvi (List.mem_map.2 ⟨i,List.mem_range.2 hil,rfl⟩) q hq)))
    rw[hce] at h1
    obtain⟨_,h3,h4⟩:=World.cells?_some h1
    exact⟨v,hG,cs',h3,h4,hr⟩
   refine⟨l,⟨by omega,fun x hx=>?_,?_⟩,?_,trivial⟩
   ·obtain⟨i,hi'⟩:=List.getElem?_of_mem hx
    exact(hlp i x hi').1
   ·have:=hwt ((((List.range len).map D).length+((List.range (m-len)).map fun j=>D (len+j)).length)*P.bytesOf e) (by
     simp only[DataW.weights,ht]
     exact List.mem_cons_self ..)
    rw[hbb,List.length_map,List.length_range,Nat.add_mul] at this
    rw[hll]
    exact Nat.le_trans (Nat.le_add_right _ _) this
   ·have elt:∀(i:Nat) y,(l.map c)[i]? = some y→∃v cs',l[i]? = some v∧y=c v∧cs'.length=n∧(∀j,j<n→w.cell? ((a.add (i*n)).add j)=cs'[j]?)∧RelL w (c v) cs':=fun i y hy=>by
     rw[List.getElem?_map] at hy
     cases hv:l[i]? with
     |none=>rw[hv] at hy;cases hy
     |some v=>
      rw[hv] at hy
      cases hy
      obtain⟨_,cs',h1,h2,h3⟩:=hlp i v hv
      exact⟨v,cs',rfl,rfl,h1,h2,h3⟩
    have key:∀(i:Nat) y,(l.map c)[i]? = some y→∀j,j<n→∃u,w.cell? ((a.add (i*n)).add j)=some u∧∀q,y[j]? = some q→RelV noX noφ w q u:=fun i y hy j hj=>by
     obtain⟨v,cs',hv,rfl,h1,h2,h3⟩:=elt i y hy
     obtain⟨u,hu⟩:∃u,cs'[j]? = some u:=⟨_,List.getElem?_eq_getElem (by omega)⟩
     refine⟨u,(h2 j hj).trans hu,fun q hq=>?_⟩
     have:=(h3.get).2 j q hq
     rwa [List.getD_eq_getElem?_getD,hu] at this
    rw[←hll]
    refine .dat n _ (some a) l.length cap (fun i j=>(w.cell? ((a.add (i*n)).add j)).getD undef) ⟨by simp,by omega,hm,fun y hy=>?_,fun hne=>?_⟩ fun i y hy j q hq=>?_
    ·obtain⟨v,_,rfl⟩:=List.mem_map.1 hy
     exact hcl v
    ·obtain⟨y0,hy0⟩:∃y0,(l.map c)[0]? = some y0:=by
      cases l with
      |nil=>exact absurd rfl hne
      |cons v l=>exact⟨c v,rfl⟩
     obtain⟨u,hu,_⟩:=key 0 y0 hy0 0 hn
     have ha0:(a.add (0*n)).add 0=a:=by simp[Addr.add]
     rw[ha0] at hu
     obtain⟨hs,hlt⟩:=Zmt hu
     obtain⟨b,o,sp⟩:=a
     dsimp only at hs
     subst hs
     refine⟨b,o,rfl,fun i y hy j hj=>⟨⟨hlt,fun h=>h,(fun q h=>by cases h),(fun q L h=>by cases h),(fun q Y h=>by cases h),(fun q bs k h=>by cases h)⟩,?_⟩⟩
     obtain⟨u,hu,_⟩:=key i y hy j hj
     rw[Qqa,Qqa] at hu
     rw[hu,Qqa,Qqa,hu]
     rfl
    ·have hj:j<n:=by
      have h1:=(List.getElem?_eq_some_iff.1 hq).1
      obtain⟨v,_,rfl⟩:=List.mem_map.1 (List.mem_of_getElem? hy)
      rwa [hcl v] at h1
     obtain⟨u,hu,hr⟩:=key i y hy j hj
     rw[hu]
     exact hr q hq⟩
theorem Qev {H:Type}{enc:TypeId×Value→H}{P:Program}{w:World}{base:Nat}{spare:Nat→Bool}{held:Bool}{fuel:Nat}{cs:List Value}{fs:Array Field}{xs:List (DataW H×List MemPlace)}(hf:∀(i:Nat) (f:Field),fs[i]? = some f→DataW.trod enc P w base spare held fuel f.type ((cs.drop f.offset).take (P.cellsOf f.type))=xs[i]?)
  (hxl:xs.length=fs.size) (hwt:∀q∈DataW.weightsEach P (fs.toList.map (·.type)) (xs.map (·.1)),q≤reachBytes) {n:Nat}{T:Type}{c:T→List AV}{G:T→Prop}(j:Nat) (f:Field) (hj:fs[j]? = some f) (hop:Opn P f.type n c G):∃v:T,G v∧RelL w (c v) ((cs.drop f.offset).take n):=by
 have hjl:j<xs.length:=by rw[hxl];exact(Array.getElem?_eq_some_iff.1 hj).1
 have h1:=hf j f hj
 rw[List.getElem?_eq_getElem hjl,hop.1] at h1
 exact hop.2.2 _ _ _ _ _ _ _ _ _ h1 fun q hq=>hwt q (DataW.weights_mem_each (j:=j) (by simp[hj]) (by rw[List.getElem?_map,List.getElem?_eq_getElem hjl];rfl) q hq)
theorem Qmj {H:Type}{P:Program}{t:TypeId}{fs:Array Field}{xs:List (DataW H×List MemPlace)}{pl:List MemPlace}(ht:P.underlying t=some (.struct fs)) (h:∀q∈(DataW.agg (xs.map (·.1)),pl).1.weights P t,q≤reachBytes):∀q∈DataW.weightsEach P (fs.toList.map (·.type)) (xs.map (·.1)),q≤reachBytes:=
 fun q hq=>h q (by simp only[DataW.weights,ht];exact hq)
theorem Zcd {H:Type}{P:Program}{ts:List TypeId}{ds:List (DataW H)}(h:(DataW.weightsEach P ts ds).all (· ≤ reachBytes)=true) (j:Nat) {t:TypeId}{d:DataW H}(ht:ts[j]? = some t) (hd:ds[j]? = some d):∀q∈d.weights P t,q≤reachBytes:=
 fun q hq=>by simpa using List.all_eq_true.1 h q (DataW.weights_mem_each ht hd q hq)
theorem Qh6 {w:World}{A B':List AV}{cs:List Value}{k n k':Nat}(h:RelL w A (cs.take k)) (h':RelL w B' ((cs.drop k).take n)) (hk:k+n=k'):RelL w (A++B') (cs.take k'):=by
 subst hk
 rw[List.take_add]
 exact h.app h'
theorem Qpj {w:World}{A:List AV}{cs:List Value}{n:Nat}(h:RelL w A ((cs.drop 0).take n)):RelL w A (cs.take n):=h
theorem Qvr {w:World}{A:List AV}{cs:List Value}{n:Nat}(h:RelL w A (cs.take n)) (hn:cs.length=n):RelL w A cs:=by
 subst hn
 rwa [List.take_length] at h
section
variable {H : Type} {enc : TypeId × Value → H} {P : Program} {w : World} {base : Nat} {spare : Nat → Bool} {held : Bool} {r : Reach} {b0 : Nat} {v : Value} {d : DataW H} {p : List MemPlace} {t : TypeId} {n : Nat} {T : Type} {c : T → List AV} {G : T → Prop}
theorem Zm2 (ho:Opn P t 1 c G) (a:T→AV) (ha:∀x,c x=[a x]) (h1:v.cells = #[v]) (h:DataW.Trod enc P w base spare held t v d p) (hwt:∀q∈d.weights P t,q≤reachBytes):∃x:T,G x∧RelV noX noφ w (a x) v:=by
 obtain⟨fuel,hf⟩:=h
 obtain⟨x,hG,hr⟩:=ho.2.2 _ _ _ _ _ _ _ _ _ hf hwt
 rw[ha,h1] at hr
 exact⟨x,hG,hr.1⟩
theorem Q13 {e:TypeId}(ht:P.underlying t=some (.slice e)) (ho:Opn P t 1 c G) (a:T→AV) (ha:∀x,c x=[a x]) (hv:Value.okWide P w r b0 t v) (h:DataW.Trod enc P w base spare held t v d p) (hwt:∀q∈d.weights P t,q≤reachBytes):∃x:T,G x∧RelV noX noφ w (a x) v:=by
 obtain⟨A,len,cap,rfl⟩:=okWide_slice ht hv
 exact Zm2 ho a ha rfl h hwt
theorem Q82 {fs:Array Field}(ht:P.underlying t=some (.struct fs)) (ho:Opn P t n c G) (hv:Value.okWide P w r b0 t v) (h:DataW.Trod enc P w base spare held t v d p) (hwt:∀q∈d.weights P t,q≤reachBytes):∃x:T,G x∧RelV noX noφ w (.agg (c x)) v:=by
 obtain⟨cs,rfl,hsz⟩:=okWide_struct ht hv
 obtain⟨fuel,hf⟩:=h
 obtain⟨x,hG,hr⟩:=ho.2.2 _ _ _ _ _ _ _ _ _ hf hwt
 obtain⟨h1,h2⟩:=hr.get
 refine⟨x,hG,.agg _ cs (by simpa [Value.cells] using h1) fun i a hi=>?_⟩
 have:=h2 i a hi
 simpa [Value.cells,Array.getD_eq_getD_getElem?,List.getD_eq_getElem?_getD] using this
end
section
variable {H : Type} {enc : TypeId × Value → H} {P : Program}
theorem Qr4 (hl:laidOutB P=true) {W W':World}(hb:Below W.heap.size W W') {sp:Nat→Bool}:∀(ts:List TypeId) (vs:List Value) (ds:List (DataW H)) (ps:List MemPlace),
  ts.all (fun t=>P.readableRec t&&decide (t<P.types.size))=true→DataW.TrodAll enc P W 0 (fun _=>true) true ts vs ds ps→(∀x∈ps,x.block<W.heap.size)→(∀x∈ps,sp x.block=true) →
  DataW.TrodAll enc P W' 0 sp true ts vs ds ps
 |[],[],[],_,_,h,_,_=>h
 |[],_::_,_,_,_,h,_,_=>by simp[DataW.TrodAll] at h
 |[],[],_::_,_,_,h,_,_=>by simp[DataW.TrodAll] at h
 |_::_,[],_,_,_,h,_,_=>by simp[DataW.TrodAll] at h
 |_::_,_::_,[],_,_,h,_,_=>by simp[DataW.TrodAll] at h
 |t::ts,v::vs,d::ds,ps,hr,h,hlt,hsp=>by
  obtain⟨p,q,h1,h2,rfl⟩:=h
  rw[List.all_cons,Bool.and_eq_true,Bool.and_eq_true,decide_eq_true_eq] at hr
  refine⟨p,q,?_,Qr4 hl hb ts vs ds q hr.2 h2 (fun x hx=>hlt x (List.mem_append_right _ hx)) (fun x hx=>hsp x (List.mem_append_right _ hx)),rfl⟩
  exact WideElems.Trod_stays hl hr.1.1 hr.1.2 h1 (fun x hx=>hb.same (hlt x (List.mem_append_left _ hx))) (fun x hx=>hsp x (List.mem_append_left _ hx))
theorem Zhm {f:Func}{s:ChangeSpec}{W W':World}{args:Array Value}{ds:List (DataW H)}{before:List MemPlace}(tb:TypeId)
  (hW:DataW.Whole enc P f.params.toList s.vars false W args.toList ds [] before) (hl:laidOutB P=true) (hp:f.params.toList.all (fun t=>P.readableRec t&&decide (t<P.types.size))=true)
  (hrt:f.resultTypes = #[tb]) (htb:P.underlying tb=some .bool) (hv:s.vars=[]) (hs1:(s.fn H (ds++[])).results=[.lit (.bool true)]) (hs2:(s.fn H (ds++[])).args=ds) (hs3:(s.fn H (ds++[])).vars=[])
  (hb:Below W.heap.size W W'):s.post enc P f false true false false W args (.bool true) W':=by
 have hlt:∀p∈before,p.block<W.heap.size:=fun p hp=>hW.lt p hp
 have hold:∀p∈before,(fun b=>decide (b<W.heap.size)) p.block=true:=fun p hp=>by simpa using hlt p hp
 obtain⟨pa,pv,hA,hV,he,hz,hn⟩:=hW
 rw[hv] at hV
 have hpv:pv=[]:=hV
 subst hpv
 rw[List.append_nil] at he
 subst he
 have hargs:∀sp:Nat→Bool,(∀p∈before,sp p.block=true)→DataW.TrodAll enc P W' 0 sp true f.params.toList args.toList (s.fn H (ds++[])).args before:=fun sp hsp=>by
  rw[hs2]
  exact Qr4 hl hb _ _ _ _ hp hA hlt hsp
 have hvars:∀sp:Nat→Bool,DataW.TrodVars enc P W' sp s.vars (s.fn H (ds++[])).vars []:=fun sp=>by
  rw[hv,hs3]
  exact rfl
 have hres:∀(b:Nat) (sp:Nat→Bool) (hd:Bool),DataW.TrodAll enc P W' b sp hd f.resultTypes.toList ((Value.bool true).resultList f.resultTypes.size) (s.fn H (ds++[])).results []:=fun b sp hd=>by
  rw[hs1,hrt]
  exact trodAll_mk1 (shut_bool htb _)
 have hok:=ok_one (P:=P) (W':=W') (f:=f) (v:=.bool true) hrt rfl (okWide_bool_mk htb _)
 refine⟨ds,[],before,[],before,[],⟨before,[],hA,by rw[hv];exact rfl,by simp,hz,fun h=>by cases h⟩,hres _ _ _,hargs _ hold,hvars _,World.keptBut_mono (fun p hp=>⟨hp,Or.inr (Or.inl hp)⟩) (hb.frame (· ∈ before)),fun _=>?_⟩
 refine⟨hok,_,_,([]++before)++[],⟨[]++before,[],trodAll_append (hargs _ (fun _ _=>rfl)) (hres _ _ _),hvars _,rfl,?_,?_⟩,?_⟩
 ·intro b off hp
  have hin:MemPlace.cell b off∈before:=by simpa using hp
  rw[hb.frozen (hlt _ hin)]
  exact hz b off hin
 ·intro ha
  cases ha
 ·intro p hp _
  simpa using hp
end
end
section
set_option maxRecDepth 100000
open Go.ChangeShapes Go.WideShapes Go.ChangeAt Go.RowKit Go.Deep Go.Joins
def Qlt (x:Int):Prop:=(Lit.int .i64 x).wf=true
def Zd6 (x:GRow):Prop:=Qlt x.T∧Qlt x.P∧Qlt x.Liquid∧Qlt x.Vapour∧Qlt x.Silica
def Q64 (x:List GRow):Prop:=x.length≤maxLen∧(∀y∈x,Zd6 y)∧x.length*40≤140737488351232
def Zq8 (x:Int):Prop:=(Lit.int .u8 x).wf=true
def Q65 (x:Qa6):Prop:=Qlt x.Element∧Qlt x.Outlet
def Q2h (x:List Qa6):Prop:=x.length≤maxLen∧(∀y∈x,Q65 y)∧x.length*16≤140737488351232
def Q4l (x:List Int):Prop:=x.length≤maxLen∧(∀y∈x,Qlt y)∧x.length*8≤140737488351232
def Qwk (x:Qam):Prop:=Zq8 x.Kind∧Q2h x.From∧Qlt x.Level∧Qlt x.Amount∧Qlt x.Wide∧Qlt x.Narrow∧Q4l x.Weights
def Quc (x:List Qam):Prop:=x.length≤maxLen∧(∀y∈x,Qwk y)∧x.length*88≤140737488351232
def Zd7 (x:GNet):Prop:=Q64 x.Table∧Quc x.Elements
theorem opn3:Opn prog 3 1 Qad Qlt:=Zdd underlying3 (by kernel_rfl)
theorem Zq5:Opn prog 149 5 Qav Zd6:=⟨by kernel_rfl,fun _=>rfl,fun _ _ _ _ _ _ _ _ _ h hw=>by
  obtain⟨xs,n,_,rfl,hl,hx,hf⟩:=DataW.trod_struct underlying149 h
  have hz:=Qmj underlying149 hw
  obtain⟨v0,g0,r0⟩:=Qev hf hx hz 0 _ rfl opn3
  obtain⟨v1,g1,r1⟩:=Qev hf hx hz 1 _ rfl opn3
  obtain⟨v2,g2,r2⟩:=Qev hf hx hz 2 _ rfl opn3
  obtain⟨v3,g3,r3⟩:=Qev hf hx hz 3 _ rfl opn3
  obtain⟨v4,g4,r4⟩:=Qev hf hx hz 4 _ rfl opn3
  exact⟨⟨v0,v1,v2,v3,v4⟩,⟨g0,g1,g2,g3,g4⟩,Qvr (Qh6 (Qh6 (Qh6 (Qh6 (Qpj r0) r1 rfl) r2 rfl) r3 rfl) r4 rfl) (hl.trans (by kernel_rfl))⟩⟩
theorem Zs8:Opn prog 23 1 Q4w Q64:=Qn8 underlying23 (by kernel_rfl) Zq5 (by decide) (by kernel_rfl)
theorem opn5:Opn prog 5 1 c_u8 Zq8:=Zdd underlying5 (by kernel_rfl)
theorem Zs1:Opn prog 61 2 Qaw Q65:=⟨by kernel_rfl,fun _=>rfl,fun _ _ _ _ _ _ _ _ _ h hw=>by
  obtain⟨xs,n,_,rfl,hl,hx,hf⟩:=DataW.trod_struct underlying61 h
  have hz:=Qmj underlying61 hw
  obtain⟨v0,g0,r0⟩:=Qev hf hx hz 0 _ rfl opn3
  obtain⟨v1,g1,r1⟩:=Qev hf hx hz 1 _ rfl opn3
  exact⟨⟨v0,v1⟩,⟨g0,g1⟩,Qvr (Qh6 (Qpj r0) r1 rfl) (hl.trans (by kernel_rfl))⟩⟩
theorem Zs3:Opn prog 57 1 Q0c Q2h:=Qn8 underlying57 (by kernel_rfl) Zs1 (by decide) (by kernel_rfl)
theorem Zq4:Opn prog 27 1 Q7l Q4l:=Qn8 underlying27 (by kernel_rfl) opn3 (by decide) (by kernel_rfl)
theorem Zs2:Opn prog 59 7 Qal Qwk:=⟨by kernel_rfl,fun _=>rfl,fun _ _ _ _ _ _ _ _ _ h hw=>by
  obtain⟨xs,n,_,rfl,hl,hx,hf⟩:=DataW.trod_struct underlying59 h
  have hz:=Qmj underlying59 hw
  obtain⟨v0,g0,r0⟩:=Qev hf hx hz 0 _ rfl opn5
  obtain⟨v1,g1,r1⟩:=Qev hf hx hz 1 _ rfl Zs3
  obtain⟨v2,g2,r2⟩:=Qev hf hx hz 2 _ rfl opn3
  obtain⟨v3,g3,r3⟩:=Qev hf hx hz 3 _ rfl opn3
  obtain⟨v4,g4,r4⟩:=Qev hf hx hz 4 _ rfl opn3
  obtain⟨v5,g5,r5⟩:=Qev hf hx hz 5 _ rfl opn3
  obtain⟨v6,g6,r6⟩:=Qev hf hx hz 6 _ rfl Zq4
  exact⟨⟨v0,v1,v2,v3,v4,v5,v6⟩,⟨g0,g1,g2,g3,g4,g5,g6⟩,Qvr (Qh6 (Qh6 (Qh6 (Qh6 (Qh6 (Qh6 (Qpj r0) r1 rfl) r2 rfl) r3 rfl) r4 rfl) r5 rfl) r6 rfl) (hl.trans (by kernel_rfl))⟩⟩
theorem Zs7:Opn prog 24 1 Qrm Quc:=Qn8 underlying24 (by kernel_rfl) Zs2 (by decide) (by kernel_rfl)
theorem Zs6:Opn prog 26 2 Qgx Zd7:=⟨by kernel_rfl,fun _=>rfl,fun _ _ _ _ _ _ _ _ _ h hw=>by
  obtain⟨xs,n,_,rfl,hl,hx,hf⟩:=DataW.trod_struct underlying26 h
  have hz:=Qmj underlying26 hw
  obtain⟨v0,g0,r0⟩:=Qev hf hx hz 0 _ rfl Zs8
  obtain⟨v1,g1,r1⟩:=Qev hf hx hz 1 _ rfl Zs7
  exact⟨⟨v0,v1⟩,⟨g0,g1⟩,Qvr (Qh6 (Qpj r0) r1 rfl) (hl.trans (by kernel_rfl))⟩⟩
def Qx9 (x:Qaa):Prop:=Qlt x.Mass∧Qlt x.Heat∧Qlt x.Silica∧Qlt x.Gas
def Qwj (x:List Qaa):Prop:=x.length≤maxLen∧(∀y∈x,Qx9 y)∧x.length*32≤140737488351232
theorem Zs0:Opn prog 89 4 Qac Qx9:=⟨by kernel_rfl,fun _=>rfl,fun _ _ _ _ _ _ _ _ _ h hw=>by
  obtain⟨xs,n,_,rfl,hl,hx,hf⟩:=DataW.trod_struct underlying89 h
  have hz:=Qmj underlying89 hw
  obtain⟨v0,g0,r0⟩:=Qev hf hx hz 0 _ rfl opn3
  obtain⟨v1,g1,r1⟩:=Qev hf hx hz 1 _ rfl opn3
  obtain⟨v2,g2,r2⟩:=Qev hf hx hz 2 _ rfl opn3
  obtain⟨v3,g3,r3⟩:=Qev hf hx hz 3 _ rfl opn3
  exact⟨⟨v0,v1,v2,v3⟩,⟨g0,g1,g2,g3⟩,Qvr (Qh6 (Qh6 (Qh6 (Qpj r0) r1 rfl) r2 rfl) r3 rfl) (hl.trans (by kernel_rfl))⟩⟩
theorem Zs5:Opn prog 28 1 Qae Qwj:=Qn8 underlying28 (by kernel_rfl) Zs0 (by decide) (by kernel_rfl)
def Qub (x:List (List Qaa)):Prop:=x.length≤maxLen∧(∀y∈x,Qwj y)∧x.length*24≤140737488351232
theorem Zs4:Opn prog 49 1 Qrl Qub:=Qn8 underlying49 (by kernel_rfl) Zs5 (by decide) (by kernel_rfl)
end
section
set_option maxRecDepth 100000
set_option maxHeartbeats 4000000
open Go.RowKit
def Qdj (_N:Nat) (p0 p1 p2:Int):Option Bool:=
  bif (decide (p1≤p0)) then
   some (decide (p0≤p2))
  else
   some false
theorem Qdq (N:Nat) (p0 p1 p2:Int) (r:Bool) (h:Qdj N p0 p1 p2=some r):Spec prog 137 [(I p0),(I p1),(I p2)] [] (B r) []:=by
  refine Qak func137 rfl 0 (nle rfl) (fun X φ0 w0 hφ0 hd0=>?_)
  unfold Qdj at h
  refine wxz ?_
  refine bfe h (fun hb1 h=>?_) fun hb1 h=>?_
  ·refine wx tbk [(3,rp [(.tmp 9,(B ((decide (p1≤p0)))))] (B true))] ⟨asb hb1 (amv rfl),tv⟩<|Qah ?_
   obtain rfl:=osi h
   exact fend ⟨[(B ((decide (p0≤p2))))],⟨rot,tv⟩,rfl⟩ nll
  ·exact wx tbk [(3,rp [(.tmp 9,(B ((decide (p1≤p0)))))] (B false))] ⟨asb hb1 (amv rfl),tv⟩<|Qah<|frb h
def Qh8 (N:Nat) (p0:GRow):Option Bool:=
  (Qdj N p0.T 0 400).bind fun x2=>
  bif x2 then
   (Qdj N p0.P 1 10000).bind fun x5=>
   bif x5 then
    (Qdj N p0.Liquid 0 4000).bind fun x8=>
    bif x8 then
     (Qdj N p0.Silica 0 2000).bind fun x11=>
     bif x11 then
      bif (decide (p0.Liquid<p0.Vapour)) then
       some (decide (p0.Vapour≤4000))
      else
       some false
     else
      some false
    else
     some false
   else
    some false
  else
   some false
def z8_2 (p0:GRow) (x2:Bool):List (Nat×Rec):=[(2,rp [fu 137,((.tmp 4),(I p0.T)),ci 0,ci 400] (B x2))]
def z8_3 p0 x2 (x5:Bool):=hcat (z8_2 p0 x2) [(3,rp [((.tmp 5),(B x2))] (B true)),(6,rp [((.tmp 6),(B true)),fu 137,((.tmp 8),(I p0.P)),ci 1,ci 10000] (B x5))]
def z8_4 p0 x2 x5 (x8:Bool):=hcat (z8_3 p0 x2 x5) [(8,rp [((.tmp 10),(B x5))] (B true)),(11,rp [((.tmp 11),(B true)),fu 137,((.tmp 13),(I p0.Liquid)),ci 0,ci 4000] (B x8))]
def z8_5 p0 x2 x5 x8 (x11:Bool):=hcat (z8_4 p0 x2 x5 x8) [(13,rp [((.tmp 15),(B x8))] (B true)),(16,rp [((.tmp 16),(B true)),fu 137,((.tmp 18),(I p0.Silica)),ci 0,ci 2000] (B x11))]
theorem Qq5 (N:Nat) (p0:GRow) (r:Bool) (h:Qh8 N p0=some r):Spec prog 139 [(.agg (Qav p0))] [] (B r) []:=by
  refine Qak func139 rfl 0 (nle rfl) (fun X φ0 w0 hφ0 hd0=>?_)
  unfold Qh8 at h
  refine wxz ?_
  obtain⟨x2,hf1,h⟩:=bno h
  refine hpre (A:=(z8_2 p0 x2)) ⟨apv Qkg (Qdq N p0.T 0 400 _ hf1) (nlcc (nlc nll nl0)) nll,tv⟩ fun q1_=>?_
  refine bfe h (fun hb3 h=>?_) fun hb3 h=>?_
  ·obtain⟨x5,hf4,h⟩:=bno h
   refine hpre (A:=(z8_3 p0 x2 x5)) (hap q1_ ⟨asb hb3 (amv rfl),ag_ (apv Qkg (Qdq N p0.P 1 10000 _ hf4) (nlcc (nlc nll nl0)) nll),tv⟩) fun q2_=>?_
   refine bfe h (fun hb6 h=>?_) fun hb6 h=>?_
   ·obtain⟨x8,hf7,h⟩:=bno h
    refine hpre (A:=(z8_4 p0 x2 x5 x8)) (hap q2_ ⟨asb hb6 (amv rfl),ag_ (apv Qkg (Qdq N p0.Liquid 0 4000 _ hf7) (nlcc (nlc nll nl0)) nll),tv⟩) fun q3_=>?_
    refine bfe h (fun hb9 h=>?_) fun hb9 h=>?_
    ·obtain⟨x11,hf10,h⟩:=bno h
     refine hpre (A:=(z8_5 p0 x2 x5 x8 x11)) (hap q3_ ⟨asb hb9 (amv rfl),ag_ (apv Qkg (Qdq N p0.Silica 0 2000 _ hf10) (nlcc (nlc nll nl0)) nll),tv⟩) fun q4_=>?_
     refine bfe h (fun hb12 h=>?_) fun hb12 h=>?_
     ·refine bfe h (fun hb13 h=>?_) fun hb13 h=>?_
      ·refine wx tbk (hcat (z8_5 p0 x2 x5 x8 x11) [(18,rp [(.tmp 20,B x11)] (B true)),(25,rp [(.tmp 27,(B ((decide (p0.Liquid<p0.Vapour)))))] (B true))]) (hap q4_ ⟨asb hb12 (amv rfl),asb hb13 (amv rfl),tv⟩)<|Qah ?_
       obtain rfl:=osi h
       exact fend ⟨[(B ((decide (p0.Vapour≤4000))))],⟨rot,tv⟩,rfl⟩ nll
      ·exact wx tbk (hcat (z8_5 p0 x2 x5 x8 x11) [(18,rp [(.tmp 20,B x11)] (B true)),(25,rp [(.tmp 27,(B ((decide (p0.Liquid<p0.Vapour)))))] (B false))]) (hap q4_ ⟨asb hb12 (amv rfl),asb hb13 (amv rfl),tv⟩)<|Qah<|frb h
     ·exact wx tbk (hcat (z8_5 p0 x2 x5 x8 x11) [(18,rp [(.tmp 20,B x11)] (B false))]) (hap q4_ ⟨asb hb12 (amv rfl),tv⟩)<|Qah<|frb h
    ·exact wx tbk (hcat (z8_4 p0 x2 x5 x8) [(13,rp [(.tmp 15,B x8)] (B false))]) (hap q3_ ⟨asb hb9 (amv rfl),tv⟩)<|Qah<|frb h
   ·exact wx tbk (hcat (z8_3 p0 x2 x5) [(8,rp [(.tmp 10,B x5)] (B false))]) (hap q2_ ⟨asb hb6 (amv rfl),tv⟩)<|Qah<|frb h
  ·exact wx tbk (hcat (z8_2 p0 x2) [(3,rp [(.tmp 5,B x2)] (B false))]) (hap q1_ ⟨asb hb3 (amv rfl),tv⟩)<|Qah<|frb h
def Qfx (N:Nat) (p0:GRow):Option Bool:=
  (Qh8 N p0).bind fun x3=>
  some (!x3)
def z7_1 (p0:GRow):AV:=.agg [(I p0.T),(I p0.P),(I p0.Liquid),(I p0.Vapour),(I p0.Silica)]
def z7_2:Slot:=.own 1 [[(.fn (.func 139) [] [])]]
theorem Qml (N:Nat) (p0:GRow) (r:Bool) (h:Qfx N p0=some r):Spec prog 148 [(z7_1 p0),(.ref 0 1 (0) 0)] [z7_2] (B r) [z7_2]:=by
  refine Qak func148 rfl 1 (nle rfl) (fun X φ0 w0 hφ0 hd0=>?_)
  unfold Qfx at h
  refine Qby<|wxz ?_
  obtain⟨x3,hf2,h⟩:=bno h
  refine wx tbk [(2,rp _ _)] ⟨apv Zie (Qq5 N p0 _ hf2) (nlc (NLt.agg _ (nlcc (nlcc (nlc nll nl0)))) nl0) nll,tv⟩ ?_
  refine wmr (mto (n:=8) (l':=[(3,(B ((!x3))))]) (own':=[z7_2]) [(3,(B ((!x3))))] [0] [z7_2] hφ0 (pw pn) (qb (lc (.rn (Qbl rn0 rn0)) ln) qn))<|Qah ?_
  obtain rfl:=osi h
  exact⟨_,Mor.rfl,Qcy (vs:=[(B ((!x3)))]) ⟨rot,tv⟩ rfl (NLt.of0 nll) (by kernel_rfl) (Qar (Qa8 (nlc (NLt.of0 (NLt.fn _ _ _ nl0 nl0)) nl0)) Qbx)⟩
def Qbk (N:Nat) (p0:List GRow) (k2:Unit→Option Int):Nat→Int→Option Int
  |0,_=>none
  |n5+1,y3=>
    bif (decide (y3<(p0.length:Int))) then
     (getI p0 y3).bind fun x7=>
     (Qfx N x7).bind fun x12=>
     bif x12 then
      some y3
     else
      Qbk N p0 k2 n5 (w64 (y3+1))
    else
     k2 ()
def Qc0 (N:Nat) (p0:List GRow):Option Int:=
  Qbi (fun _=>
    some (-1)) fun k2:Unit→Option Int=>
  Qbk N p0 k2 N 0
def z6_0:AV:=.fn (.func 148) [] [(.ref 0 1 (0) 0)]
def z6_2:Slot:=.own 1 [[(.fn (.func 139) [] [])]]
def z6_7 (x7:GRow):AV:=.agg [(I x7.T),(I x7.P),(I x7.Liquid),(I x7.Vapour),(I x7.Silica)]
theorem Qh9 (N:Nat) (p0:List GRow) (r:Int) (h:Qc0 N p0=some r):Spec prog 156 [(.dat 5 (p0.map Qav)),z6_0] [z6_2] (I r) [z6_2]:=by
  refine Qak func156 rfl 1 (nle rfl) (fun X φ0 w0 hφ0 hd0=>?_)
  unfold Qc0 at h
  refine Qby<|wxz ?_
  obtain⟨k2,hk_k2,h⟩:=jko h
  refine wjn (τ:=Unit) (fun t=>k2 t=some r) (fun _=>⟨mk 19 [],[z6_2]⟩) (fun t h=>?_) ?_
  ·subst hk_k2
   refine wxz<|wmr (mto (n:=19) (l':=[(4,(I ((-1))))]) (own':=[z6_2]) [(4,(I ((-1))))] [0] [z6_2] hφ0 (pw pn) (qb (lc (.rn (Qbl rn0 rn0)) ln) qn))<|Qah ?_
   obtain rfl:=osi h
   exact⟨_,Mor.rfl,Qcy (vs:=[(I ((-1)))]) ⟨rot,tv⟩ rfl (NLt.of0 nll) (by kernel_rfl) (Qar (Qa8 (nlc (NLt.of0 (NLt.fn _ _ _ nl0 nl0)) nl0)) Qbx)⟩
  ·skip
   refine wx tbk [(1,rp _ _)] ⟨alq 5 Qav p0 underlying38,tv⟩<|Qap ?_
   refine wmr (mto (n:=19) (l':=[(0,(.dat 5 (p0.map Qav))),(1,z6_0),(7,(I ((p0.length:Int)))),(8,I 0)]) (own':=[z6_2]) [(0,(.dat 5 (p0.map Qav))),(1,z6_0),(7,(I ((p0.length:Int)))),(8,I 0)] [0] [z6_2] hφ0 (pc (rnd Qao) (pc (.rn (Qbl rn0 (rnc (rqr rfl) rn0))) (pw (pw pn)))) (qb (lc (.rn (Qbl rn0 rn0)) ln) qn)) ?_
   refine Qbv (τ:=Int) (fun n t=>Qbk N p0 k2 n t=some r) (fun y3=>⟨mk 19 [(0,(.dat 5 (p0.map Qav))),(1,z6_0),(7,(I ((p0.length:Int)))),(8,I y3)],[z6_2]⟩) (fun t h=>by rw[Qbk] at h;cases h) (fun n5 ih y3 h=>?_) N (0) h
   rw[Qbk] at h
   skip
   refine wxz<|wsq ?_
   refine bfe h (fun hc6 h=>?_) fun hc6 h=>?_
   ·refine wft hc6<|Qaq<|thn<|wsq<|Qap<|wxz ?_
    obtain⟨x7,hg8,h⟩:=bno h
    obtain⟨hi9,hj10⟩:=gsm hg8
    obtain⟨x12,hf11,h⟩:=bno h
    refine wx tbk [(3,rp _ _),(5,⟨_,_,_,_,false⟩)] ⟨aiq underlying38 Qxf Qav hi9 hj10,Qat (first:=[]) (cap:=[.ref 0 1 0 0]) (vs:=[(z6_7 x7)]) (σr:=[z6_2]) (σr':=[z6_2]) (res':=(B x12)) [0] rfl Zh6 (Qml N x7 _ hf11) rfl (Qbq (rnc (.plain _ (NLt.agg _ (nlcc (nlcc (nlc nll nl0))))) (rnc (Qa4 rfl) rn0))) (slc (Qan (rnc (.plain _ (NLt.fn _ _ _ nl0 nl0)) rn0)) Qas) (slc (Qan (rnc (.plain _ (NLt.fn _ _ _ nl0 nl0)) rn0)) Qas) (.plain _ nll) rfl rfl rfl,tv⟩ ?_
    refine bfe h (fun hc13 h=>?_) fun hc13 h=>?_
    ·refine wft hc13<|wxz ?_
     refine wmr (mto (n:=19) (l':=[(4,I y3)]) (own':=[z6_2]) [(4,I y3)] [0] [z6_2] hφ0 (pw pn) (qb (lc (.rn (Qbl rn0 rn0)) ln) qn))<|Qah<|Qau<|Qaj<|Qaj<|Qau<|Qaj ?_
     obtain rfl:=osi h
     exact⟨_,Mor.rfl,Qcy (vs:=[I y3]) ⟨rot,tv⟩ rfl (NLt.of0 nll) (by kernel_rfl) (Qar (Qa8 (nlc (NLt.of0 (NLt.fn _ _ _ nl0 nl0)) nl0)) Qbx)⟩
    ·exact wfn hc13<|Qaq<|bln<|thn<|wxz1<|thn<|arm (mto (n:=19) [(0,(.dat 5 (p0.map Qav))),(1,z6_0),(7,(I ((p0.length:Int)))),(8,(I (w64 (y3+1))))] [0] [z6_2] hφ0 (pc (rnd Qao) (pc (.rn (Qbl rn0 (rnc (rqr rfl) rn0))) (pw (pw pn)))) (qb (lc (.rn (Qbl rn0 rn0)) ln) qn)) (ih (w64 (y3+1)) h)
   ·exact wfn hc6<|Qbg<|Qay<|Qay<|Qbf rfl<|thn<|⟨(),h,(mto (n:=19) [] [0] [z6_2] hφ0 pn (qb (lc (.rn (Qbl rn0 rn0)) ln) qn))⟩
def Qcr (N:Nat) (p0:List GRow):Option Bool:=
  (Qc0 N p0).bind fun x3=>
  some (decide (x3≥0))
def z5_0:AV:=.fn (.func 148) [] [(.ref 0 1 (0) 0)]
def z5_1:Slot:=.own 1 [[(.fn (.func 139) [] [])]]
theorem Qht (N:Nat) (p0:List GRow) (r:Bool) (h:Qcr N p0=some r):Spec prog 147 [(.dat 5 (p0.map Qav)),z5_0] [z5_1] (B r) [z5_1]:=by
  refine Qak func147 rfl 1 (nle rfl) (fun X φ0 w0 hφ0 hd0=>?_)
  unfold Qcr at h
  refine Qby<|wxz ?_
  obtain⟨x3,hf2,h⟩:=bno h
  refine wx tbk [(2,⟨_,_,_,_,false⟩)] ⟨Qat (first:=[]) (cap:=[]) (vs:=[(.dat 5 (p0.map Qav)),z5_0]) (σr:=[z5_1]) (σr':=[z5_1]) (res':=(I x3)) [0] rfl Zhz (Qh9 N p0 _ hf2) rfl (Qbq (rnc (pld Qao) (rnc (Qbl rn0 (rnc (Qa4 rfl) rn0)) rn0))) (slc (Qan (rnc (.plain _ (NLt.fn _ _ _ nl0 nl0)) rn0)) Qas) (slc (Qan (rnc (.plain _ (NLt.fn _ _ _ nl0 nl0)) rn0)) Qas) (.plain _ nll) rfl rfl rfl,tv⟩ ?_
  refine wmr (mto (n:=9) (l':=[(4,(B ((decide (x3≥0)))))]) (own':=[z5_1]) [(4,(B ((decide (x3≥0)))))] [0] [z5_1] hφ0 (pw pn) (qb (lc (.rn (Qbl rn0 rn0)) ln) qn))<|Qah ?_
  obtain rfl:=osi h
  exact⟨_,Mor.rfl,Qcy (vs:=[(B ((decide (x3≥0))))]) ⟨rot,tv⟩ rfl (NLt.of0 nll) (by kernel_rfl) (Qar (Qa8 (nlc (NLt.of0 (NLt.fn _ _ _ nl0 nl0)) nl0)) Qbx)⟩
def Qfm (N:Nat) (p0:List GRow):Option Bool:=
  (Qcr N p0).bind fun x2=>
  some (!x2)
def z4_1:AV:=.fn (.func 148) [] [(.ref 0 1 (0) 0)]
def z4_0:Slot:=.own 1 [[(.fn (.func 139) [] [])]]
theorem Qnf (N:Nat) (p0:List GRow) (r:Bool) (h:Qfm N p0=some r):Spec prog 138 [(.dat 5 (p0.map Qav)),(.fn (.func 139) [] [])] [] (B r) []:=by
  refine Qak func138 rfl 0 (nle rfl) (fun X φ0 w0 hφ0 hd0=>?_)
  unfold Qfm at h
  refine wxz ?_
  obtain⟨x2,hf1,h⟩:=bno h
  refine wx tbk [(1,rp [(.tmp 3,.ref 0 1 0 0)] z4_1),(2,⟨_,_,_,_,false⟩)] ⟨Qew (fs:=[]) (cs:=[.ref 0 1 0 0]) rfl rfl rfl rfl,Qat (first:=[]) (cap:=[]) (vs:=[(.dat 5 (p0.map Qav)),z4_1]) (σr:=[z4_0]) (σr':=[z4_0]) (res':=(B x2)) [0] rfl Zh7 (Qht N p0 _ hf1) rfl (Qbq (rnc (pld Qao) (rnc (Qbl rn0 (rnc (Qa4 rfl) rn0)) rn0))) (slc (Qan (rnc (.plain _ (NLt.fn _ _ _ nl0 nl0)) rn0)) Qas) (slc (Qan (rnc (.plain _ (NLt.fn _ _ _ nl0 nl0)) rn0)) Qas) (.plain _ nll) rfl rfl rfl,tv⟩<|Qah ?_
  obtain rfl:=osi h
  exact fend ⟨[(B ((!x2)))],⟨rot,tv⟩,rfl⟩ nll
def Qda (N:Nat) (p0:List GRow) (k2:Unit→Option Bool):Nat→Int→Option Bool
  |0,_=>none
  |n6+1,y4=>
    bif (decide (y4<((p0.drop (1:Int).toNat).length:Int))) then
     (getI (p0.drop (1:Int).toNat) y4).bind fun x8=>
     (getI p0 y4).bind fun x12=>
     bif (decide (x8.T≤x12.T)) then
      some false
     else
      bif (decide (x8.P≤x12.P)) then
       some false
      else
       bif (decide (x8.Liquid≤x12.Liquid)) then
        some false
       else
        bif (decide (x8.Silica<x12.Silica)) then
         some false
        else
         Qda N p0 k2 n6 (w64 (y4+1))
    else
     k2 ()
def Qfy (N:Nat) (p0:List GRow):Option Bool:=
  Qbi (fun _=>
    Qbi (fun _=>
      some true) fun k2:Unit→Option Bool=>
    chk (decide (0≤1)&&decide (1≤(p0.length:Int))&&decide ((p0.length:Int)≤(p0.length:Int)))<|
    Qda N p0 k2 N 0) fun k1:Unit→Option Bool=>
  (Qdj N (p0.length:Int) 2 20).bind fun x21=>
  bif (!x21) then
   some false
  else
   (Qfm N p0).bind fun x24=>
   bif (!x24) then
    some false
   else
    k1 ()
def z2_0 (p0:List GRow):AV:=.dat 5 ((p0.drop (1:Int).toNat:List GRow).map Qav)
def Zgl (x8 x12:GRow):List (Nat×Rec):=[(5,rp [((.tmp 31),(B ((decide (x8.T≤x12.T)))))] (B false))]
def Zl1 (p0:List GRow) (x21:Bool):List (Nat×Rec):=[(1,rp [((.tmp 6),(.dat 5 (p0.map Qav)))] (I ((p0.length:Int)))),(2,rp [fu 137,((.tmp 7),(I ((p0.length:Int)))),ci 2,ci 20] (B x21))]
theorem Qk9 (N:Nat) (p0:List GRow) (r:Bool) (h:Qfy N p0=some r):Spec prog 122 [(.dat 5 (p0.map Qav))] [] (B r) []:=by
  refine Qak func122 rfl 0 (nle rfl) (fun X φ0 w0 hφ0 hd0=>?_)
  unfold Qfy at h
  refine wxz ?_
  obtain⟨k1,hk_k1,h⟩:=jko h
  refine wjn (τ:=Unit) (fun t=>k1 t=some r) (fun _=>⟨mk 54 [(0,(.dat 5 (p0.map Qav)))],[]⟩) (fun t h=>?_) ?_
  ·subst hk_k1
   obtain⟨k2,hk_k2,h⟩:=jko h
   refine wjn (τ:=Unit) (fun t=>k2 t=some r) (fun _=>⟨mk 54 [],[]⟩) (fun t h=>?_) ?_
   ·subst hk_k2
    exact wxz<|Qah<|frb h
   ·skip
    obtain⟨hs3,h⟩:=cko h
    refine wx tbk [(1,rp [(.tmp 15,(.dat 5 (p0.map Qav))),ci 1] (z2_0 p0)),(2,rp _ _)] ⟨Qit (k:=.i64) (k':=.i64) (lo:=some (.const (.int .i64 1))) (hi:=none) (l:=1) (hh:=((p0.length:Nat):Int)) rfl underlying39 Qxf rfl (fun e=>nomatch e) (fun _=>by simp) (Qt2 hs3) (Qt1 hs3) (Q5d Qav hs3) (Zcu Qav),alq 5 Qav (p0.drop (1:Int).toNat) underlying39,tv⟩<|Qap ?_
    refine wmr (mto (n:=54) (l':=[(0,(.dat 5 (p0.map Qav))),(16,(z2_0 p0)),(17,(I (((p0.drop (1:Int).toNat).length:Int)))),(18,I 0)]) (own':=[]) [(0,(.dat 5 (p0.map Qav))),(16,(z2_0 p0)),(17,(I (((p0.drop (1:Int).toNat).length:Int)))),(18,I 0)] [] [] hφ0 (pc (rnd Qao) (pc (rnd Qao) (pw (pw pn)))) qn) ?_
    refine Qbv (τ:=Int) (fun n t=>Qda N p0 k2 n t=some r) (fun y4=>⟨mk 54 [(0,(.dat 5 (p0.map Qav))),(16,(z2_0 p0)),(17,(I (((p0.drop (1:Int).toNat).length:Int)))),(18,I y4)],[]⟩) (fun t h=>by rw[Qda] at h;cases h) (fun n6 ih y4 h=>?_) N (0) h
    rw[Qda] at h
    skip
    refine wxz<|wsq ?_
    refine bfe h (fun hc7 h=>?_) fun hc7 h=>?_
    ·refine wft hc7<|Qaq<|thn<|wsq<|Qap ?_
     obtain⟨x8,hg9,h⟩:=bno h
     obtain⟨hi10,hj11⟩:=gsm hg9
     refine wx tbk [(1,rp _ _)] ⟨aiq underlying39 Qxf Qav hi10 hj11,tv⟩ ?_
     obtain⟨x12,hg13,h⟩:=bno h
     obtain⟨hi14,hj15⟩:=gsm hg13
     refine wx tbk [(2,rp _ _)] ⟨aiq underlying39 Qxf Qav hi14 hj15,tv⟩ ?_
     refine bfe h (fun hb16 h=>?_) fun hb16 h=>?_
     ·exact wx tbk [(5,rp [(.tmp 31,(B ((decide (x8.T≤x12.T)))))] (B true))] ⟨asb hb16 (amv rfl),tv⟩<|wtr<|wxz<|Qah<|Qau<|Qaj<|Qaj<|Qau<|Qaj<|frb h
     ·refine hpre (A:=(Zgl x8 x12)) ⟨asb hb16 (amv rfl),tv⟩ fun q1_=>?_
      refine bfe h (fun hb17 h=>?_) fun hb17 h=>?_
      ·exact wx tbk (hcat (Zgl x8 x12) [(12,rp [(.tmp 38,(B ((decide (x8.P≤x12.P)))))] (B true))]) (hap q1_ ⟨asb hb17 (amv rfl),tv⟩)<|wtr<|wxz<|Qah<|Qau<|Qaj<|Qaj<|Qau<|Qaj<|frb h
      ·refine bfe h (fun hb18 h=>?_) fun hb18 h=>?_
       ·exact wx tbk (hcat (Zgl x8 x12) [(12,rp [(.tmp 38,(B ((decide (x8.P≤x12.P)))))] (B false)),(19,rp [(.tmp 45,(B ((decide (x8.Liquid≤x12.Liquid)))))] (B true))]) (hap q1_ ⟨asb hb17 (amv rfl),asb hb18 (amv rfl),tv⟩)<|wtr<|wxz<|Qah<|Qau<|Qaj<|Qaj<|Qau<|Qaj<|frb h
       ·refine wx tbk (hcat (Zgl x8 x12) [(12,rp [(.tmp 38,(B ((decide (x8.P≤x12.P)))))] (B false)),(19,rp [(.tmp 45,(B ((decide (x8.Liquid≤x12.Liquid)))))] (B false))]) (hap q1_ ⟨asb hb17 (amv rfl),asb hb18 (amv rfl),tv⟩) ?_
        refine bfe h (fun hc19 h=>?_) fun hc19 h=>?_
        ·exact wft hc19<|wxz<|Qah<|Qau<|Qaj<|Qaj<|Qau<|Qaj<|frb h
        ·exact wfn hc19<|Qaq<|bln<|thn<|wxz1<|thn<|arm (mto (n:=54) [(0,(.dat 5 (p0.map Qav))),(16,(z2_0 p0)),(17,(I (((p0.drop (1:Int).toNat).length:Int)))),(18,(I (w64 (y4+1))))] [] [] hφ0 (pc (rnd Qao) (pc (rnd Qao) (pw (pw pn)))) qn) (ih (w64 (y4+1)) h)
    ·exact wfn hc7<|Qbg<|Qay<|Qay<|Qbf rfl<|thn<|⟨(),h,(mto (n:=54) [] [] [] hφ0 pn qn)⟩
  ·skip
   obtain⟨x21,hf20,h⟩:=bno h
   refine hpre (A:=(Zl1 p0 x21)) ⟨alq 5 Qav p0 underlying39,apv Qkg (Qdq N (p0.length:Int) 2 20 _ hf20) (nlcc (nlc nll nl0)) nll,tv⟩ fun q2_=>?_
   refine bfe h (fun hb22 h=>?_) fun hb22 h=>?_
   ·exact wx tbk (hcat (Zl1 p0 x21) [(4,rp [(.tmp 9,(B ((!x21))))] (B true))]) (hap q2_ ⟨asb hb22 (amv rfl),tv⟩)<|wtr<|wxz<|Qah<|Qaj<|frb h
   ·obtain⟨x24,hf23,h⟩:=bno h
    refine wx tbk (hcat (Zl1 p0 x21) [(4,rp [(.tmp 9,(B ((!x21))))] (B false)),(6,rp [(.tmp 10,B false),fu 138,(.tmp 11,(.dat 5 (p0.map Qav))),fu 139] (B x24))]) (hap q2_ ⟨asb hb22 (amv rfl),ag_ (Qat (first:=[]) (cap:=[]) (vs:=[(.dat 5 (p0.map Qav)),(.fn (.func 139) [] [])]) (σr:=[]) (σr':=[]) (res':=(B x24)) [] rfl Zif (Qnf N p0 _ hf23) rfl (Qbq (rnc (pld Qao) (rnc (.plain _ (NLt.fn _ _ _ nl0 nl0)) rn0))) Qas Qas (.plain _ nll) rfl rfl rfl),tv⟩) ?_
    refine bfe h (fun hc25 h=>?_) fun hc25 h=>?_
    ·exact wft hc25<|wxz<|Qah<|Qaj<|frb h
    ·exact wfn hc25<|Qaq<|thn<|⟨(),h,(mto (n:=54) [(0,(.dat 5 (p0.map Qav)))] [] [] hφ0 (pc (rnd Qao) pn) qn)⟩
def Qix (N:Nat) (p0:List GRow):Option Int:=
  (Qfy N p0).bind fun x2=>
  bif (!x2) then
   some 1
  else
   some 0
theorem Qqb (N:Nat) (p0:List GRow) (r:Int) (h:Qix N p0=some r):Spec prog 100 [(.dat 5 (p0.map Qav))] [] (I r) []:=by
  refine Qak func100 rfl 0 (nle rfl) (fun X φ0 w0 hφ0 hd0=>?_)
  unfold Qix at h
  refine wxz<|wsq ?_
  obtain⟨x2,hf1,h⟩:=bno h
  refine wx tbk [(1,rp _ _)] ⟨apv Q7g (Qk9 N p0 _ hf1) (nlc (nld Qao _) nl0) nll,tv⟩ ?_
  refine bfe h (fun hc3 h=>?_) fun hc3 h=>?_
  ·refine wft hc3<|wxz<|Qah<|Qaj ?_
   obtain rfl:=osi h
   exact fend ⟨[I 1],⟨rot,tv⟩,rfl⟩ nll
  ·refine wfn hc3<|Qaq<|thn<|wxz<|Qah ?_
   obtain rfl:=osi h
   exact fend ⟨[I 0],⟨rot,tv⟩,rfl⟩ nll
def Qc1 (_N:Nat) (p0 p1 p2:Int):Option Bool:=
  bif (decide (p1≤p0)) then
   some (decide (p0≤p2))
  else
   some false
theorem Qdz (N:Nat) (p0 p1 p2:Int) (r:Bool) (h:Qc1 N p0 p1 p2=some r):Spec prog 65 [(I p0),(I p1),(I p2)] [] (B r) []:=by
  refine Qak func65 rfl 0 (nle rfl) (fun X φ0 w0 hφ0 hd0=>?_)
  unfold Qc1 at h
  refine wxz ?_
  refine bfe h (fun hb1 h=>?_) fun hb1 h=>?_
  ·refine wx tbk [(3,rp [(.tmp 9,(B ((decide (p1≤p0)))))] (B true))] ⟨asb hb1 (amv rfl),tv⟩<|Qah ?_
   obtain rfl:=osi h
   exact fend ⟨[(B ((decide (p0≤p2))))],⟨rot,tv⟩,rfl⟩ nll
  ·exact wx tbk [(3,rp [(.tmp 9,(B ((decide (p1≤p0)))))] (B false))] ⟨asb hb1 (amv rfl),tv⟩<|Qah<|frb h
def Qhe (N:Nat) (p0:Int):Option Bool:=
  (Qc1 N p0 0 1000).bind fun x2=>
  some x2
theorem Qn7 (N:Nat) (p0:Int) (r:Bool) (h:Qhe N p0=some r):Spec prog 125 [(I p0)] [] (B r) []:=by
  refine Qak func125 rfl 0 (nle rfl) (fun X φ0 w0 hφ0 hd0=>?_)
  unfold Qhe at h
  refine wxz ?_
  obtain⟨x2,hf1,h⟩:=bno h
  exact wx tbk [(1,rp _ _)] ⟨apv Qmx (Qdz N p0 0 1000 _ hf1) (nlcc (nlc nll nl0)) nll,tv⟩<|Qah<|frb h
def Qhy (N:Nat) (p0:Int):Option Bool:=
  (Qhe N p0).bind fun x3=>
  some (!x3)
def Zgo:Slot:=.own 1 [[(.fn (.func 125) [] [])]]
theorem Qqi (N:Nat) (p0:Int) (r:Bool) (h:Qhy N p0=some r):Spec prog 128 [(I p0),(.ref 0 1 (0) 0)] [Zgo] (B r) [Zgo]:=by
  refine Qak func128 rfl 1 (nle rfl) (fun X φ0 w0 hφ0 hd0=>?_)
  unfold Qhy at h
  refine Qby<|wxz ?_
  obtain⟨x3,hf2,h⟩:=bno h
  refine wx tbk [(2,rp _ _)] ⟨apv Zim (Qn7 N p0 _ hf2) (nlc nll nl0) nll,tv⟩ ?_
  refine wmr (mto (n:=8) (l':=[(3,(B ((!x3))))]) (own':=[Zgo]) [(3,(B ((!x3))))] [0] [Zgo] hφ0 (pw pn) (qb (lc (.rn (Qbl rn0 rn0)) ln) qn))<|Qah ?_
  obtain rfl:=osi h
  exact⟨_,Mor.rfl,Qcy (vs:=[(B ((!x3)))]) ⟨rot,tv⟩ rfl (NLt.of0 nll) (by kernel_rfl) (Qar (Qa8 (nlc (NLt.of0 (NLt.fn _ _ _ nl0 nl0)) nl0)) Qbx)⟩
def Qcj (N:Nat) (p0:List Int) (k2:Unit→Option Int):Nat→Int→Option Int
  |0,_=>none
  |n5+1,y3=>
    bif (decide (y3<(p0.length:Int))) then
     (getI p0 y3).bind fun x7=>
     (Qhy N x7).bind fun x12=>
     bif x12 then
      some y3
     else
      Qcj N p0 k2 n5 (w64 (y3+1))
    else
     k2 ()
def Qe5 (N:Nat) (p0:List Int):Option Int:=
  Qbi (fun _=>
    some (-1)) fun k2:Unit→Option Int=>
  Qcj N p0 k2 N 0
def Zbh:AV:=.fn (.func 128) [] [(.ref 0 1 (0) 0)]
def Qrw:Slot:=.own 1 [[(.fn (.func 125) [] [])]]
theorem Qlh (N:Nat) (p0:List Int) (r:Int) (h:Qe5 N p0=some r):Spec prog 141 [(.dat 1 (p0.map Qad)),Zbh] [Qrw] (I r) [Qrw]:=by
  refine Qak func141 rfl 1 (nle rfl) (fun X φ0 w0 hφ0 hd0=>?_)
  unfold Qe5 at h
  refine Qby<|wxz ?_
  obtain⟨k2,hk_k2,h⟩:=jko h
  refine wjn (τ:=Unit) (fun t=>k2 t=some r) (fun _=>⟨mk 19 [],[Qrw]⟩) (fun t h=>?_) ?_
  ·subst hk_k2
   refine wxz<|wmr (mto (n:=19) (l':=[(4,(I ((-1))))]) (own':=[Qrw]) [(4,(I ((-1))))] [0] [Qrw] hφ0 (pw pn) (qb (lc (.rn (Qbl rn0 rn0)) ln) qn))<|Qah ?_
   obtain rfl:=osi h
   exact⟨_,Mor.rfl,Qcy (vs:=[(I ((-1)))]) ⟨rot,tv⟩ rfl (NLt.of0 nll) (by kernel_rfl) (Qar (Qa8 (nlc (NLt.of0 (NLt.fn _ _ _ nl0 nl0)) nl0)) Qbx)⟩
  ·skip
   refine wx tbk [(1,rp _ _)] ⟨alq 1 Qad p0 underlying27,tv⟩<|Qap ?_
   refine wmr (mto (n:=19) (l':=[(0,(.dat 1 (p0.map Qad))),(1,Zbh),(7,(I ((p0.length:Int)))),(8,I 0)]) (own':=[Qrw]) [(0,(.dat 1 (p0.map Qad))),(1,Zbh),(7,(I ((p0.length:Int)))),(8,I 0)] [0] [Qrw] hφ0 (pc (rnd Qag) (pc (.rn (Qbl rn0 (rnc (rqr rfl) rn0))) (pw (pw pn)))) (qb (lc (.rn (Qbl rn0 rn0)) ln) qn)) ?_
   refine Qbv (τ:=Int) (fun n t=>Qcj N p0 k2 n t=some r) (fun y3=>⟨mk 19 [(0,(.dat 1 (p0.map Qad))),(1,Zbh),(7,(I ((p0.length:Int)))),(8,I y3)],[Qrw]⟩) (fun t h=>by rw[Qcj] at h;cases h) (fun n5 ih y3 h=>?_) N (0) h
   rw[Qcj] at h
   skip
   refine wxz<|wsq ?_
   refine bfe h (fun hc6 h=>?_) fun hc6 h=>?_
   ·refine wft hc6<|Qaq<|thn<|wsq<|Qap<|wxz ?_
    obtain⟨x7,hg8,h⟩:=bno h
    obtain⟨hi9,hj10⟩:=gsm hg8
    obtain⟨x12,hf11,h⟩:=bno h
    refine wx tbk [(3,rp _ _),(5,⟨_,_,_,_,false⟩)] ⟨aiq underlying27 ti3 Qad hi9 hj10,Qat (first:=[]) (cap:=[.ref 0 1 0 0]) (vs:=[I x7]) (σr:=[Qrw]) (σr':=[Qrw]) (res':=(B x12)) [0] rfl Q7f (Qqi N x7 _ hf11) rfl (Qbq (rnc (.plain _ nll) (rnc (Qa4 rfl) rn0))) (slc (Qan (rnc (.plain _ (NLt.fn _ _ _ nl0 nl0)) rn0)) Qas) (slc (Qan (rnc (.plain _ (NLt.fn _ _ _ nl0 nl0)) rn0)) Qas) (.plain _ nll) rfl rfl rfl,tv⟩ ?_
    refine bfe h (fun hc13 h=>?_) fun hc13 h=>?_
    ·refine wft hc13<|wxz ?_
     refine wmr (mto (n:=19) (l':=[(4,I y3)]) (own':=[Qrw]) [(4,I y3)] [0] [Qrw] hφ0 (pw pn) (qb (lc (.rn (Qbl rn0 rn0)) ln) qn))<|Qah<|Qau<|Qaj<|Qaj<|Qau<|Qaj ?_
     obtain rfl:=osi h
     exact⟨_,Mor.rfl,Qcy (vs:=[I y3]) ⟨rot,tv⟩ rfl (NLt.of0 nll) (by kernel_rfl) (Qar (Qa8 (nlc (NLt.of0 (NLt.fn _ _ _ nl0 nl0)) nl0)) Qbx)⟩
    ·exact wfn hc13<|Qaq<|bln<|thn<|wxz1<|thn<|arm (mto (n:=19) [(0,(.dat 1 (p0.map Qad))),(1,Zbh),(7,(I ((p0.length:Int)))),(8,(I (w64 (y3+1))))] [0] [Qrw] hφ0 (pc (rnd Qag) (pc (.rn (Qbl rn0 (rnc (rqr rfl) rn0))) (pw (pw pn)))) (qb (lc (.rn (Qbl rn0 rn0)) ln) qn)) (ih (w64 (y3+1)) h)
   ·exact wfn hc6<|Qbg<|Qay<|Qay<|Qbf rfl<|thn<|⟨(),h,(mto (n:=19) [] [0] [Qrw] hφ0 pn (qb (lc (.rn (Qbl rn0 rn0)) ln) qn))⟩
def Qdf (N:Nat) (p0:List Int):Option Bool:=
  (Qe5 N p0).bind fun x3=>
  some (decide (x3≥0))
def Zp2:AV:=.fn (.func 128) [] [(.ref 0 1 (0) 0)]
def Q78:Slot:=.own 1 [[(.fn (.func 125) [] [])]]
theorem Qj2 (N:Nat) (p0:List Int) (r:Bool) (h:Qdf N p0=some r):Spec prog 126 [(.dat 1 (p0.map Qad)),Zp2] [Q78] (B r) [Q78]:=by
  refine Qak func126 rfl 1 (nle rfl) (fun X φ0 w0 hφ0 hd0=>?_)
  unfold Qdf at h
  refine Qby<|wxz ?_
  obtain⟨x3,hf2,h⟩:=bno h
  refine wx tbk [(2,⟨_,_,_,_,false⟩)] ⟨Qat (first:=[]) (cap:=[]) (vs:=[(.dat 1 (p0.map Qad)),Zp2]) (σr:=[Q78]) (σr':=[Q78]) (res':=(I x3)) [0] rfl Qsp (Qlh N p0 _ hf2) rfl (Qbq (rnc (pld Qag) (rnc (Qbl rn0 (rnc (Qa4 rfl) rn0)) rn0))) (slc (Qan (rnc (.plain _ (NLt.fn _ _ _ nl0 nl0)) rn0)) Qas) (slc (Qan (rnc (.plain _ (NLt.fn _ _ _ nl0 nl0)) rn0)) Qas) (.plain _ nll) rfl rfl rfl,tv⟩ ?_
  refine wmr (mto (n:=9) (l':=[(4,(B ((decide (x3≥0)))))]) (own':=[Q78]) [(4,(B ((decide (x3≥0)))))] [0] [Q78] hφ0 (pw pn) (qb (lc (.rn (Qbl rn0 rn0)) ln) qn))<|Qah ?_
  obtain rfl:=osi h
  exact⟨_,Mor.rfl,Qcy (vs:=[(B ((decide (x3≥0))))]) ⟨rot,tv⟩ rfl (NLt.of0 nll) (by kernel_rfl) (Qar (Qa8 (nlc (NLt.of0 (NLt.fn _ _ _ nl0 nl0)) nl0)) Qbx)⟩
def Qhz (N:Nat) (p0:List Int):Option Bool:=
  (Qdf N p0).bind fun x2=>
  some (!x2)
def Zp5:AV:=.fn (.func 128) [] [(.ref 0 1 (0) 0)]
def Zp6:Slot:=.own 1 [[(.fn (.func 125) [] [])]]
theorem Qse (N:Nat) (p0:List Int) (r:Bool) (h:Qhz N p0=some r):Spec prog 108 [(.dat 1 (p0.map Qad)),(.fn (.func 125) [] [])] [] (B r) []:=by
  refine Qak func108 rfl 0 (nle rfl) (fun X φ0 w0 hφ0 hd0=>?_)
  unfold Qhz at h
  refine wxz ?_
  obtain⟨x2,hf1,h⟩:=bno h
  refine wx tbk [(1,rp [(.tmp 3,.ref 0 1 0 0)] Zp5),(2,⟨_,_,_,_,false⟩)] ⟨Qew (fs:=[]) (cs:=[.ref 0 1 0 0]) rfl rfl rfl rfl,Qat (first:=[]) (cap:=[]) (vs:=[(.dat 1 (p0.map Qad)),Zp5]) (σr:=[Zp6]) (σr':=[Zp6]) (res':=(B x2)) [0] rfl Qsq (Qj2 N p0 _ hf1) rfl (Qbq (rnc (pld Qag) (rnc (Qbl rn0 (rnc (Qa4 rfl) rn0)) rn0))) (slc (Qan (rnc (.plain _ (NLt.fn _ _ _ nl0 nl0)) rn0)) Qas) (slc (Qan (rnc (.plain _ (NLt.fn _ _ _ nl0 nl0)) rn0)) Qas) (.plain _ nll) rfl rfl rfl,tv⟩<|Qah ?_
  obtain rfl:=osi h
  exact fend ⟨[(B ((!x2)))],⟨rot,tv⟩,rfl⟩ nll
def Qhd (_N:Nat) (p0:Int):Option Bool:=
  some (decide (p0>0))
theorem Qn6 (N:Nat) (p0:Int) (r:Bool) (h:Qhd N p0=some r):Spec prog 127 [(I p0)] [] (B r) []:=by
  refine Qak func127 rfl 0 (nle rfl) (fun X φ0 w0 hφ0 hd0=>?_)
  unfold Qhd at h
  refine wxz<|wxz<|Qah ?_
  obtain rfl:=osi h
  exact fend ⟨[(B ((decide (p0>0))))],⟨rot,tv⟩,rfl⟩ nll
def Qci (N:Nat) (p0:List Int) (k1:Unit→Option Int):Nat→Int→Option Int
  |0,_=>none
  |n4+1,y2=>
    bif (decide (y2<(p0.length:Int))) then
     (getI p0 y2).bind fun x6=>
     (Qhd N x6).bind fun x11=>
     bif x11 then
      some y2
     else
      Qci N p0 k1 n4 (w64 (y2+1))
    else
     k1 ()
def Qe4 (N:Nat) (p0:List Int):Option Int:=
  Qbi (fun _=>
    some (-1)) fun k1:Unit→Option Int=>
  Qci N p0 k1 N 0
theorem Qlg (N:Nat) (p0:List Int) (r:Int) (h:Qe4 N p0=some r):Spec prog 141 [(.dat 1 (p0.map Qad)),(.fn (.func 127) [] [])] [] (I r) []:=by
  refine Qak func141 rfl 0 (nle rfl) (fun X φ0 w0 hφ0 hd0=>?_)
  unfold Qe4 at h
  refine wxz ?_
  obtain⟨k1,hk_k1,h⟩:=jko h
  refine wjn (τ:=Unit) (fun t=>k1 t=some r) (fun _=>⟨mk 19 [],[]⟩) (fun t h=>?_) ?_
  ·subst hk_k1
   refine wxz<|Qah ?_
   obtain rfl:=osi h
   exact fend ⟨[(I ((-1)))],⟨rot,tv⟩,rfl⟩ nll
  ·skip
   refine wx tbk [(1,rp _ _)] ⟨alq 1 Qad p0 underlying27,tv⟩<|Qap ?_
   refine wmr (mto (n:=19) (l':=[(0,(.dat 1 (p0.map Qad))),(1,(.fn (.func 127) [] [])),(7,(I ((p0.length:Int)))),(8,I 0)]) (own':=[]) [(0,(.dat 1 (p0.map Qad))),(1,(.fn (.func 127) [] [])),(7,(I ((p0.length:Int)))),(8,I 0)] [] [] hφ0 (pc (rnd Qag) (pc (.rn (Qbl rn0 rn0)) (pw (pw pn)))) qn) ?_
   refine Qbv (τ:=Int) (fun n t=>Qci N p0 k1 n t=some r) (fun y2=>⟨mk 19 [(0,(.dat 1 (p0.map Qad))),(1,(.fn (.func 127) [] [])),(7,(I ((p0.length:Int)))),(8,I y2)],[]⟩) (fun t h=>by rw[Qci] at h;cases h) (fun n4 ih y2 h=>?_) N (0) h
   rw[Qci] at h
   skip
   refine wxz<|wsq ?_
   refine bfe h (fun hc5 h=>?_) fun hc5 h=>?_
   ·refine wft hc5<|Qaq<|thn<|wsq<|Qap<|wxz ?_
    obtain⟨x6,hg7,h⟩:=bno h
    obtain⟨hi8,hj9⟩:=gsm hg7
    obtain⟨x11,hf10,h⟩:=bno h
    refine wx tbk [(3,rp _ _),(5,rp _ _)] ⟨aiq underlying27 ti3 Qad hi8 hj9,apv Zil (Qn6 N x6 _ hf10) (nlc nll nl0) nll,tv⟩ ?_
    refine bfe h (fun hc12 h=>?_) fun hc12 h=>?_
    ·refine wft hc12<|wxz<|Qah<|Qau<|Qaj<|Qaj<|Qau<|Qaj ?_
     obtain rfl:=osi h
     exact fend ⟨[I y2],⟨rot,tv⟩,rfl⟩ nll
    ·exact wfn hc12<|Qaq<|bln<|thn<|wxz1<|thn<|arm (mto (n:=19) [(0,(.dat 1 (p0.map Qad))),(1,(.fn (.func 127) [] [])),(7,(I ((p0.length:Int)))),(8,(I (w64 (y2+1))))] [] [] hφ0 (pc (rnd Qag) (pc (.rn (Qbl rn0 rn0)) (pw (pw pn)))) qn) (ih (w64 (y2+1)) h)
   ·exact wfn hc5<|Qbg<|Qay<|Qay<|Qbf rfl<|thn<|⟨(),h,(mto (n:=19) [] [] [] hφ0 pn qn)⟩
def Qcv (N:Nat) (p0:List Int):Option Bool:=
  (Qe4 N p0).bind fun x2=>
  some (decide (x2≥0))
theorem Qj1 (N:Nat) (p0:List Int) (r:Bool) (h:Qcv N p0=some r):Spec prog 126 [(.dat 1 (p0.map Qad)),(.fn (.func 127) [] [])] [] (B r) []:=by
  refine Qak func126 rfl 0 (nle rfl) (fun X φ0 w0 hφ0 hd0=>?_)
  unfold Qcv at h
  refine wxz ?_
  obtain⟨x2,hf1,h⟩:=bno h
  refine wx tbk [(2,rp _ _)] ⟨Qat (first:=[]) (cap:=[]) (vs:=[(.dat 1 (p0.map Qad)),(.fn (.func 127) [] [])]) (σr:=[]) (σr':=[]) (res':=(I x2)) [] rfl Qsp (Qlg N p0 _ hf1) rfl (Qbq (rnc (pld Qag) (rnc (.plain _ (NLt.fn _ _ _ nl0 nl0)) rn0))) Qas Qas (.plain _ nll) rfl rfl rfl,tv⟩<|Qah ?_
  obtain rfl:=osi h
  exact fend ⟨[(B ((decide (x2≥0))))],⟨rot,tv⟩,rfl⟩ nll
def Qgq (N:Nat) (p0:Qam):Option Bool:=
  Qbi (fun ⟨y1,y2⟩=>
    Qbi (fun _=>
      bif (p0.Kind != 5) then
       some ((p0.Weights.length:Int)==0)
      else
       (Qc1 N (p0.Weights.length:Int) 1 20).bind fun x7=>
       bif x7 then
        (Qhz N p0.Weights).bind fun x10=>
        bif x10 then
         (Qcv N p0.Weights).bind fun x13=>
         some x13
        else
         some false
       else
        some false) fun k4:Unit→Option Bool=>
    bif ((p0.From.length:Int) != y1) then
     some false
    else
     (Qc1 N p0.Amount 0 y2).bind fun x16=>
     bif (!x16) then
      some false
     else
      (Qc1 N p0.Wide 0 1000000).bind fun x19=>
      bif (!x19) then
       some false
      else
       (Qc1 N p0.Narrow 1 1000000000).bind fun x22=>
       bif (!x22) then
        some false
       else
        k4 ()) fun k3:Int×Int→Option Bool=>
  bif (p0.Kind==1) then
   k3 (0,0)
  else
   bif (p0.Kind==2) then
    (some (if 6<(p0.From.length:Int) then 6 else(p0.From.length:Int))).bind fun x26=>
    (some (if x26>1 then x26 else 1)).bind fun x28=>
    k3 (x28,0)
   else
    bif (p0.Kind==3) then
     k3 (1,1000000000)
    else
     bif (p0.Kind==4) then
      k3 (1,1000)
     else
      bif (p0.Kind==5) then
       k3 (1,0)
      else
       bif (p0.Kind==6) then
        k3 (1,0)
       else
        some false
def Zp8 (p0:Qam):AV:=.dat 2 (p0.From.map Qaw)
def Q79 (p0:Qam):AV:=.dat 1 (p0.Weights.map Qad)
def Qyx (p0:Qam):Slot:=.own 7 [[(K .u8 p0.Kind),(Zp8 p0),(I p0.Level),(I p0.Amount),(I p0.Wide),(I p0.Narrow),(Q79 p0)]]
def Zl7 (p0:Qam) (x7:Bool):List (Nat×Rec):=[(2,rp [((.tmp 55),(Q79 p0))] (I ((p0.Weights.length:Int)))),(3,rp [fu 65,((.tmp 56),(I ((p0.Weights.length:Int)))),ci 1,ci 20] (B x7))]
def Zl6 p0 x7 (x10:Bool):=hcat (Zl7 p0 x7) [(4,rp [((.tmp 57),(B x7))] (B true)),(7,rp [((.tmp 58),(B true)),fu 108,((.tmp 60),(Q79 p0)),fu 125] (B x10))]
def Zl5 (p0:Qam):List (Nat×Rec):=[(2,rp [((.tmp 24),(Zp8 p0))] (I ((p0.From.length:Int))))]
def Zl4 p0 (y1 y2:Int) (x16:Bool):=hcat (Zl5 p0) [(5,rp [((.tmp 27),(B (((p0.From.length:Int) != y1))))] (B false)),(9,rp [((.tmp 28),(B false)),fu 65,((.tmp 30),(I p0.Amount)),ci 0,((.tmp 31),(I y2))] (B x16))]
def Zl3 p0 y1 y2 x16 (x19:Bool):=hcat (Zl4 p0 y1 y2 x16) [(12,rp [((.tmp 34),(B ((!x16))))] (B false)),(15,rp [((.tmp 35),(B false)),fu 65,((.tmp 37),(I p0.Wide)),ci 0,ci 1000000] (B x19))]
theorem Qo6 (N:Nat) (p0:Qam) (r:Bool) (h:Qgq N p0=some r):Spec prog 102 [(.agg (Qal p0))] [] (B r) []:=by
  refine Qak func102 rfl 0 (nle rfl) (fun X φ0 w0 hφ0 hd0=>?_)
  unfold Qgq at h
  refine wxz<|wxz ?_
  obtain⟨k3,hk_k3,h⟩:=jko h
  refine wjn (τ:=Int×Int) (fun t=>k3 t=some r) (fun ⟨y1,y2⟩=>⟨mk 68 [(1,.ref 0 7 0 0),(3,I y1),(4,I y2)],[(Qyx p0)]⟩) (fun t h=>?_) ?_
  ·subst hk_k3
   obtain⟨y1,y2⟩:=t
   obtain⟨k4,hk_k4,h⟩:=jko h
   refine wjn (τ:=Unit) (fun t=>k4 t=some r) (fun _=>⟨mk 68 [(1,.ref 0 7 0 0)],[(Qyx p0)]⟩) (fun t h=>?_) ?_
   ·subst hk_k4
    refine wsq<|wxz ?_
    refine bfe h (fun hc5 h=>?_) fun hc5 h=>?_
    ·refine wft hc5<|wx tbk [(2,rp _ _)] ⟨alq 1 Qad p0.Weights underlying27,tv⟩<|Qah<|Qaj ?_
     obtain rfl:=osi h
     exact fend ⟨[(B (((p0.Weights.length:Int)==0)))],⟨rot,tv⟩,rfl⟩ nll
    ·refine wfn hc5<|Qaq<|thn ?_
     obtain⟨x7,hf6,h⟩:=bno h
     refine hpre (A:=(Zl7 p0 x7)) ⟨alq 1 Qad p0.Weights underlying27,apv Qmx (Qdz N (p0.Weights.length:Int) 1 20 _ hf6) (nlcc (nlc nll nl0)) nll,tv⟩ fun q1_=>?_
     refine bfe h (fun hb8 h=>?_) fun hb8 h=>?_
     ·obtain⟨x10,hf9,h⟩:=bno h
      refine hpre (A:=(Zl6 p0 x7 x10)) (hap q1_ ⟨asb hb8 (amv rfl),ag_ (Qat (first:=[]) (cap:=[]) (vs:=[(Q79 p0),(.fn (.func 125) [] [])]) (σr:=[]) (σr':=[]) (res':=(B x10)) [] rfl Q7i (Qse N p0.Weights _ hf9) rfl (Qbq (rnc (pld Qag) (rnc (.plain _ (NLt.fn _ _ _ nl0 nl0)) rn0))) Qas Qas (.plain _ nll) rfl rfl rfl),tv⟩) fun q2_=>?_
      refine bfe h (fun hb11 h=>?_) fun hb11 h=>?_
      ·obtain⟨x13,hf12,h⟩:=bno h
       refine wx tbk (hcat (Zl6 p0 x7 x10) [(9,rp [(.tmp 62,B x10)] (B true)),(12,rp [(.tmp 63,B true),fu 126,(.tmp 65,(Q79 p0)),fu 127] (B x13))]) (hap q2_ ⟨asb hb11 (amv rfl),ag_ (Qat (first:=[]) (cap:=[]) (vs:=[(Q79 p0),(.fn (.func 127) [] [])]) (σr:=[]) (σr':=[]) (res':=(B x13)) [] rfl Qsq (Qj1 N p0.Weights _ hf12) rfl (Qbq (rnc (pld Qag) (rnc (.plain _ (NLt.fn _ _ _ nl0 nl0)) rn0))) Qas Qas (.plain _ nll) rfl rfl rfl),tv⟩)<|Qah ?_
       exact frb h
      ·exact wx tbk (hcat (Zl6 p0 x7 x10) [(9,rp [(.tmp 62,B x10)] (B false))]) (hap q2_ ⟨asb hb11 (amv rfl),tv⟩)<|Qah<|frb h
     ·exact wx tbk (hcat (Zl7 p0 x7) [(4,rp [(.tmp 57,B x7)] (B false))]) (hap q1_ ⟨asb hb8 (amv rfl),tv⟩)<|Qah<|frb h
   ·skip
    refine hpre (A:=(Zl5 p0)) ⟨alq 2 Qaw p0.From underlying116,tv⟩ fun q3_=>?_
    refine bfe h (fun hb14 h=>?_) fun hb14 h=>?_
    ·exact wx tbk (hcat (Zl5 p0) [(5,rp [(.tmp 27,(B (((p0.From.length:Int) != y1))))] (B true))]) (hap q3_ ⟨asb hb14 (amv rfl),tv⟩)<|wtr<|wxz<|Qah<|Qaj<|frb h
    ·obtain⟨x16,hf15,h⟩:=bno h
     refine hpre (A:=(Zl4 p0 y1 y2 x16)) (hap q3_ ⟨asb hb14 (amv rfl),ag_ (apv Qmx (Qdz N p0.Amount 0 y2 _ hf15) (nlcc (nlc nll nl0)) nll),tv⟩) fun q4_=>?_
     refine bfe h (fun hb17 h=>?_) fun hb17 h=>?_
     ·exact wx tbk (hcat (Zl4 p0 y1 y2 x16) [(12,rp [(.tmp 34,(B ((!x16))))] (B true))]) (hap q4_ ⟨asb hb17 (amv rfl),tv⟩)<|wtr<|wxz<|Qah<|Qaj<|frb h
     ·obtain⟨x19,hf18,h⟩:=bno h
      refine hpre (A:=(Zl3 p0 y1 y2 x16 x19)) (hap q4_ ⟨asb hb17 (amv rfl),ag_ (apv Qmx (Qdz N p0.Wide 0 1000000 _ hf18) (nlcc (nlc nll nl0)) nll),tv⟩) fun q5_=>?_
      refine bfe h (fun hb20 h=>?_) fun hb20 h=>?_
      ·exact wx tbk (hcat (Zl3 p0 y1 y2 x16 x19) [(18,rp [(.tmp 40,(B ((!x19))))] (B true))]) (hap q5_ ⟨asb hb20 (amv rfl),tv⟩)<|wtr<|wxz<|Qah<|Qaj<|frb h
      ·obtain⟨x22,hf21,h⟩:=bno h
       refine wx tbk (hcat (Zl3 p0 y1 y2 x16 x19) [(18,rp [(.tmp 40,(B ((!x19))))] (B false)),(21,rp [(.tmp 41,B false),fu 65,(.tmp 43,I p0.Narrow),ci 1,ci 1000000000] (B x22))]) (hap q5_ ⟨asb hb20 (amv rfl),ag_ (apv Qmx (Qdz N p0.Narrow 1 1000000000 _ hf21) (nlcc (nlc nll nl0)) nll),tv⟩) ?_
       refine bfe h (fun hc23 h=>?_) fun hc23 h=>?_
       ·exact wft hc23<|wxz<|Qah<|Qaj<|frb h
       ·exact wfn hc23<|Qaq<|thn<|⟨(),h,(mto (n:=68) [(1,.ref 0 7 0 0)] [0] [(Qyx p0)] hφ0 (prr pn) (qb (lc rwl (lc (rnd Qa1) (lcc (lcc (lc (rnd Qag) ln))))) qn))⟩
  ·skip
   refine wxz<|Qap<|wxz ?_
   refine bfe h (fun hc24 h=>?_) fun hc24 h=>?_
   ·exact wft hc24<|wxz1<|bln<|thn<|⟨(0,0),h,(mto (n:=68) [(1,.ref 0 7 0 0),(3,I 0),(4,I 0)] [0] [(Qyx p0)] hφ0 (prr (pw (pw pn))) (qb (lc rwl (lc (rnd Qa1) (lcc (lcc (lc (rnd Qag) ln))))) qn))⟩
   ·refine wfn hc24<|wxz ?_
    refine bfe h (fun hc25 h=>?_) fun hc25 h=>?_
    ·refine wft hc25 ?_
     obtain⟨x26,hl27,h⟩:=bno h
     obtain⟨x28,hl29,h⟩:=bno h
     exact wx1 tbk [(2,rp _ _),(3,rp [(.tmp 13,(I ((p0.From.length:Int)))),ci 6] (I x26)),(4,rp [ci 1,(.tmp 14,I x26)] (I ((if x26>1 then x26 else 1)))),(5,rp [(.tmp 15,(I ((if x26>1 then x26 else 1))))] (I x28))] ⟨alq 2 Qaw p0.From underlying116,Qin hl27 (Qki rfl),Qiu rfl,Qin hl29 (aas rfl),tv⟩<|bln<|thn<|⟨(x28,0),h,(mto (n:=68) [(1,.ref 0 7 0 0),(3,I x28),(4,I 0)] [0] [(Qyx p0)] hφ0 (prr (pw (pw pn))) (qb (lc rwl (lc (rnd Qa1) (lcc (lcc (lc (rnd Qag) ln))))) qn))⟩
    ·refine wfn hc25<|wxz ?_
     refine bfe h (fun hc30 h=>?_) fun hc30 h=>?_
     ·exact wft hc30<|wxz1<|bln<|thn<|⟨(1,1000000000),h,(mto (n:=68) [(1,.ref 0 7 0 0),(3,I 1),(4,I 1000000000)] [0] [(Qyx p0)] hφ0 (prr (pw (pw pn))) (qb (lc rwl (lc (rnd Qa1) (lcc (lcc (lc (rnd Qag) ln))))) qn))⟩
     ·refine wfn hc30<|wxz ?_
      refine bfe h (fun hc31 h=>?_) fun hc31 h=>?_
      ·exact wft hc31<|wxz1<|bln<|thn<|⟨(1,1000),h,(mto (n:=68) [(1,.ref 0 7 0 0),(3,I 1),(4,I 1000)] [0] [(Qyx p0)] hφ0 (prr (pw (pw pn))) (qb (lc rwl (lc (rnd Qa1) (lcc (lcc (lc (rnd Qag) ln))))) qn))⟩
      ·refine wfn hc31<|wsq<|wxz ?_
       refine bfe h (fun hc32 h=>?_) fun hc32 h=>?_
       ·exact wft hc32<|Qaq<|thn<|wft hc32<|Qaq<|bln<|thn<|⟨(1,0),h,(mto (n:=68) [(1,.ref 0 7 0 0),(3,I 1),(4,I 0)] [0] [(Qyx p0)] hφ0 (prr (pw (pw pn))) (qb (lc rwl (lc (rnd Qa1) (lcc (lcc (lc (rnd Qag) ln))))) qn))⟩
       ·refine wfn hc32<|wxz1<|thn ?_
        refine bfe h (fun hc33 h=>?_) fun hc33 h=>?_
        ·exact wft hc33<|Qaq<|bln<|thn<|⟨(1,0),h,(mto (n:=68) [(1,.ref 0 7 0 0),(3,I 1),(4,I 0)] [0] [(Qyx p0)] hφ0 (prr (pw (pw pn))) (qb (lc rwl (lc (rnd Qa1) (lcc (lcc (lc (rnd Qag) ln))))) qn))⟩
        ·exact wfn hc33<|wxz<|Qah<|Qau<|Qaj<|frb h
def Qfl (N:Nat) (p0:Qam):Option Bool:=
  (Qgq N p0).bind fun x3=>
  some (!x3)
def Zr4 (p0:Qam):AV:=.agg [(K .u8 p0.Kind),(.dat 2 (p0.From.map Qaw)),(I p0.Level),(I p0.Amount),(I p0.Wide),(I p0.Narrow),(.dat 1 (p0.Weights.map Qad))]
def Zgp:Slot:=.own 1 [[(.fn (.func 102) [] [])]]
theorem Ql0 (N:Nat) (p0:Qam) (r:Bool) (h:Qfl N p0=some r):Spec prog 124 [(Zr4 p0),(.ref 0 1 (0) 0)] [Zgp] (B r) [Zgp]:=by
  refine Qak func124 rfl 1 (nle rfl) (fun X φ0 w0 hφ0 hd0=>?_)
  unfold Qfl at h
  refine Qby<|wxz ?_
  obtain⟨x3,hf2,h⟩:=bno h
  refine wx tbk [(2,rp _ _)] ⟨apv Zi1 (Qo6 N p0 _ hf2) (nlc (NLt.agg _ (nlc nll (nlc (nld Qa1 _) (nlcc (nlcc (nlc (nld Qag _) nl0)))))) nl0) nll,tv⟩ ?_
  refine wmr (mto (n:=8) (l':=[(3,(B ((!x3))))]) (own':=[Zgp]) [(3,(B ((!x3))))] [0] [Zgp] hφ0 (pw pn) (qb (lc (.rn (Qbl rn0 rn0)) ln) qn))<|Qah ?_
  obtain rfl:=osi h
  exact⟨_,Mor.rfl,Qcy (vs:=[(B ((!x3)))]) ⟨rot,tv⟩ rfl (NLt.of0 nll) (by kernel_rfl) (Qar (Qa8 (nlc (NLt.of0 (NLt.fn _ _ _ nl0 nl0)) nl0)) Qbx)⟩
def Qba (N:Nat) (p0:List Qam) (k2:Unit→Option Int):Nat→Int→Option Int
  |0,_=>none
  |n5+1,y3=>
    bif (decide (y3<(p0.length:Int))) then
     (getI p0 y3).bind fun x7=>
     (Qfl N x7).bind fun x12=>
     bif x12 then
      some y3
     else
      Qba N p0 k2 n5 (w64 (y3+1))
    else
     k2 ()
def Qce (N:Nat) (p0:List Qam):Option Int:=
  Qbi (fun _=>
    some (-1)) fun k2:Unit→Option Int=>
  Qba N p0 k2 N 0
def Zb0 (p0:List Qam):AV:=.dat 7 (p0.map Qal)
def Zbz:AV:=.fn (.func 124) [] [(.ref 0 1 (0) 0)]
def Qrx:Slot:=.own 1 [[(.fn (.func 102) [] [])]]
def Zqd (x7:Qam):AV:=.agg [(K .u8 x7.Kind),(.dat 2 (x7.From.map Qaw)),(I x7.Level),(I x7.Amount),(I x7.Wide),(I x7.Narrow),(.dat 1 (x7.Weights.map Qad))]
theorem Qha (N:Nat) (p0:List Qam) (r:Int) (h:Qce N p0=some r):Spec prog 140 [(Zb0 p0),Zbz] [Qrx] (I r) [Qrx]:=by
  refine Qak func140 rfl 1 (nle rfl) (fun X φ0 w0 hφ0 hd0=>?_)
  unfold Qce at h
  refine Qby<|wxz ?_
  obtain⟨k2,hk_k2,h⟩:=jko h
  refine wjn (τ:=Unit) (fun t=>k2 t=some r) (fun _=>⟨mk 19 [],[Qrx]⟩) (fun t h=>?_) ?_
  ·subst hk_k2
   refine wxz<|wmr (mto (n:=19) (l':=[(4,(I ((-1))))]) (own':=[Qrx]) [(4,(I ((-1))))] [0] [Qrx] hφ0 (pw pn) (qb (lc (.rn (Qbl rn0 rn0)) ln) qn))<|Qah ?_
   obtain rfl:=osi h
   exact⟨_,Mor.rfl,Qcy (vs:=[(I ((-1)))]) ⟨rot,tv⟩ rfl (NLt.of0 nll) (by kernel_rfl) (Qar (Qa8 (nlc (NLt.of0 (NLt.fn _ _ _ nl0 nl0)) nl0)) Qbx)⟩
  ·skip
   refine wx tbk [(1,rp _ _)] ⟨alq 7 Qal p0 underlying40,tv⟩<|Qap ?_
   refine wmr (mto (n:=19) (l':=[(0,(Zb0 p0)),(1,Zbz),(7,(I ((p0.length:Int)))),(8,I 0)]) (own':=[Qrx]) [(0,(Zb0 p0)),(1,Zbz),(7,(I ((p0.length:Int)))),(8,I 0)] [0] [Qrx] hφ0 (pc (rnd Qab) (pc (.rn (Qbl rn0 (rnc (rqr rfl) rn0))) (pw (pw pn)))) (qb (lc (.rn (Qbl rn0 rn0)) ln) qn)) ?_
   refine Qbv (τ:=Int) (fun n t=>Qba N p0 k2 n t=some r) (fun y3=>⟨mk 19 [(0,(Zb0 p0)),(1,Zbz),(7,(I ((p0.length:Int)))),(8,I y3)],[Qrx]⟩) (fun t h=>by rw[Qba] at h;cases h) (fun n5 ih y3 h=>?_) N (0) h
   rw[Qba] at h
   skip
   refine wxz<|wsq ?_
   refine bfe h (fun hc6 h=>?_) fun hc6 h=>?_
   ·refine wft hc6<|Qaq<|thn<|wsq<|Qap<|wxz ?_
    obtain⟨x7,hg8,h⟩:=bno h
    obtain⟨hi9,hj10⟩:=gsm hg8
    obtain⟨x12,hf11,h⟩:=bno h
    refine wx tbk [(3,rp _ _),(5,⟨_,_,_,_,false⟩)] ⟨aiq underlying40 Qmk Qal hi9 hj10,Qat (first:=[]) (cap:=[.ref 0 1 0 0]) (vs:=[(Zqd x7)]) (σr:=[Qrx]) (σr':=[Qrx]) (res':=(B x12)) [0] rfl Zin (Ql0 N x7 _ hf11) rfl (Qbq (rnc (.plain _ (NLt.agg _ (nlc nll (nlc (nld Qa1 _) (nlcc (nlcc (nlc (nld Qag _) nl0))))))) (rnc (Qa4 rfl) rn0))) (slc (Qan (rnc (.plain _ (NLt.fn _ _ _ nl0 nl0)) rn0)) Qas) (slc (Qan (rnc (.plain _ (NLt.fn _ _ _ nl0 nl0)) rn0)) Qas) (.plain _ nll) rfl rfl rfl,tv⟩ ?_
    refine bfe h (fun hc13 h=>?_) fun hc13 h=>?_
    ·refine wft hc13<|wxz ?_
     refine wmr (mto (n:=19) (l':=[(4,I y3)]) (own':=[Qrx]) [(4,I y3)] [0] [Qrx] hφ0 (pw pn) (qb (lc (.rn (Qbl rn0 rn0)) ln) qn))<|Qah<|Qau<|Qaj<|Qaj<|Qau<|Qaj ?_
     obtain rfl:=osi h
     exact⟨_,Mor.rfl,Qcy (vs:=[I y3]) ⟨rot,tv⟩ rfl (NLt.of0 nll) (by kernel_rfl) (Qar (Qa8 (nlc (NLt.of0 (NLt.fn _ _ _ nl0 nl0)) nl0)) Qbx)⟩
    ·exact wfn hc13<|Qaq<|bln<|thn<|wxz1<|thn<|arm (mto (n:=19) [(0,(Zb0 p0)),(1,Zbz),(7,(I ((p0.length:Int)))),(8,(I (w64 (y3+1))))] [0] [Qrx] hφ0 (pc (rnd Qab) (pc (.rn (Qbl rn0 (rnc (rqr rfl) rn0))) (pw (pw pn)))) (qb (lc (.rn (Qbl rn0 rn0)) ln) qn)) (ih (w64 (y3+1)) h)
   ·exact wfn hc6<|Qbg<|Qay<|Qay<|Qbf rfl<|thn<|⟨(),h,(mto (n:=19) [] [0] [Qrx] hφ0 pn (qb (lc (.rn (Qbl rn0 rn0)) ln) qn))⟩
def Qb2 (N:Nat) (p0:List Qam):Option Bool:=
  (Qce N p0).bind fun x3=>
  some (decide (x3≥0))
def Zqe:AV:=.fn (.func 124) [] [(.ref 0 1 (0) 0)]
def Q8a:Slot:=.own 1 [[(.fn (.func 102) [] [])]]
theorem Qgj (N:Nat) (p0:List Qam) (r:Bool) (h:Qb2 N p0=some r):Spec prog 123 [(.dat 7 (p0.map Qal)),Zqe] [Q8a] (B r) [Q8a]:=by
  refine Qak func123 rfl 1 (nle rfl) (fun X φ0 w0 hφ0 hd0=>?_)
  unfold Qb2 at h
  refine Qby<|wxz ?_
  obtain⟨x3,hf2,h⟩:=bno h
  refine wx tbk [(2,⟨_,_,_,_,false⟩)] ⟨Qat (first:=[]) (cap:=[]) (vs:=[(.dat 7 (p0.map Qal)),Zqe]) (σr:=[Q8a]) (σr':=[Q8a]) (res':=(I x3)) [0] rfl Zid (Qha N p0 _ hf2) rfl (Qbq (rnc (pld Qab) (rnc (Qbl rn0 (rnc (Qa4 rfl) rn0)) rn0))) (slc (Qan (rnc (.plain _ (NLt.fn _ _ _ nl0 nl0)) rn0)) Qas) (slc (Qan (rnc (.plain _ (NLt.fn _ _ _ nl0 nl0)) rn0)) Qas) (.plain _ nll) rfl rfl rfl,tv⟩ ?_
  refine wmr (mto (n:=9) (l':=[(4,(B ((decide (x3≥0)))))]) (own':=[Q8a]) [(4,(B ((decide (x3≥0)))))] [0] [Q8a] hφ0 (pw pn) (qb (lc (.rn (Qbl rn0 rn0)) ln) qn))<|Qah ?_
  obtain rfl:=osi h
  exact⟨_,Mor.rfl,Qcy (vs:=[(B ((decide (x3≥0))))]) ⟨rot,tv⟩ rfl (NLt.of0 nll) (by kernel_rfl) (Qar (Qa8 (nlc (NLt.of0 (NLt.fn _ _ _ nl0 nl0)) nl0)) Qbx)⟩
def Qet (N:Nat) (p0:List Qam):Option Bool:=
  (Qb2 N p0).bind fun x2=>
  some (!x2)
def Zqg:AV:=.fn (.func 124) [] [(.ref 0 1 (0) 0)]
def Zqh:Slot:=.own 1 [[(.fn (.func 102) [] [])]]
theorem Qmr (N:Nat) (p0:List Qam) (r:Bool) (h:Qet N p0=some r):Spec prog 101 [(.dat 7 (p0.map Qal)),(.fn (.func 102) [] [])] [] (B r) []:=by
  refine Qak func101 rfl 0 (nle rfl) (fun X φ0 w0 hφ0 hd0=>?_)
  unfold Qet at h
  refine wxz ?_
  obtain⟨x2,hf1,h⟩:=bno h
  refine wx tbk [(1,rp [(.tmp 3,.ref 0 1 0 0)] Zqg),(2,⟨_,_,_,_,false⟩)] ⟨Qew (fs:=[]) (cs:=[.ref 0 1 0 0]) rfl rfl rfl rfl,Qat (first:=[]) (cap:=[]) (vs:=[(.dat 7 (p0.map Qal)),Zqg]) (σr:=[Zqh]) (σr':=[Zqh]) (res':=(B x2)) [0] rfl Zio (Qgj N p0 _ hf1) rfl (Qbq (rnc (pld Qab) (rnc (Qbl rn0 (rnc (Qa4 rfl) rn0)) rn0))) (slc (Qan (rnc (.plain _ (NLt.fn _ _ _ nl0 nl0)) rn0)) Qas) (slc (Qan (rnc (.plain _ (NLt.fn _ _ _ nl0 nl0)) rn0)) Qas) (.plain _ nll) rfl rfl rfl,tv⟩<|Qah ?_
  obtain rfl:=osi h
  exact fend ⟨[(B ((!x2)))],⟨rot,tv⟩,rfl⟩ nll
def Qeu (_N:Nat) (p0:Qam):Option Int:=
  bif (p0.Kind==4) then
   some 2
  else
   bif (p0.Kind==5) then
    (some (p0.Weights.length:Int)).bind fun x3=>
    some x3
   else
    some 1
theorem Qjn (N:Nat) (p0:Qam) (r:Int) (h:Qeu N p0=some r):Spec prog 103 [(.agg (Qal p0))] [] (I r) []:=by
  refine Qak func103 rfl 0 (nle rfl) (fun X φ0 w0 hφ0 hd0=>?_)
  unfold Qeu at h
  refine wxz<|wsq<|wxz<|Qap<|wxz ?_
  refine bfe h (fun hc1 h=>?_) fun hc1 h=>?_
  ·refine wft hc1<|wxz<|Qah<|Qau<|Qaj ?_
   obtain rfl:=osi h
   exact fend ⟨[I 2],⟨rot,tv⟩,rfl⟩ nll
  ·refine wfn hc1<|wxz ?_
   refine bfe h (fun hc2 h=>?_) fun hc2 h=>?_
   ·refine wft hc2 ?_
    obtain⟨x3,hl4,h⟩:=bno h
    refine wx tbk [(2,rp _ _),(3,rp [(.tmp 11,(I ((p0.Weights.length:Int))))] (I x3))] ⟨alq 1 Qad p0.Weights underlying27,Qin hl4 (aas rfl),tv⟩<|Qah<|Qau<|Qaj ?_
    obtain rfl:=osi h
    exact fend ⟨[I x3],⟨rot,tv⟩,rfl⟩ nll
   ·refine wfn hc2<|Qaq<|bln<|thn<|wxz<|Qah ?_
    obtain rfl:=osi h
    exact fend ⟨[I 1],⟨rot,tv⟩,rfl⟩ nll
def Qd0 (N:Nat) (p0:GNet) (y3:Int) (k10:(List (Int×Int))→Option Bool) (x11:Qam):Nat→Int→(List (Int×Int))→Option Bool
  |0,_,_=>none
  |n22+1,y18,y19=>
    bif (decide (y18<(x11.From.length:Int))) then
     (getI x11.From y18).bind fun x24=>
     (Qc1 N x24.Element 0 (w64 (y3-1))).bind fun x29=>
     bif (!x29) then
      some false
     else
      (getI p0.Elements x24.Element).bind fun x31=>
      (Qeu N x31).bind fun x36=>
      (Qc1 N x24.Outlet 0 (w64 (x36-1))).bind fun x38=>
      bif (!x38) then
       some false
      else
       bif y19.contains (x24.Element,x24.Outlet) then
        some false
       else
        bif (decide (x11.Level>x31.Level)) then
         some false
        else
         Qd0 N p0 y3 k10 x11 n22 (w64 (y18+1)) (addQ y19 (x24.Element,x24.Outlet))
    else
     k10 (y19)
def Qdh (N:Nat) (p0:GNet) (k2:Unit→Option Bool):Nat→Int→(List (Int×Int))→Option Bool
  |0,_,_=>none
  |n7+1,y3,y4=>
    bif (decide (y3<(p0.Elements.length:Int))) then
     Qbi (fun y9=>
       Qdh N p0 k2 n7 (w64 (y3+1)) y9) fun k10:(List (Int×Int))→Option Bool=>
     (getI p0.Elements y3).bind fun x11=>
     (Qc1 N x11.Level 0 (w64 ((p0.Table.length:Int)-1))).bind fun x16=>
     bif (!x16) then
      some false
     else
      Qd0 N p0 y3 k10 x11 N 0 y4
    else
     k2 ()
def Qh0 (N:Nat) (p0:GNet):Option Bool:=
  Qbi (fun _=>
    Qbi (fun _=>
      some true) fun k2:Unit→Option Bool=>
    Qdh N p0 k2 N 0 ([]:List (Int×Int))) fun k1:Unit→Option Bool=>
  (Qix N p0.Table).bind fun x43=>
  bif (x43 != 0) then
   some false
  else
   (Qc1 N (p0.Elements.length:Int) 1 16).bind fun x46=>
   bif (!x46) then
    some false
   else
    (Qet N p0.Elements).bind fun x49=>
    bif (!x49) then
     some false
    else
     k1 ()
def z9_0 (p0:GNet):AV:=.dat 5 (p0.Table.map Qav)
def z9_1 (p0:GNet):AV:=.dat 7 (p0.Elements.map Qal)
def z9_2 (p0:GNet):Slot:=.own 2 [[(z9_0 p0),(z9_1 p0)]]
def Q0l (x11:Qam):AV:=.dat 2 (x11.From.map Qaw)
def Q5g (x11:Qam):Slot:=.own 7 [[(K .u8 x11.Kind),(Q0l x11),(I x11.Level),(I x11.Amount),(I x11.Wide),(I x11.Narrow),(.dat 1 (x11.Weights.map Qad))]]
def Q90 (x24:Qa6) (y3:Int) (x29:Bool):List (Nat×Rec):=[(4,rp [fu 65,((.tmp 50),(I x24.Element)),ci 0,((.tmp 52),(I (w64 (y3-1))))] (B x29))]
def Zox (x31:Qam):AV:=.agg [(K .u8 x31.Kind),(.dat 2 (x31.From.map Qaw)),(I x31.Level),(I x31.Amount),(I x31.Wide),(I x31.Narrow),(.dat 1 (x31.Weights.map Qad))]
def Q9z x24 y3 x29 (p0:GNet) (x31:Qam) (x36:Int) (x38:Bool):=hcat (Q90 x24 y3 x29) [(6,rp [((.tmp 54),(B ((!x29))))] (B false)),(13,rp [((.tmp 55),(B false)),((.tmp 59),(z9_1 p0)),((.tmp 61),(I x24.Element))] (.dptr (Qal x31) 0)),(15,rp [((.tmp 55),(B false)),fu 103,((.tmp 63),(Zox x31))] (I x36)),(17,rp [((.tmp 55),(B false)),fu 65,((.tmp 57),(I x24.Outlet)),ci 0,((.tmp 65),(I (w64 (x36-1))))] (B x38))]
def Q9y x24 y3 x29 p0 x31 x36 x38 (y19:(List (Int×Int))):=hcat (Q9z x24 y3 x29 p0 x31 x36 x38) [(20,rp [((.tmp 68),(B ((!x38))))] (B false)),(23,rb [((.tmp 69),(B false)),((.tmp 70),(.mp 1)),((.tmp 71),(.agg [(I x24.Element),(I x24.Outlet)]))] [(1,(Qd3 y19))] (B (y19.contains (x24.Element,x24.Outlet))))]
def Q9x (p0:GNet) (x43:Int):List (Nat×Rec):=[(2,rp [fu 100,((.tmp 9),(z9_0 p0))] (I x43))]
def Q9w p0 x43 (x46:Bool):=hcat (Q9x p0 x43) [(4,rp [((.tmp 11),(B ((x43 != 0))))] (B false)),(7,rp [((.tmp 12),(B false)),((.tmp 14),(z9_1 p0))] (I ((p0.Elements.length:Int)))),(8,rp [((.tmp 12),(B false)),fu 65,((.tmp 15),(I ((p0.Elements.length:Int)))),ci 1,ci 16] (B x46))]
theorem Qm7 (N:Nat) (p0:GNet) (r:Bool) (h:Qh0 N p0=some r):Spec prog 66 [(.agg (Qgx p0))] [] (B r) []:=by
  refine Qak func66 rfl 0 (nle rfl) (fun X φ0 w0 hφ0 hd0=>?_)
  unfold Qh0 at h
  refine wxz ?_
  obtain⟨k1,hk_k1,h⟩:=jko h
  refine wjn (τ:=Unit) (fun t=>k1 t=some r) (fun _=>⟨mk 90 [(1,.ref 0 2 0 0)],[(z9_2 p0)]⟩) (fun t h=>?_) ?_
  ·subst hk_k1
   refine wx tbk [(0,⟨[],[(1,.unused)],(.mp 1),[(1,(Qd3 ([]:List (Int×Int))))],false⟩)] ⟨Qug rfl,tv⟩ ?_
   obtain⟨k2,hk_k2,h⟩:=jko h
   refine wjn (τ:=Unit) (fun t=>k2 t=some r) (fun _=>⟨mk 90 [],[]⟩) (fun t h=>?_) ?_
   ·subst hk_k2
    exact wxz<|Qah<|frb h
   ·skip
    refine wx tbk [(2,rp _ _)] ⟨alq 7 Qal p0.Elements underlying40,tv⟩<|Qap ?_
    refine wmr (mto (n:=90) (l':=[(1,.ref 0 2 0 0),(3,(.mp 1)),(27,(z9_1 p0)),(28,(I ((p0.Elements.length:Int)))),(29,I 0)]) (own':=[(z9_2 p0),(Qd3 ([]:List (Int×Int)))]) [(1,.ref 0 2 0 0),(3,(.mp 1)),(27,(z9_1 p0)),(28,(I ((p0.Elements.length:Int)))),(29,I 0)] [0,1] [(z9_2 p0),(Qd3 ([]:List (Int×Int)))] hφ0 (prr (pc (.rn (Qji rfl)) (pc (rnd Qab) (pw (pw pn))))) (qb (lc (rnd Qao) (lc (rnd Qab) ln)) (qc Qfz qn))) ?_
    refine Qbv (τ:=Int×(List (Int×Int))) (fun n t=>Qdh N p0 k2 n t.1 t.2=some r) (fun ⟨y3,y4⟩=>⟨mk 90 [(1,.ref 0 2 0 0),(3,(.mp 1)),(27,(z9_1 p0)),(28,(I ((p0.Elements.length:Int)))),(29,I y3)],[(z9_2 p0),(Qd3 y4)]⟩) (fun t h=>by rw[Qdh] at h;cases h) (fun n7 ih t h=>?_) N (0,([]:List (Int×Int))) h
    obtain⟨y3,y4⟩:=t
    rw[Qdh] at h
    skip
    refine wxz<|wsq ?_
    refine bfe h (fun hc8 h=>?_) fun hc8 h=>?_
    ·refine wft hc8<|Qaq<|thn ?_
     obtain⟨k10,hk_k10,h⟩:=jko h
     refine wjn (τ:=(List (Int×Int))) (fun t=>k10 t=some r) (fun y9=>⟨mk 90 [(1,.ref 0 2 0 0),(3,(.mp 1)),(27,(z9_1 p0)),(28,(I ((p0.Elements.length:Int)))),(29,I y3)],[(z9_2 p0),(Qd3 y9)]⟩) (fun y9 h=>?_) ?_
     ·subst hk_k10
      exact wxz1<|thn<|arm (mto (n:=90) [(1,.ref 0 2 0 0),(3,(.mp 1)),(27,(z9_1 p0)),(28,(I ((p0.Elements.length:Int)))),(29,(I (w64 (y3+1))))] [0,1] [(z9_2 p0),(Qd3 y9)] hφ0 (prr (pc (.rn (Qji rfl)) (pc (rnd Qab) (pw (pw pn))))) (qb (lc (rnd Qao) (lc (rnd Qab) ln)) (qc Qfz qn))) (ih (w64 (y3+1),y9) h)
     ·skip
      refine Qap ?_
      obtain⟨x11,hg12,h⟩:=bno h
      obtain⟨hi13,hj14⟩:=gsm hg12
      refine wx tbk [(1,rp _ _)] ⟨aiq underlying40 Qmk Qal hi13 hj14,tv⟩<|wsq ?_
      obtain⟨x16,hf15,h⟩:=bno h
      refine wx tbk [(4,rp _ _),(6,rp _ _)] ⟨alq 5 Qav p0.Table underlying39,apv Qmx (Qdz N x11.Level 0 (w64 ((p0.Table.length:Int)-1)) _ hf15) (nlcc (nlc nll nl0)) nll,tv⟩ ?_
      refine bfe h (fun hc17 h=>?_) fun hc17 h=>?_
      ·exact wft hc17<|wxz<|Qah<|Qaj<|Qau<|Qaj<|Qaj<|Qau<|Qaj<|frb h
      ·refine wfn hc17<|Qaq<|thn ?_
       refine wx tbk [(2,rp _ _)] ⟨alq 2 Qaw x11.From underlying116,tv⟩<|Qap ?_
       refine wmr (mto (n:=90) (l':=[(1,.ref 0 2 0 0),(3,(.mp 1)),(4,I y3),(5,.ref 2 7 0 0),(27,(z9_1 p0)),(28,(I ((p0.Elements.length:Int)))),(29,I y3),(43,(Q0l x11)),(44,(I ((x11.From.length:Int)))),(45,I 0)]) (own':=[(z9_2 p0),(Qd3 y4),(Q5g x11)]) [(1,.ref 0 2 0 0),(3,(.mp 1)),(4,I y3),(5,.ref 2 7 0 0),(27,(z9_1 p0)),(28,(I ((p0.Elements.length:Int)))),(29,I y3),(43,(Q0l x11)),(44,(I ((x11.From.length:Int)))),(45,I 0)] [0,1,2] [(z9_2 p0),(Qd3 y4),(Q5g x11)] hφ0 (prr (pc (.rn (Qji rfl)) (pw (prr (pc (rnd Qab) (pw (pw (pc (rnd Qa1) (pw (pw pn)))))))))) (qb (lc (rnd Qao) (lc (rnd Qab) ln)) (qc Qfz (qb (lc rwl (lc (rnd Qa1) (lcc (lcc (lc (rnd Qag) ln))))) qn)))) ?_
       refine Qbv (τ:=Int×(List (Int×Int))) (fun n t=>Qd0 N p0 y3 k10 x11 n t.1 t.2=some r) (fun ⟨y18,y19⟩=>⟨mk 90 [(1,.ref 0 2 0 0),(3,(.mp 1)),(4,I y3),(5,.ref 2 7 0 0),(27,(z9_1 p0)),(28,(I ((p0.Elements.length:Int)))),(29,I y3),(43,(Q0l x11)),(44,(I ((x11.From.length:Int)))),(45,I y18)],[(z9_2 p0),(Qd3 y19),(Q5g x11)]⟩) (fun t h=>by rw[Qd0] at h;cases h) (fun n22 ih t h=>?_) N (0,y4) h
       obtain⟨y18,y19⟩:=t
       rw[Qd0] at h
       skip
       refine wxz<|wsq ?_
       refine bfe h (fun hc23 h=>?_) fun hc23 h=>?_
       ·refine wft hc23<|Qaq<|thn<|wsq<|Qap ?_
        obtain⟨x24,hg25,h⟩:=bno h
        obtain⟨hi26,hj27⟩:=gsm hg25
        refine wx tbk [(0,rp _ _)] ⟨aiq underlying116 Qta Qaw hi26 hj27,tv⟩<|wsq ?_
        obtain⟨x29,hf28,h⟩:=bno h
        refine hpre (A:=(Q90 x24 y3 x29)) ⟨apv Qmx (Qdz N x24.Element 0 (w64 (y3-1)) _ hf28) (nlcc (nlc nll nl0)) nll,tv⟩ fun q1_=>?_
        refine bfe h (fun hb30 h=>?_) fun hb30 h=>?_
        ·refine wxd tbk (hcat (Q90 x24 y3 x29) [(6,rp [(.tmp 54,(B ((!x29))))] (B true))]) (hap q1_ ⟨asb hb30 (amv rfl),tv⟩)<|wtr<|wxz<|Qah<|Qaj<|Qau<|Qaj<|Qaj<|Qau<|Qau ?_
         exact Qaj<|Qaj<|Qau<|Qaj<|frb h
        ·obtain⟨x31,hg32,h⟩:=bno h
         obtain⟨hi33,hj34⟩:=gsm hg32
         obtain⟨x36,hf35,h⟩:=bno h
         obtain⟨x38,hf37,h⟩:=bno h
         refine hpre (A:=(Q9z x24 y3 x29 p0 x31 x36 x38)) (hap q1_ ⟨asb hb30 (amv rfl),ag_ (aiq underlying40 Qmk Qal hi33 hj34),ag_ (apv Q7j (Qjn N x31 _ hf35) (nlc (NLt.agg _ (nlc nll (nlc (nld Qa1 _) (nlcc (nlcc (nlc (nld Qag _) nl0)))))) nl0) nll),ag_ (apv Qmx (Qdz N x24.Outlet 0 (w64 (x36-1)) _ hf37) (nlcc (nlc nll nl0)) nll),tv⟩) fun q2_=>?_
         refine bfe h (fun hb39 h=>?_) fun hb39 h=>?_
         ·refine wxd tbk (hcat (Q9z x24 y3 x29 p0 x31 x36 x38) [(20,rp [(.tmp 68,(B ((!x38))))] (B true))]) (hap q2_ ⟨asb hb39 (amv rfl),tv⟩)<|wtr<|wxz<|Qah<|Qaj<|Qau<|Qaj<|Qaj<|Qau<|Qau ?_
          exact Qaj<|Qaj<|Qau<|Qaj<|frb h
         ·refine hpre (A:=(Q9y x24 y3 x29 p0 x31 x36 x38 y19)) (hap q2_ ⟨asb hb39 (amv rfl),ag_ (Qos rfl underlying190 underlying120 zb4 Qyc Qwn),tv⟩) fun q3_=>?_
          refine bfe h (fun hb40 h=>?_) fun hb40 h=>?_
          ·refine wxd tbk (hcat (Q9y x24 y3 x29 p0 x31 x36 x38 y19) [(25,rp [(.tmp 73,(B (y19.contains (x24.Element,x24.Outlet))))] (B true))]) (hap q3_ ⟨asb hb40 (amv rfl),tv⟩)<|wtr<|wxz<|Qah<|Qaj<|Qau<|Qaj<|Qaj<|Qau<|Qau ?_
           exact Qaj<|Qaj<|Qau<|Qaj<|frb h
          ·refine wxd tbk (hcat (Q9y x24 y3 x29 p0 x31 x36 x38 y19) [(25,rp [(.tmp 73,(B (y19.contains (x24.Element,x24.Outlet))))] (B false)),(32,rp [(.tmp 74,B false),(.tmp 78,(z9_1 p0)),(.tmp 80,I x24.Element)] (.dptr (Qal x31) 0))]) (hap q3_ ⟨asb hb40 (amv rfl),ag_ (aiq underlying40 Qmk Qal hi33 hj34),tv⟩) ?_
           refine bfe h (fun hc41 h=>?_) fun hc41 h=>?_
           ·refine wft hc41<|wxz<|Qah<|Qaj<|Qau<|Qaj<|Qaj<|Qau<|Qau<|Qaj ?_
            exact Qaj<|Qau<|Qaj<|frb h
           ·refine wfn hc41<|Qaq<|thn ?_
            exact wx1 tbk [(2,⟨[(.tmp 86,(.mp 1)),(.tmp 87,(.agg [I x24.Element,I x24.Outlet])),cb true],[(1,(Qd3 y19))],.any,[(1,(Qd3 (addQ y19 (x24.Element,x24.Outlet))))],false⟩)] ⟨Qw1 rfl underlying190 underlying120 Qyc Qwn,tv⟩<|bln<|thn<|wxz1<|thn<|arm (mto (n:=90) [(1,.ref 0 2 0 0),(3,(.mp 1)),(4,I y3),(5,.ref 2 7 0 0),(27,(z9_1 p0)),(28,(I ((p0.Elements.length:Int)))),(29,I y3),(43,(Q0l x11)),(44,(I ((x11.From.length:Int)))),(45,(I (w64 (y18+1))))] [0,1,2] [(z9_2 p0),(Qd3 (addQ y19 (x24.Element,x24.Outlet))),(Q5g x11)] hφ0 (prr (pc (.rn (Qji rfl)) (pw (prr (pc (rnd Qab) (pw (pw (pc (rnd Qa1) (pw (pw pn)))))))))) (qb (lc (rnd Qao) (lc (rnd Qab) ln)) (qc Qfz (qb (lc rwl (lc (rnd Qa1) (lcc (lcc (lc (rnd Qag) ln))))) qn)))) (ih (w64 (y18+1),addQ y19 (x24.Element,x24.Outlet)) h)
       ·exact wfn hc23<|Qbg<|Qay<|Qay<|Qbf rfl<|bln<|thn<|⟨(y19),h,(mto (n:=90) [(1,.ref 0 2 0 0),(3,(.mp 1)),(27,(z9_1 p0)),(28,(I ((p0.Elements.length:Int)))),(29,I y3)] [0,1] [(z9_2 p0),(Qd3 y19)] hφ0 (prr (pc (.rn (Qji rfl)) (pc (rnd Qab) (pw (pw pn))))) (qb (lc (rnd Qao) (lc (rnd Qab) ln)) (qc Qfz qn)))⟩
    ·exact wfn hc8<|Qbg<|Qay<|Qay<|Qbf rfl<|thn<|⟨(),h,(mto (n:=90) [] [] [] hφ0 pn qn)⟩
  ·skip
   obtain⟨x43,hf42,h⟩:=bno h
   refine hpre (A:=(Q9x p0 x43)) ⟨apv Zi3 (Qqb N p0.Table _ hf42) (nlc (nld Qao _) nl0) nll,tv⟩ fun q4_=>?_
   refine bfe h (fun hb44 h=>?_) fun hb44 h=>?_
   ·exact wx tbk (hcat (Q9x p0 x43) [(4,rp [(.tmp 11,(B ((x43 != 0))))] (B true))]) (hap q4_ ⟨asb hb44 (amv rfl),tv⟩)<|wtr<|wxz<|Qah<|Qaj<|frb h
   ·obtain⟨x46,hf45,h⟩:=bno h
    refine hpre (A:=(Q9w p0 x43 x46)) (hap q4_ ⟨asb hb44 (amv rfl),ag_ (alq 7 Qal p0.Elements underlying40),ag_ (apv Qmx (Qdz N (p0.Elements.length:Int) 1 16 _ hf45) (nlcc (nlc nll nl0)) nll),tv⟩) fun q5_=>?_
    refine bfe h (fun hb47 h=>?_) fun hb47 h=>?_
    ·exact wx tbk (hcat (Q9w p0 x43 x46) [(11,rp [(.tmp 18,(B ((!x46))))] (B true))]) (hap q5_ ⟨asb hb47 (amv rfl),tv⟩)<|wtr<|wxz<|Qah<|Qaj<|frb h
    ·obtain⟨x49,hf48,h⟩:=bno h
     refine wx tbk (hcat (Q9w p0 x43 x46) [(11,rp [(.tmp 18,(B ((!x46))))] (B false)),(14,rp [(.tmp 19,B false),fu 101,(.tmp 21,(z9_1 p0)),fu 102] (B x49))]) (hap q5_ ⟨asb hb47 (amv rfl),ag_ (Qat (first:=[]) (cap:=[]) (vs:=[(z9_1 p0),(.fn (.func 102) [] [])]) (σr:=[]) (σr':=[]) (res':=(B x49)) [] rfl Zi2 (Qmr N p0.Elements _ hf48) rfl (Qbq (rnc (pld Qab) (rnc (.plain _ (NLt.fn _ _ _ nl0 nl0)) rn0))) Qas Qas (.plain _ nll) rfl rfl rfl),tv⟩) ?_
     refine bfe h (fun hc50 h=>?_) fun hc50 h=>?_
     ·exact wft hc50<|wxz<|Qah<|Qaj<|frb h
     ·exact wfn hc50<|Qaq<|thn<|⟨(),h,(mto (n:=90) [(1,.ref 0 2 0 0)] [0] [(z9_2 p0)] hφ0 (prr pn) (qb (lc (rnd Qao) (lc (rnd Qab) ln)) qn))⟩
end
section
set_option maxRecDepth 100000
set_option maxHeartbeats 4000000
open Go.RowKit
def Qdu (N:Nat) (k11:(List (Int×Int))→Option (List (Int×Int))) (x12:Qam):Nat→Int→(List (Int×Int))→Option (List (Int×Int))
  |0,_,_=>none
  |n20+1,y16,y17=>
    bif (decide (y16<(x12.From.length:Int))) then
     (getI x12.From y16).bind fun x22=>
     Qdu N k11 x12 n20 (w64 (y16+1)) (addQ y17 (x22.Element,x22.Outlet))
    else
     k11 (y17)
def Qdv (N:Nat) (p0:GNet) (k3:(List (Int×Int))→Option (List (Int×Int))):Nat→Int→(List (Int×Int))→Option (List (Int×Int))
  |0,_,_=>none
  |n8+1,y4,y5=>
    bif (decide (y4<(p0.Elements.length:Int))) then
     Qbi (fun y10=>
       Qdv N p0 k3 n8 (w64 (y4+1)) y10) fun k11:(List (Int×Int))→Option (List (Int×Int))=>
     (getI p0.Elements y4).bind fun x12=>
     Qdu N k11 x12 N 0 y5
    else
     k3 (y5)
def Qg4 (N:Nat) (p0:GNet):Option (List (Int×Int)):=
  Qbi (fun y2=>
    some y2) fun k3:(List (Int×Int))→Option (List (Int×Int))=>
  Qdv N p0 k3 N 0 ([]:List (Int×Int))
def Quo (p0:GNet):AV:=.dat 7 (p0.Elements.map Qal)
def Q0t:AV:=.fn (.func 110) [] [(.ref 0 2 (0) 0),(.ref 1 1 (0) 0)]
def Qqz (p0:GNet):Slot:=.own 2 [[(.dat 5 (p0.Table.map Qav)),(Quo p0)]]
def Q5z (x12:Qam):AV:=.dat 2 (x12.From.map Qaw)
theorem Qmu (N:Nat) (p0:GNet) (r:(List (Int×Int))) (h:Qg4 N p0=some r):Spec prog 75 [(.agg [(.dat 5 (p0.Table.map Qav)),(Quo p0)])] [] Q0t [(Qqz p0),(.own 1 [[(.mp 2)]]),(Qd3 r)]:=by
  refine Qak func75 rfl 3 (nle rfl) (fun X φ0 w0 hφ0 hd0=>?_)
  unfold Qg4 at h
  refine Qby<|wxz ?_
  refine wx tbk [(0,⟨[],[(1,.unused)],(.mp 1),[(1,(Qd3 ([]:List (Int×Int))))],false⟩)] ⟨Qug rfl,tv⟩ ?_
  obtain⟨k3,hk_k3,h⟩:=jko h
  refine wjn (τ:=(List (Int×Int))) (fun t=>k3 t=some r) (fun y2=>⟨mk 28 [(1,.ref 0 2 0 0),(3,.ref 1 1 0 0)],[(Qqz p0),(.own 1 [[(.mp 2)]]),(Qd3 y2)]⟩) (fun y2 h=>?_) ?_
  ·subst hk_k3
   refine wx tbk [(0,rp [(.tmp 1,.ref 0 2 0 0),(.tmp 3,.ref 1 1 0 0)] Q0t)] ⟨Qew (fs:=[]) (cs:=[.ref 0 2 0 0,.ref 1 1 0 0]) rfl rfl rfl rfl,tv⟩ ?_
   refine wmr (mto (n:=28) (l':=[(2,Q0t)]) (own':=[(Qqz p0),(.own 1 [[(.mp 2)]]),(Qd3 y2)]) [(2,Q0t)] [0,1,2] [(Qqz p0),(.own 1 [[(.mp 2)]]),(Qd3 y2)] hφ0 (pc (.rn (Qbl rn0 (rnc (rqr rfl) (rnc (rqr rfl) rn0)))) pn) (qb (lc (rnd Qao) (lc (rnd Qab) ln)) (qb (lc (.rn (Qji rfl)) ln) (qc Qfz qn))))<|Qah ?_
   obtain rfl:=osi h
   exact⟨_,Mor.rfl,Qcy (vs:=[Q0t]) ⟨rot,tv⟩ rfl (NLt.fn _ _ _ nl0 (nlc (NLt.ref _ _ _ _ (by decide)) (nlc (NLt.ref _ _ _ _ (by decide)) nl0))) (by kernel_rfl) (Qar (Qa8 (nlc (NLt.of0 (nld Qao _)) (nlc (NLt.of0 (nld Qab _)) nl0))) (Qar (Qa8 (nlc (NLt.mp _ (by decide)) nl0)) (Qar Zg5 Qbx)))⟩
  ·skip
   refine wx tbk [(2,rp _ _)] ⟨alq 7 Qal p0.Elements underlying40,tv⟩<|Qap ?_
   refine wmr (mto (n:=28) (l':=[(1,.ref 0 2 0 0),(3,.ref 1 1 0 0),(10,(Quo p0)),(11,(I ((p0.Elements.length:Int)))),(12,I 0)]) (own':=[(Qqz p0),(.own 1 [[(.mp 2)]]),(Qd3 ([]:List (Int×Int)))]) [(1,.ref 0 2 0 0),(3,.ref 2 1 0 0),(10,(Quo p0)),(11,(I ((p0.Elements.length:Int)))),(12,I 0)] [0,2,1] [(Qqz p0),(.own 1 [[(.mp 1)]]),(Qd3 ([]:List (Int×Int)))] hφ0 (prr (prr (pc (rnd Qab) (pw (pw pn))))) (qb (lc (rnd Qao) (lc (rnd Qab) ln)) (qb (lc (.rn (Qji rfl)) ln) (qc Qfz qn)))) ?_
   refine Qbv (τ:=Int×(List (Int×Int))) (fun n t=>Qdv N p0 k3 n t.1 t.2=some r) (fun ⟨y4,y5⟩=>⟨mk 28 [(1,.ref 0 2 0 0),(3,.ref 1 1 0 0),(10,(Quo p0)),(11,(I ((p0.Elements.length:Int)))),(12,I y4)],[(Qqz p0),(.own 1 [[(.mp 2)]]),(Qd3 y5)]⟩) (fun t h=>by rw[Qdv] at h;cases h) (fun n8 ih t h=>?_) N (0,([]:List (Int×Int))) h
   obtain⟨y4,y5⟩:=t
   rw[Qdv] at h
   skip
   refine wxz<|wsq ?_
   refine bfe h (fun hc9 h=>?_) fun hc9 h=>?_
   ·refine wft hc9<|Qaq<|thn ?_
    obtain⟨k11,hk_k11,h⟩:=jko h
    refine wjn (τ:=(List (Int×Int))) (fun t=>k11 t=some r) (fun y10=>⟨mk 28 [(1,.ref 0 2 0 0),(3,.ref 1 1 0 0),(10,(Quo p0)),(11,(I ((p0.Elements.length:Int)))),(12,I y4)],[(Qqz p0),(.own 1 [[(.mp 2)]]),(Qd3 y10)]⟩) (fun y10 h=>?_) ?_
    ·subst hk_k11
     exact wxz1<|thn<|arm (mto (n:=28) [(1,.ref 0 2 0 0),(3,.ref 1 1 0 0),(10,(Quo p0)),(11,(I ((p0.Elements.length:Int)))),(12,(I (w64 (y4+1))))] [0,1,2] [(Qqz p0),(.own 1 [[(.mp 2)]]),(Qd3 y10)] hφ0 (prr (prr (pc (rnd Qab) (pw (pw pn))))) (qb (lc (rnd Qao) (lc (rnd Qab) ln)) (qb (lc (.rn (Qji rfl)) ln) (qc Qfz qn)))) (ih (w64 (y4+1),y10) h)
    ·skip
     refine Qap ?_
     obtain⟨x12,hg13,h⟩:=bno h
     obtain⟨hi14,hj15⟩:=gsm hg13
     refine wx tbk [(0,rp _ _)] ⟨aiq underlying40 Qmk Qal hi14 hj15,tv⟩ ?_
     refine wx tbk [(2,rp _ _)] ⟨alq 2 Qaw x12.From underlying116,tv⟩<|Qap ?_
     refine wmr (mto (n:=28) (l':=[(1,.ref 0 2 0 0),(3,.ref 1 1 0 0),(10,(Quo p0)),(11,(I ((p0.Elements.length:Int)))),(12,I y4),(17,(Q5z x12)),(18,(I ((x12.From.length:Int)))),(19,I 0)]) (own':=[(Qqz p0),(.own 1 [[(.mp 2)]]),(Qd3 y5)]) [(1,.ref 0 2 0 0),(3,.ref 1 1 0 0),(10,(Quo p0)),(11,(I ((p0.Elements.length:Int)))),(12,I y4),(17,(Q5z x12)),(18,(I ((x12.From.length:Int)))),(19,I 0)] [0,1,2] [(Qqz p0),(.own 1 [[(.mp 2)]]),(Qd3 y5)] hφ0 (prr (prr (pc (rnd Qab) (pw (pw (pc (rnd Qa1) (pw (pw pn)))))))) (qb (lc (rnd Qao) (lc (rnd Qab) ln)) (qb (lc (.rn (Qji rfl)) ln) (qc Qfz qn)))) ?_
     refine Qbv (τ:=Int×(List (Int×Int))) (fun n t=>Qdu N k11 x12 n t.1 t.2=some r) (fun ⟨y16,y17⟩=>⟨mk 28 [(1,.ref 0 2 0 0),(3,.ref 1 1 0 0),(10,(Quo p0)),(11,(I ((p0.Elements.length:Int)))),(12,I y4),(17,(Q5z x12)),(18,(I ((x12.From.length:Int)))),(19,I y16)],[(Qqz p0),(.own 1 [[(.mp 2)]]),(Qd3 y17)]⟩) (fun t h=>by rw[Qdu] at h;cases h) (fun n20 ih t h=>?_) N (0,y5) h
     obtain⟨y16,y17⟩:=t
     rw[Qdu] at h
     skip
     refine wxz<|wsq ?_
     refine bfe h (fun hc21 h=>?_) fun hc21 h=>?_
     ·refine wft hc21<|Qaq<|thn<|wsq<|Qap ?_
      obtain⟨x22,hg23,h⟩:=bno h
      obtain⟨hi24,hj25⟩:=gsm hg23
      refine wx tbk [(0,rp _ _)] ⟨aiq underlying116 Qta Qaw hi24 hj25,tv⟩ ?_
      exact wx1 tbk [(2,⟨[(.tmp 23,(.mp 2)),(.tmp 24,(.agg [I x22.Element,I x22.Outlet])),cb true],[(2,(Qd3 y17))],.any,[(2,(Qd3 (addQ y17 (x22.Element,x22.Outlet))))],false⟩)] ⟨Qw1 rfl underlying190 underlying120 Qyc Qwn,tv⟩<|bln<|thn<|wxz1<|thn<|arm (mto (n:=28) [(1,.ref 0 2 0 0),(3,.ref 1 1 0 0),(10,(Quo p0)),(11,(I ((p0.Elements.length:Int)))),(12,I y4),(17,(Q5z x12)),(18,(I ((x12.From.length:Int)))),(19,(I (w64 (y16+1))))] [0,1,2] [(Qqz p0),(.own 1 [[(.mp 2)]]),(Qd3 (addQ y17 (x22.Element,x22.Outlet)))] hφ0 (prr (prr (pc (rnd Qab) (pw (pw (pc (rnd Qa1) (pw (pw pn)))))))) (qb (lc (rnd Qao) (lc (rnd Qab) ln)) (qb (lc (.rn (Qji rfl)) ln) (qc Qfz qn)))) (ih (w64 (y16+1),addQ y17 (x22.Element,x22.Outlet)) h)
     ·exact wfn hc21<|Qbg<|Qay<|Qay<|Qbf rfl<|bln<|thn<|⟨(y17),h,(mto (n:=28) [(1,.ref 0 2 0 0),(3,.ref 1 1 0 0),(10,(Quo p0)),(11,(I ((p0.Elements.length:Int)))),(12,I y4)] [0,1,2] [(Qqz p0),(.own 1 [[(.mp 2)]]),(Qd3 y17)] hφ0 (prr (prr (pc (rnd Qab) (pw (pw pn))))) (qb (lc (rnd Qao) (lc (rnd Qab) ln)) (qb (lc (.rn (Qji rfl)) ln) (qc Qfz qn))))⟩
   ·exact wfn hc9<|Qbg<|Qay<|Qay<|Qbf rfl<|thn<|⟨(y5),h,(mto (n:=28) [(1,.ref 0 2 0 0),(3,.ref 1 1 0 0)] [0,1,2] [(Qqz p0),(.own 1 [[(.mp 2)]]),(Qd3 y5)] hφ0 (prr (prr pn)) (qb (lc (rnd Qao) (lc (rnd Qab) ln)) (qb (lc (.rn (Qji rfl)) ln) (qc Qfz qn))))⟩
def Qc7 (N:Nat) (y1:Int) (p2:(List (Int×Int))) (k8:Unit→Option (List Qa6)) (x14:Int):Nat→Int→Option (List Qa6)
  |0,_=>none
  |n19+1,y15=>
    bif (decide (y15<x14)) then
     bif (!(p2.contains (y1,y15))) then
      yld (⟨y1,y15⟩:Qa6)<|
      Qc7 N y1 p2 k8 x14 n19 (w64 (y15+1))
     else
      Qc7 N y1 p2 k8 x14 n19 (w64 (y15+1))
    else
     k8 ()
def Qc8 (N:Nat) (p1:List Qam) (p2:(List (Int×Int))):Nat→Int→Option (List Qa6)
  |0,_=>none
  |n5+1,y1=>
    bif (decide (y1<(p1.length:Int))) then
     Qbi (fun _=>
       Qc8 N p1 p2 n5 (w64 (y1+1))) fun k8:Unit→Option (List Qa6)=>
     (getI p1 y1).bind fun x9=>
     (Qeu N x9).bind fun x14=>
     Qc7 N y1 p2 k8 x14 N 0
    else
     some ([])
def Qg3 (N:Nat) (_p0:List GRow) (p1:List Qam) (p2:(List (Int×Int))):Option (List Qa6):=
  Qc8 N p1 p2 N 0
def Qun (p1:List Qam):AV:=.dat 7 (p1.map Qal)
def Qum (p0:List GRow) (p1:List Qam):Slot:=.own 2 [[(.dat 5 (p0.map Qav)),(Qun p1)]]
def Qrv (y1 y15:Int):AV:=.agg [(I y1),(I y15)]
theorem Qmt (N:Nat) (p0:List GRow) (p1:List Qam) (p2:(List (Int×Int))) (r:List Qa6) (h:Qg3 N p0 p1 p2=some r):Qw9 prog 110 [(.ref 0 2 (0) 0),(.ref 1 1 (0) 0)] [(Qum p0 p1),(.own 1 [[(.mp 2)]]),(Qd3 p2)] (fun x=>[(.agg #[(.int .i64 x.Element),(.int .i64 x.Outlet)])]) r:=by
  refine Qx0 func110 rfl rfl (fun X φ0 w0 l J hφ0 hy=>?_)
  unfold Qg3 at h
  refine wx tbk [(2,rp _ _)] ⟨alq 7 Qal p1 underlying40,tv⟩<|Qap ?_
  refine wmr (mto (n:=36) (l':=[(0,(.lit (.func (.yield l) #[] #[]))),(2,.ref 1 1 0 0),(9,(Qun p1)),(10,(I ((p1.length:Int)))),(11,I 0)]) (own':=[(Qum p0 p1),(.own 1 [[(.mp 2)]]),(Qd3 p2),(.far (J (some r)))]) [(0,(.lit (.func (.yield l) #[] #[]))),(2,.ref 1 1 0 0),(9,(Qun p1)),(10,(I ((p1.length:Int)))),(11,I 0)] [0,1,2,3] [(Qum p0 p1),(.own 1 [[(.mp 2)]]),(Qd3 p2),(.far (J (some r)))] hφ0 (pw (prr (pc (rnd Qab) (pw (pw pn))))) (qb (lc (rnd Qao) (lc (rnd Qab) ln)) (qb (lc (.rn (Qji rfl)) ln) (qc Qfz (qc (.far _) qn))))) ?_
  refine Qbv (τ:=(Int)×List Qa6) (fun n t=>Qc8 N p1 p2 n t.1=some t.2) (fun ⟨y1,q2⟩=>⟨mk 36 [(0,(.lit (.func (.yield l) #[] #[]))),(2,.ref 1 1 0 0),(9,(Qun p1)),(10,(I ((p1.length:Int)))),(11,I y1)],[(Qum p0 p1),(.own 1 [[(.mp 2)]]),(Qd3 p2),(.far (J (some q2)))]⟩) (fun t h=>by rw[Qc8] at h;cases h) (fun n5 ih t h=>?_) N ((0),r) h
  obtain⟨y1,q2⟩:=t
  rw[Qc8] at h
  try dsimp only at h
  refine wxz<|wsq ?_
  refine bfe h (fun hc6 h=>?_) fun hc6 h=>?_
  ·refine wft hc6<|Qaq<|thn ?_
   obtain⟨k8,hk_k8,h⟩:=jko h
   refine wjn (τ:=(Unit)×List Qa6) (fun t=>k8 t.1=some t.2) (fun ⟨_,q7⟩=>⟨mk 36 [(0,(.lit (.func (.yield l) #[] #[]))),(2,.ref 1 1 0 0),(9,(Qun p1)),(10,(I ((p1.length:Int)))),(11,I y1)],[(Qum p0 p1),(.own 1 [[(.mp 2)]]),(Qd3 p2),(.far (J (some q7)))]⟩) (fun t h=>?_) ?_
   ·subst hk_k8
    obtain⟨_,q7⟩:=t
    exact wxz1<|thn<|arm (mto (n:=36) [(0,(.lit (.func (.yield l) #[] #[]))),(2,.ref 1 1 0 0),(9,(Qun p1)),(10,(I ((p1.length:Int)))),(11,(I (w64 (y1+1))))] [0,1,2,3] [(Qum p0 p1),(.own 1 [[(.mp 2)]]),(Qd3 p2),(.far (J (some q7)))] hφ0 (pw (prr (pc (rnd Qab) (pw (pw pn))))) (qb (lc (rnd Qao) (lc (rnd Qab) ln)) (qb (lc (.rn (Qji rfl)) ln) (qc Qfz (qc (.far _) qn))))) (ih ((w64 (y1+1)),q7) h)
   ·skip
    refine Qap ?_
    obtain⟨x9,hg10,h⟩:=bno h
    obtain⟨hi11,hj12⟩:=gsm hg10
    refine wx tbk [(1,rp _ _)] ⟨aiq underlying40 Qmk Qal hi11 hj12,tv⟩ ?_
    obtain⟨x14,hf13,h⟩:=bno h
    refine wx tbk [(1,rp _ _)] ⟨apv Q7j (Qjn N x9 _ hf13) (nlc (NLt.agg _ (nlc nll (nlc (nld Qa1 _) (nlcc (nlcc (nlc (nld Qag _) nl0)))))) nl0) nll,tv⟩<|Qap ?_
    refine wmr (mto (n:=36) (l':=[(0,(.lit (.func (.yield l) #[] #[]))),(2,.ref 1 1 0 0),(4,I y1),(9,(Qun p1)),(10,(I ((p1.length:Int)))),(11,I y1),(17,I x14),(18,I 0)]) (own':=[(Qum p0 p1),(.own 1 [[(.mp 2)]]),(Qd3 p2),(.far (J (some q2)))]) [(0,(.lit (.func (.yield l) #[] #[]))),(2,.ref 1 1 0 0),(4,I y1),(9,(Qun p1)),(10,(I ((p1.length:Int)))),(11,I y1),(17,I x14),(18,I 0)] [0,1,2,3] [(Qum p0 p1),(.own 1 [[(.mp 2)]]),(Qd3 p2),(.far (J (some q2)))] hφ0 (pw (prr (pw (pc (rnd Qab) (pw (pw (pw (pw pn)))))))) (qb (lc (rnd Qao) (lc (rnd Qab) ln)) (qb (lc (.rn (Qji rfl)) ln) (qc Qfz (qc (.far _) qn))))) ?_
    refine Qbv (τ:=(Int)×List Qa6) (fun n t=>Qc7 N y1 p2 k8 x14 n t.1=some t.2) (fun ⟨y15,q16⟩=>⟨mk 36 [(0,(.lit (.func (.yield l) #[] #[]))),(2,.ref 1 1 0 0),(4,I y1),(9,(Qun p1)),(10,(I ((p1.length:Int)))),(11,I y1),(17,I x14),(18,I y15)],[(Qum p0 p1),(.own 1 [[(.mp 2)]]),(Qd3 p2),(.far (J (some q16)))]⟩) (fun t h=>by rw[Qc7] at h;cases h) (fun n19 ih t h=>?_) N ((0),q2) h
    obtain⟨y15,q16⟩:=t
    rw[Qc7] at h
    try dsimp only at h
    refine wxz<|wsq ?_
    refine bfe h (fun hc20 h=>?_) fun hc20 h=>?_
    ·refine wft hc20<|Qaq<|thn<|wsq<|Qap<|wxz ?_
     refine wx tbk [(2,rp _ _)] ⟨Qaz (vs:=[I y1,I y15]) rfl Zcl Qxb rfl (by rfl) rfl,tv⟩ ?_
     refine bfe h (fun hb21 h=>?_) fun hb21 h=>?_
     ·obtain⟨q22,hy_,hq_⟩:=Q3r h
      clear h
      subst hq_
      have h:=hy_
      clear hy_
      refine Zjd 7 [rb [(.tmp 2,.ref 1 1 0 0)] [(1,(.own 1 [[(.mp 2)]]))] (.mp 2),rb [(.tmp 7,.ref 4 2 0 0)] [(4,.own 2 [[I y1,I y15]])] (Qrv y1 y15),rb [(.tmp 24,(.mp 2)),(.tmp 25,(Qrv y1 y15))] [(2,(Qd3 p2))] (B (p2.contains (y1,y15))),rp [(.tmp 26,(B (p2.contains (y1,y15))))] (B ((!(p2.contains (y1,y15))))),rp [(.tmp 27,(B ((!(p2.contains (y1,y15))))))] (B true),rp [(.tmp 28,B true),(.tmp 0,(.lit (.func (.yield l) #[] #[])))] (.lit (.func (.yield l) #[] #[])),rb [(.tmp 28,B true),(.tmp 7,.ref 4 2 0 0)] [(4,.own 2 [[I y1,I y15]])] (Qrv y1 y15),⟨[(.tmp 28,B true),(.tmp 29,(.lit (.func (.yield l) #[] #[]))),(.tmp 30,(Qrv y1 y15))],[(3,(.far (J (some ((⟨y1,y15⟩:Qa6)::q22)))))],B true,[(3,(.far (J (some q22))))],false⟩,rp [(.tmp 28,B true),(.tmp 31,B true)] (B false),rp [(.tmp 28,B true),(.tmp 32,B false),cb false] (B false)] [rb [(.tmp 2,.ref 1 1 0 0)] [(1,(.own 1 [[(.mp 2)]]))] (.mp 2),rb [(.tmp 7,.ref 4 2 0 0)] [(4,.own 2 [[I y1,I y15]])] (Qrv y1 y15),rb [(.tmp 24,(.mp 2)),(.tmp 25,(Qrv y1 y15))] [(2,(Qd3 p2))] (B (p2.contains (y1,y15))),rp [(.tmp 26,(B (p2.contains (y1,y15))))] (B ((!(p2.contains (y1,y15))))),rp [(.tmp 27,(B ((!(p2.contains (y1,y15))))))] (B true),rp [(.tmp 28,B true),(.tmp 0,(.lit (.func (.yield l) #[] #[])))] (.lit (.func (.yield l) #[] #[])),rb [(.tmp 28,B true),(.tmp 7,.ref 4 2 0 0)] [(4,.own 2 [[I y1,I y15]])] (Qrv y1 y15),⟨[(.tmp 28,B true),(.tmp 29,(.lit (.func (.yield l) #[] #[]))),(.tmp 30,(Qrv y1 y15))],[(3,(.far (J (some ((⟨y1,y15⟩:Qa6)::q22)))))],B false,[(3,(.far (J none)))],false⟩,rp [(.tmp 28,B true),(.tmp 31,B false)] (B true),rp [(.tmp 28,B true),(.tmp 32,B true),cb false] (B true)] (by exact⟨by kernel_rfl,by kernel_rfl⟩) (by exact⟨by kernel_rfl,by kernel_rfl⟩) rfl rfl rfl rfl (Q3a (Qrn (rd':=(.tmp 29,.lit (.func (.yield l) #[] #[]))::[(.tmp 30,.lit (.agg #[(.int .i64 ((⟨y1,y15⟩:Qa6).Element)),(.int .i64 ((⟨y1,y15⟩:Qa6).Outlet))]))]) ⟨rfl,lrf,rfl,(Less.lits [(.int .i64 y1),(.int .i64 y15)]),tv⟩ (Qpy (x:=(⟨y1,y15⟩:Qa6)) (rest:=q22) rfl rfl hy rfl))) (⟨fun _ _=>ald rfl Zml (by decide) rfl (nle rfl) rfl,fun _ _=>ald rfl Qta (by decide) rfl (nle rfl) rfl,fun _ _=>Qos rfl underlying190 underlying120 zb4 Qyc Qwn,fun _ _=>Qmz rfl,fun _ _=>asb hb21 (amv rfl),fun _ _=>ag_ (amv rfl),fun _ _=>ag_ (ald rfl Qta (by decide) rfl (nle rfl) rfl),fun _ h=>absurd rfl h,fun _ _=>ag_ (Qmz rfl),fun _ _=>apk rfl rfl,tv⟩) (⟨fun _ _=>ald rfl Zml (by decide) rfl (nle rfl) rfl,fun _ _=>ald rfl Qta (by decide) rfl (nle rfl) rfl,fun _ _=>Qos rfl underlying190 underlying120 zb4 Qyc Qwn,fun _ _=>Qmz rfl,fun _ _=>asb hb21 (amv rfl),fun _ _=>ag_ (amv rfl),fun _ _=>ag_ (ald rfl Qta (by decide) rfl (nle rfl) rfl),fun _ h=>absurd rfl h,fun _ _=>ag_ (Qmz rfl),fun _ _=>apk rfl rfl,tv⟩) ?_ ?_
      ·skip
       exact wfa<|Qaq<|bln<|thn<|wxz1<|thn<|arm (mto (n:=36) [(0,(.lit (.func (.yield l) #[] #[]))),(2,.ref 1 1 0 0),(4,I y1),(9,(Qun p1)),(10,(I ((p1.length:Int)))),(11,I y1),(17,I x14),(18,(I (w64 (y15+1))))] [0,1,2,3] [(Qum p0 p1),(.own 1 [[(.mp 2)]]),(Qd3 p2),(.far (J (some q22)))] hφ0 (pw (prr (pw (pc (rnd Qab) (pw (pw (pw (pw pn)))))))) (qb (lc (rnd Qao) (lc (rnd Qab) ln)) (qb (lc (.rn (Qji rfl)) ln) (qc Qfz (qc (.far _) qn))))) (ih ((w64 (y15+1)),q22) h)
      ·clear h
       refine wtr<|Qah<|Qau<|Qaj<|Qaj<|Qau<|Qau<|Qaj<|Qaj<|Qau ?_
       exact Or.inr (by kernel_rfl)
     ·exact wx tbk [(2,rb [(.tmp 24,(.mp 2)),(.tmp 25,(Qrv y1 y15))] [(2,(Qd3 p2))] (B (p2.contains (y1,y15)))),(4,rp [(.tmp 27,(B ((!(p2.contains (y1,y15))))))] (B false))] ⟨Qos rfl underlying190 underlying120 zb4 Qyc Qwn,asb hb21 (amv rfl),tv⟩<|wfa<|Qaq<|bln<|thn<|wxz1<|thn<|arm (mto (n:=36) [(0,(.lit (.func (.yield l) #[] #[]))),(2,.ref 1 1 0 0),(4,I y1),(9,(Qun p1)),(10,(I ((p1.length:Int)))),(11,I y1),(17,I x14),(18,(I (w64 (y15+1))))] [0,1,2,3] [(Qum p0 p1),(.own 1 [[(.mp 2)]]),(Qd3 p2),(.far (J (some q16)))] hφ0 (pw (prr (pw (pc (rnd Qab) (pw (pw (pw (pw pn)))))))) (qb (lc (rnd Qao) (lc (rnd Qab) ln)) (qb (lc (.rn (Qji rfl)) ln) (qc Qfz (qc (.far _) qn))))) (ih ((w64 (y15+1)),q16) h)
    ·exact wfn hc20<|Qbg<|Qay<|Qay<|Qbf rfl<|bln<|thn<|⟨((),q16),h,(mto (n:=36) [(0,(.lit (.func (.yield l) #[] #[]))),(2,.ref 1 1 0 0),(9,(Qun p1)),(10,(I ((p1.length:Int)))),(11,I y1)] [0,1,2,3] [(Qum p0 p1),(.own 1 [[(.mp 2)]]),(Qd3 p2),(.far (J (some q16)))] hφ0 (pw (prr (pc (rnd Qab) (pw (pw pn))))) (qb (lc (rnd Qao) (lc (rnd Qab) ln)) (qb (lc (.rn (Qji rfl)) ln) (qc Qfz (qc (.far _) qn)))))⟩
  ·refine wfn hc6<|Qbg<|Qay<|Qay<|Qbf rfl ?_
   obtain rfl:=osi h
   exact Or.inl rfl
def Qb6 (N:Nat) (k3:(List Qa6)→Option (List Qa6)):(List Qa6)→(List Qa6)→Option (List Qa6)
  |[],y6=>
    k3 (y6)
  |x9::q10,y6=>
    chk (decide ((y6.length+([x9]).length)*16≤140737488355328))<|
    Qb6 N k3 q10 (y6++([x9]))
def Qdy (N:Nat) (p0:List GRow) (p1:List Qam) (p2:(List (Int×Int))):Option (List Qa6):=
  Qbi (fun y2=>
    some y2) fun k3:(List Qa6)→Option (List Qa6)=>
  (Qg3 N p0 p1 p2).bind fun q4=>
  Qb6 N k3 q4 ([])
def Zl2:AV:=.fn (.func 110) [] [(.ref 0 2 (0) 0),(.ref 1 1 (0) 0)]
def Zgm (p0:List GRow) (p1:List Qam):Slot:=.own 2 [[(.dat 5 (p0.map Qav)),(.dat 7 (p1.map Qal))]]
theorem Qia (N:Nat) (p0:List GRow) (p1:List Qam) (p2:(List (Int×Int))) (r:List Qa6) (h:Qdy N p0 p1 p2=some r):Spec prog 111 [nilS,Zl2] [(Zgm p0 p1),(.own 1 [[(.mp 2)]]),(Qd3 p2)] (.dat 2 (r.map Qaw)) [.dead,.dead,.dead]:=by
  refine Qak func111 rfl 3 (nle rfl) (fun X φ0 w0 hφ0 hd0=>?_)
  unfold Qdy at h
  refine Qby<|wxz ?_
  obtain⟨k3,hk_k3,h⟩:=jko h
  refine wjn (τ:=(List Qa6)) (fun t=>k3 t=some r) (fun y2=>⟨mk 13 [(2,.ref 3 1 0 0)],[.dead,.dead,.dead,(.own 1 [[(.acc 4 120 2 (y2.map Qaw))]]),.tok]⟩) (fun y2 h=>?_) ?_
  ·subst hk_k3
   refine wxz<|wmr (mto (n:=13) (l':=[(4,(.dat 2 (y2.map Qaw)))]) (own':=[.dead,.dead,.dead]) [(4,(.acc 4 120 2 (y2.map Qaw)))] [0,1,2] [.dead,.dead,.dead] hφ0 (pc (.dat _ _ _ _ (Qa0 Qa1 _)) pn) (qc .dead (qc .dead (qc .dead qn))))<|Qah ?_
   obtain rfl:=osi h
   exact⟨_,Mor.rfl,Qcy (vs:=[(.dat 2 (y2.map Qaw))]) ⟨rot,tv⟩ rfl (NLt.of0 (nld Qa1 _)) (by kernel_rfl) (Qar .dead (Qar .dead (Qar .dead Qbx)))⟩
  ·skip
   refine wxz<|Qap ?_
   obtain⟨q4,hL5,h⟩:=bno h
   refine wmr (mto (n:=13) (l':=[(2,.ref 3 1 0 0),(6,Zl2)]) (own':=[(Zgm p0 p1),(.own 1 [[(.mp 2)]]),(Qd3 p2),(.own 1 [[nilS]])]) [(2,.ref 3 1 0 0),(6,Zl2)] [0,1,2,3] [(Zgm p0 p1),(.own 1 [[(.mp 2)]]),(Qd3 p2),(.own 1 [[nilS]])] hφ0 (prr (pc (.rn (Qbl rn0 (rnc (rqr rfl) (rnc (rqr rfl) rn0)))) pn)) (qb (lc (rnd Qao) (lc (rnd Qab) ln)) (qb (lc (.rn (Qji rfl)) ln) (qc Qfz (qb (lc rwl ln) qn))))) ?_
   refine wmr (Qna (n:=4) (ty:=120) (m:=2) (q:=3) (mq:=1) (c:=[nilS]) 0 (by kernel_rfl) (by kernel_rfl) (by kernel_rfl) (by decide)) ?_
   refine Qtz (τ:=((List Qa6))) (kb:=4) (caps:=[.ref 0 2 0 0,.ref 1 1 0 0]) (σr:=[(Zgm p0 p1),(.own 1 [[(.mp 2)]]),(Qd3 p2)]) (encs:=fun x=>[(.agg #[(.int .i64 x.Element),(.int .i64 x.Outlet)])]) (fun x=>[(.agg [I x.Element,I x.Outlet])]) [0,1,2] (fun n hn=>hφ0 n (Nat.le_trans (nle rfl) hn)) hd0 (Qmt N p0 p1 p2 _ hL5) Q7h (by kernel_rfl) (by kernel_rfl) (Qbq (rnc (Qb4 rfl) (rnc (Qb4 rfl) rn0))) (slc (Qan (rnc (pld Qao) (rnc (pld Qab) rn0))) (slc (Qan (rnc (Q6o rfl) rn0)) (slc Qp3 Qas))) (by kernel_rfl) (fun _=>rfl) (fun x=>⟨(Less.unlits [(.int .i64 x.Element),(.int .i64 x.Outlet)]),tv⟩) (Zdk (Qom (NLt.ref _ _ _ _ (by decide)) (Qom (NLt.fn _ _ _ nl0 (nlc (NLt.ref _ _ _ _ (by decide)) (nlc (NLt.ref _ _ _ _ (by decide)) nl0))) Q4f))) (fun y6=>[.dead,.dead,.dead,(.own 1 [[(.acc 4 120 2 (y6.map Qaw))]]),.tok]) (fun _=>rfl) (fun _=>rfl) (fun l t=>Qb6 N k3 l t=some r) ([]) h (by kernel_rfl) ?_ ?_
   ·intro l11 o12 X15 φ16 w17 hφ14 x9 q10 y6 h
    rw[Qb6] at h
    refine wxz1 ?_
    refine⟨by kernel_rfl,fun o13=>?_⟩
    refine Qap ?_
    obtain⟨ha18,h⟩:=cko h
    refine wx1 tbk [(2,rp [(.tmp 9,(.agg [I x9.Element,I x9.Outlet]))] (.dat 2 (([x9]:List Qa6).map Qaw))),(3,⟨[(.tmp 8,(.acc 4 120 2 (y6.map Qaw))),(.tmp 10,(.dat 2 (([x9]:List Qa6).map Qaw)))],[(4,.tok),(7,.unused)],(.acc 7 120 2 ((y6++([x9]):List Qa6).map Qaw)),[(4,.dead),(7,.tok)],false⟩)] ⟨Qbo (vs:=[(.agg [I x9.Element,I x9.Outlet])]) rfl underlying116 Qta Qxb rfl (by decide) rfl (by decide) (by rfl) (by rfl) (by rfl) rfl,Qd6 rfl underlying116 Zqz (Base.acc _ _) rfl rfl (by rfl) (Qg2 Qaw ha18) (Qg1 Qaw ha18 (by decide)) (Qg0 Qaw) rfl rfl,tv⟩<|bln ?_
    exact⟨(y6++([x9])),h,Zc5 (own':=[.dead,.dead,.dead,(.own 1 [[(.acc 4 120 2 (((y6++([x9])):List Qa6).map Qaw))]]),.tok,(.far (farL l11 o13))]) [0,1,2,3,7,5] [.dead,.dead,.dead,(.own 1 [[(.acc 7 120 2 ((y6++([x9]):List Qa6).map Qaw))]]),.tok,(.far (farL l11 o13))] (by kernel_rfl) (by kernel_rfl) ⟨.dead,.dead,.dead,(spb (lc (.rn (Qa3 rfl (Qa0 Qa1 _))) ln)),.tok,.far _,tv⟩⟩
   ·intro y6 h
    rw[Qb6] at h
    exact bln<|thn<|⟨(y6),h,(mto (n:=13) [(2,.ref 3 1 0 0)] [0,1,2,3,4] [.dead,.dead,.dead,(.own 1 [[(.acc 4 120 2 (y6.map Qaw))]]),.tok] hφ0 (prr pn) (qc .dead (qc .dead (qc .dead (qb (lc (.rn (Qa3 rfl (Qa0 Qa1 _))) ln) (qc .tok qn))))))⟩
def Qgk (N:Nat) (p0:List GRow) (p1:List Qam) (p2:(List (Int×Int))):Option (List Qa6):=
  (Qdy N p0 p1 p2).bind fun x3=>
  some x3
def Zpz:AV:=.fn (.func 110) [] [(.ref 0 2 (0) 0),(.ref 1 1 (0) 0)]
def Zgn (x3:List Qa6):AV:=.dat 2 (x3.map Qaw)
theorem Qli (N:Nat) (p0:List GRow) (p1:List Qam) (p2:(List (Int×Int))) (r:List Qa6) (h:Qgk N p0 p1 p2=some r):Spec prog 89 [Zpz] [(.own 2 [[(.dat 5 (p0.map Qav)),(.dat 7 (p1.map Qal))]]),(.own 1 [[(.mp 2)]]),(Qd3 p2)] (.dat 2 (r.map Qaw)) [.dead,.dead,.dead]:=by
  refine Qak func89 rfl 3 (nle rfl) (fun X φ0 w0 hφ0 hd0=>?_)
  unfold Qgk at h
  refine Qby<|wxz ?_
  obtain⟨x3,hf2,h⟩:=bno h
  refine wx tbk [(1,⟨_,_,_,_,false⟩)] ⟨Qat (first:=[]) (cap:=[]) (vs:=[nilS,Zpz]) (σr:=[(.own 2 [[(.dat 5 (p0.map Qav)),(.dat 7 (p1.map Qal))]]),(.own 1 [[(.mp 2)]]),(Qd3 p2)]) (σr':=[.dead,.dead,.dead]) (res':=(Zgn x3)) [0,1,2] rfl Ziy (Qia N p0 p1 p2 _ hf2) rfl (Qbq (rnc (.plain _ nll) (rnc (Qbl rn0 (rnc (Qa4 rfl) (rnc (Qa4 rfl) rn0))) rn0))) (slc (Qan (rnc (pld Qao) (rnc (pld Qab) rn0))) (slc (Qan (rnc (Zkx rfl) rn0)) (slc Qp3 Qas))) (slc .dead (slc .dead (slc .dead Qas))) (pld Qa1) rfl rfl rfl,tv⟩ ?_
  refine wmr (mto (n:=5) (l':=[(2,(Zgn x3))]) (own':=[.dead,.dead,.dead]) [(2,(Zgn x3))] [0,1,2] [.dead,.dead,.dead] hφ0 (pc (rnd Qa1) pn) (qc .dead (qc .dead (qc .dead qn))))<|Qah ?_
  obtain rfl:=osi h
  exact⟨_,Mor.rfl,Qcy (vs:=[(Zgn x3)]) ⟨rot,tv⟩ rfl (NLt.of0 (nld Qa1 _)) (by kernel_rfl) (Qar .dead (Qar .dead (Qar .dead Qbx)))⟩
def Qtj (N:Nat) (p0:GNet):Option ((List Qa6)×Int):=
  (Qh0 N p0).bind fun x2=>
  bif (!x2) then
   some ([],1)
  else
   (Qg4 N p0).bind fun x5=>
   (Qgk N p0.Table p0.Elements x5).bind fun x7=>
   some (x7,0)
def Zr3 (p0:GNet):AV:=.agg [(.dat 5 (p0.Table.map Qav)),(.dat 7 (p0.Elements.map Qal))]
def Zp0:AV:=.fn (.func 110) [] [(.ref 1 2 (0) 0),(.ref 2 1 (0) 0)]
def Zp1 (p0:GNet):Slot:=.own 2 [[(.dat 5 (p0.Table.map Qav)),(.dat 7 (p0.Elements.map Qal))]]
theorem Qzi (N:Nat) (p0:GNet) (r:((List Qa6)×Int)) (h:Qtj N p0=some r):Spec prog 47 [(.agg (Qgx p0))] [] (.tup [(.dat 2 (r.1.map Qaw)),(I r.2)]) []:=by
  refine Qak func47 rfl 0 (nle rfl) (fun X φ0 w0 hφ0 hd0=>?_)
  unfold Qtj at h
  refine wxz<|wsq ?_
  obtain⟨x2,hf1,h⟩:=bno h
  refine wx tbk [(1,rp _ _)] ⟨apv Zen (Qm7 N p0 _ hf1) (nlc (NLt.agg _ (nlc (nld Qao _) (nlc (nld Qab _) nl0))) nl0) nll,tv⟩ ?_
  refine bfe h (fun hc3 h=>?_) fun hc3 h=>?_
  ·refine wft hc3<|wxz<|Qah<|Qaj ?_
   obtain rfl:=osi h
   exact fend ⟨[(.dat 2 (([]:List Qa6).map Qaw)),I 1],⟨Qdi (v:=nilS) rot Less.nil,rot,tv⟩,rfl⟩ (NLt.tup _ (nlc (nld Qa1 _) (nlc nll nl0)))
  ·refine wfn hc3<|Qaq<|thn ?_
   obtain⟨x5,hf4,h⟩:=bno h
   obtain⟨x7,hf6,h⟩:=bno h
   refine wx tbk [(1,⟨_,_,_,_,false⟩),(2,⟨_,_,_,_,false⟩)] ⟨Qat (first:=[]) (cap:=[]) (vs:=[(Zr3 p0)]) (σr:=[]) (σr':=[(Zp1 p0),(.own 1 [[(.mp 3)]]),(Qd3 x5)]) (res':=Zp0) [1,2,3] rfl Zei (Qmu N p0 _ hf4) rfl (Qbq (rnc (.plain _ (NLt.agg _ (nlc (nld Qao _) (nlc (nld Qab _) nl0)))) rn0)) Qas (slc (Qan (rnc (pld Qao) (rnc (pld Qab) rn0))) (slc (Qan (rnc (Q6o rfl) rn0)) (slc Qp3 Qas))) (Qbl rn0 (rnc (Qb4 rfl) (rnc (Qb4 rfl) rn0))) rfl rfl rfl,Qat (first:=[]) (cap:=[]) (vs:=[Zp0]) (σr:=[(Zp1 p0),(.own 1 [[(.mp 3)]]),(Qd3 x5)]) (σr':=[.dead,.dead,.dead]) (res':=(.dat 2 (x7.map Qaw))) [1,2,3] rfl Znn (Qli N p0.Table p0.Elements x5 _ hf6) rfl (Qbq (rnc (Qbl rn0 (rnc (Qa4 rfl) (rnc (Qa4 rfl) rn0))) rn0)) (slc (Qan (rnc (pld Qao) (rnc (pld Qab) rn0))) (slc (Qan (rnc (Zkx rfl) rn0)) (slc Qp3 Qas))) (slc .dead (slc .dead (slc .dead Qas))) (pld Qa1) rfl rfl rfl,tv⟩<|Qah ?_
   obtain rfl:=osi h
   exact fend ⟨[(.dat 2 (x7.map Qaw)),I 0],⟨rot,rot,tv⟩,rfl⟩ (NLt.tup _ (nlc (nld Qa1 _) (nlc nll nl0)))
end
section
set_option maxRecDepth 100000
set_option maxHeartbeats 4000000
open Go.RowKit
def Qk5 (N:Nat) (p0:Int):Option Bool:=
  (Qc1 N p0 0 1000000000000).bind fun x2=>
  some x2
theorem Qth (N:Nat) (p0:Int) (r:Bool) (h:Qk5 N p0=some r):Spec prog 109 [(I p0)] [] (B r) []:=by
  refine Qak func109 rfl 0 (nle rfl) (fun X φ0 w0 hφ0 hd0=>?_)
  unfold Qk5 at h
  refine wxz ?_
  obtain⟨x2,hf1,h⟩:=bno h
  exact wx tbk [(1,rp _ _)] ⟨apv Qmx (Qdz N p0 0 1000000000000 _ hf1) (nlcc (nlc nll nl0)) nll,tv⟩<|Qah<|frb h
def Qhx (N:Nat) (p0:Int):Option Bool:=
  (Qk5 N p0).bind fun x3=>
  some (!x3)
def Zgk:Slot:=.own 1 [[(.fn (.func 109) [] [])]]
theorem Qqh (N:Nat) (p0:Int) (r:Bool) (h:Qhx N p0=some r):Spec prog 128 [(I p0),(.ref 0 1 (0) 0)] [Zgk] (B r) [Zgk]:=by
  refine Qak func128 rfl 1 (nle rfl) (fun X φ0 w0 hφ0 hd0=>?_)
  unfold Qhx at h
  refine Qby<|wxz ?_
  obtain⟨x3,hf2,h⟩:=bno h
  refine wx tbk [(2,rp _ _)] ⟨apv Ziz (Qth N p0 _ hf2) (nlc nll nl0) nll,tv⟩ ?_
  refine wmr (mto (n:=8) (l':=[(3,(B ((!x3))))]) (own':=[Zgk]) [(3,(B ((!x3))))] [0] [Zgk] hφ0 (pw pn) (qb (lc (.rn (Qbl rn0 rn0)) ln) qn))<|Qah ?_
  obtain rfl:=osi h
  exact⟨_,Mor.rfl,Qcy (vs:=[(B ((!x3)))]) ⟨rot,tv⟩ rfl (NLt.of0 nll) (by kernel_rfl) (Qar (Qa8 (nlc (NLt.of0 (NLt.fn _ _ _ nl0 nl0)) nl0)) Qbx)⟩
def Qch (N:Nat) (p0:List Int) (k2:Unit→Option Int):Nat→Int→Option Int
  |0,_=>none
  |n5+1,y3=>
    bif (decide (y3<(p0.length:Int))) then
     (getI p0 y3).bind fun x7=>
     (Qhx N x7).bind fun x12=>
     bif x12 then
      some y3
     else
      Qch N p0 k2 n5 (w64 (y3+1))
    else
     k2 ()
def Qe3 (N:Nat) (p0:List Int):Option Int:=
  Qbi (fun _=>
    some (-1)) fun k2:Unit→Option Int=>
  Qch N p0 k2 N 0
def Zbg:AV:=.fn (.func 128) [] [(.ref 0 1 (0) 0)]
def Qru:Slot:=.own 1 [[(.fn (.func 109) [] [])]]
theorem Qlf (N:Nat) (p0:List Int) (r:Int) (h:Qe3 N p0=some r):Spec prog 141 [(.dat 1 (p0.map Qad)),Zbg] [Qru] (I r) [Qru]:=by
  refine Qak func141 rfl 1 (nle rfl) (fun X φ0 w0 hφ0 hd0=>?_)
  unfold Qe3 at h
  refine Qby<|wxz ?_
  obtain⟨k2,hk_k2,h⟩:=jko h
  refine wjn (τ:=Unit) (fun t=>k2 t=some r) (fun _=>⟨mk 19 [],[Qru]⟩) (fun t h=>?_) ?_
  ·subst hk_k2
   refine wxz<|wmr (mto (n:=19) (l':=[(4,(I ((-1))))]) (own':=[Qru]) [(4,(I ((-1))))] [0] [Qru] hφ0 (pw pn) (qb (lc (.rn (Qbl rn0 rn0)) ln) qn))<|Qah ?_
   obtain rfl:=osi h
   exact⟨_,Mor.rfl,Qcy (vs:=[(I ((-1)))]) ⟨rot,tv⟩ rfl (NLt.of0 nll) (by kernel_rfl) (Qar (Qa8 (nlc (NLt.of0 (NLt.fn _ _ _ nl0 nl0)) nl0)) Qbx)⟩
  ·skip
   refine wx tbk [(1,rp _ _)] ⟨alq 1 Qad p0 underlying27,tv⟩<|Qap ?_
   refine wmr (mto (n:=19) (l':=[(0,(.dat 1 (p0.map Qad))),(1,Zbg),(7,(I ((p0.length:Int)))),(8,I 0)]) (own':=[Qru]) [(0,(.dat 1 (p0.map Qad))),(1,Zbg),(7,(I ((p0.length:Int)))),(8,I 0)] [0] [Qru] hφ0 (pc (rnd Qag) (pc (.rn (Qbl rn0 (rnc (rqr rfl) rn0))) (pw (pw pn)))) (qb (lc (.rn (Qbl rn0 rn0)) ln) qn)) ?_
   refine Qbv (τ:=Int) (fun n t=>Qch N p0 k2 n t=some r) (fun y3=>⟨mk 19 [(0,(.dat 1 (p0.map Qad))),(1,Zbg),(7,(I ((p0.length:Int)))),(8,I y3)],[Qru]⟩) (fun t h=>by rw[Qch] at h;cases h) (fun n5 ih y3 h=>?_) N (0) h
   rw[Qch] at h
   skip
   refine wxz<|wsq ?_
   refine bfe h (fun hc6 h=>?_) fun hc6 h=>?_
   ·refine wft hc6<|Qaq<|thn<|wsq<|Qap<|wxz ?_
    obtain⟨x7,hg8,h⟩:=bno h
    obtain⟨hi9,hj10⟩:=gsm hg8
    obtain⟨x12,hf11,h⟩:=bno h
    refine wx tbk [(3,rp _ _),(5,⟨_,_,_,_,false⟩)] ⟨aiq underlying27 ti3 Qad hi9 hj10,Qat (first:=[]) (cap:=[.ref 0 1 0 0]) (vs:=[I x7]) (σr:=[Qru]) (σr':=[Qru]) (res':=(B x12)) [0] rfl Q7f (Qqh N x7 _ hf11) rfl (Qbq (rnc (.plain _ nll) (rnc (Qa4 rfl) rn0))) (slc (Qan (rnc (.plain _ (NLt.fn _ _ _ nl0 nl0)) rn0)) Qas) (slc (Qan (rnc (.plain _ (NLt.fn _ _ _ nl0 nl0)) rn0)) Qas) (.plain _ nll) rfl rfl rfl,tv⟩ ?_
    refine bfe h (fun hc13 h=>?_) fun hc13 h=>?_
    ·refine wft hc13<|wxz ?_
     refine wmr (mto (n:=19) (l':=[(4,I y3)]) (own':=[Qru]) [(4,I y3)] [0] [Qru] hφ0 (pw pn) (qb (lc (.rn (Qbl rn0 rn0)) ln) qn))<|Qah<|Qau<|Qaj<|Qaj<|Qau<|Qaj ?_
     obtain rfl:=osi h
     exact⟨_,Mor.rfl,Qcy (vs:=[I y3]) ⟨rot,tv⟩ rfl (NLt.of0 nll) (by kernel_rfl) (Qar (Qa8 (nlc (NLt.of0 (NLt.fn _ _ _ nl0 nl0)) nl0)) Qbx)⟩
    ·exact wfn hc13<|Qaq<|bln<|thn<|wxz1<|thn<|arm (mto (n:=19) [(0,(.dat 1 (p0.map Qad))),(1,Zbg),(7,(I ((p0.length:Int)))),(8,(I (w64 (y3+1))))] [0] [Qru] hφ0 (pc (rnd Qag) (pc (.rn (Qbl rn0 (rnc (rqr rfl) rn0))) (pw (pw pn)))) (qb (lc (.rn (Qbl rn0 rn0)) ln) qn)) (ih (w64 (y3+1)) h)
   ·exact wfn hc6<|Qbg<|Qay<|Qay<|Qbf rfl<|thn<|⟨(),h,(mto (n:=19) [] [0] [Qru] hφ0 pn (qb (lc (.rn (Qbl rn0 rn0)) ln) qn))⟩
def Qde (N:Nat) (p0:List Int):Option Bool:=
  (Qe3 N p0).bind fun x3=>
  some (decide (x3≥0))
def Zpv:AV:=.fn (.func 128) [] [(.ref 0 1 (0) 0)]
def Q77:Slot:=.own 1 [[(.fn (.func 109) [] [])]]
theorem Qj0 (N:Nat) (p0:List Int) (r:Bool) (h:Qde N p0=some r):Spec prog 126 [(.dat 1 (p0.map Qad)),Zpv] [Q77] (B r) [Q77]:=by
  refine Qak func126 rfl 1 (nle rfl) (fun X φ0 w0 hφ0 hd0=>?_)
  unfold Qde at h
  refine Qby<|wxz ?_
  obtain⟨x3,hf2,h⟩:=bno h
  refine wx tbk [(2,⟨_,_,_,_,false⟩)] ⟨Qat (first:=[]) (cap:=[]) (vs:=[(.dat 1 (p0.map Qad)),Zpv]) (σr:=[Q77]) (σr':=[Q77]) (res':=(I x3)) [0] rfl Qsp (Qlf N p0 _ hf2) rfl (Qbq (rnc (pld Qag) (rnc (Qbl rn0 (rnc (Qa4 rfl) rn0)) rn0))) (slc (Qan (rnc (.plain _ (NLt.fn _ _ _ nl0 nl0)) rn0)) Qas) (slc (Qan (rnc (.plain _ (NLt.fn _ _ _ nl0 nl0)) rn0)) Qas) (.plain _ nll) rfl rfl rfl,tv⟩ ?_
  refine wmr (mto (n:=9) (l':=[(4,(B ((decide (x3≥0)))))]) (own':=[Q77]) [(4,(B ((decide (x3≥0)))))] [0] [Q77] hφ0 (pw pn) (qb (lc (.rn (Qbl rn0 rn0)) ln) qn))<|Qah ?_
  obtain rfl:=osi h
  exact⟨_,Mor.rfl,Qcy (vs:=[(B ((decide (x3≥0))))]) ⟨rot,tv⟩ rfl (NLt.of0 nll) (by kernel_rfl) (Qar (Qa8 (nlc (NLt.of0 (NLt.fn _ _ _ nl0 nl0)) nl0)) Qbx)⟩
def Qj9 (N:Nat) (p0:List Int):Option Bool:=
  (Qde N p0).bind fun x2=>
  some (!x2)
def Zpw:AV:=.fn (.func 128) [] [(.ref 0 1 (0) 0)]
def Zpx:Slot:=.own 1 [[(.fn (.func 109) [] [])]]
theorem Qsd (N:Nat) (p0:List Int) (r:Bool) (h:Qj9 N p0=some r):Spec prog 108 [(.dat 1 (p0.map Qad)),(.fn (.func 109) [] [])] [] (B r) []:=by
  refine Qak func108 rfl 0 (nle rfl) (fun X φ0 w0 hφ0 hd0=>?_)
  unfold Qj9 at h
  refine wxz ?_
  obtain⟨x2,hf1,h⟩:=bno h
  refine wx tbk [(1,rp [(.tmp 3,.ref 0 1 0 0)] Zpw),(2,⟨_,_,_,_,false⟩)] ⟨Qew (fs:=[]) (cs:=[.ref 0 1 0 0]) rfl rfl rfl rfl,Qat (first:=[]) (cap:=[]) (vs:=[(.dat 1 (p0.map Qad)),Zpw]) (σr:=[Zpx]) (σr':=[Zpx]) (res':=(B x2)) [0] rfl Qsq (Qj0 N p0 _ hf1) rfl (Qbq (rnc (pld Qag) (rnc (Qbl rn0 (rnc (Qa4 rfl) rn0)) rn0))) (slc (Qan (rnc (.plain _ (NLt.fn _ _ _ nl0 nl0)) rn0)) Qas) (slc (Qan (rnc (.plain _ (NLt.fn _ _ _ nl0 nl0)) rn0)) Qas) (.plain _ nll) rfl rfl rfl,tv⟩<|Qah ?_
  obtain rfl:=osi h
  exact fend ⟨[(B ((!x2)))],⟨rot,tv⟩,rfl⟩ nll
def Qjl (N:Nat) (p0:GNet) (p1:List Int):Option Int:=
  (Qh0 N p0).bind fun x2=>
  bif (!x2) then
   some 1
  else
   bif ((p1.length:Int) != (p0.Elements.length:Int)) then
    some 1
   else
    (Qj9 N p1).bind fun x6=>
    bif (!x6) then
     some 1
    else
     some 0
def Zr2 (p0:GNet):AV:=.dat 5 (p0.Table.map Qav)
def Zpy (p0:GNet):AV:=.dat 7 (p0.Elements.map Qal)
def Zl0 (p0:GNet) (x2:Bool):List (Nat×Rec):=[(1,rp [fu 66,((.tmp 5),(.agg [(Zr2 p0),(Zpy p0)]))] (B x2))]
def Zlz p0 x2 (p1:List Int):=hcat (Zl0 p0 x2) [(3,rp [((.tmp 7),(B ((!x2))))] (B false)),(5,rp [((.tmp 8),(B false)),((.tmp 9),(.dat 1 (p1.map Qad)))] (I ((p1.length:Int)))),(8,rp [((.tmp 8),(B false)),((.tmp 12),(Zpy p0))] (I ((p0.Elements.length:Int))))]
theorem Qpp (N:Nat) (p0:GNet) (p1:List Int) (r:Int) (h:Qjl N p0 p1=some r):Spec prog 73 [(.agg (Qgx p0)),(.dat 1 (p1.map Qad))] [] (I r) []:=by
  refine Qak func73 rfl 0 (nle rfl) (fun X φ0 w0 hφ0 hd0=>?_)
  unfold Qjl at h
  refine wxz<|wsq ?_
  obtain⟨x2,hf1,h⟩:=bno h
  refine hpre (A:=(Zl0 p0 x2)) ⟨apv Zen (Qm7 N p0 _ hf1) (nlc (NLt.agg _ (nlc (nld Qao _) (nlc (nld Qab _) nl0))) nl0) nll,tv⟩ fun q1_=>?_
  refine bfe h (fun hb3 h=>?_) fun hb3 h=>?_
  ·refine wx tbk (hcat (Zl0 p0 x2) [(3,rp [(.tmp 7,(B ((!x2))))] (B true))]) (hap q1_ ⟨asb hb3 (amv rfl),tv⟩)<|wtr<|wxz<|Qah<|Qaj ?_
   obtain rfl:=osi h
   exact fend ⟨[I 1],⟨rot,tv⟩,rfl⟩ nll
  ·refine hpre (A:=(Zlz p0 x2 p1)) (hap q1_ ⟨asb hb3 (amv rfl),ag_ (alq 1 Qad p1 underlying27),ag_ (alq 7 Qal p0.Elements underlying40),tv⟩) fun q2_=>?_
   refine bfe h (fun hb4 h=>?_) fun hb4 h=>?_
   ·refine wx tbk (hcat (Zlz p0 x2 p1) [(11,rp [(.tmp 15,(B (((p1.length:Int) != (p0.Elements.length:Int)))))] (B true))]) (hap q2_ ⟨asb hb4 (amv rfl),tv⟩)<|wtr<|wxz<|Qah<|Qaj ?_
    obtain rfl:=osi h
    exact fend ⟨[I 1],⟨rot,tv⟩,rfl⟩ nll
   ·obtain⟨x6,hf5,h⟩:=bno h
    refine wx tbk (hcat (Zlz p0 x2 p1) [(11,rp [(.tmp 15,(B (((p1.length:Int) != (p0.Elements.length:Int)))))] (B false)),(13,rp [(.tmp 16,B false),fu 108,(.tmp 17,(.dat 1 (p1.map Qad))),fu 109] (B x6))]) (hap q2_ ⟨asb hb4 (amv rfl),ag_ (Qat (first:=[]) (cap:=[]) (vs:=[(.dat 1 (p1.map Qad)),(.fn (.func 109) [] [])]) (σr:=[]) (σr':=[]) (res':=(B x6)) [] rfl Q7i (Qsd N p1 _ hf5) rfl (Qbq (rnc (pld Qag) (rnc (.plain _ (NLt.fn _ _ _ nl0 nl0)) rn0))) Qas Qas (.plain _ nll) rfl rfl rfl),tv⟩) ?_
    refine bfe h (fun hc7 h=>?_) fun hc7 h=>?_
    ·refine wft hc7<|wxz<|Qah<|Qaj ?_
     obtain rfl:=osi h
     exact fend ⟨[I 1],⟨rot,tv⟩,rfl⟩ nll
    ·refine wfn hc7<|Qaq<|thn<|wxz<|Qah ?_
     obtain rfl:=osi h
     exact fend ⟨[I 0],⟨rot,tv⟩,rfl⟩ nll
def Qee (N:Nat) (p0:GNet) (p1:Int) (k2:(List Int)→Option (List Int)):Nat→(List Int)→Int→Option (List Int)
  |0,_,_=>none
  |n7+1,y3,y4=>
    bif (decide (y4<(p0.Elements.length:Int))) then
     (getI p0.Elements y4).bind fun x9=>
     bif (x9.Kind==p1) then
      chk (decide ((y3.length+([y4]).length)*8≤140737488355328))<|
      Qee N p0 p1 k2 n7 (y3++([y4])) (w64 (y4+1))
     else
      Qee N p0 p1 k2 n7 y3 (w64 (y4+1))
    else
     k2 (y3)
def Qjm (N:Nat) (p0:GNet) (p1:Int):Option (List Int):=
  Qbi (fun y1=>
    some y1) fun k2:(List Int)→Option (List Int)=>
  Qee N p0 p1 k2 N ([]) 0
def Zbe (p0:GNet):AV:=.dat 7 (p0.Elements.map Qal)
def Q5y (y3:List Int):AV:=.acc 0 3 1 (y3.map Qad)
theorem Qms (N:Nat) (p0:GNet) (p1:Int) (r:List Int) (h:Qjm N p0 p1=some r):Spec prog 67 [(.agg (Qgx p0)),(K .u8 p1)] [] (.dat 1 (r.map Qad)) []:=by
  refine Qak func67 rfl 0 (nle rfl) (fun X φ0 w0 hφ0 hd0=>?_)
  unfold Qjm at h
  refine wxz ?_
  obtain⟨k2,hk_k2,h⟩:=jko h
  refine wjn (τ:=(List Int)) (fun t=>k2 t=some r) (fun y1=>⟨mk 25 [(4,(.acc 0 3 1 (y1.map Qad)))],[.tok]⟩) (fun y1 h=>?_) ?_
  ·subst hk_k2
   refine wxz<|Qah ?_
   obtain rfl:=osi h
   exact fend ⟨[(.dat 1 (y1.map Qad))],⟨Qdi (v:=(.acc 0 3 1 (y1.map Qad))) rot Less.acc,tv⟩,rfl⟩ (nld Qag _)
  ·skip
   refine wx tbk [(2,rp _ _)] ⟨alq 7 Qal p0.Elements underlying40,tv⟩<|Qap ?_
   refine wmr (Mor.trans (Qnq 1 3 1 4 (by kernel_rfl) (by kernel_rfl)) (mto (n:=25) (l':=[(1,(K .u8 p1)),(4,(.acc 0 3 1 ((([]):List Int).map Qad))),(8,(Zbe p0)),(9,(I ((p0.Elements.length:Int)))),(10,I 0)]) (own':=[.tok]) [(1,(K .u8 p1)),(4,(.acc 1 3 1 (([]:List Int).map Qad))),(8,(Zbe p0)),(9,(I ((p0.Elements.length:Int)))),(10,I 0)] [1] [.tok] hφ0 (pw (pc (.rn (Qa3 rfl (Qa0 Qag _))) (pc (rnd Qab) (pw (pw pn))))) (qc .tok qn))) ?_
   refine Qbv (τ:=(List Int)×Int) (fun n t=>Qee N p0 p1 k2 n t.1 t.2=some r) (fun ⟨y3,y4⟩=>⟨mk 25 [(1,(K .u8 p1)),(4,(Q5y y3)),(8,(Zbe p0)),(9,(I ((p0.Elements.length:Int)))),(10,I y4)],[.tok]⟩) (fun t h=>by rw[Qee] at h;cases h) (fun n7 ih t h=>?_) N ([],0) h
   obtain⟨y3,y4⟩:=t
   rw[Qee] at h
   skip
   refine wxz<|wsq ?_
   refine bfe h (fun hc8 h=>?_) fun hc8 h=>?_
   ·refine wft hc8<|Qaq<|thn<|wsq<|Qap ?_
    obtain⟨x9,hg10,h⟩:=bno h
    obtain⟨hi11,hj12⟩:=gsm hg10
    refine wx tbk [(1,rp _ _)] ⟨aiq underlying40 Qmk Qal hi11 hj12,tv⟩<|wxz ?_
    refine bfe h (fun hc13 h=>?_) fun hc13 h=>?_
    ·refine wft hc13 ?_
     obtain⟨ha14,h⟩:=cko h
     refine wx1 tbk [(2,rp [(.tmp 20,I y4)] (.dat 1 (([y4]:List Int).map Qad))),(3,⟨[(.tmp 19,(Q5y y3)),(.tmp 21,(.dat 1 (([y4]:List Int).map Qad)))],[(0,.tok),(2,.unused)],(.acc 2 3 1 ((y3++([y4]):List Int).map Qad)),[(0,.dead),(2,.tok)],false⟩)] ⟨Qbo (vs:=[I y4]) rfl underlying27 ti3 tz3 rfl (by decide) rfl (by decide) (by rfl) (by rfl) (by rfl) rfl,Qd6 rfl underlying27 te3 (Base.acc _ _) rfl rfl (by rfl) (Qg2 Qad ha14) (Qg1 Qad ha14 (by decide)) (Qg0 Qad) rfl rfl,tv⟩<|bln<|thn<|wxz1<|thn ?_
     exact arm (mto (n:=25) [(1,(K .u8 p1)),(4,(.acc 2 3 1 ((y3++([y4]):List Int).map Qad))),(8,(Zbe p0)),(9,(I ((p0.Elements.length:Int)))),(10,(I (w64 (y4+1))))] [2] [.tok] hφ0 (pw (pc (.rn (Qa3 rfl (Qa0 Qag _))) (pc (rnd Qab) (pw (pw pn))))) (qc .tok qn)) (ih (y3++([y4]),w64 (y4+1)) h)
    ·exact wfn hc13<|Qaq<|bln<|thn<|wxz1<|thn<|arm (mto (n:=25) [(1,(K .u8 p1)),(4,(Q5y y3)),(8,(Zbe p0)),(9,(I ((p0.Elements.length:Int)))),(10,(I (w64 (y4+1))))] [0] [.tok] hφ0 (pw (pc (.rn (Qa3 rfl (Qa0 Qag _))) (pc (rnd Qab) (pw (pw pn))))) (qc .tok qn)) (ih (y3,w64 (y4+1)) h)
   ·exact wfn hc8<|Qbg<|Qay<|Qay<|Qbf rfl<|thn<|⟨(y3),h,(mto (n:=25) [(4,(Q5y y3))] [0] [.tok] hφ0 (pc (.rn (Qa3 rfl (Qa0 Qag _))) pn) (qc .tok qn))⟩
def Qeo (N:Nat) (p0:Qaa):Option Bool:=
  (Qdj N p0.Mass 0 1000000).bind fun x2=>
  bif x2 then
   (Qdj N p0.Heat 0 (w64 (4000*p0.Mass))).bind fun x5=>
   bif x5 then
    (Qdj N p0.Silica 0 (w64 (10000*p0.Mass))).bind fun x8=>
    bif x8 then
     (Qdj N p0.Gas 0 1000000000).bind fun x11=>
     some x11
    else
     some false
   else
    some false
  else
   some false
def Zlx (p0:Qaa) (x2:Bool):List (Nat×Rec):=[(2,rp [fu 137,((.tmp 4),(I p0.Mass)),ci 0,ci 1000000] (B x2))]
def Zlw p0 x2 (x5:Bool):=hcat (Zlx p0 x2) [(3,rp [((.tmp 5),(B x2))] (B true)),(9,rp [((.tmp 6),(B true)),fu 137,((.tmp 8),(I p0.Heat)),ci 0,((.tmp 11),(I (w64 (4000*p0.Mass))))] (B x5))]
def Zlv p0 x2 x5 (x8:Bool):=hcat (Zlw p0 x2 x5) [(11,rp [((.tmp 13),(B x5))] (B true)),(17,rp [((.tmp 14),(B true)),fu 137,((.tmp 16),(I p0.Silica)),ci 0,((.tmp 19),(I (w64 (10000*p0.Mass))))] (B x8))]
theorem Qik (N:Nat) (p0:Qaa) (r:Bool) (h:Qeo N p0=some r):Spec prog 131 [(.agg (Qac p0))] [] (B r) []:=by
  refine Qak func131 rfl 0 (nle rfl) (fun X φ0 w0 hφ0 hd0=>?_)
  unfold Qeo at h
  refine wxz ?_
  obtain⟨x2,hf1,h⟩:=bno h
  refine hpre (A:=(Zlx p0 x2)) ⟨apv Qkg (Qdq N p0.Mass 0 1000000 _ hf1) (nlcc (nlc nll nl0)) nll,tv⟩ fun q1_=>?_
  refine bfe h (fun hb3 h=>?_) fun hb3 h=>?_
  ·obtain⟨x5,hf4,h⟩:=bno h
   refine hpre (A:=(Zlw p0 x2 x5)) (hap q1_ ⟨asb hb3 (amv rfl),ag_ (apv Qkg (Qdq N p0.Heat 0 (w64 (4000*p0.Mass)) _ hf4) (nlcc (nlc nll nl0)) nll),tv⟩) fun q2_=>?_
   refine bfe h (fun hb6 h=>?_) fun hb6 h=>?_
   ·obtain⟨x8,hf7,h⟩:=bno h
    refine hpre (A:=(Zlv p0 x2 x5 x8)) (hap q2_ ⟨asb hb6 (amv rfl),ag_ (apv Qkg (Qdq N p0.Silica 0 (w64 (10000*p0.Mass)) _ hf7) (nlcc (nlc nll nl0)) nll),tv⟩) fun q3_=>?_
    refine bfe h (fun hb9 h=>?_) fun hb9 h=>?_
    ·obtain⟨x11,hf10,h⟩:=bno h
     exact wx tbk (hcat (Zlv p0 x2 x5 x8) [(19,rp [(.tmp 21,B x8)] (B true)),(22,rp [(.tmp 22,B true),fu 137,(.tmp 24,I p0.Gas),ci 0,ci 1000000000] (B x11))]) (hap q3_ ⟨asb hb9 (amv rfl),ag_ (apv Qkg (Qdq N p0.Gas 0 1000000000 _ hf10) (nlcc (nlc nll nl0)) nll),tv⟩)<|Qah<|frb h
    ·exact wx tbk (hcat (Zlv p0 x2 x5 x8) [(19,rp [(.tmp 21,B x8)] (B false))]) (hap q3_ ⟨asb hb9 (amv rfl),tv⟩)<|Qah<|frb h
   ·exact wx tbk (hcat (Zlw p0 x2 x5) [(11,rp [(.tmp 13,B x5)] (B false))]) (hap q2_ ⟨asb hb6 (amv rfl),tv⟩)<|Qah<|frb h
  ·exact wx tbk (hcat (Zlx p0 x2) [(3,rp [(.tmp 5,B x2)] (B false))]) (hap q1_ ⟨asb hb3 (amv rfl),tv⟩)<|Qah<|frb h
def Qg8 (N:Nat) (p0:Qaa):Option Int:=
  (Qeo N p0).bind fun x2=>
  bif (!x2) then
   some 1
  else
   some 0
theorem Qpi (N:Nat) (p0:Qaa) (r:Int) (h:Qg8 N p0=some r):Spec prog 114 [(.agg (Qac p0))] [] (I r) []:=by
  refine Qak func114 rfl 0 (nle rfl) (fun X φ0 w0 hφ0 hd0=>?_)
  unfold Qg8 at h
  refine wxz<|wsq ?_
  obtain⟨x2,hf1,h⟩:=bno h
  refine wx tbk [(1,rp _ _)] ⟨apv Qz8 (Qik N p0 _ hf1) (nlc (NLt.agg _ (nlcc (nlcc nl0))) nl0) nll,tv⟩ ?_
  refine bfe h (fun hc3 h=>?_) fun hc3 h=>?_
  ·refine wft hc3<|wxz<|Qah<|Qaj ?_
   obtain rfl:=osi h
   exact fend ⟨[I 1],⟨rot,tv⟩,rfl⟩ nll
  ·refine wfn hc3<|Qaq<|thn<|wxz<|Qah ?_
   obtain rfl:=osi h
   exact fend ⟨[I 0],⟨rot,tv⟩,rfl⟩ nll
def Qka (N:Nat) (p0:Qaa):Option Bool:=
  (Qg8 N p0).bind fun x2=>
  some (x2==0)
theorem Qsf (N:Nat) (p0:Qaa) (r:Bool) (h:Qka N p0=some r):Spec prog 113 [(.agg (Qac p0))] [] (B r) []:=by
  refine Qak func113 rfl 0 (nle rfl) (fun X φ0 w0 hφ0 hd0=>?_)
  unfold Qka at h
  refine wxz ?_
  obtain⟨x2,hf1,h⟩:=bno h
  refine wx tbk [(1,rp _ _)] ⟨apv Ziv (Qpi N p0 _ hf1) (nlc (NLt.agg _ (nlcc (nlcc nl0))) nl0) nll,tv⟩<|Qah ?_
  obtain rfl:=osi h
  exact fend ⟨[(B ((x2==0)))],⟨rot,tv⟩,rfl⟩ nll
def Qd5 (N:Nat) (p0:Qaa):Option Bool:=
  (Qka N p0).bind fun x3=>
  some (!x3)
def Zry (p0:Qaa):AV:=.agg [(I p0.Mass),(I p0.Heat),(I p0.Silica),(I p0.Gas)]
def Zgj:Slot:=.own 1 [[(.fn (.func 113) [] [])]]
theorem Qlz (N:Nat) (p0:Qaa) (r:Bool) (h:Qd5 N p0=some r):Spec prog 130 [(Zry p0),(.ref 0 1 (0) 0)] [Zgj] (B r) [Zgj]:=by
  refine Qak func130 rfl 1 (nle rfl) (fun X φ0 w0 hφ0 hd0=>?_)
  unfold Qd5 at h
  refine Qby<|wxz ?_
  obtain⟨x3,hf2,h⟩:=bno h
  refine wx tbk [(2,rp _ _)] ⟨apv Ziw (Qsf N p0 _ hf2) (nlc (NLt.agg _ (nlcc (nlcc nl0))) nl0) nll,tv⟩ ?_
  refine wmr (mto (n:=8) (l':=[(3,(B ((!x3))))]) (own':=[Zgj]) [(3,(B ((!x3))))] [0] [Zgj] hφ0 (pw pn) (qb (lc (.rn (Qbl rn0 rn0)) ln) qn))<|Qah ?_
  obtain rfl:=osi h
  exact⟨_,Mor.rfl,Qcy (vs:=[(B ((!x3)))]) ⟨rot,tv⟩ rfl (NLt.of0 nll) (by kernel_rfl) (Qar (Qa8 (nlc (NLt.of0 (NLt.fn _ _ _ nl0 nl0)) nl0)) Qbx)⟩
def Qbj (N:Nat) (p0:List Qaa) (k2:Unit→Option Int):Nat→Int→Option Int
  |0,_=>none
  |n5+1,y3=>
    bif (decide (y3<(p0.length:Int))) then
     (getI p0 y3).bind fun x7=>
     (Qd5 N x7).bind fun x12=>
     bif x12 then
      some y3
     else
      Qbj N p0 k2 n5 (w64 (y3+1))
    else
     k2 ()
def Qcd (N:Nat) (p0:List Qaa):Option Int:=
  Qbi (fun _=>
    some (-1)) fun k2:Unit→Option Int=>
  Qbj N p0 k2 N 0
def Zbd (p0:List Qaa):AV:=.dat 4 (p0.map Qac)
def Zbc:AV:=.fn (.func 130) [] [(.ref 0 1 (0) 0)]
def Qrt:Slot:=.own 1 [[(.fn (.func 113) [] [])]]
def Zrz (x7:Qaa):AV:=.agg [(I x7.Mass),(I x7.Heat),(I x7.Silica),(I x7.Gas)]
theorem Qg9 (N:Nat) (p0:List Qaa) (r:Int) (h:Qcd N p0=some r):Spec prog 142 [(Zbd p0),Zbc] [Qrt] (I r) [Qrt]:=by
  refine Qak func142 rfl 1 (nle rfl) (fun X φ0 w0 hφ0 hd0=>?_)
  unfold Qcd at h
  refine Qby<|wxz ?_
  obtain⟨k2,hk_k2,h⟩:=jko h
  refine wjn (τ:=Unit) (fun t=>k2 t=some r) (fun _=>⟨mk 19 [],[Qrt]⟩) (fun t h=>?_) ?_
  ·subst hk_k2
   refine wxz<|wmr (mto (n:=19) (l':=[(4,(I ((-1))))]) (own':=[Qrt]) [(4,(I ((-1))))] [0] [Qrt] hφ0 (pw pn) (qb (lc (.rn (Qbl rn0 rn0)) ln) qn))<|Qah ?_
   obtain rfl:=osi h
   exact⟨_,Mor.rfl,Qcy (vs:=[(I ((-1)))]) ⟨rot,tv⟩ rfl (NLt.of0 nll) (by kernel_rfl) (Qar (Qa8 (nlc (NLt.of0 (NLt.fn _ _ _ nl0 nl0)) nl0)) Qbx)⟩
  ·skip
   refine wx tbk [(1,rp _ _)] ⟨alq 4 Qac p0 underlying45,tv⟩<|Qap ?_
   refine wmr (mto (n:=19) (l':=[(0,(Zbd p0)),(1,Zbc),(7,(I ((p0.length:Int)))),(8,I 0)]) (own':=[Qrt]) [(0,(Zbd p0)),(1,Zbc),(7,(I ((p0.length:Int)))),(8,I 0)] [0] [Qrt] hφ0 (pc (rnd Qaf) (pc (.rn (Qbl rn0 (rnc (rqr rfl) rn0))) (pw (pw pn)))) (qb (lc (.rn (Qbl rn0 rn0)) ln) qn)) ?_
   refine Qbv (τ:=Int) (fun n t=>Qbj N p0 k2 n t=some r) (fun y3=>⟨mk 19 [(0,(Zbd p0)),(1,Zbc),(7,(I ((p0.length:Int)))),(8,I y3)],[Qrt]⟩) (fun t h=>by rw[Qbj] at h;cases h) (fun n5 ih y3 h=>?_) N (0) h
   rw[Qbj] at h
   skip
   refine wxz<|wsq ?_
   refine bfe h (fun hc6 h=>?_) fun hc6 h=>?_
   ·refine wft hc6<|Qaq<|thn<|wsq<|Qap<|wxz ?_
    obtain⟨x7,hg8,h⟩:=bno h
    obtain⟨hi9,hj10⟩:=gsm hg8
    obtain⟨x12,hf11,h⟩:=bno h
    refine wx tbk [(3,rp _ _),(5,⟨_,_,_,_,false⟩)] ⟨aiq underlying45 ti63 Qac hi9 hj10,Qat (first:=[]) (cap:=[.ref 0 1 0 0]) (vs:=[(Zrz x7)]) (σr:=[Qrt]) (σr':=[Qrt]) (res':=(B x12)) [0] rfl Zij (Qlz N x7 _ hf11) rfl (Qbq (rnc (.plain _ (NLt.agg _ (nlcc (nlcc nl0)))) (rnc (Qa4 rfl) rn0))) (slc (Qan (rnc (.plain _ (NLt.fn _ _ _ nl0 nl0)) rn0)) Qas) (slc (Qan (rnc (.plain _ (NLt.fn _ _ _ nl0 nl0)) rn0)) Qas) (.plain _ nll) rfl rfl rfl,tv⟩ ?_
    refine bfe h (fun hc13 h=>?_) fun hc13 h=>?_
    ·refine wft hc13<|wxz ?_
     refine wmr (mto (n:=19) (l':=[(4,I y3)]) (own':=[Qrt]) [(4,I y3)] [0] [Qrt] hφ0 (pw pn) (qb (lc (.rn (Qbl rn0 rn0)) ln) qn))<|Qah<|Qau<|Qaj<|Qaj<|Qau<|Qaj ?_
     obtain rfl:=osi h
     exact⟨_,Mor.rfl,Qcy (vs:=[I y3]) ⟨rot,tv⟩ rfl (NLt.of0 nll) (by kernel_rfl) (Qar (Qa8 (nlc (NLt.of0 (NLt.fn _ _ _ nl0 nl0)) nl0)) Qbx)⟩
    ·exact wfn hc13<|Qaq<|bln<|thn<|wxz1<|thn<|arm (mto (n:=19) [(0,(Zbd p0)),(1,Zbc),(7,(I ((p0.length:Int)))),(8,(I (w64 (y3+1))))] [0] [Qrt] hφ0 (pc (rnd Qaf) (pc (.rn (Qbl rn0 (rnc (rqr rfl) rn0))) (pw (pw pn)))) (qb (lc (.rn (Qbl rn0 rn0)) ln) qn)) (ih (w64 (y3+1)) h)
   ·exact wfn hc6<|Qbg<|Qay<|Qay<|Qbf rfl<|thn<|⟨(),h,(mto (n:=19) [] [0] [Qrt] hφ0 pn (qb (lc (.rn (Qbl rn0 rn0)) ln) qn))⟩
def Qb1 (N:Nat) (p0:List Qaa):Option Bool:=
  (Qcd N p0).bind fun x3=>
  some (decide (x3≥0))
def Zps:AV:=.fn (.func 130) [] [(.ref 0 1 (0) 0)]
def Q76:Slot:=.own 1 [[(.fn (.func 113) [] [])]]
theorem Qgi (N:Nat) (p0:List Qaa) (r:Bool) (h:Qb1 N p0=some r):Spec prog 129 [(.dat 4 (p0.map Qac)),Zps] [Q76] (B r) [Q76]:=by
  refine Qak func129 rfl 1 (nle rfl) (fun X φ0 w0 hφ0 hd0=>?_)
  unfold Qb1 at h
  refine Qby<|wxz ?_
  obtain⟨x3,hf2,h⟩:=bno h
  refine wx tbk [(2,⟨_,_,_,_,false⟩)] ⟨Qat (first:=[]) (cap:=[]) (vs:=[(.dat 4 (p0.map Qac)),Zps]) (σr:=[Q76]) (σr':=[Q76]) (res':=(I x3)) [0] rfl Zic (Qg9 N p0 _ hf2) rfl (Qbq (rnc (pld Qaf) (rnc (Qbl rn0 (rnc (Qa4 rfl) rn0)) rn0))) (slc (Qan (rnc (.plain _ (NLt.fn _ _ _ nl0 nl0)) rn0)) Qas) (slc (Qan (rnc (.plain _ (NLt.fn _ _ _ nl0 nl0)) rn0)) Qas) (.plain _ nll) rfl rfl rfl,tv⟩ ?_
  refine wmr (mto (n:=9) (l':=[(4,(B ((decide (x3≥0)))))]) (own':=[Q76]) [(4,(B ((decide (x3≥0)))))] [0] [Q76] hφ0 (pw pn) (qb (lc (.rn (Qbl rn0 rn0)) ln) qn))<|Qah ?_
  obtain rfl:=osi h
  exact⟨_,Mor.rfl,Qcy (vs:=[(B ((decide (x3≥0))))]) ⟨rot,tv⟩ rfl (NLt.of0 nll) (by kernel_rfl) (Qar (Qa8 (nlc (NLt.of0 (NLt.fn _ _ _ nl0 nl0)) nl0)) Qbx)⟩
def Qf1 (N:Nat) (p0:List Qaa):Option Bool:=
  (Qb1 N p0).bind fun x2=>
  some (!x2)
def Zpt:AV:=.fn (.func 130) [] [(.ref 0 1 (0) 0)]
def Zpu:Slot:=.own 1 [[(.fn (.func 113) [] [])]]
theorem Qmq (N:Nat) (p0:List Qaa) (r:Bool) (h:Qf1 N p0=some r):Spec prog 112 [(.dat 4 (p0.map Qac)),(.fn (.func 113) [] [])] [] (B r) []:=by
  refine Qak func112 rfl 0 (nle rfl) (fun X φ0 w0 hφ0 hd0=>?_)
  unfold Qf1 at h
  refine wxz ?_
  obtain⟨x2,hf1,h⟩:=bno h
  refine wx tbk [(1,rp [(.tmp 3,.ref 0 1 0 0)] Zpt),(2,⟨_,_,_,_,false⟩)] ⟨Qew (fs:=[]) (cs:=[.ref 0 1 0 0]) rfl rfl rfl rfl,Qat (first:=[]) (cap:=[]) (vs:=[(.dat 4 (p0.map Qac)),Zpt]) (σr:=[Zpu]) (σr':=[Zpu]) (res':=(B x2)) [0] rfl Zik (Qgi N p0 _ hf1) rfl (Qbq (rnc (pld Qaf) (rnc (Qbl rn0 (rnc (Qa4 rfl) rn0)) rn0))) (slc (Qan (rnc (.plain _ (NLt.fn _ _ _ nl0 nl0)) rn0)) Qas) (slc (Qan (rnc (.plain _ (NLt.fn _ _ _ nl0 nl0)) rn0)) Qas) (.plain _ nll) rfl rfl rfl,tv⟩<|Qah ?_
  obtain rfl:=osi h
  exact fend ⟨[(B ((!x2)))],⟨rot,tv⟩,rfl⟩ nll
def Qfp (N:Nat) (p0:List Qaa) (k5:Int×Int×Int×Int→Option Qaa):Nat→Int→Int→Int→Int→Int→Option Qaa
  |0,_,_,_,_,_=>none
  |n16+1,y6,y7,y8,y9,y10=>
    bif (decide (y6<(p0.length:Int))) then
     (getI p0 y6).bind fun x18=>
     Qfp N p0 k5 n16 (w64 (y6+1)) (w64 (y7+x18.Mass)) (w64 (y8+x18.Heat)) (w64 (y9+x18.Silica)) (w64 (y10+x18.Gas))
    else
     k5 (y7,y8,y9,y10)
def Qgo (N:Nat) (p0:List Qaa):Option Qaa:=
  Qbi (fun ⟨y1,y2,y3,y4⟩=>
    some (⟨y1,y2,y3,y4⟩:Qaa)) fun k5:Int×Int×Int×Int→Option Qaa=>
  Qfp N p0 k5 N 0 0 0 0 0
def Zgi (p0:List Qaa):AV:=.dat 4 (p0.map Qac)
def Zpr:Slot:=.own 4 [[(I (0)),(I (0)),(I (0)),(I (0))]]
theorem Qnh (N:Nat) (p0:List Qaa) (r:Qaa) (h:Qgo N p0=some r):Spec prog 76 [(.dat 4 (p0.map Qac))] [] (.agg (Qac r)) []:=by
  refine Qak func76 rfl 0 (nle rfl) (fun X φ0 w0 hφ0 hd0=>?_)
  unfold Qgo at h
  refine wxz ?_
  obtain⟨k5,hk_k5,h⟩:=jko h
  refine wjn (τ:=Int×Int×Int×Int) (fun t=>k5 t=some r) (fun ⟨y1,y2,y3,y4⟩=>⟨mk 34 [(2,.ref 0 4 0 0)],[(.own 4 [[I y1,I y2,I y3,I y4]])]⟩) (fun t h=>?_) ?_
  ·subst hk_k5
   obtain⟨y1,y2,y3,y4⟩:=t
   refine wxz<|Qah ?_
   obtain rfl:=osi h
   exact fend ⟨[(.agg [I y1,I y2,I y3,I y4])],⟨Qbn (n:=0) (m:=4) (j:=0) (i:=0) (xs:=[[I y1,I y2,I y3,I y4]]) (by kernel_rfl) (by kernel_rfl) ti63 (by decide) rfl (nle rfl) rfl,tv⟩,rfl⟩ (NLt.agg _ (nlcc (nlcc nl0)))
  ·skip
   refine wx tbk [(1,rp _ _)] ⟨alq 4 Qac p0 underlying45,tv⟩<|Qap ?_
   refine wmr (mto (n:=34) (l':=[(2,.ref 0 4 0 0),(5,(Zgi p0)),(6,(I ((p0.length:Int)))),(7,I 0)]) (own':=[Zpr]) [(2,.ref 0 4 0 0),(5,(Zgi p0)),(6,(I ((p0.length:Int)))),(7,I 0)] [0] [Zpr] hφ0 (prr (pc (rnd Qaf) (pw (pw pn)))) (qb (lcc (lcc ln)) qn)) ?_
   refine Qbv (τ:=Int×Int×Int×Int×Int) (fun n t=>Qfp N p0 k5 n t.1 t.2.1 t.2.2.1 t.2.2.2.1 t.2.2.2.2=some r) (fun ⟨y6,y7,y8,y9,y10⟩=>⟨mk 34 [(2,.ref 0 4 0 0),(5,(Zgi p0)),(6,(I ((p0.length:Int)))),(7,I y6)],[(.own 4 [[I y7,I y8,I y9,I y10]])]⟩) (fun t h=>by rw[Qfp] at h;cases h) (fun n16 ih t h=>?_) N (0,0,0,0,0) h
   obtain⟨y6,y7,y8,y9,y10⟩:=t
   rw[Qfp] at h
   skip
   refine wxz<|wsq ?_
   refine bfe h (fun hc17 h=>?_) fun hc17 h=>?_
   ·refine wft hc17<|Qaq<|thn<|wsq<|Qap ?_
    obtain⟨x18,hg19,h⟩:=bno h
    obtain⟨hi20,hj21⟩:=gsm hg19
    refine wx tbk [(0,rp _ _)] ⟨aiq underlying45 ti63 Qac hi20 hj21,tv⟩ ?_
    exact wx1 tbk [(20,rp _ _)] ⟨Qaz (vs:=[(I (w64 (y7+x18.Mass))),(I (w64 (y8+x18.Heat))),(I (w64 (y9+x18.Silica))),(I (w64 (y10+x18.Gas)))]) rfl ts63 tz63 rfl (by rfl) rfl,tv⟩<|bln<|thn<|wxz1<|thn<|arm (mto (n:=34) [(2,.ref 0 4 0 0),(5,(Zgi p0)),(6,(I ((p0.length:Int)))),(7,(I (w64 (y6+1))))] [0] [(.own 4 [[(I (w64 (y7+x18.Mass))),(I (w64 (y8+x18.Heat))),(I (w64 (y9+x18.Silica))),(I (w64 (y10+x18.Gas)))]])] hφ0 (prr (pc (rnd Qaf) (pw (pw pn)))) (qb (lcc (lcc ln)) qn)) (ih (w64 (y6+1),w64 (y7+x18.Mass),w64 (y8+x18.Heat),w64 (y9+x18.Silica),w64 (y10+x18.Gas)) h)
   ·exact wfn hc17<|Qbg<|Qay<|Qay<|Qbf rfl<|thn<|⟨(y7,y8,y9,y10),h,(mto (n:=34) [(2,.ref 0 4 0 0)] [0] [(.own 4 [[I y7,I y8,I y9,I y10]])] hφ0 (prr pn) (qb (lcc (lcc ln)) qn))⟩
def Qi1 (N:Nat) (p0:GNet) (p1:List Qaa):Option Int:=
  Qbi (fun _=>
    (Qgo N p1).bind fun x3=>
    bif (decide (x3.Mass>1000000)) then
     some 3
    else
     bif (decide (x3.Gas>1000000000)) then
      some 3
     else
      some 0) fun k1:Unit→Option Int=>
  (Qjm N p0 1).bind fun x7=>
  bif ((p1.length:Int) != (x7.length:Int)) then
   some 1
  else
   (Qf1 N p1).bind fun x10=>
   bif (!x10) then
    some 1
   else
    k1 ()
def Zbf (p1:List Qaa):AV:=.dat 4 (p1.map Qac)
def Zr1 (p0:GNet):AV:=.dat 5 (p0.Table.map Qav)
def Zr0 (p0:GNet):AV:=.dat 7 (p0.Elements.map Qal)
def Zly (p1:List Qaa) (p0:GNet) (x7:List Int):List (Nat×Rec):=[(1,rp [((.tmp 6),(Zbf p1))] (I ((p1.length:Int)))),(3,rp [fu 67,((.tmp 8),(.agg [(Zr1 p0),(Zr0 p0)])),((.const (.int .u8 1)),(K .u8 (1)))] (.dat 1 (x7.map Qad))),(4,rp [((.tmp 9),(.dat 1 (x7.map Qad)))] (I ((x7.length:Int))))]
theorem Qo0 (N:Nat) (p0:GNet) (p1:List Qaa) (r:Int) (h:Qi1 N p0 p1=some r):Spec prog 94 [(.agg (Qgx p0)),(.dat 4 (p1.map Qac))] [] (I r) []:=by
  refine Qak func94 rfl 0 (nle rfl) (fun X φ0 w0 hφ0 hd0=>?_)
  unfold Qi1 at h
  refine wxz ?_
  obtain⟨k1,hk_k1,h⟩:=jko h
  refine wjn (τ:=Unit) (fun t=>k1 t=some r) (fun _=>⟨mk 27 [(1,(Zbf p1))],[]⟩) (fun t h=>?_) ?_
  ·subst hk_k1
   refine wsq ?_
   obtain⟨x3,hf2,h⟩:=bno h
   refine wx tbk [(1,rp _ _)] ⟨apv Q4p (Qnh N p1 _ hf2) (nlc (nld Qaf _) nl0) (NLt.agg _ (nlcc (nlcc nl0))),tv⟩ ?_
   refine bfe h (fun hb4 h=>?_) fun hb4 h=>?_
   ·refine wx tbk [(3,rp [(.tmp 21,(B ((decide (x3.Mass>1000000)))))] (B true))] ⟨asb hb4 (amv rfl),tv⟩<|wtr<|wxz<|Qah<|Qaj ?_
    obtain rfl:=osi h
    exact fend ⟨[I 3],⟨rot,tv⟩,rfl⟩ nll
   ·refine wx tbk [(3,rp [(.tmp 21,(B ((decide (x3.Mass>1000000)))))] (B false))] ⟨asb hb4 (amv rfl),tv⟩ ?_
    refine bfe h (fun hc5 h=>?_) fun hc5 h=>?_
    ·refine wft hc5<|wxz<|Qah<|Qaj ?_
     obtain rfl:=osi h
     exact fend ⟨[I 3],⟨rot,tv⟩,rfl⟩ nll
    ·refine wfn hc5<|Qaq<|thn<|wxz<|Qah ?_
     obtain rfl:=osi h
     exact fend ⟨[I 0],⟨rot,tv⟩,rfl⟩ nll
  ·skip
   obtain⟨x7,hf6,h⟩:=bno h
   refine hpre (A:=(Zly p1 p0 x7)) ⟨alq 4 Qac p1 underlying45,apv Q4q (Qms N p0 1 _ hf6) (nlc (NLt.agg _ (nlc (nld Qao _) (nlc (nld Qab _) nl0))) (nlc nll nl0)) (nld Qag _),alq 1 Qad x7 underlying27,tv⟩ fun q1_=>?_
   refine bfe h (fun hb8 h=>?_) fun hb8 h=>?_
   ·refine wx tbk (hcat (Zly p1 p0 x7) [(6,rp [(.tmp 11,(B (((p1.length:Int) != (x7.length:Int)))))] (B true))]) (hap q1_ ⟨asb hb8 (amv rfl),tv⟩)<|wtr<|wxz<|Qah<|Qaj ?_
    obtain rfl:=osi h
    exact fend ⟨[I 1],⟨rot,tv⟩,rfl⟩ nll
   ·obtain⟨x10,hf9,h⟩:=bno h
    refine wx tbk (hcat (Zly p1 p0 x7) [(6,rp [(.tmp 11,(B (((p1.length:Int) != (x7.length:Int)))))] (B false)),(8,rp [(.tmp 12,B false),fu 112,(.tmp 13,(Zbf p1)),fu 113] (B x10))]) (hap q1_ ⟨asb hb8 (amv rfl),ag_ (Qat (first:=[]) (cap:=[]) (vs:=[(Zbf p1),(.fn (.func 113) [] [])]) (σr:=[]) (σr':=[]) (res':=(B x10)) [] rfl Zix (Qmq N p1 _ hf9) rfl (Qbq (rnc (pld Qaf) (rnc (.plain _ (NLt.fn _ _ _ nl0 nl0)) rn0))) Qas Qas (.plain _ nll) rfl rfl rfl),tv⟩) ?_
    refine bfe h (fun hc11 h=>?_) fun hc11 h=>?_
    ·refine wft hc11<|wxz<|Qah<|Qaj ?_
     obtain rfl:=osi h
     exact fend ⟨[I 1],⟨rot,tv⟩,rfl⟩ nll
    ·exact wfn hc11<|Qaq<|thn<|⟨(),h,(mto (n:=27) [(1,(Zbf p1))] [] [] hφ0 (pc (rnd Qaf) pn) qn)⟩
def Qra (N:Nat) (p0:GNet) (p1:List Int) (p2:List Qaa):Option Int:=
  (Qjl N p0 p1).bind fun x2=>
  bif (x2 != 0) then
   some x2
  else
   (Qi1 N p0 p2).bind fun x5=>
   some x5
theorem Qxi (N:Nat) (p0:GNet) (p1:List Int) (p2:List Qaa) (r:Int) (h:Qra N p0 p1 p2=some r):Spec prog 57 [(.agg (Qgx p0)),(.dat 1 (p1.map Qad)),(.dat 4 (p2.map Qac))] [] (I r) []:=by
  refine Qak func57 rfl 0 (nle rfl) (fun X φ0 w0 hφ0 hd0=>?_)
  unfold Qra at h
  refine wxz<|wsq ?_
  obtain⟨x2,hf1,h⟩:=bno h
  refine wx tbk [(2,rp _ _)] ⟨apv Zek (Qpp N p0 p1 _ hf1) (nlc (NLt.agg _ (nlc (nld Qao _) (nlc (nld Qab _) nl0))) (nlc (nld Qag _) nl0)) nll,tv⟩<|wxz ?_
  refine bfe h (fun hc3 h=>?_) fun hc3 h=>?_
  ·refine wft hc3<|wxz<|Qah<|Qaj ?_
   obtain rfl:=osi h
   exact fend ⟨[I x2],⟨rot,tv⟩,rfl⟩ nll
  ·refine wfn hc3<|Qaq<|thn ?_
   obtain⟨x5,hf4,h⟩:=bno h
   refine wx tbk [(2,rp _ _)] ⟨apv Zef (Qo0 N p0 p2 _ hf4) (nlc (NLt.agg _ (nlc (nld Qao _) (nlc (nld Qab _) nl0))) (nlc (nld Qaf _) nl0)) nll,tv⟩<|Qah ?_
   obtain rfl:=osi h
   exact fend ⟨[I x5],⟨rot,tv⟩,rfl⟩ nll
def Qk4 (N:Nat) (p0:Int):Option Bool:=
  (Qdj N p0 0 1000).bind fun x2=>
  some x2
theorem Qtd (N:Nat) (p0:Int) (r:Bool) (h:Qk4 N p0=some r):Spec prog 150 [(I p0)] [] (B r) []:=by
  refine Qak func150 rfl 0 (nle rfl) (fun X φ0 w0 hφ0 hd0=>?_)
  unfold Qk4 at h
  refine wxz ?_
  obtain⟨x2,hf1,h⟩:=bno h
  exact wx tbk [(1,rp _ _)] ⟨apv Qkg (Qdq N p0 0 1000 _ hf1) (nlcc (nlc nll nl0)) nll,tv⟩<|Qah<|frb h
def Qg7 (N:Nat) (p0:Int):Option Bool:=
  (Qk4 N p0).bind fun x3=>
  some (!x3)
def Zgf:Slot:=.own 1 [[(.fn (.func 150) [] [])]]
theorem Qph (N:Nat) (p0:Int) (r:Bool) (h:Qg7 N p0=some r):Spec prog 157 [(I p0),(.ref 0 1 (0) 0)] [Zgf] (B r) [Zgf]:=by
  refine Qak func157 rfl 1 (nle rfl) (fun X φ0 w0 hφ0 hd0=>?_)
  unfold Qg7 at h
  refine Qby<|wxz ?_
  obtain⟨x3,hf2,h⟩:=bno h
  refine wx tbk [(2,rp _ _)] ⟨apv Zh4 (Qtd N p0 _ hf2) (nlc nll nl0) nll,tv⟩ ?_
  refine wmr (mto (n:=8) (l':=[(3,(B ((!x3))))]) (own':=[Zgf]) [(3,(B ((!x3))))] [0] [Zgf] hφ0 (pw pn) (qb (lc (.rn (Qbl rn0 rn0)) ln) qn))<|Qah ?_
  obtain rfl:=osi h
  exact⟨_,Mor.rfl,Qcy (vs:=[(B ((!x3)))]) ⟨rot,tv⟩ rfl (NLt.of0 nll) (by kernel_rfl) (Qar (Qa8 (nlc (NLt.of0 (NLt.fn _ _ _ nl0 nl0)) nl0)) Qbx)⟩
def Qcg (N:Nat) (p0:List Int) (k2:Unit→Option Int):Nat→Int→Option Int
  |0,_=>none
  |n5+1,y3=>
    bif (decide (y3<(p0.length:Int))) then
     (getI p0 y3).bind fun x7=>
     (Qg7 N x7).bind fun x12=>
     bif x12 then
      some y3
     else
      Qcg N p0 k2 n5 (w64 (y3+1))
    else
     k2 ()
def Qe2 (N:Nat) (p0:List Int):Option Int:=
  Qbi (fun _=>
    some (-1)) fun k2:Unit→Option Int=>
  Qcg N p0 k2 N 0
def Za7:AV:=.fn (.func 157) [] [(.ref 0 1 (0) 0)]
def Qrs:Slot:=.own 1 [[(.fn (.func 150) [] [])]]
theorem Qle (N:Nat) (p0:List Int) (r:Int) (h:Qe2 N p0=some r):Spec prog 141 [(.dat 1 (p0.map Qad)),Za7] [Qrs] (I r) [Qrs]:=by
  refine Qak func141 rfl 1 (nle rfl) (fun X φ0 w0 hφ0 hd0=>?_)
  unfold Qe2 at h
  refine Qby<|wxz ?_
  obtain⟨k2,hk_k2,h⟩:=jko h
  refine wjn (τ:=Unit) (fun t=>k2 t=some r) (fun _=>⟨mk 19 [],[Qrs]⟩) (fun t h=>?_) ?_
  ·subst hk_k2
   refine wxz<|wmr (mto (n:=19) (l':=[(4,(I ((-1))))]) (own':=[Qrs]) [(4,(I ((-1))))] [0] [Qrs] hφ0 (pw pn) (qb (lc (.rn (Qbl rn0 rn0)) ln) qn))<|Qah ?_
   obtain rfl:=osi h
   exact⟨_,Mor.rfl,Qcy (vs:=[(I ((-1)))]) ⟨rot,tv⟩ rfl (NLt.of0 nll) (by kernel_rfl) (Qar (Qa8 (nlc (NLt.of0 (NLt.fn _ _ _ nl0 nl0)) nl0)) Qbx)⟩
  ·skip
   refine wx tbk [(1,rp _ _)] ⟨alq 1 Qad p0 underlying27,tv⟩<|Qap ?_
   refine wmr (mto (n:=19) (l':=[(0,(.dat 1 (p0.map Qad))),(1,Za7),(7,(I ((p0.length:Int)))),(8,I 0)]) (own':=[Qrs]) [(0,(.dat 1 (p0.map Qad))),(1,Za7),(7,(I ((p0.length:Int)))),(8,I 0)] [0] [Qrs] hφ0 (pc (rnd Qag) (pc (.rn (Qbl rn0 (rnc (rqr rfl) rn0))) (pw (pw pn)))) (qb (lc (.rn (Qbl rn0 rn0)) ln) qn)) ?_
   refine Qbv (τ:=Int) (fun n t=>Qcg N p0 k2 n t=some r) (fun y3=>⟨mk 19 [(0,(.dat 1 (p0.map Qad))),(1,Za7),(7,(I ((p0.length:Int)))),(8,I y3)],[Qrs]⟩) (fun t h=>by rw[Qcg] at h;cases h) (fun n5 ih y3 h=>?_) N (0) h
   rw[Qcg] at h
   skip
   refine wxz<|wsq ?_
   refine bfe h (fun hc6 h=>?_) fun hc6 h=>?_
   ·refine wft hc6<|Qaq<|thn<|wsq<|Qap<|wxz ?_
    obtain⟨x7,hg8,h⟩:=bno h
    obtain⟨hi9,hj10⟩:=gsm hg8
    obtain⟨x12,hf11,h⟩:=bno h
    refine wx tbk [(3,rp _ _),(5,⟨_,_,_,_,false⟩)] ⟨aiq underlying27 ti3 Qad hi9 hj10,Qat (first:=[]) (cap:=[.ref 0 1 0 0]) (vs:=[I x7]) (σr:=[Qrs]) (σr':=[Qrs]) (res':=(B x12)) [0] rfl Zhy (Qph N x7 _ hf11) rfl (Qbq (rnc (.plain _ nll) (rnc (Qa4 rfl) rn0))) (slc (Qan (rnc (.plain _ (NLt.fn _ _ _ nl0 nl0)) rn0)) Qas) (slc (Qan (rnc (.plain _ (NLt.fn _ _ _ nl0 nl0)) rn0)) Qas) (.plain _ nll) rfl rfl rfl,tv⟩ ?_
    refine bfe h (fun hc13 h=>?_) fun hc13 h=>?_
    ·refine wft hc13<|wxz ?_
     refine wmr (mto (n:=19) (l':=[(4,I y3)]) (own':=[Qrs]) [(4,I y3)] [0] [Qrs] hφ0 (pw pn) (qb (lc (.rn (Qbl rn0 rn0)) ln) qn))<|Qah<|Qau<|Qaj<|Qaj<|Qau<|Qaj ?_
     obtain rfl:=osi h
     exact⟨_,Mor.rfl,Qcy (vs:=[I y3]) ⟨rot,tv⟩ rfl (NLt.of0 nll) (by kernel_rfl) (Qar (Qa8 (nlc (NLt.of0 (NLt.fn _ _ _ nl0 nl0)) nl0)) Qbx)⟩
    ·exact wfn hc13<|Qaq<|bln<|thn<|wxz1<|thn<|arm (mto (n:=19) [(0,(.dat 1 (p0.map Qad))),(1,Za7),(7,(I ((p0.length:Int)))),(8,(I (w64 (y3+1))))] [0] [Qrs] hφ0 (pc (rnd Qag) (pc (.rn (Qbl rn0 (rnc (rqr rfl) rn0))) (pw (pw pn)))) (qb (lc (.rn (Qbl rn0 rn0)) ln) qn)) (ih (w64 (y3+1)) h)
   ·exact wfn hc6<|Qbg<|Qay<|Qay<|Qbf rfl<|thn<|⟨(),h,(mto (n:=19) [] [0] [Qrs] hφ0 pn (qb (lc (.rn (Qbl rn0 rn0)) ln) qn))⟩
def Qdd (N:Nat) (p0:List Int):Option Bool:=
  (Qe2 N p0).bind fun x3=>
  some (decide (x3≥0))
def Zpn:AV:=.fn (.func 157) [] [(.ref 0 1 (0) 0)]
def Q75:Slot:=.own 1 [[(.fn (.func 150) [] [])]]
theorem Qjz (N:Nat) (p0:List Int) (r:Bool) (h:Qdd N p0=some r):Spec prog 126 [(.dat 1 (p0.map Qad)),Zpn] [Q75] (B r) [Q75]:=by
  refine Qak func126 rfl 1 (nle rfl) (fun X φ0 w0 hφ0 hd0=>?_)
  unfold Qdd at h
  refine Qby<|wxz ?_
  obtain⟨x3,hf2,h⟩:=bno h
  refine wx tbk [(2,⟨_,_,_,_,false⟩)] ⟨Qat (first:=[]) (cap:=[]) (vs:=[(.dat 1 (p0.map Qad)),Zpn]) (σr:=[Q75]) (σr':=[Q75]) (res':=(I x3)) [0] rfl Qsp (Qle N p0 _ hf2) rfl (Qbq (rnc (pld Qag) (rnc (Qbl rn0 (rnc (Qa4 rfl) rn0)) rn0))) (slc (Qan (rnc (.plain _ (NLt.fn _ _ _ nl0 nl0)) rn0)) Qas) (slc (Qan (rnc (.plain _ (NLt.fn _ _ _ nl0 nl0)) rn0)) Qas) (.plain _ nll) rfl rfl rfl,tv⟩ ?_
  refine wmr (mto (n:=9) (l':=[(4,(B ((decide (x3≥0)))))]) (own':=[Q75]) [(4,(B ((decide (x3≥0)))))] [0] [Q75] hφ0 (pw pn) (qb (lc (.rn (Qbl rn0 rn0)) ln) qn))<|Qah ?_
  obtain rfl:=osi h
  exact⟨_,Mor.rfl,Qcy (vs:=[(B ((decide (x3≥0))))]) ⟨rot,tv⟩ rfl (NLt.of0 nll) (by kernel_rfl) (Qar (Qa8 (nlc (NLt.of0 (NLt.fn _ _ _ nl0 nl0)) nl0)) Qbx)⟩
def Qh7 (N:Nat) (p0:List Int):Option Bool:=
  (Qdd N p0).bind fun x2=>
  some (!x2)
def Zpo:AV:=.fn (.func 157) [] [(.ref 0 1 (0) 0)]
def Zpp:Slot:=.own 1 [[(.fn (.func 150) [] [])]]
theorem Qq3 (N:Nat) (p0:List Int) (r:Bool) (h:Qh7 N p0=some r):Spec prog 151 [(.dat 1 (p0.map Qad)),(.fn (.func 150) [] [])] [] (B r) []:=by
  refine Qak func151 rfl 0 (nle rfl) (fun X φ0 w0 hφ0 hd0=>?_)
  unfold Qh7 at h
  refine wxz ?_
  obtain⟨x2,hf1,h⟩:=bno h
  refine wx tbk [(1,rp [(.tmp 3,.ref 0 1 0 0)] Zpo),(2,⟨_,_,_,_,false⟩)] ⟨Qew (fs:=[]) (cs:=[.ref 0 1 0 0]) rfl rfl rfl rfl,Qat (first:=[]) (cap:=[]) (vs:=[(.dat 1 (p0.map Qad)),Zpo]) (σr:=[Zpp]) (σr':=[Zpp]) (res':=(B x2)) [0] rfl Qsq (Qjz N p0 _ hf1) rfl (Qbq (rnc (pld Qag) (rnc (Qbl rn0 (rnc (Qa4 rfl) rn0)) rn0))) (slc (Qan (rnc (.plain _ (NLt.fn _ _ _ nl0 nl0)) rn0)) Qas) (slc (Qan (rnc (.plain _ (NLt.fn _ _ _ nl0 nl0)) rn0)) Qas) (.plain _ nll) rfl rfl rfl,tv⟩<|Qah ?_
  obtain rfl:=osi h
  exact fend ⟨[(B ((!x2)))],⟨rot,tv⟩,rfl⟩ nll
def Qk3 (_N:Nat) (p0:Int):Option Bool:=
  some (decide (p0>0))
theorem Qtc (N:Nat) (p0:Int) (r:Bool) (h:Qk3 N p0=some r):Spec prog 152 [(I p0)] [] (B r) []:=by
  refine Qak func152 rfl 0 (nle rfl) (fun X φ0 w0 hφ0 hd0=>?_)
  unfold Qk3 at h
  refine wxz<|wxz<|Qah ?_
  obtain rfl:=osi h
  exact fend ⟨[(B ((decide (p0>0))))],⟨rot,tv⟩,rfl⟩ nll
def Qcf (N:Nat) (p0:List Int) (k1:Unit→Option Int):Nat→Int→Option Int
  |0,_=>none
  |n4+1,y2=>
    bif (decide (y2<(p0.length:Int))) then
     (getI p0 y2).bind fun x6=>
     (Qk3 N x6).bind fun x11=>
     bif x11 then
      some y2
     else
      Qcf N p0 k1 n4 (w64 (y2+1))
    else
     k1 ()
def Qe1 (N:Nat) (p0:List Int):Option Int:=
  Qbi (fun _=>
    some (-1)) fun k1:Unit→Option Int=>
  Qcf N p0 k1 N 0
theorem Qld (N:Nat) (p0:List Int) (r:Int) (h:Qe1 N p0=some r):Spec prog 141 [(.dat 1 (p0.map Qad)),(.fn (.func 152) [] [])] [] (I r) []:=by
  refine Qak func141 rfl 0 (nle rfl) (fun X φ0 w0 hφ0 hd0=>?_)
  unfold Qe1 at h
  refine wxz ?_
  obtain⟨k1,hk_k1,h⟩:=jko h
  refine wjn (τ:=Unit) (fun t=>k1 t=some r) (fun _=>⟨mk 19 [],[]⟩) (fun t h=>?_) ?_
  ·subst hk_k1
   refine wxz<|Qah ?_
   obtain rfl:=osi h
   exact fend ⟨[(I ((-1)))],⟨rot,tv⟩,rfl⟩ nll
  ·skip
   refine wx tbk [(1,rp _ _)] ⟨alq 1 Qad p0 underlying27,tv⟩<|Qap ?_
   refine wmr (mto (n:=19) (l':=[(0,(.dat 1 (p0.map Qad))),(1,(.fn (.func 152) [] [])),(7,(I ((p0.length:Int)))),(8,I 0)]) (own':=[]) [(0,(.dat 1 (p0.map Qad))),(1,(.fn (.func 152) [] [])),(7,(I ((p0.length:Int)))),(8,I 0)] [] [] hφ0 (pc (rnd Qag) (pc (.rn (Qbl rn0 rn0)) (pw (pw pn)))) qn) ?_
   refine Qbv (τ:=Int) (fun n t=>Qcf N p0 k1 n t=some r) (fun y2=>⟨mk 19 [(0,(.dat 1 (p0.map Qad))),(1,(.fn (.func 152) [] [])),(7,(I ((p0.length:Int)))),(8,I y2)],[]⟩) (fun t h=>by rw[Qcf] at h;cases h) (fun n4 ih y2 h=>?_) N (0) h
   rw[Qcf] at h
   skip
   refine wxz<|wsq ?_
   refine bfe h (fun hc5 h=>?_) fun hc5 h=>?_
   ·refine wft hc5<|Qaq<|thn<|wsq<|Qap<|wxz ?_
    obtain⟨x6,hg7,h⟩:=bno h
    obtain⟨hi8,hj9⟩:=gsm hg7
    obtain⟨x11,hf10,h⟩:=bno h
    refine wx tbk [(3,rp _ _),(5,rp _ _)] ⟨aiq underlying27 ti3 Qad hi8 hj9,apv Zh2 (Qtc N x6 _ hf10) (nlc nll nl0) nll,tv⟩ ?_
    refine bfe h (fun hc12 h=>?_) fun hc12 h=>?_
    ·refine wft hc12<|wxz<|Qah<|Qau<|Qaj<|Qaj<|Qau<|Qaj ?_
     obtain rfl:=osi h
     exact fend ⟨[I y2],⟨rot,tv⟩,rfl⟩ nll
    ·exact wfn hc12<|Qaq<|bln<|thn<|wxz1<|thn<|arm (mto (n:=19) [(0,(.dat 1 (p0.map Qad))),(1,(.fn (.func 152) [] [])),(7,(I ((p0.length:Int)))),(8,(I (w64 (y2+1))))] [] [] hφ0 (pc (rnd Qag) (pc (.rn (Qbl rn0 rn0)) (pw (pw pn)))) qn) (ih (w64 (y2+1)) h)
   ·exact wfn hc5<|Qbg<|Qay<|Qay<|Qbf rfl<|thn<|⟨(),h,(mto (n:=19) [] [] [] hφ0 pn qn)⟩
def Qcu (N:Nat) (p0:List Int):Option Bool:=
  (Qe1 N p0).bind fun x2=>
  some (decide (x2≥0))
theorem Qjy (N:Nat) (p0:List Int) (r:Bool) (h:Qcu N p0=some r):Spec prog 126 [(.dat 1 (p0.map Qad)),(.fn (.func 152) [] [])] [] (B r) []:=by
  refine Qak func126 rfl 0 (nle rfl) (fun X φ0 w0 hφ0 hd0=>?_)
  unfold Qcu at h
  refine wxz ?_
  obtain⟨x2,hf1,h⟩:=bno h
  refine wx tbk [(2,rp _ _)] ⟨Qat (first:=[]) (cap:=[]) (vs:=[(.dat 1 (p0.map Qad)),(.fn (.func 152) [] [])]) (σr:=[]) (σr':=[]) (res':=(I x2)) [] rfl Qsp (Qld N p0 _ hf1) rfl (Qbq (rnc (pld Qag) (rnc (.plain _ (NLt.fn _ _ _ nl0 nl0)) rn0))) Qas Qas (.plain _ nll) rfl rfl rfl,tv⟩<|Qah ?_
  obtain rfl:=osi h
  exact fend ⟨[(B ((decide (x2≥0))))],⟨rot,tv⟩,rfl⟩ nll
def Qge (_N:Nat) (p0 p1 p2:Int):Option Int:=
  chk (p2 != 0)<|
  some ((w64 (p1*p0)).tmod p2)
theorem Ql3 (N:Nat) (p0 p1:Int) (p2 r:Int) (h:Qge N p0 p1 p2=some r):Spec prog 159 [(I p0),(.ref 0 1 (0) 0),(.ref 1 1 (0) 0)] [(.own 1 [[(I p1)]]),(.own 1 [[(I p2)]])] (I r) [(.own 1 [[(I p1)]]),(.own 1 [[(I p2)]])]:=by
  refine Qak func159 rfl 2 (nle rfl) (fun X φ0 w0 hφ0 hd0=>?_)
  unfold Qge at h
  refine Qby<|wxz ?_
  obtain⟨hz2,h⟩:=cko h
  refine wx tbk [(4,rp [(.tmp 7,(I (w64 (p1*p0)))),(.tmp 8,I p2)] (I ((w64 (p1*p0)).tmod p2)))] ⟨Qw0 rfl (Qmy hz2),tv⟩ ?_
  refine wmr (mto (n:=10) (l':=[(4,(I ((w64 (p1*p0)).tmod p2)))]) (own':=[(.own 1 [[I p1]]),(.own 1 [[I p2]])]) [(4,(I ((w64 (p1*p0)).tmod p2)))] [0,1] [(.own 1 [[I p1]]),(.own 1 [[I p2]])] hφ0 (pw pn) (qb (lc rwl ln) (qb (lc rwl ln) qn)))<|Qah ?_
  obtain rfl:=osi h
  exact⟨_,Mor.rfl,Qcy (vs:=[(I ((w64 (p1*p0)).tmod p2))]) ⟨rot,tv⟩ rfl (NLt.of0 nll) (by kernel_rfl) (Qar (Qa8 (nlc (NLt.of0 nll) nl0)) (Qar (Qa8 (nlc (NLt.of0 nll) nl0)) Qbx))⟩
def Qfu (N:Nat) (p0 p1:Int) (p2:List Int) (p3 p4:Int):Option Int:=
  (getI p2 p1).bind fun x2=>
  (Qge N x2 p3 p4).bind fun x7=>
  (getI p2 p0).bind fun x8=>
  (Qge N x8 p3 p4).bind fun x13=>
  some (w64 (x7-x13))
def Zgd:AV:=.fn (.func 159) [] [(.ref 2 1 (0) 0),(.ref 3 1 (0) 0)]
def Zgc (p2:List Int):Slot:=.own 1 [[(.dat 1 (p2.map Qad))]]
theorem Qny (N:Nat) (p0 p1:Int) (p2:List Int) (p3 p4 r:Int) (h:Qfu N p0 p1 p2 p3 p4=some r):Spec prog 163 [(I p0),(I p1),(.ref 0 1 (0) 0),(.ref 1 1 (0) 0)] [(.own 1 [[Zgd]]),(Zgc p2),(.own 1 [[(I p3)]]),(.own 1 [[(I p4)]])] (I r) [(.own 1 [[Zgd]]),(Zgc p2),(.own 1 [[(I p3)]]),(.own 1 [[(I p4)]])]:=by
  refine Qak func163 rfl 4 (nle rfl) (fun X φ0 w0 hφ0 hd0=>?_)
  unfold Qfu at h
  refine Qby<|wxz ?_
  obtain⟨x2,hg3,h⟩:=bno h
  obtain⟨hi4,hj5⟩:=gsm hg3
  obtain⟨x7,hf6,h⟩:=bno h
  obtain⟨x8,hg9,h⟩:=bno h
  obtain⟨hi10,hj11⟩:=gsm hg9
  obtain⟨x13,hf12,h⟩:=bno h
  refine wxd tbk [(3,rp _ _),(5,⟨_,_,_,_,false⟩),(9,rp _ _),(11,⟨_,_,_,_,false⟩)] ⟨aiq underlying27 ti3 Qad hi4 hj5,Qat (first:=[]) (cap:=[.ref 2 1 0 0,.ref 3 1 0 0]) (vs:=[I x2]) (σr:=[(.own 1 [[I p3]]),(.own 1 [[I p4]])]) (σr':=[(.own 1 [[I p3]]),(.own 1 [[I p4]])]) (res':=(I x7)) [2,3] rfl Q7c (Ql3 N x2 p3 p4 _ hf6) rfl (Qbq (rnc (.plain _ nll) (rnc (Qa4 rfl) (rnc (Qa4 rfl) rn0)))) (slc (Qan (rnc (.plain _ nll) rn0)) (slc (Qan (rnc (.plain _ nll) rn0)) Qas)) (slc (Qan (rnc (.plain _ nll) rn0)) (slc (Qan (rnc (.plain _ nll) rn0)) Qas)) (.plain _ nll) rfl rfl rfl,aiq underlying27 ti3 Qad hi10 hj11,Qat (first:=[]) (cap:=[.ref 2 1 0 0,.ref 3 1 0 0]) (vs:=[I x8]) (σr:=[(.own 1 [[I p3]]),(.own 1 [[I p4]])]) (σr':=[(.own 1 [[I p3]]),(.own 1 [[I p4]])]) (res':=(I x13)) [2,3] rfl Q7c (Ql3 N x8 p3 p4 _ hf12) rfl (Qbq (rnc (.plain _ nll) (rnc (Qa4 rfl) (rnc (Qa4 rfl) rn0)))) (slc (Qan (rnc (.plain _ nll) rn0)) (slc (Qan (rnc (.plain _ nll) rn0)) Qas)) (slc (Qan (rnc (.plain _ nll) rn0)) (slc (Qan (rnc (.plain _ nll) rn0)) Qas)) (.plain _ nll) rfl rfl rfl,tv⟩ ?_
  refine wmr (mto (n:=20) (l':=[(6,(I (w64 (x7-x13))))]) (own':=[(.own 1 [[Zgd]]),(Zgc p2),(.own 1 [[I p3]]),(.own 1 [[I p4]])]) [(6,(I (w64 (x7-x13))))] [0,1,2,3] [(.own 1 [[Zgd]]),(Zgc p2),(.own 1 [[I p3]]),(.own 1 [[I p4]])] hφ0 (pw pn) (qb (lc (.rn (Qbl rn0 (rnc (rqr rfl) (rnc (rqr rfl) rn0)))) ln) (qb (lc (rnd Qag) ln) (qb (lc rwl ln) (qb (lc rwl ln) qn)))))<|Qah ?_
  obtain rfl:=osi h
  exact⟨_,Mor.rfl,Qcy (vs:=[(I (w64 (x7-x13)))]) ⟨rot,tv⟩ rfl (NLt.of0 nll) (by kernel_rfl) (Qar (Qa8 (nlc (NLt.fn _ _ _ nl0 (nlc (NLt.ref _ _ _ _ (by decide)) (nlc (NLt.ref _ _ _ _ (by decide)) nl0))) nl0)) (Qar (Qa8 (nlc (NLt.of0 (nld Qag _)) nl0)) (Qar (Qa8 (nlc (NLt.of0 nll) nl0)) (Qar (Qa8 (nlc (NLt.of0 nll) nl0)) Qbx))))⟩
def Qbt (N p0:Nat) (p1:Int) (p4:List Int) (p5 p6:Int) (k9:(List Int)→Option (List Int)):Nat→Int→(List Int)→Option (List Int)
  |0,_,_=>none
  |n14+1,y10,y11=>
    Qbi (fun _=>
      chk (decide (0≤w64 (y10-1))&&decide ((w64 (y10-1)).toNat<p0))<|
      (y11[(w64 (y10-1)).toNat]?).bind fun x17=>
      chk (decide (0≤y10)&&decide (y10.toNat<p0))<|
      (y11[y10.toNat]?).bind fun x20=>
      chk (decide (0≤y10)&&decide (y10.toNat<p0))<|
      (y11[y10.toNat]?).bind fun _=>
      chk (decide (0≤w64 (y10-1))&&decide ((w64 (y10-1)).toNat<p0))<|
      ((y11.set y10.toNat x17)[(w64 (y10-1)).toNat]?).bind fun _=>
      Qbt N p0 p1 p4 p5 p6 k9 n14 (w64 (y10-1)) ((y11.set y10.toNat x17).set ((w64 (y10-1)).toNat) x20)) fun k15:Unit→Option (List Int)=>
    bif (decide (y10>p1)) then
     chk (decide (0≤y10)&&decide (y10.toNat<p0))<|
     (y11[y10.toNat]?).bind fun x30=>
     chk (decide (0≤w64 (y10-1))&&decide ((w64 (y10-1)).toNat<p0))<|
     (y11[(w64 (y10-1)).toNat]?).bind fun x33=>
     (Qfu N x30 x33 p4 p5 p6).bind fun x36=>
     bif (decide (x36<0)) then
      k15 ()
     else
      k9 (y11)
    else
     k9 (y11)
def Qbd (N p0:Nat) (p1 p2:Int) (p4:List Int) (p5 p6:Int):Nat→Int→(List Int)→Option (List Int)
  |0,_,_=>none
  |n6+1,y2,y3=>
    bif (decide (y2<p2)) then
     Qbi (fun y8=>
       Qbd N p0 p1 p2 p4 p5 p6 n6 (w64 (y2+1)) y8) fun k9:(List Int)→Option (List Int)=>
     Qbt N p0 p1 p4 p5 p6 k9 N y2 y3
    else
     some y3
def Qbz (N p0:Nat) (p1 p2:Int) (p3 p4:List Int) (p5 p6:Int):Option (List Int):=
  Qbd N p0 p1 p2 p4 p5 p6 N (w64 (p1+1)) p3
def Qqy:AV:=.fn (.func 163) [] [(.ref 1 1 (0) 0),(.ref 2 1 (0) 0)]
def Qne:AV:=.fn (.func 159) [] [(.ref 3 1 (0) 0),(.ref 4 1 (0) 0)]
def Qnd (p4:List Int):Slot:=.own 1 [[(.dat 1 (p4.map Qad))]]
theorem Qf9 (N p0:Nat) (p1 p2:Int) (p3 p4:List Int) (p5 p6:Int) (r:List Int) (h:Qbz N p0 p1 p2 p3 p4 p5 p6=some r):Spec prog 165 [(.own 0 1 (0) p0),(I p1),(I p2),Qqy] [(.own 1 (p3.map Qad)),(.own 1 [[Qne]]),(Qnd p4),(.own 1 [[(I p5)]]),(.own 1 [[(I p6)]])] (.tup []) [(.own 1 (r.map Qad)),(.own 1 [[Qne]]),(Qnd p4),(.own 1 [[(I p5)]]),(.own 1 [[(I p6)]])]:=by
  refine Qak func165 rfl 5 (nle rfl) (fun X φ0 w0 hφ0 hd0=>?_)
  unfold Qbz at h
  refine Qby<|wxz<|Qap ?_
  refine wmr (mto (n:=53) (l':=[(0,(.own 0 1 (0) p0)),(1,I p1),(2,I p2),(3,Qqy),(8,(I ((w64 (p1+1)))))]) (own':=[(.own 1 (p3.map Qad)),(.own 1 [[Qne]]),(Qnd p4),(.own 1 [[I p5]]),(.own 1 [[I p6]])]) [(0,(.own 0 1 (0) p0)),(1,I p1),(2,I p2),(3,Qqy),(8,(I (w64 (p1+1))))] [0,1,2,3,4] [(.own 1 (p3.map Qad)),(.own 1 [[Qne]]),(Qnd p4),(.own 1 [[I p5]]),(.own 1 [[I p6]])] hφ0 (pc (.rn (Qa7 rfl)) (pw (pw (pc (.rn (Qbl rn0 (rnc (rqr rfl) (rnc (rqr rfl) rn0)))) (pw pn))))) (qc (spr Qag) (qb (lc (.rn (Qbl rn0 (rnc (rqr rfl) (rnc (rqr rfl) rn0)))) ln) (qb (lc (rnd Qag) ln) (qb (lc rwl ln) (qb (lc rwl ln) qn)))))) ?_
  refine Qbv (τ:=Int×(List Int)) (fun n t=>Qbd N p0 p1 p2 p4 p5 p6 n t.1 t.2=some r) (fun ⟨y2,y3⟩=>⟨mk 53 [(0,(.own 0 1 (0) p0)),(1,I p1),(2,I p2),(3,Qqy),(8,I y2)],[(.own 1 (y3.map Qad)),(.own 1 [[Qne]]),(Qnd p4),(.own 1 [[I p5]]),(.own 1 [[I p6]])]⟩) (fun t h=>by rw[Qbd] at h;cases h) (fun n6 ih t h=>?_) N (w64 (p1+1),p3) h
  obtain⟨y2,y3⟩:=t
  rw[Qbd] at h
  skip
  refine wsq<|wxz ?_
  refine bfe h (fun hc7 h=>?_) fun hc7 h=>?_
  ·refine wft hc7<|Qaq<|thn ?_
   obtain⟨k9,hk_k9,h⟩:=jko h
   refine wjn (τ:=(List Int)) (fun t=>k9 t=some r) (fun y8=>⟨mk 53 [(0,(.own 0 1 (0) p0)),(1,I p1),(2,I p2),(3,Qqy),(8,I y2)],[(.own 1 (y8.map Qad)),(.own 1 [[Qne]]),(Qnd p4),(.own 1 [[I p5]]),(.own 1 [[I p6]])]⟩) (fun y8 h=>?_) ?_
   ·subst hk_k9
    exact wxz1<|thn<|arm (mto (n:=53) [(0,(.own 0 1 (0) p0)),(1,I p1),(2,I p2),(3,Qqy),(8,(I (w64 (y2+1))))] [0,1,2,3,4] [(.own 1 (y8.map Qad)),(.own 1 [[Qne]]),(Qnd p4),(.own 1 [[I p5]]),(.own 1 [[I p6]])] hφ0 (pc (.rn (Qa7 rfl)) (pw (pw (pc (.rn (Qbl rn0 (rnc (rqr rfl) (rnc (rqr rfl) rn0)))) (pw pn))))) (qc (spr Qag) (qb (lc (.rn (Qbl rn0 (rnc (rqr rfl) (rnc (rqr rfl) rn0)))) ln) (qb (lc (rnd Qag) ln) (qb (lc rwl ln) (qb (lc rwl ln) qn)))))) (ih (w64 (y2+1),y8) h)
   ·skip
    refine Qap<|wxz<|Qap ?_
    refine wmr (mto (n:=53) (l':=[(0,(.own 0 1 (0) p0)),(1,I p1),(2,I p2),(3,Qqy),(8,I y2),(9,I y2)]) (own':=[(.own 1 (y3.map Qad)),(.own 1 [[Qne]]),(Qnd p4),(.own 1 [[I p5]]),(.own 1 [[I p6]])]) [(0,(.own 0 1 (0) p0)),(1,I p1),(2,I p2),(3,Qqy),(8,I y2),(9,I y2)] [0,1,2,3,4] [(.own 1 (y3.map Qad)),(.own 1 [[Qne]]),(Qnd p4),(.own 1 [[I p5]]),(.own 1 [[I p6]])] hφ0 (pc (.rn (Qa7 rfl)) (pw (pw (pc (.rn (Qbl rn0 (rnc (rqr rfl) (rnc (rqr rfl) rn0)))) (pw (pw pn)))))) (qc (spr Qag) (qb (lc (.rn (Qbl rn0 (rnc (rqr rfl) (rnc (rqr rfl) rn0)))) ln) (qb (lc (rnd Qag) ln) (qb (lc rwl ln) (qb (lc rwl ln) qn)))))) ?_
    refine Qbv (τ:=Int×(List Int)) (fun n t=>Qbt N p0 p1 p4 p5 p6 k9 n t.1 t.2=some r) (fun ⟨y10,y11⟩=>⟨mk 53 [(0,(.own 0 1 (0) p0)),(1,I p1),(2,I p2),(3,Qqy),(8,I y2),(9,I y10)],[(.own 1 (y11.map Qad)),(.own 1 [[Qne]]),(Qnd p4),(.own 1 [[I p5]]),(.own 1 [[I p6]])]⟩) (fun t h=>by rw[Qbt] at h;cases h) (fun n14 ih t h=>?_) N (y2,y3) h
    obtain⟨y10,y11⟩:=t
    rw[Qbt] at h
    skip
    obtain⟨k15,hk_k15,h⟩:=jko h
    refine wjn (τ:=Unit) (fun t=>k15 t=some r) (fun _=>⟨mk 53 [(0,(.own 0 1 (0) p0)),(1,I p1),(2,I p2),(3,Qqy),(8,I y2),(9,I y10)],[(.own 1 (y11.map Qad)),(.own 1 [[Qne]]),(Qnd p4),(.own 1 [[I p5]]),(.own 1 [[I p6]])]⟩) (fun t h=>?_) ?_
    ·subst hk_k15
     refine wsq<|Qap ?_
     obtain⟨hi16,h⟩:=cko h
     obtain⟨hi16a,hi16b⟩:=Qea hi16
     obtain⟨x17,hg18,h⟩:=bno h
     obtain⟨hi19,h⟩:=cko h
     obtain⟨hi19a,hi19b⟩:=Qea hi19
     obtain⟨x20,hg21,h⟩:=bno h
     obtain⟨hi22,h⟩:=cko h
     obtain⟨hi22a,hi22b⟩:=Qea hi22
     obtain⟨x23,hg24,h⟩:=bno h
     obtain⟨hi25,h⟩:=cko h
     obtain⟨hi25a,hi25b⟩:=Qea hi25
     obtain⟨x26,hg27,h⟩:=bno h
     refine wy1 tbk [(8,rb [(.tmp 42,(.own 0 1 (0) p0)),(.tmp 44,(I (w64 (y10-1))))] [(0,(.own 1 (y11.map Qad)))] (.ref 0 1 ((w64 (y10-1)).toNat) 0)),(9,rb [(.tmp 45,(.ref 0 1 ((w64 (y10-1)).toNat) 0))] [(0,(.own 1 (y11.map Qad)))] (I x17)),(12,rb [(.tmp 47,(.own 0 1 (0) p0)),(.tmp 48,I y10)] [(0,(.own 1 (y11.map Qad)))] (.ref 0 1 y10.toNat 0)),(13,rb [(.tmp 49,(.ref 0 1 y10.toNat 0))] [(0,(.own 1 (y11.map Qad)))] (I x20)),(14,rb [(.tmp 37,(.own 0 1 (0) p0)),(.tmp 38,I y10)] [(0,(.own 1 (y11.map Qad)))] (.ref 0 1 y10.toNat 0)),(15,⟨[(.tmp 51,(.ref 0 1 y10.toNat 0)),(.tmp 46,I x17)],[(0,(.own 1 (y11.map Qad)))],.any,[(0,(.own 1 ((y11.set y10.toNat x17:List Int).map Qad)))],false⟩),(16,rb [(.tmp 39,(.own 0 1 (0) p0)),(.tmp 41,(I (w64 (y10-1))))] [(0,(.own 1 ((y11.set y10.toNat x17:List Int).map Qad)))] (.ref 0 1 ((w64 (y10-1)).toNat) 0)),(17,⟨[(.tmp 52,(.ref 0 1 ((w64 (y10-1)).toNat) 0)),(.tmp 50,I x20)],[(0,(.own 1 ((y11.set y10.toNat x17:List Int).map Qad)))],.any,[(0,(.own 1 (((y11.set y10.toNat x17).set ((w64 (y10-1)).toNat) x20:List Int).map Qad)))],false⟩)] ⟨aio rfl underlying27 ti3 (odt hi16a) (odt hi16b) (Nat.zero_add _),ald rfl ti3 (by decide) (mgt Qad hg18) (nle rfl) rfl,aio rfl underlying27 ti3 (odt hi19a) (odt hi19b) (Nat.zero_add _),ald rfl ti3 (by decide) (mgt Qad hg21) (nle rfl) rfl,aio rfl underlying27 ti3 (odt hi22a) (odt hi22b) (Nat.zero_add _),ast rfl ti3 (by rfl) (mgt Qad hg24) (nle rfl) (Qhk Qad rfl),aio rfl underlying27 ti3 (odt hi25a) (odt hi25b) (Nat.zero_add _),ast rfl ti3 (by rfl) (mgt Qad hg27) (nle rfl) (Qhk Qad rfl),tv⟩<|bln<|thn<|wxz1<|thn ?_
     exact arm (mto (n:=53) [(0,(.own 0 1 (0) p0)),(1,I p1),(2,I p2),(3,Qqy),(8,I y2),(9,(I (w64 (y10-1))))] [0,1,2,3,4] [(.own 1 (((y11.set y10.toNat x17).set ((w64 (y10-1)).toNat) x20:List Int).map Qad)),(.own 1 [[Qne]]),(Qnd p4),(.own 1 [[I p5]]),(.own 1 [[I p6]])] hφ0 (pc (.rn (Qa7 rfl)) (pw (pw (pc (.rn (Qbl rn0 (rnc (rqr rfl) (rnc (rqr rfl) rn0)))) (pw (pw pn)))))) (qc (spr Qag) (qb (lc (.rn (Qbl rn0 (rnc (rqr rfl) (rnc (rqr rfl) rn0)))) ln) (qb (lc (rnd Qag) ln) (qb (lc rwl ln) (qb (lc rwl ln) qn)))))) (ih (w64 (y10-1),(y11.set y10.toNat x17).set ((w64 (y10-1)).toNat) x20) h)
    ·skip
     refine bfe h (fun hb28 h=>?_) fun hb28 h=>?_
     ·obtain⟨hi29,h⟩:=cko h
      obtain⟨hi29a,hi29b⟩:=Qea hi29
      obtain⟨x30,hg31,h⟩:=bno h
      obtain⟨hi32,h⟩:=cko h
      obtain⟨hi32a,hi32b⟩:=Qea hi32
      obtain⟨x33,hg34,h⟩:=bno h
      obtain⟨x36,hf35,h⟩:=bno h
      refine wxd tbk [(3,rp [(.tmp 20,(B ((decide (y10>p1)))))] (B true)),(7,rb [(.tmp 21,B true),(.tmp 23,(.own 0 1 (0) p0)),(.tmp 24,I y10)] [(0,(.own 1 (y11.map Qad)))] (.ref 0 1 y10.toNat 0)),(8,rb [(.tmp 21,B true),(.tmp 25,(.ref 0 1 y10.toNat 0))] [(0,(.own 1 (y11.map Qad)))] (I x30)),(12,rb [(.tmp 21,B true),(.tmp 27,(.own 0 1 (0) p0)),(.tmp 29,(I (w64 (y10-1))))] [(0,(.own 1 (y11.map Qad)))] (.ref 0 1 ((w64 (y10-1)).toNat) 0)),(13,rb [(.tmp 21,B true),(.tmp 30,(.ref 0 1 ((w64 (y10-1)).toNat) 0))] [(0,(.own 1 (y11.map Qad)))] (I x33)),(14,⟨[(.tmp 21,B true),(.tmp 22,Qqy),(.tmp 26,I x30),(.tmp 31,I x33)],[(1,.own 1 [[Qne]]),(2,(Qnd p4)),(3,.own 1 [[I p5]]),(4,.own 1 [[I p6]])],I x36,[(1,.own 1 [[Qne]]),(2,(Qnd p4)),(3,.own 1 [[I p5]]),(4,.own 1 [[I p6]])],false⟩)] ⟨asb hb28 (amv rfl),ag_ (aio rfl underlying27 ti3 (odt hi29a) (odt hi29b) (Nat.zero_add _)),ag_ (ald rfl ti3 (by decide) (mgt Qad hg31) (nle rfl) rfl),ag_ (aio rfl underlying27 ti3 (odt hi32a) (odt hi32b) (Nat.zero_add _)),ag_ (ald rfl ti3 (by decide) (mgt Qad hg34) (nle rfl) rfl),ag_ (Qat (first:=[]) (cap:=[.ref 1 1 0 0,.ref 2 1 0 0]) (vs:=[I x30,I x33]) (σr:=[(.own 1 [[Qne]]),(Qnd p4),(.own 1 [[I p5]]),(.own 1 [[I p6]])]) (σr':=[(.own 1 [[Qne]]),(Qnd p4),(.own 1 [[I p5]]),(.own 1 [[I p6]])]) (res':=(I x36)) [1,2,3,4] rfl Zhu (Qny N x30 x33 p4 p5 p6 _ hf35) rfl (Qbq (rncc (rnc (Qa4 rfl) (rnc (Qa4 rfl) rn0)))) (slc (Qan (rnc (Qbl rn0 (rnc (Qa4 rfl) (rnc (Qa4 rfl) rn0))) rn0)) (slc (Qan (rnc (pld Qag) rn0)) (slc (Qan (rnc (.plain _ nll) rn0)) (slc (Qan (rnc (.plain _ nll) rn0)) Qas)))) (slc (Qan (rnc (Qbl rn0 (rnc (Qb4 rfl) (rnc (Qb4 rfl) rn0))) rn0)) (slc (Qan (rnc (pld Qag) rn0)) (slc (Qan (rnc (.plain _ nll) rn0)) (slc (Qan (rnc (.plain _ nll) rn0)) Qas)))) (.plain _ nll) rfl rfl rfl),tv⟩ ?_
      refine bfe h (fun hc37 h=>?_) fun hc37 h=>?_
      ·exact wft hc37<|Qaq<|thn<|⟨(),h,(mto (n:=53) [(0,(.own 0 1 (0) p0)),(1,I p1),(2,I p2),(3,Qqy),(8,I y2),(9,I y10)] [0,1,2,3,4] [(.own 1 (y11.map Qad)),(.own 1 [[Qne]]),(Qnd p4),(.own 1 [[I p5]]),(.own 1 [[I p6]])] hφ0 (pc (.rn (Qa7 rfl)) (pw (pw (pc (.rn (Qbl rn0 (rnc (rqr rfl) (rnc (rqr rfl) rn0)))) (pw (pw pn)))))) (qc (spr Qag) (qb (lc (.rn (Qbl rn0 (rnc (rqr rfl) (rnc (rqr rfl) rn0)))) ln) (qb (lc (rnd Qag) ln) (qb (lc rwl ln) (qb (lc rwl ln) qn))))))⟩
      ·exact wfn hc37<|Qbg<|Qay<|Qay<|Qbf rfl<|bln<|thn<|⟨(y11),h,(mto (n:=53) [(0,(.own 0 1 (0) p0)),(1,I p1),(2,I p2),(3,Qqy),(8,I y2)] [0,1,2,3,4] [(.own 1 (y11.map Qad)),(.own 1 [[Qne]]),(Qnd p4),(.own 1 [[I p5]]),(.own 1 [[I p6]])] hφ0 (pc (.rn (Qa7 rfl)) (pw (pw (pc (.rn (Qbl rn0 (rnc (rqr rfl) (rnc (rqr rfl) rn0)))) (pw pn))))) (qc (spr Qag) (qb (lc (.rn (Qbl rn0 (rnc (rqr rfl) (rnc (rqr rfl) rn0)))) ln) (qb (lc (rnd Qag) ln) (qb (lc rwl ln) (qb (lc rwl ln) qn))))))⟩
     ·exact wxd tbk [(3,rp [(.tmp 20,(B ((decide (y10>p1)))))] (B false))] ⟨asb hb28 (amv rfl),tv⟩<|wfa<|Qbg<|Qay<|Qay<|Qbf rfl<|bln<|thn<|⟨(y11),h,(mto (n:=53) [(0,(.own 0 1 (0) p0)),(1,I p1),(2,I p2),(3,Qqy),(8,I y2)] [0,1,2,3,4] [(.own 1 (y11.map Qad)),(.own 1 [[Qne]]),(Qnd p4),(.own 1 [[I p5]]),(.own 1 [[I p6]])] hφ0 (pc (.rn (Qa7 rfl)) (pw (pw (pc (.rn (Qbl rn0 (rnc (rqr rfl) (rnc (rqr rfl) rn0)))) (pw pn))))) (qc (spr Qag) (qb (lc (.rn (Qbl rn0 (rnc (rqr rfl) (rnc (rqr rfl) rn0)))) ln) (qb (lc (rnd Qag) ln) (qb (lc rwl ln) (qb (lc rwl ln) qn))))))⟩
  ·refine wfn hc7<|Qbg<|Qay<|Qay<|Qbf rfl ?_
   obtain rfl:=osi h
   exact⟨_,(mto (n:=53) (l':=[]) (own':=[(.own 1 (y3.map Qad)),(.own 1 [[Qne]]),(Qnd p4),(.own 1 [[I p5]]),(.own 1 [[I p6]])]) [] [0,1,2,3,4] [(.own 1 (y3.map Qad)),(.own 1 [[Qne]]),(Qnd p4),(.own 1 [[I p5]]),(.own 1 [[I p6]])] hφ0 pn (qc (spr Qag) (qb (lc (.rn (Qbl rn0 (rnc (rqr rfl) (rnc (rqr rfl) rn0)))) ln) (qb (lc (rnd Qag) ln) (qb (lc rwl ln) (qb (lc rwl ln) qn)))))),Qcy (vs:=[]) tv rfl (NLt.tup _ nl0) (by kernel_rfl) (Qar (Qcw Qag _) (Qar (Qa8 (nlc (NLt.fn _ _ _ nl0 (nlc (NLt.ref _ _ _ _ (by decide)) (nlc (NLt.ref _ _ _ _ (by decide)) nl0))) nl0)) (Qar (Qa8 (nlc (NLt.of0 (nld Qag _)) nl0)) (Qar (Qa8 (nlc (NLt.of0 nll) nl0)) (Qar (Qa8 (nlc (NLt.of0 nll) nl0)) Qbx)))))⟩
def Qdx (N:Nat) (p1:Int) (k9:Unit→Option (List Int)):Nat→Option (List Int)
  |0=>none
  |n10+1=>
    bif (decide (40≤p1)) then
     none
    else
     k9 ()
def Qcc (N:Nat) (p1:Int) (x6:List Int):Nat→Option (List Int)
  |0=>none
  |n7+1=>
    bif (decide (20<p1)) then
     Qbi (fun _=>
       none) fun k9:Unit→Option (List Int)=>
     Qdx N p1 k9 N
    else
     some x6
def Qb7 (N p0:Nat) (p1:Int) (p3:List Int) (k4:Int×(List Int)→Option (List Int)) (p4 p5:Int):Nat→Int→Int→(List Int)→Option (List Int)
  |0,_,_,_=>none
  |n18+1,y12,y13,y14=>
    bif (decide (y13≤p1)) then
     (Qbz N p0 y12 y13 y14 p3 p4 p5).bind fun x21=>
     Qb7 N p0 p1 p3 k4 p4 p5 n18 y13 (w64 (y13+20)) x21
    else
     k4 (y12,y14)
def Qe0 (N p0:Nat) (p1:Int) (p2 p3:List Int) (p4 p5:Int):Option (List Int):=
  Qbi (fun ⟨y2,y3⟩=>
    (Qbz N p0 y2 p1 y3 p3 p4 p5).bind fun x6=>
    Qcc N p1 x6 N) fun k4:Int×(List Int)→Option (List Int)=>
  Qb7 N p0 p1 p3 k4 p4 p5 N 0 20 p2
def Qpa:AV:=.fn (.func 163) [] [(.ref 1 1 (0) 0),(.ref 2 1 (0) 0)]
def Qm3:AV:=.fn (.func 159) [] [(.ref 3 1 (0) 0),(.ref 4 1 (0) 0)]
def Qm2 (p3:List Int):Slot:=.own 1 [[(.dat 1 (p3.map Qad))]]
theorem Qlc (N p0:Nat) (p1:Int) (p2 p3:List Int) (p4 p5:Int) (r:List Int) (h:Qe0 N p0 p1 p2 p3 p4 p5=some r):Spec prog 164 [(.own 0 1 (0) p0),(I p1),Qpa] [(.own 1 (p2.map Qad)),(.own 1 [[Qm3]]),(Qm2 p3),(.own 1 [[(I p4)]]),(.own 1 [[(I p5)]])] (.tup []) [(.own 1 (r.map Qad)),(.own 1 [[Qm3]]),(Qm2 p3),(.own 1 [[(I p4)]]),(.own 1 [[(I p5)]])]:=by
  refine Qak func164 rfl 5 (nle rfl) (fun X φ0 w0 hφ0 hd0=>?_)
  unfold Qe0 at h
  refine Qby<|wxz<|wxz ?_
  obtain⟨k4,hk_k4,h⟩:=jko h
  refine wjn (τ:=Int×(List Int)) (fun t=>k4 t=some r) (fun ⟨y2,y3⟩=>⟨mk 63 [(0,(.own 0 1 (0) p0)),(1,I p1),(2,Qpa),(6,I 20),(7,I y2)],[(.own 1 (y3.map Qad)),(.own 1 [[Qm3]]),(Qm2 p3),(.own 1 [[I p4]]),(.own 1 [[I p5]])]⟩) (fun t h=>?_) ?_
  ·subst hk_k4
   obtain⟨y2,y3⟩:=t
   obtain⟨x6,hf5,h⟩:=bno h
   refine wx tbk [(4,⟨_,_,_,_,false⟩)] ⟨Qat (first:=[]) (cap:=[]) (vs:=[(.own 0 1 (0) p0),I y2,I p1,Qpa]) (σr:=[(.own 1 (y3.map Qad)),(.own 1 [[Qm3]]),(Qm2 p3),(.own 1 [[I p4]]),(.own 1 [[I p5]])]) (σr':=[(.own 1 (x6.map Qad)),(.own 1 [[Qm3]]),(Qm2 p3),(.own 1 [[I p4]]),(.own 1 [[I p5]])]) (res':=(.tup [])) [0,1,2,3,4] rfl Q7b (Qf9 N p0 y2 p1 y3 p3 p4 p5 _ hf5) rfl (Qbq (rnc (Qds rfl) (rncc (rnc (Qbl rn0 (rnc (Qa4 rfl) (rnc (Qa4 rfl) rn0))) rn0)))) (slc (Qbm Qag) (slc (Qan (rnc (Qbl rn0 (rnc (Qa4 rfl) (rnc (Qa4 rfl) rn0))) rn0)) (slc (Qan (rnc (pld Qag) rn0)) (slc (Qan (rnc (.plain _ nll) rn0)) (slc (Qan (rnc (.plain _ nll) rn0)) Qas))))) (slc (Qbm Qag) (slc (Qan (rnc (Qbl rn0 (rnc (Qb4 rfl) (rnc (Qb4 rfl) rn0))) rn0)) (slc (Qan (rnc (pld Qag) rn0)) (slc (Qan (rnc (.plain _ nll) rn0)) (slc (Qan (rnc (.plain _ nll) rn0)) Qas))))) (.plain _ (NLt.tup _ nl0)) rfl rfl rfl,tv⟩<|Qap ?_
   refine wmr (mto (n:=63) (l':=[(0,(.own 0 1 (0) p0)),(1,I p1),(2,Qpa),(6,I 20)]) (own':=[(.own 1 (x6.map Qad)),(.own 1 [[Qm3]]),(Qm2 p3),(.own 1 [[I p4]]),(.own 1 [[I p5]])]) [(0,(.own 0 1 (0) p0)),(1,I p1),(2,Qpa),(6,I 20)] [0,1,2,3,4] [(.own 1 (x6.map Qad)),(.own 1 [[Qm3]]),(Qm2 p3),(.own 1 [[I p4]]),(.own 1 [[I p5]])] hφ0 (pc (.rn (Qa7 rfl)) (pw (pc (.rn (Qbl rn0 (rnc (rqr rfl) (rnc (rqr rfl) rn0)))) (pw pn)))) (qc (spr Qag) (qb (lc (.rn (Qbl rn0 (rnc (rqr rfl) (rnc (rqr rfl) rn0)))) ln) (qb (lc (rnd Qag) ln) (qb (lc rwl ln) (qb (lc rwl ln) qn)))))) ?_
   refine Qbv (τ:=Unit) (fun n t=>Qcc N p1 x6 n=some r) (fun _=>⟨mk 63 [(0,(.own 0 1 (0) p0)),(1,I p1),(2,Qpa),(6,I 20)],[(.own 1 (x6.map Qad)),(.own 1 [[Qm3]]),(Qm2 p3),(.own 1 [[I p4]]),(.own 1 [[I p5]])]⟩) (fun t h=>by rw[Qcc] at h;cases h) (fun n7 ih t h=>?_) N () h
   rw[Qcc] at h
   skip
   refine wsq<|wxz ?_
   refine bfe h (fun hc8 h=>?_) fun hc8 h=>?_
   ·refine wft hc8<|Qaq<|thn<|Qap<|wxz ?_
    obtain⟨k9,hk_k9,h⟩:=jko h
    refine wjn (τ:=Unit) (fun t=>k9 t=some r) (fun _=>⟨mk 63 [(0,(.own 0 1 (0) p0)),(1,I p1),(2,Qpa),(6,I 20),(7,I 0)],[(.own 1 (x6.map Qad)),(.own 1 [[Qm3]]),(Qm2 p3),(.own 1 [[I p4]]),(.own 1 [[I p5]])]⟩) (fun t h=>?_) ?_
    ·subst hk_k9
     refine wsq<|wxz<|wxz<|wft hc8 ?_
     cases h
    ·skip
     refine Qap<|wmr (mto (n:=63) (l':=[(0,(.own 0 1 (0) p0)),(1,I p1),(2,Qpa),(6,I 20),(7,I 0),(8,I 40)]) (own':=[(.own 1 (x6.map Qad)),(.own 1 [[Qm3]]),(Qm2 p3),(.own 1 [[I p4]]),(.own 1 [[I p5]])]) [(0,(.own 0 1 (0) p0)),(1,I p1),(2,Qpa),(6,I 20),(7,I 0),(8,I 40)] [0,1,2,3,4] [(.own 1 (x6.map Qad)),(.own 1 [[Qm3]]),(Qm2 p3),(.own 1 [[I p4]]),(.own 1 [[I p5]])] hφ0 (pc (.rn (Qa7 rfl)) (pw (pc (.rn (Qbl rn0 (rnc (rqr rfl) (rnc (rqr rfl) rn0)))) (pw (pw (pw pn)))))) (qc (spr Qag) (qb (lc (.rn (Qbl rn0 (rnc (rqr rfl) (rnc (rqr rfl) rn0)))) ln) (qb (lc (rnd Qag) ln) (qb (lc rwl ln) (qb (lc rwl ln) qn)))))) ?_
     refine Qbv (τ:=Unit) (fun n t=>Qdx N p1 k9 n=some r) (fun _=>⟨mk 63 [(0,(.own 0 1 (0) p0)),(1,I p1),(2,Qpa),(6,I 20),(7,I 0),(8,I 40)],[(.own 1 (x6.map Qad)),(.own 1 [[Qm3]]),(Qm2 p3),(.own 1 [[I p4]]),(.own 1 [[I p5]])]⟩) (fun t h=>by rw[Qdx] at h;cases h) (fun n10 ih t h=>?_) N () h
     rw[Qdx] at h
     skip
     refine wsq<|wxz ?_
     refine bfe h (fun hc11 h=>?_) fun hc11 h=>?_
     ·refine wft hc11<|Qaq<|thn<|Qap ?_
      cases h
     ·exact wfn hc11<|Qbg<|Qay<|Qay<|Qbf rfl<|thn<|⟨(),h,(mto (n:=63) [(0,(.own 0 1 (0) p0)),(1,I p1),(2,Qpa),(6,I 20),(7,I 0)] [0,1,2,3,4] [(.own 1 (x6.map Qad)),(.own 1 [[Qm3]]),(Qm2 p3),(.own 1 [[I p4]]),(.own 1 [[I p5]])] hφ0 (pc (.rn (Qa7 rfl)) (pw (pc (.rn (Qbl rn0 (rnc (rqr rfl) (rnc (rqr rfl) rn0)))) (pw (pw pn))))) (qc (spr Qag) (qb (lc (.rn (Qbl rn0 (rnc (rqr rfl) (rnc (rqr rfl) rn0)))) ln) (qb (lc (rnd Qag) ln) (qb (lc rwl ln) (qb (lc rwl ln) qn))))))⟩
   ·refine wfn hc8<|Qbg<|Qay<|Qay<|Qbf rfl ?_
    obtain rfl:=osi h
    exact⟨_,(mto (n:=63) (l':=[]) (own':=[(.own 1 (x6.map Qad)),(.own 1 [[Qm3]]),(Qm2 p3),(.own 1 [[I p4]]),(.own 1 [[I p5]])]) [] [0,1,2,3,4] [(.own 1 (x6.map Qad)),(.own 1 [[Qm3]]),(Qm2 p3),(.own 1 [[I p4]]),(.own 1 [[I p5]])] hφ0 pn (qc (spr Qag) (qb (lc (.rn (Qbl rn0 (rnc (rqr rfl) (rnc (rqr rfl) rn0)))) ln) (qb (lc (rnd Qag) ln) (qb (lc rwl ln) (qb (lc rwl ln) qn)))))),Qcy (vs:=[]) tv rfl (NLt.tup _ nl0) (by kernel_rfl) (Qar (Qcw Qag _) (Qar (Qa8 (nlc (NLt.fn _ _ _ nl0 (nlc (NLt.ref _ _ _ _ (by decide)) (nlc (NLt.ref _ _ _ _ (by decide)) nl0))) nl0)) (Qar (Qa8 (nlc (NLt.of0 (nld Qag _)) nl0)) (Qar (Qa8 (nlc (NLt.of0 nll) nl0)) (Qar (Qa8 (nlc (NLt.of0 nll) nl0)) Qbx)))))⟩
  ·skip
   refine Qap<|wmr (mto (n:=63) (l':=[(0,(.own 0 1 (0) p0)),(1,I p1),(2,Qpa),(6,I 20),(7,I 0),(8,I 20)]) (own':=[(.own 1 (p2.map Qad)),(.own 1 [[Qm3]]),(Qm2 p3),(.own 1 [[I p4]]),(.own 1 [[I p5]])]) [(0,(.own 0 1 (0) p0)),(1,I p1),(2,Qpa),(6,I 20),(7,I 0),(8,I 20)] [0,1,2,3,4] [(.own 1 (p2.map Qad)),(.own 1 [[Qm3]]),(Qm2 p3),(.own 1 [[I p4]]),(.own 1 [[I p5]])] hφ0 (pc (.rn (Qa7 rfl)) (pw (pc (.rn (Qbl rn0 (rnc (rqr rfl) (rnc (rqr rfl) rn0)))) (pw (pw (pw pn)))))) (qc (spr Qag) (qb (lc (.rn (Qbl rn0 (rnc (rqr rfl) (rnc (rqr rfl) rn0)))) ln) (qb (lc (rnd Qag) ln) (qb (lc rwl ln) (qb (lc rwl ln) qn)))))) ?_
   refine Qbv (τ:=Int×Int×(List Int)) (fun n t=>Qb7 N p0 p1 p3 k4 p4 p5 n t.1 t.2.1 t.2.2=some r) (fun ⟨y12,y13,y14⟩=>⟨mk 63 [(0,(.own 0 1 (0) p0)),(1,I p1),(2,Qpa),(6,I 20),(7,I y12),(8,I y13)],[(.own 1 (y14.map Qad)),(.own 1 [[Qm3]]),(Qm2 p3),(.own 1 [[I p4]]),(.own 1 [[I p5]])]⟩) (fun t h=>by rw[Qb7] at h;cases h) (fun n18 ih t h=>?_) N (0,20,p2) h
   obtain⟨y12,y13,y14⟩:=t
   rw[Qb7] at h
   skip
   refine wsq<|wxz ?_
   refine bfe h (fun hc19 h=>?_) fun hc19 h=>?_
   ·refine wft hc19<|Qaq<|thn<|Qap ?_
    obtain⟨x21,hf20,h⟩:=bno h
    refine wx tbk [(4,⟨_,_,_,_,false⟩)] ⟨Qat (first:=[]) (cap:=[]) (vs:=[(.own 0 1 (0) p0),I y12,I y13,Qpa]) (σr:=[(.own 1 (y14.map Qad)),(.own 1 [[Qm3]]),(Qm2 p3),(.own 1 [[I p4]]),(.own 1 [[I p5]])]) (σr':=[(.own 1 (x21.map Qad)),(.own 1 [[Qm3]]),(Qm2 p3),(.own 1 [[I p4]]),(.own 1 [[I p5]])]) (res':=(.tup [])) [0,1,2,3,4] rfl Q7b (Qf9 N p0 y12 y13 y14 p3 p4 p5 _ hf20) rfl (Qbq (rnc (Qds rfl) (rncc (rnc (Qbl rn0 (rnc (Qa4 rfl) (rnc (Qa4 rfl) rn0))) rn0)))) (slc (Qbm Qag) (slc (Qan (rnc (Qbl rn0 (rnc (Qa4 rfl) (rnc (Qa4 rfl) rn0))) rn0)) (slc (Qan (rnc (pld Qag) rn0)) (slc (Qan (rnc (.plain _ nll) rn0)) (slc (Qan (rnc (.plain _ nll) rn0)) Qas))))) (slc (Qbm Qag) (slc (Qan (rnc (Qbl rn0 (rnc (Qb4 rfl) (rnc (Qb4 rfl) rn0))) rn0)) (slc (Qan (rnc (pld Qag) rn0)) (slc (Qan (rnc (.plain _ nll) rn0)) (slc (Qan (rnc (.plain _ nll) rn0)) Qas))))) (.plain _ (NLt.tup _ nl0)) rfl rfl rfl,tv⟩<|wxz<|wxz1<|bln<|thn ?_
    exact arm (mto (n:=63) [(0,(.own 0 1 (0) p0)),(1,I p1),(2,Qpa),(6,I 20),(7,I y13),(8,(I (w64 (y13+20))))] [0,1,2,3,4] [(.own 1 (x21.map Qad)),(.own 1 [[Qm3]]),(Qm2 p3),(.own 1 [[I p4]]),(.own 1 [[I p5]])] hφ0 (pc (.rn (Qa7 rfl)) (pw (pc (.rn (Qbl rn0 (rnc (rqr rfl) (rnc (rqr rfl) rn0)))) (pw (pw (pw pn)))))) (qc (spr Qag) (qb (lc (.rn (Qbl rn0 (rnc (rqr rfl) (rnc (rqr rfl) rn0)))) ln) (qb (lc (rnd Qag) ln) (qb (lc rwl ln) (qb (lc rwl ln) qn)))))) (ih (y13,w64 (y13+20),x21) h)
   ·exact wfn hc19<|Qbg<|Qay<|Qay<|Qbf rfl<|thn<|⟨(y12,y14),h,(mto (n:=63) [(0,(.own 0 1 (0) p0)),(1,I p1),(2,Qpa),(6,I 20),(7,I y12)] [0,1,2,3,4] [(.own 1 (y14.map Qad)),(.own 1 [[Qm3]]),(Qm2 p3),(.own 1 [[I p4]]),(.own 1 [[I p5]])] hφ0 (pc (.rn (Qa7 rfl)) (pw (pc (.rn (Qbl rn0 (rnc (rqr rfl) (rnc (rqr rfl) rn0)))) (pw (pw pn))))) (qc (spr Qag) (qb (lc (.rn (Qbl rn0 (rnc (rqr rfl) (rnc (rqr rfl) rn0)))) ln) (qb (lc (rnd Qag) ln) (qb (lc rwl ln) (qb (lc rwl ln) qn))))))⟩
def Qcm (N p0:Nat) (p1 p2:List Int) (p3 p4:Int):Option (List Int):=
  (Qe0 N p0 ((p0:Nat):Int) p1 p2 p3 p4).bind fun x3=>
  some x3
def Zpk:AV:=.fn (.func 163) [] [(.ref 1 1 (0) 0),(.ref 2 1 (0) 0)]
def Q74:AV:=.fn (.func 159) [] [(.ref 3 1 (0) 0),(.ref 4 1 (0) 0)]
def Q73 (p2:List Int):Slot:=.own 1 [[(.dat 1 (p2.map Qad))]]
theorem Qjd (N p0:Nat) (p1 p2:List Int) (p3 p4:Int) (r:List Int) (h:Qcm N p0 p1 p2 p3 p4=some r):Spec prog 162 [(.own 0 1 (0) p0),Zpk] [(.own 1 (p1.map Qad)),(.own 1 [[Q74]]),(Q73 p2),(.own 1 [[(I p3)]]),(.own 1 [[(I p4)]])] (.tup []) [(.own 1 (r.map Qad)),(.own 1 [[Q74]]),(Q73 p2),(.own 1 [[(I p3)]]),(.own 1 [[(I p4)]])]:=by
  refine Qak func162 rfl 5 (nle rfl) (fun X φ0 w0 hφ0 hd0=>?_)
  unfold Qcm at h
  refine Qby ?_
  obtain⟨x3,hf2,h⟩:=bno h
  refine wx1 tbk [(2,rp [(.tmp 5,(.own 0 1 (0) p0))] (I (((p0:Nat):Int)))),(4,⟨_,_,_,_,false⟩)] ⟨aln rfl underlying27 rfl,Qat (first:=[]) (cap:=[]) (vs:=[(.own 0 1 (0) p0),(I (((p0:Nat):Int))),Zpk]) (σr:=[(.own 1 (p1.map Qad)),(.own 1 [[Q74]]),(Q73 p2),(.own 1 [[I p3]]),(.own 1 [[I p4]])]) (σr':=[(.own 1 (x3.map Qad)),(.own 1 [[Q74]]),(Q73 p2),(.own 1 [[I p3]]),(.own 1 [[I p4]])]) (res':=(.tup [])) [0,1,2,3,4] rfl Zht (Qlc N p0 ((p0:Nat):Int) p1 p2 p3 p4 _ hf2) rfl (Qbq (rnc (Qds rfl) (rnc (.plain _ nll) (rnc (Qbl rn0 (rnc (Qa4 rfl) (rnc (Qa4 rfl) rn0))) rn0)))) (slc (Qbm Qag) (slc (Qan (rnc (Qbl rn0 (rnc (Qa4 rfl) (rnc (Qa4 rfl) rn0))) rn0)) (slc (Qan (rnc (pld Qag) rn0)) (slc (Qan (rnc (.plain _ nll) rn0)) (slc (Qan (rnc (.plain _ nll) rn0)) Qas))))) (slc (Qbm Qag) (slc (Qan (rnc (Qbl rn0 (rnc (Qb4 rfl) (rnc (Qb4 rfl) rn0))) rn0)) (slc (Qan (rnc (pld Qag) rn0)) (slc (Qan (rnc (.plain _ nll) rn0)) (slc (Qan (rnc (.plain _ nll) rn0)) Qas))))) (.plain _ (NLt.tup _ nl0)) rfl rfl rfl,tv⟩ ?_
  obtain rfl:=osi h
  exact⟨_,(mto (n:=9) (l':=[]) (own':=[(.own 1 (x3.map Qad)),(.own 1 [[Q74]]),(Q73 p2),(.own 1 [[I p3]]),(.own 1 [[I p4]])]) [] [0,1,2,3,4] [(.own 1 (x3.map Qad)),(.own 1 [[Q74]]),(Q73 p2),(.own 1 [[I p3]]),(.own 1 [[I p4]])] hφ0 pn (qc (spr Qag) (qb (lc (.rn (Qbl rn0 (rnc (rqr rfl) (rnc (rqr rfl) rn0)))) ln) (qb (lc (rnd Qag) ln) (qb (lc rwl ln) (qb (lc rwl ln) qn)))))),Qcy (vs:=[]) tv rfl (NLt.tup _ nl0) (by kernel_rfl) (Qar (Qcw Qag _) (Qar (Qa8 (nlc (NLt.fn _ _ _ nl0 (nlc (NLt.ref _ _ _ _ (by decide)) (nlc (NLt.ref _ _ _ _ (by decide)) nl0))) nl0)) (Qar (Qa8 (nlc (NLt.of0 (nld Qag _)) nl0)) (Qar (Qa8 (nlc (NLt.of0 nll) nl0)) (Qar (Qa8 (nlc (NLt.of0 nll) nl0)) Qbx)))))⟩
def Qc4 (N:Nat) (p0:List Int) (k4:(List Int)→Option (List Int)):Nat→Int→(List Int)→Option (List Int)
  |0,_,_=>none
  |n13+1,y9,y10=>
    bif (decide (y9<(p0.length:Int))) then
     chk (decide ((y10.length+([y9]).length)*8≤140737488355328))<|
     Qc4 N p0 k4 n13 (w64 (y9+1)) (y10++([y9]))
    else
     k4 (y10)
def Qgh (N:Nat) (p0:List Int) (p1 p2:Int):Option (List Int):=
  Qbi (fun y3=>
    chk (!y3.isEmpty)<|
    (Qcm N y3.length y3 p0 p1 p2).bind fun x7=>
    chk (decide (y3.length≤x7.length))<|
    some (x7.take y3.length)) fun k4:(List Int)→Option (List Int)=>
  Qc4 N p0 k4 N 0 ([]:List Int)
def Qul:AV:=.fn (.func 159) [] [(.ref 0 1 (0) 0),(.ref 1 1 (0) 0)]
def Qva (p0:List Int):Slot:=.own 1 [[(.dat 1 (p0.map Qad))]]
def Zge:AV:=.fn (.func 163) [] [(.ref 3 1 (0) 0),(.ref 2 1 (0) 0)]
def Q5u (x7 y3:List Int):AV:=.dat 1 ((x7.take y3.length:List Int).map Qad)
def Zpl:Slot:=.gro 1 ((([]:List Int):List Int).map Qad)
theorem Qo4 (N:Nat) (p0:List Int) (p1 p2:Int) (r:List Int) (h:Qgh N p0 p1 p2=some r):Spec prog 158 [(.dat 1 (p0.map Qad)),Qul] [(.own 1 [[(I p1)]]),(.own 1 [[(I p2)]])] (.dat 1 (r.map Qad)) [(.own 1 [[(I p1)]]),(.own 1 [[(I p2)]])]:=by
  refine Qak func158 rfl 2 (nle rfl) (fun X φ0 w0 hφ0 hd0=>?_)
  unfold Qgh at h
  refine Qby<|wxz<|wxz ?_
  obtain⟨k4,hk_k4,h⟩:=jko h
  refine wjn (τ:=(List Int)) (fun t=>k4 t=some r) (fun y3=>⟨mk 21 [(2,.ref 2 1 0 0),(3,.ref 3 1 0 0),(5,(.gro 4 3 1 y3.length))],[(.own 1 [[I p1]]),(.own 1 [[I p2]]),(Qva p0),(.own 1 [[Qul]]),(.gro 1 (y3.map Qad))]⟩) (fun y3 h=>?_) ?_
  ·subst hk_k4
   obtain⟨hz5,h⟩:=cko h
   obtain⟨x7,hf6,h⟩:=bno h
   refine wx tbk [(1,rp [(.tmp 3,.ref 3 1 0 0),(.tmp 2,.ref 2 1 0 0)] Zge),(2,⟨[fu 162,(.tmp 17,(.gro 4 3 1 y3.length)),(.tmp 18,Zge)],[(4,(.gro 1 (y3.map Qad))),(3,.own 1 [[Qul]]),(2,(Qva p0)),(0,.own 1 [[I p1]]),(1,.own 1 [[I p2]])],(.tup []),[(4,(.own 1 (x7.map Qad))),(3,.own 1 [[Qul]]),(2,(Qva p0)),(0,.own 1 [[I p1]]),(1,.own 1 [[I p2]])],false⟩)] ⟨Qew (fs:=[]) (cs:=[.ref 3 1 0 0,.ref 2 1 0 0]) rfl rfl rfl rfl,Q43 (bl':=[(4,(.own 1 (y3.map Qad))),(3,.own 1 [[Qul]]),(2,(Qva p0)),(0,.own 1 [[I p1]]),(1,.own 1 [[I p2]])]) ⟨rfl,SLess.gro (Qon hz5),rfl,SLess.rfl,rfl,SLess.rfl,rfl,SLess.rfl,rfl,SLess.rfl,tv⟩ (awk (rd':=[fu 162,(.tmp 17,(.own 4 1 (0) y3.length)),(.tmp 18,Zge)]) ⟨rfl,lrf,rfl,Less.gro,rfl,lrf,tv⟩ (Qat (first:=[]) (cap:=[]) (vs:=[(.own 4 1 (0) y3.length),Zge]) (σr:=[(.own 1 (y3.map Qad)),(.own 1 [[Qul]]),(Qva p0),(.own 1 [[I p1]]),(.own 1 [[I p2]])]) (σr':=[(.own 1 (x7.map Qad)),(.own 1 [[Qul]]),(Qva p0),(.own 1 [[I p1]]),(.own 1 [[I p2]])]) (res':=(.tup [])) [4,3,2,0,1] rfl Zhv (Qjd N y3.length y3 p0 p1 p2 _ hf6) rfl (Qbq (rnc (Qds rfl) (rnc (Qbl rn0 (rnc (Qa4 rfl) (rnc (Qa4 rfl) rn0))) rn0))) (slc (Qbm Qag) (slc (Qan (rnc (Qbl rn0 (rnc (Qa4 rfl) (rnc (Qa4 rfl) rn0))) rn0)) (slc (Qan (rnc (pld Qag) rn0)) (slc (Qan (rnc (.plain _ nll) rn0)) (slc (Qan (rnc (.plain _ nll) rn0)) Qas))))) (slc (Qbm Qag) (slc (Qan (rnc (Qbl rn0 (rnc (Qb4 rfl) (rnc (Qb4 rfl) rn0))) rn0)) (slc (Qan (rnc (pld Qag) rn0)) (slc (Qan (rnc (.plain _ nll) rn0)) (slc (Qan (rnc (.plain _ nll) rn0)) Qas))))) (.plain _ (NLt.tup _ nl0)) rfl rfl rfl)),tv⟩<|wxz ?_
   obtain⟨hz8,h⟩:=cko h
   refine wmr (Zhk (n:=21) (l':=[(4,(.own 4 1 (0) y3.length))]) [(4,(.gro 4 3 1 y3.length))] (by kernel_rfl) (by kernel_rfl) ⟨rfl,Less.gro,tv⟩) ?_
   refine wmr (Q6y (n:=21) (l':=[(4,(Q5u x7 y3))]) 4 [(4,(.own 4 1 (0) y3.length))] (by kernel_rfl) (by kernel_rfl) (by kernel_rfl) ⟨rfl,(Qnr hz8),tv⟩ rfl) ?_
   refine wmr (mto (n:=21) (l':=[(4,(Q5u x7 y3))]) (own':=[(.own 1 [[I p1]]),(.own 1 [[I p2]])]) [(4,(Q5u x7 y3))] [0,1] [(.own 1 [[I p1]]),(.own 1 [[I p2]])] hφ0 (pc (rnd Qag) pn) (qb (lc rwl ln) (qb (lc rwl ln) qn)))<|Qah ?_
   obtain rfl:=osi h
   exact⟨_,Mor.rfl,Qcy (vs:=[(Q5u x7 y3)]) ⟨rot,tv⟩ rfl (NLt.of0 (nld Qag _)) (by kernel_rfl) (Qar (Qa8 (nlc (NLt.of0 nll) nl0)) (Qar (Qa8 (nlc (NLt.of0 nll) nl0)) Qbx))⟩
  ·skip
   refine wx tbk [(1,rp _ _)] ⟨alq 1 Qad p0 underlying27,tv⟩<|Qap ?_
   refine wmr (Mor.trans (Zhj 4 3 1 5 (by kernel_rfl) (by kernel_rfl)) (mto (n:=21) (l':=[(2,.ref 2 1 0 0),(3,.ref 3 1 0 0),(5,(.gro 4 3 1 (([]:List Int).length))),(8,(I ((p0.length:Int)))),(9,I 0)]) (own':=[(.own 1 [[I p1]]),(.own 1 [[I p2]]),(Qva p0),(.own 1 [[Qul]]),Zpl]) [(2,.ref 2 1 0 0),(3,.ref 3 1 0 0),(5,(.gro 4 3 1 (([]:List Int).length))),(8,(I ((p0.length:Int)))),(9,I 0)] [0,1,2,3,4] [(.own 1 [[I p1]]),(.own 1 [[I p2]]),(Qva p0),(.own 1 [[Qul]]),Zpl] hφ0 (prr (prr (pc (.rn (Q35 rfl)) (pw (pw pn))))) (qb (lc rwl ln) (qb (lc rwl ln) (qb (lc (rnd Qag) ln) (qb (lc (.rn (Qbl rn0 (rnc (rqr rfl) (rnc (rqr rfl) rn0)))) ln) (qc (Qza Qag) qn))))))) ?_
   refine Qbv (τ:=Int×(List Int)) (fun n t=>Qc4 N p0 k4 n t.1 t.2=some r) (fun ⟨y9,y10⟩=>⟨mk 21 [(2,.ref 2 1 0 0),(3,.ref 3 1 0 0),(5,(.gro 4 3 1 y10.length)),(8,(I ((p0.length:Int)))),(9,I y9)],[(.own 1 [[I p1]]),(.own 1 [[I p2]]),(Qva p0),(.own 1 [[Qul]]),(.gro 1 (y10.map Qad))]⟩) (fun t h=>by rw[Qc4] at h;cases h) (fun n13 ih t h=>?_) N (0,([]:List Int)) h
   obtain⟨y9,y10⟩:=t
   rw[Qc4] at h
   skip
   refine wxz<|wsq ?_
   refine bfe h (fun hc14 h=>?_) fun hc14 h=>?_
   ·refine wft hc14<|Qaq<|thn<|wsq<|Qap<|wxz ?_
    obtain⟨ha15,h⟩:=cko h
    refine wx1 tbk [(2,rp [(.tmp 13,I y9)] (.dat 1 (([y9]:List Int).map Qad))),(3,⟨[(.tmp 12,(.gro 4 3 1 y10.length)),(.tmp 14,(.dat 1 (([y9]:List Int).map Qad)))],[(4,(.gro 1 (y10.map Qad))),(5,.unused)],(.gro 5 3 1 ((y10++([y9])).length)),[(4,.dead),(5,(.gro 1 ((y10++([y9]):List Int).map Qad)))],false⟩)] ?_ ?_
    ·exact⟨Qbo (vs:=[I y9]) rfl underlying27 ti3 tz3 rfl (by decide) rfl (by decide) (by rfl) (by rfl) (by rfl) rfl,Q5a (c:=Qad) (a:=y10) (b:=[y9]) rfl underlying27 te3 rfl (Qon rfl) (by rfl) ha15 (by decide),tv⟩
    exact bln<|thn<|wxz1<|thn<|arm (mto (n:=21) [(2,.ref 2 1 0 0),(3,.ref 3 1 0 0),(5,(.gro 5 3 1 ((y10++([y9])).length))),(8,(I ((p0.length:Int)))),(9,(I (w64 (y9+1))))] [0,1,2,3,5] [(.own 1 [[I p1]]),(.own 1 [[I p2]]),(Qva p0),(.own 1 [[Qul]]),(.gro 1 ((y10++([y9]):List Int).map Qad))] hφ0 (prr (prr (pc (.rn (Q35 rfl)) (pw (pw pn))))) (qb (lc rwl ln) (qb (lc rwl ln) (qb (lc (rnd Qag) ln) (qb (lc (.rn (Qbl rn0 (rnc (rqr rfl) (rnc (rqr rfl) rn0)))) ln) (qc (Qza Qag) qn)))))) (ih (w64 (y9+1),y10++([y9])) h)
   ·exact wfn hc14<|Qbg<|Qay<|Qay<|Qbf rfl<|thn<|⟨(y10),h,(mto (n:=21) [(2,.ref 2 1 0 0),(3,.ref 3 1 0 0),(5,(.gro 4 3 1 y10.length))] [0,1,2,3,4] [(.own 1 [[I p1]]),(.own 1 [[I p2]]),(Qva p0),(.own 1 [[Qul]]),(.gro 1 (y10.map Qad))] hφ0 (prr (prr (pc (.rn (Q35 rfl)) pn))) (qb (lc rwl ln) (qb (lc rwl ln) (qb (lc (rnd Qag) ln) (qb (lc (.rn (Qbl rn0 (rnc (rqr rfl) (rnc (rqr rfl) rn0)))) ln) (qc (Qza Qag) qn))))))⟩
def Qen (N:Nat) (p1:List Int) (y6:Int) (k10:(List Int)→Option (List Int)) (x13:List Int):Nat→Int→(List Int)→Option (List Int)
  |0,_,_=>none
  |n19+1,y15,y16=>
    bif (decide (y15<(((x13).take (y6.toNat-0)).length:Int))) then
     (getI ((x13).take (y6.toNat-0)) y15).bind fun x21=>
     chk (decide (0≤x21)&&decide (x21.toNat<(p1.length:Int).toNat))<|
     (y16[x21.toNat]?).bind fun x26=>
     chk (decide (0≤x21)&&decide (x21.toNat<(p1.length:Int).toNat))<|
     (y16[x21.toNat]?).bind fun _=>
     Qen N p1 y6 k10 x13 n19 (w64 (y15+1)) (y16.set x21.toNat (w64 (x26+1)))
    else
     k10 (y16)
def Qem (N:Nat) (p0:Int) (p1:List Int) (y3:Int) (k8:Int×(List Int)→Option (List Int)):Nat→Int→Int→(List Int)→Option (List Int)
  |0,_,_,_=>none
  |n37+1,y31,y32,y33=>
    bif (decide (y32<(p1.length:Int))) then
     (getI p1 y32).bind fun x39=>
     chk (y3 != 0)<|
     chk (decide (0≤y32)&&decide (y32.toNat<(p1.length:Int).toNat))<|
     (y33[y32.toNat]?).bind fun _=>
     chk (decide (0≤y32)&&decide (y32.toNat<(p1.length:Int).toNat))<|
     ((y33.set y32.toNat (w64 ((w64 (p0*x39)).tdiv y3)))[y32.toNat]?).bind fun x48=>
     Qem N p0 p1 y3 k8 n37 (w64 (y31-x48)) (w64 (y32+1)) (y33.set y32.toNat (w64 ((w64 (p0*x39)).tdiv y3)))
    else
     k8 (y31,y33)
def Qel (N:Nat) (p1:List Int) (k4:Int→Option (List Int)):Nat→Int→Int→Option (List Int)
  |0,_,_=>none
  |n54+1,y50,y51=>
    bif (decide (y50<(p1.length:Int))) then
     (getI p1 y50).bind fun x56=>
     Qel N p1 k4 n54 (w64 (y50+1)) (w64 (y51+x56))
    else
     k4 (y51)
def Qjw (N:Nat) (p0:Int) (p1:List Int):Option (List Int):=
  Qbi (fun y3=>
    chk (decide (0≤(p1.length:Int))&&decide (8*(p1.length:Int)≤281474976710656)&&decide ((p1.length:Int)≤9223372036854775807))<|
    Qbi (fun ⟨y6,y7⟩=>
      Qbi (fun y9=>
        chk (decide ((p1.length:Int).toNat≤y9.length))<|
        some (y9.take ((p1.length:Int).toNat))) fun k10:(List Int)→Option (List Int)=>
      (Qgh N p1 p0 y3).bind fun x13=>
      chk (decide (0≤0)&&decide (0≤y6)&&decide (y6≤(x13.length:Int)))<|
      Qen N p1 y6 k10 x13 N 0 y7) fun k8:Int×(List Int)→Option (List Int)=>
    Qem N p0 p1 y3 k8 N p0 0 (List.replicate (p1.length:Int).toNat 0)) fun k4:Int→Option (List Int)=>
  Qel N p1 k4 N 0 0
def Zpm (p1:List Int):Slot:=.own 1 ((List.replicate (p1.length:Int).toNat 0:List Int).map Qad)
def Q5w (y9 p1:List Int):AV:=.dat 1 ((y9.take ((p1.length:Int).toNat):List Int).map Qad)
def Zkc:AV:=.fn (.func 159) [] [(.ref 0 1 (0) 0),(.ref 1 1 (0) 0)]
def Q0r (x13:List Int) (y6:Int):AV:=.dat 1 (((x13).take (y6.toNat-0):List Int).map Qad)
def Q5v (y33:List Int) (y32 p0:Int) (x39 y3:Int):Slot:=.own 1 ((y33.set y32.toNat (w64 ((w64 (p0*x39)).tdiv y3)):List Int).map Qad)
theorem Quq (N:Nat) (p0:Int) (p1 r:List Int) (h:Qjw N p0 p1=some r):Spec prog 153 [(I p0),(.dat 1 (p1.map Qad))] [] (.dat 1 (r.map Qad)) []:=by
  refine Qak func153 rfl 0 (nle rfl) (fun X φ0 w0 hφ0 hd0=>?_)
  unfold Qjw at h
  refine Qby<|wxz<|wxz ?_
  obtain⟨k4,hk_k4,h⟩:=jko h
  refine wjn (τ:=Int) (fun t=>k4 t=some r) (fun y3=>⟨mk 68 [(1,(.dat 1 (p1.map Qad))),(2,.ref 0 1 0 0),(5,.ref 1 1 0 0)],[(.own 1 [[I p0]]),(.own 1 [[I y3]])]⟩) (fun y3 h=>?_) ?_
  ·subst hk_k4
   obtain⟨hm5,h⟩:=cko h
   refine wxd tbk [(1,rp _ _),(2,⟨[(.tmp 25,(I ((p1.length:Int)))),(.tmp 25,(I ((p1.length:Int))))],[(2,.unused)],(.own 2 1 (0) ((p1.length:Int).toNat)),[(2,(Zpm p1))],false⟩)] ⟨alq 1 Qad p1 underlying27,Qmd rfl underlying27 te3 tz3 rfl (Qt2 hm5) rfl (Qt1 hm5) (Qyp hm5) (Qvq Qad rfl),tv⟩ ?_
   obtain⟨k8,hk_k8,h⟩:=jko h
   refine wjn (τ:=Int×(List Int)) (fun t=>k8 t=some r) (fun ⟨y6,y7⟩=>⟨mk 68 [(1,(.dat 1 (p1.map Qad))),(2,.ref 0 1 0 0),(5,.ref 1 1 0 0),(8,(.own 2 1 (0) ((p1.length:Int).toNat))),(9,I y6)],[(.own 1 [[I p0]]),(.own 1 [[I y3]]),(.own 1 (y7.map Qad))]⟩) (fun t h=>?_) ?_
   ·subst hk_k8
    obtain⟨y6,y7⟩:=t
    obtain⟨k10,hk_k10,h⟩:=jko h
    refine wjn (τ:=(List Int)) (fun t=>k10 t=some r) (fun y9=>⟨mk 68 [(8,(.own 0 1 (0) ((p1.length:Int).toNat)))],[(.own 1 (y9.map Qad))]⟩) (fun y9 h=>?_) ?_
    ·subst hk_k10
     refine wxz ?_
     obtain⟨hz11,h⟩:=cko h
     refine wmr (Q6y (n:=68) (l':=[(4,(Q5w y9 p1))]) 0 [(4,(.own 0 1 (0) ((p1.length:Int).toNat)))] (by kernel_rfl) (by kernel_rfl) (by kernel_rfl) ⟨rfl,(Qnr hz11),tv⟩ rfl) ?_
     refine wmr (mto (n:=68) (l':=[(4,(Q5w y9 p1))]) (own':=[]) [(4,(Q5w y9 p1))] [] [] hφ0 (pc (rnd Qag) pn) qn)<|Qah ?_
     obtain rfl:=osi h
     exact⟨_,Mor.rfl,Qcy (vs:=[(Q5w y9 p1)]) ⟨rot,tv⟩ rfl (nld Qag _) (by kernel_rfl) Qbx⟩
    ·skip
     obtain⟨x13,hf12,h⟩:=bno h
     obtain⟨hs14,h⟩:=cko h
     refine wx tbk [(1,rp [(.tmp 2,.ref 0 1 0 0),(.tmp 5,.ref 1 1 0 0)] Zkc),(2,⟨_,_,_,_,false⟩),(4,rp [(.tmp 52,(.dat 1 (x13.map Qad))),(.tmp 53,I y6)] (Q0r x13 y6)),(5,rp _ _)] ⟨Qew (fs:=[]) (cs:=[.ref 0 1 0 0,.ref 1 1 0 0]) rfl rfl rfl rfl,Qat (first:=[]) (cap:=[]) (vs:=[(.dat 1 (p1.map Qad)),Zkc]) (σr:=[(.own 1 [[I p0]]),(.own 1 [[I y3]])]) (σr':=[(.own 1 [[I p0]]),(.own 1 [[I y3]])]) (res':=(.dat 1 (x13.map Qad))) [0,1] rfl Zhx (Qo4 N p1 p0 y3 _ hf12) rfl (Qbq (rnc (pld Qag) (rnc (Qbl rn0 (rnc (Qa4 rfl) (rnc (Qa4 rfl) rn0))) rn0))) (slc (Qan (rnc (.plain _ nll) rn0)) (slc (Qan (rnc (.plain _ nll) rn0)) Qas)) (slc (Qan (rnc (.plain _ nll) rn0)) (slc (Qan (rnc (.plain _ nll) rn0)) Qas)) (pld Qag) rfl rfl rfl,Qit (k:=.i64) (k':=.i64) (lo:=none) (hi:=some (.tmp 53)) (l:=0) (hh:=y6) rfl underlying27 ti3 rfl (fun _=>rfl) (fun e=>nomatch e) (Qt2 hs14) (Qt1 hs14) (Q5d Qad hs14) (Zsx Qad),alq 1 Qad ((x13).take (y6.toNat-0)) underlying27,tv⟩<|Qap ?_
     refine wmr (mto (n:=68) (l':=[(8,(.own 0 1 (0) ((p1.length:Int).toNat))),(54,(Q0r x13 y6)),(55,(I ((((x13).take (y6.toNat-0)).length:Int)))),(56,I 0)]) (own':=[(.own 1 (y7.map Qad))]) [(8,(.own 2 1 (0) ((p1.length:Int).toNat))),(54,(Q0r x13 y6)),(55,(I ((((x13).take (y6.toNat-0)).length:Int)))),(56,I 0)] [2] [(.own 1 (y7.map Qad))] hφ0 (pc (.rn (Qa7 rfl)) (pc (rnd Qag) (pw (pw pn)))) (qc (spr Qag) qn)) ?_
     refine Qbv (τ:=Int×(List Int)) (fun n t=>Qen N p1 y6 k10 x13 n t.1 t.2=some r) (fun ⟨y15,y16⟩=>⟨mk 68 [(8,(.own 0 1 (0) ((p1.length:Int).toNat))),(54,(Q0r x13 y6)),(55,(I ((((x13).take (y6.toNat-0)).length:Int)))),(56,I y15)],[(.own 1 (y16.map Qad))]⟩) (fun t h=>by rw[Qen] at h;cases h) (fun n19 ih t h=>?_) N (0,y7) h
     obtain⟨y15,y16⟩:=t
     rw[Qen] at h
     skip
     refine wxz<|wsq ?_
     refine bfe h (fun hc20 h=>?_) fun hc20 h=>?_
     ·refine wft hc20<|Qaq<|thn<|wsq<|Qap ?_
      obtain⟨x21,hg22,h⟩:=bno h
      obtain⟨hi23,hj24⟩:=gsm hg22
      refine wx tbk [(0,rp _ _)] ⟨aiq underlying27 ti3 Qad hi23 hj24,tv⟩ ?_
      obtain⟨hi25,h⟩:=cko h
      obtain⟨hi25a,hi25b⟩:=Qea hi25
      obtain⟨x26,hg27,h⟩:=bno h
      obtain⟨hi28,h⟩:=cko h
      obtain⟨hi28a,hi28b⟩:=Qea hi28
      obtain⟨x29,hg30,h⟩:=bno h
      refine wx1 tbk [(2,rb [(.tmp 60,(.own 0 1 (0) ((p1.length:Int).toNat))),(.tmp 61,I x21)] [(0,(.own 1 (y16.map Qad)))] (.ref 0 1 x21.toNat 0)),(3,rb [(.tmp 62,(.ref 0 1 x21.toNat 0))] [(0,(.own 1 (y16.map Qad)))] (I x26)),(5,rb [(.tmp 60,(.own 0 1 (0) ((p1.length:Int).toNat))),(.tmp 61,I x21)] [(0,(.own 1 (y16.map Qad)))] (.ref 0 1 x21.toNat 0)),(6,⟨[(.tmp 65,(.ref 0 1 x21.toNat 0)),(.tmp 64,(I (w64 (x26+1))))],[(0,(.own 1 (y16.map Qad)))],.any,[(0,(.own 1 ((y16.set x21.toNat (w64 (x26+1)):List Int).map Qad)))],false⟩)] ⟨aio rfl underlying27 ti3 (odt hi25a) (odt hi25b) (Nat.zero_add _),ald rfl ti3 (by decide) (mgt Qad hg27) (nle rfl) rfl,aio rfl underlying27 ti3 (odt hi28a) (odt hi28b) (Nat.zero_add _),ast rfl ti3 (by rfl) (mgt Qad hg30) (nle rfl) (Qhk Qad rfl),tv⟩<|bln<|thn<|wxz1<|thn ?_
      exact arm (mto (n:=68) [(8,(.own 0 1 (0) ((p1.length:Int).toNat))),(54,(Q0r x13 y6)),(55,(I ((((x13).take (y6.toNat-0)).length:Int)))),(56,(I (w64 (y15+1))))] [0] [(.own 1 ((y16.set x21.toNat (w64 (x26+1)):List Int).map Qad))] hφ0 (pc (.rn (Qa7 rfl)) (pc (rnd Qag) (pw (pw pn)))) (qc (spr Qag) qn)) (ih (w64 (y15+1),y16.set x21.toNat (w64 (x26+1))) h)
     ·exact wfn hc20<|Qbg<|Qay<|Qay<|Qbf rfl<|thn<|⟨(y16),h,(mto (n:=68) [(8,(.own 0 1 (0) ((p1.length:Int).toNat)))] [0] [(.own 1 (y16.map Qad))] hφ0 (pc (.rn (Qa7 rfl)) pn) (qc (spr Qag) qn))⟩
   ·skip
    refine wx tbk [(1,rp _ _)] ⟨alq 1 Qad p1 underlying27,tv⟩<|Qap ?_
    refine wmr (mto (n:=68) (l':=[(1,(.dat 1 (p1.map Qad))),(2,.ref 0 1 0 0),(5,.ref 1 1 0 0),(8,(.own 2 1 (0) ((p1.length:Int).toNat))),(9,I p0),(28,(.dat 1 (p1.map Qad))),(29,(I ((p1.length:Int)))),(30,I 0)]) (own':=[(.own 1 [[I p0]]),(.own 1 [[I y3]]),(.own 1 (((List.replicate (p1.length:Int).toNat 0):List Int).map Qad))]) [(1,(.dat 1 (p1.map Qad))),(2,.ref 0 1 0 0),(5,.ref 1 1 0 0),(8,(.own 2 1 (0) ((p1.length:Int).toNat))),(9,I p0),(28,(.dat 1 (p1.map Qad))),(29,(I ((p1.length:Int)))),(30,I 0)] [0,1,2] [(.own 1 [[I p0]]),(.own 1 [[I y3]]),(Zpm p1)] hφ0 (pc (rnd Qag) (prr (prr (pc (.rn (Qa7 rfl)) (pw (pc (rnd Qag) (pw (pw pn)))))))) (qb (lc rwl ln) (qb (lc rwl ln) (qc (spr Qag) qn)))) ?_
    refine Qbv (τ:=Int×Int×(List Int)) (fun n t=>Qem N p0 p1 y3 k8 n t.1 t.2.1 t.2.2=some r) (fun ⟨y31,y32,y33⟩=>⟨mk 68 [(1,(.dat 1 (p1.map Qad))),(2,.ref 0 1 0 0),(5,.ref 1 1 0 0),(8,(.own 2 1 (0) ((p1.length:Int).toNat))),(9,I y31),(28,(.dat 1 (p1.map Qad))),(29,(I ((p1.length:Int)))),(30,I y32)],[(.own 1 [[I p0]]),(.own 1 [[I y3]]),(.own 1 (y33.map Qad))]⟩) (fun t h=>by rw[Qem] at h;cases h) (fun n37 ih t h=>?_) N (p0,0,List.replicate (p1.length:Int).toNat 0) h
    obtain⟨y31,y32,y33⟩:=t
    rw[Qem] at h
    skip
    refine wxz<|wsq ?_
    refine bfe h (fun hc38 h=>?_) fun hc38 h=>?_
    ·refine wft hc38<|Qaq<|thn<|wsq<|Qap ?_
     obtain⟨x39,hg40,h⟩:=bno h
     obtain⟨hi41,hj42⟩:=gsm hg40
     refine wx tbk [(1,rp _ _)] ⟨aiq underlying27 ti3 Qad hi41 hj42,tv⟩ ?_
     obtain⟨hz43,h⟩:=cko h
     obtain⟨hi44,h⟩:=cko h
     obtain⟨hi44a,hi44b⟩:=Qea hi44
     obtain⟨x45,hg46,h⟩:=bno h
     refine wx tbk [(6,rp [(.tmp 39,(I (w64 (p0*x39)))),(.tmp 40,I y3)] (I (w64 ((w64 (p0*x39)).tdiv y3)))),(7,rb [(.tmp 35,(.own 2 1 (0) ((p1.length:Int).toNat))),(.tmp 36,I y32)] [(2,(.own 1 (y33.map Qad)))] (.ref 2 1 y32.toNat 0)),(8,⟨[(.tmp 42,(.ref 2 1 y32.toNat 0)),(.tmp 41,(I (w64 ((w64 (p0*x39)).tdiv y3))))],[(2,(.own 1 (y33.map Qad)))],.any,[(2,(Q5v y33 y32 p0 x39 y3))],false⟩)] ⟨Qlu rfl (Qmy hz43),aio rfl underlying27 ti3 (odt hi44a) (odt hi44b) (Nat.zero_add _),ast rfl ti3 (by rfl) (mgt Qad hg46) (nle rfl) (Qhk Qad rfl),tv⟩ ?_
     obtain⟨hi47,h⟩:=cko h
     obtain⟨hi47a,hi47b⟩:=Qea hi47
     obtain⟨x48,hg49,h⟩:=bno h
     refine wx1 tbk [(3,rb [(.tmp 44,(.own 2 1 (0) ((p1.length:Int).toNat))),(.tmp 45,I y32)] [(2,(Q5v y33 y32 p0 x39 y3))] (.ref 2 1 y32.toNat 0)),(4,rb [(.tmp 46,(.ref 2 1 y32.toNat 0))] [(2,(Q5v y33 y32 p0 x39 y3))] (I x48))] ⟨aio rfl underlying27 ti3 (odt hi47a) (odt hi47b) (Nat.zero_add _),ald rfl ti3 (by decide) (mgt Qad hg49) (nle rfl) rfl,tv⟩<|bln<|thn<|wxz1<|thn ?_
     exact arm (mto (n:=68) [(1,(.dat 1 (p1.map Qad))),(2,.ref 0 1 0 0),(5,.ref 1 1 0 0),(8,(.own 2 1 (0) ((p1.length:Int).toNat))),(9,(I (w64 (y31-x48)))),(28,(.dat 1 (p1.map Qad))),(29,(I ((p1.length:Int)))),(30,(I (w64 (y32+1))))] [0,1,2] [(.own 1 [[I p0]]),(.own 1 [[I y3]]),(Q5v y33 y32 p0 x39 y3)] hφ0 (pc (rnd Qag) (prr (prr (pc (.rn (Qa7 rfl)) (pw (pc (rnd Qag) (pw (pw pn)))))))) (qb (lc rwl ln) (qb (lc rwl ln) (qc (spr Qag) qn)))) (ih (w64 (y31-x48),w64 (y32+1),y33.set y32.toNat (w64 ((w64 (p0*x39)).tdiv y3))) h)
    ·exact wfn hc38<|Qbg<|Qay<|Qay<|Qbf rfl<|thn<|⟨(y31,y33),h,(mto (n:=68) [(1,(.dat 1 (p1.map Qad))),(2,.ref 0 1 0 0),(5,.ref 1 1 0 0),(8,(.own 2 1 (0) ((p1.length:Int).toNat))),(9,I y31)] [0,1,2] [(.own 1 [[I p0]]),(.own 1 [[I y3]]),(.own 1 (y33.map Qad))] hφ0 (pc (rnd Qag) (prr (prr (pc (.rn (Qa7 rfl)) (pw pn))))) (qb (lc rwl ln) (qb (lc rwl ln) (qc (spr Qag) qn))))⟩
  ·skip
   refine wx tbk [(1,rp _ _)] ⟨alq 1 Qad p1 underlying27,tv⟩<|Qap ?_
   refine wmr (mto (n:=68) (l':=[(1,(.dat 1 (p1.map Qad))),(2,.ref 0 1 0 0),(5,.ref 1 1 0 0),(14,(.dat 1 (p1.map Qad))),(15,(I ((p1.length:Int)))),(16,I 0)]) (own':=[(.own 1 [[I p0]]),(.own 1 [[I 0]])]) [(1,(.dat 1 (p1.map Qad))),(2,.ref 0 1 0 0),(5,.ref 1 1 0 0),(14,(.dat 1 (p1.map Qad))),(15,(I ((p1.length:Int)))),(16,I 0)] [0,1] [(.own 1 [[I p0]]),(.own 1 [[I 0]])] hφ0 (pc (rnd Qag) (prr (prr (pc (rnd Qag) (pw (pw pn)))))) (qb (lc rwl ln) (qb (lc rwl ln) qn))) ?_
   refine Qbv (τ:=Int×Int) (fun n t=>Qel N p1 k4 n t.1 t.2=some r) (fun ⟨y50,y51⟩=>⟨mk 68 [(1,(.dat 1 (p1.map Qad))),(2,.ref 0 1 0 0),(5,.ref 1 1 0 0),(14,(.dat 1 (p1.map Qad))),(15,(I ((p1.length:Int)))),(16,I y50)],[(.own 1 [[I p0]]),(.own 1 [[I y51]])]⟩) (fun t h=>by rw[Qel] at h;cases h) (fun n54 ih t h=>?_) N (0,0) h
   obtain⟨y50,y51⟩:=t
   rw[Qel] at h
   skip
   refine wxz<|wsq ?_
   refine bfe h (fun hc55 h=>?_) fun hc55 h=>?_
   ·refine wft hc55<|Qaq<|thn<|wsq<|Qap ?_
    obtain⟨x56,hg57,h⟩:=bno h
    obtain⟨hi58,hj59⟩:=gsm hg57
    exact wx tbk [(0,rp _ _)] ⟨aiq underlying27 ti3 Qad hi58 hj59,tv⟩<|wxz1<|bln<|thn<|wxz1<|thn<|arm (mto (n:=68) [(1,(.dat 1 (p1.map Qad))),(2,.ref 0 1 0 0),(5,.ref 1 1 0 0),(14,(.dat 1 (p1.map Qad))),(15,(I ((p1.length:Int)))),(16,(I (w64 (y50+1))))] [0,1] [(.own 1 [[I p0]]),(.own 1 [[(I (w64 (y51+x56)))]])] hφ0 (pc (rnd Qag) (prr (prr (pc (rnd Qag) (pw (pw pn)))))) (qb (lc rwl ln) (qb (lc rwl ln) qn))) (ih (w64 (y50+1),w64 (y51+x56)) h)
   ·exact wfn hc55<|Qbg<|Qay<|Qay<|Qbf rfl<|thn<|⟨(y51),h,(mto (n:=68) [(1,(.dat 1 (p1.map Qad))),(2,.ref 0 1 0 0),(5,.ref 1 1 0 0)] [0,1] [(.own 1 [[I p0]]),(.own 1 [[I y51]])] hφ0 (pc (rnd Qag) (prr (prr pn))) (qb (lc rwl ln) (qb (lc rwl ln) qn)))⟩
def Qf3 (_N:Nat) (p0 p1:Int) (p2 _p3:Int) (_p4 _p5:Int):Option Int:=
  chk ((if p2>1 then p2 else 1) != 0)<|
  (some (w64 ((w64 (p0*p1)).tdiv (if p2>1 then p2 else 1)))).bind fun x2=>
  some x2
theorem Qjc (N:Nat) (p0 p1:Int) (p2 p3:Int) (p4 p5 r:Int) (h:Qf3 N p0 p1 p2 p3 p4 p5=some r):Spec prog 154 [(I p0),(.dptr [(I p1)] 0),(.dptr [(I p2),(I p3),(I p4),(I p5)] 0)] [] (I r) []:=by
  refine Qak func154 rfl 0 (nle rfl) (fun X φ0 w0 hφ0 hd0=>?_)
  unfold Qf3 at h
  refine wxz ?_
  obtain⟨hz1,h⟩:=cko h
  obtain⟨x2,hl3,h⟩:=bno h
  refine wx tbk [(5,rp [ci 1,(.tmp 9,I p2)] (I ((if p2>1 then p2 else 1)))),(6,rp [(.tmp 7,(I (w64 (p0*p1)))),(.tmp 10,(I ((if p2>1 then p2 else 1))))] (I (w64 ((w64 (p0*p1)).tdiv (if p2>1 then p2 else 1))))),(7,rp [(.tmp 11,(I (w64 ((w64 (p0*p1)).tdiv (if p2>1 then p2 else 1)))))] (I x2))] ⟨Qiu rfl,Qlu rfl (Qmy hz1),Qin hl3 (aas rfl),tv⟩<|Qah ?_
  obtain rfl:=osi h
  exact fend ⟨[I x2],⟨rot,tv⟩,rfl⟩ nll
def Qcz (_N:Nat) (_p0 _p1:Int) (_p2 _p3:Int):Option Unit:=
  some ()
def Q0p (p0 p1:Int) (p2 p3:Int):Slot:=.own 4 [[(I p0),(I p1),(I p2),(I p3)]]
def Zlu:AV:=.agg [(.ref 0 4 (0) 0),(.ref 0 4 (0) 1),(.ref 0 4 (0) 2),(.ref 0 4 (0) 3)]
def Zlt:Slot:=.own 4 [[(.ref 0 4 (0) 0),(.ref 0 4 (0) 1),(.ref 0 4 (0) 2),(.ref 0 4 (0) 3)]]
theorem Qd4 (N:Nat) (p0 p1:Int) (p2 p3:Int) (r:Unit) (h:Qcz N p0 p1 p2 p3=some r):Spec prog 161 [(.ref 0 4 (0) 0)] [(Q0p p0 p1 p2 p3)] Zlu [(Q0p p0 p1 p2 p3),Zlt]:=by
  refine Qak func161 rfl 2 (nle rfl) (fun X φ0 w0 hφ0 hd0=>?_)
  unfold Qcz at h
  refine Qby<|wxz ?_
  refine wxd tbk [(1,rb [(.tmp 3,.ref 0 4 0 0)] [(0,(Q0p p0 p1 p2 p3))] (.ref 0 4 0 0)),(4,rb [(.tmp 6,.ref 0 4 0 0)] [(0,(Q0p p0 p1 p2 p3))] (.ref 0 4 0 0)),(7,rb [(.tmp 9,.ref 0 4 0 0)] [(0,(Q0p p0 p1 p2 p3))] (.ref 0 4 0 0)),(10,rb [(.tmp 12,.ref 0 4 0 0)] [(0,(Q0p p0 p1 p2 p3))] (.ref 0 4 0 0)),(12,rp [(.tmp 5,.ref 0 4 0 0),(.tmp 8,.ref 0 4 0 1),(.tmp 11,.ref 0 4 0 2),(.tmp 14,.ref 0 4 0 3)] Zlu)] ⟨Qbu rfl,Qbu rfl,Qbu rfl,Qbu rfl,Qui (vs:=[.ref 0 4 0 0,.ref 0 4 0 1,.ref 0 4 0 2,.ref 0 4 0 3]) rfl underlying235 Qxe Zqo rfl (by rfl) rfl,tv⟩ ?_
  refine wmr (mto (n:=16) (l':=[(2,.ref 1 4 0 0)]) (own':=[(Q0p p0 p1 p2 p3),Zlt]) [(2,.ref 1 4 0 0)] [0,1] [(Q0p p0 p1 p2 p3),Zlt] hφ0 (prr pn) (qb (lcc (lcc ln)) (qb (lc (.rn (rqr rfl)) (lc (.rn (rqr rfl)) (lc (.rn (rqr rfl)) (lc (.rn (rqr rfl)) ln)))) qn)))<|Qah ?_
  obtain rfl:=osi h
  exact⟨_,Mor.rfl,Qcy (vs:=[Zlu]) ⟨Qbn (n:=1) (m:=4) (j:=0) (i:=0) (xs:=[[.ref 0 4 0 0,.ref 0 4 0 1,.ref 0 4 0 2,.ref 0 4 0 3]]) (by kernel_rfl) (by kernel_rfl) Zqw (by decide) rfl (nle rfl) rfl,tv⟩ rfl (NLt.agg _ (nlc (NLt.ref _ _ _ _ (by decide)) (nlc (NLt.ref _ _ _ _ (by decide)) (nlc (NLt.ref _ _ _ _ (by decide)) (nlc (NLt.ref _ _ _ _ (by decide)) nl0))))) (by kernel_rfl) (Qar (Qa8 (nlc (NLt.of0 nll) (nlc (NLt.of0 nll) (nlc (NLt.of0 nll) (nlc (NLt.of0 nll) nl0))))) (Qar (Qa8 (nlc (NLt.ref _ _ _ _ (by decide)) (nlc (NLt.ref _ _ _ _ (by decide)) (nlc (NLt.ref _ _ _ _ (by decide)) (nlc (NLt.ref _ _ _ _ (by decide)) nl0))))) Qbx))⟩
def Qk2 (N:Nat) (p0:Qaa) (p1 p2:Int) (p3 p4:Int):Option Unit:=
  (Qcz N p0.Mass p0.Heat p0.Silica p0.Gas).bind fun _=>
  (Qcz N p1 p2 p3 p4).bind fun _=>
  (Qcz N (w64 (p1+p0.Mass)) p2 p3 p4).bind fun _=>
  (Qcz N (w64 (p1+p0.Mass)) (w64 (p2+p0.Heat)) p3 p4).bind fun _=>
  (Qcz N (w64 (p1+p0.Mass)) (w64 (p2+p0.Heat)) (w64 (p3+p0.Silica)) p4).bind fun _=>
  some ()
def Za2 (p1 p2:Int) (p3 p4:Int):Slot:=.own 4 [[(I p1),(I p2),(I p3),(I p4)]]
def Za4 (p1:Int) (p0:Qaa) (p2 p3 p4:Int):Slot:=.own 4 [[(I (w64 (p1+p0.Mass))),(I (w64 (p2+p0.Heat))),(I (w64 (p3+p0.Silica))),(I (w64 (p4+p0.Gas)))]]
def Q72 (p0:Qaa):Slot:=.own 4 [[(I p0.Mass),(I p0.Heat),(I p0.Silica),(I p0.Gas)]]
def Za3:AV:=.agg [(.ref 1 4 (0) 0),(.ref 1 4 (0) 1),(.ref 1 4 (0) 2),(.ref 1 4 (0) 3)]
def Zrw:Slot:=.own 4 [[(.ref 1 4 (0) 0),(.ref 1 4 (0) 1),(.ref 1 4 (0) 2),(.ref 1 4 (0) 3)]]
def Q0q:AV:=.agg [(.ref 0 4 (0) 0),(.ref 0 4 (0) 1),(.ref 0 4 (0) 2),(.ref 0 4 (0) 3)]
def Zga:Slot:=.own 4 [[(.ref 0 4 (0) 0),(.ref 0 4 (0) 1),(.ref 0 4 (0) 2),(.ref 0 4 (0) 3)]]
def Zf9 (p1:Int) (p0:Qaa) (p2 p3 p4:Int):Slot:=.own 4 [[(I (w64 (p1+p0.Mass))),(I p2),(I p3),(I p4)]]
def Zf8 (p1:Int) (p0:Qaa) (p2 p3 p4:Int):Slot:=.own 4 [[(I (w64 (p1+p0.Mass))),(I (w64 (p2+p0.Heat))),(I p3),(I p4)]]
def Zf7 (p1:Int) (p0:Qaa) (p2 p3 p4:Int):Slot:=.own 4 [[(I (w64 (p1+p0.Mass))),(I (w64 (p2+p0.Heat))),(I (w64 (p3+p0.Silica))),(I p4)]]
theorem Qtb (N:Nat) (p0:Qaa) (p1 p2:Int) (p3 p4:Int) (r:Unit) (h:Qk2 N p0 p1 p2 p3 p4=some r):Spec prog 160 [(.agg [(I p0.Mass),(I p0.Heat),(I p0.Silica),(I p0.Gas)]),(.ref 0 4 (0) 0)] [(Za2 p1 p2 p3 p4)] (.tup []) [(Za4 p1 p0 p2 p3 p4)]:=by
  refine Qak func160 rfl 1 (nle rfl) (fun X φ0 w0 hφ0 hd0=>?_)
  unfold Qk2 at h
  refine Qby<|wxz ?_
  obtain⟨x2,hf1,h⟩:=bno h
  refine wx tbk [(0,⟨_,_,_,_,false⟩)] ⟨Qat (first:=[]) (cap:=[]) (vs:=[.ref 1 4 0 0]) (σr:=[(Q72 p0)]) (σr':=[(Q72 p0),Zrw]) (res':=Za3) [1,2] rfl Qso (Qd4 N p0.Mass p0.Heat p0.Silica p0.Gas _ hf1) rfl (Qbq (rnc (Qa4 rfl) rn0)) (slc (Qan (rncc (rncc rn0))) Qas) (slc (Qan (rncc (rncc rn0))) (slc (Qan (rnc (Qb4 rfl) (rnc (Qb4 rfl) (rnc (Qb4 rfl) (rnc (Qb4 rfl) rn0))))) Qas)) (Qbq (rnc (Qb4 rfl) (rnc (Qb4 rfl) (rnc (Qb4 rfl) (rnc (Qb4 rfl) rn0))))) rfl rfl rfl,tv⟩<|Qap<|Q7p 17<|Qyn<|wxz<|wsq<|wtr<|Qaq<|thn<|wsq ?_
  refine Qap<|wx tbk [(1,rp [(.tmp 5,Za3),(.tmp 6,I 0)] (.ref 1 4 0 0))] ⟨Qiv rfl underlying235 Qxe (by decide) (by decide) (nle rfl) (by decide) rfl,tv⟩ ?_
  obtain⟨x4,hf3,h⟩:=bno h
  refine wy1 tbk [(0,⟨_,_,_,_,false⟩),(2,rp [(.tmp 10,Q0q),(.tmp 11,I 0)] (.ref 0 4 0 0)),(3,rb [(.tmp 12,.ref 0 4 0 0)] [(0,(Za2 p1 p2 p3 p4))] (.ref 0 4 0 0)),(6,rb [(.tmp 15,.ref 1 4 0 0)] [(1,(Q72 p0))] (.ref 1 4 0 0)),(9,rb [(.tmp 12,.ref 0 4 0 0)] [(0,(Za2 p1 p2 p3 p4))] (.ref 0 4 0 0))] ⟨Qat (first:=[]) (cap:=[]) (vs:=[.ref 0 4 0 0]) (σr:=[(Za2 p1 p2 p3 p4)]) (σr':=[(Za2 p1 p2 p3 p4),Zga]) (res':=Q0q) [0,3] rfl Qso (Qd4 N p1 p2 p3 p4 _ hf3) rfl (Qbq (rnc (Qa4 rfl) rn0)) (slc (Qan (rncc (rncc rn0))) Qas) (slc (Qan (rncc (rncc rn0))) (slc (Qan (rnc (Qb4 rfl) (rnc (Qb4 rfl) (rnc (Qb4 rfl) (rnc (Qb4 rfl) rn0))))) Qas)) (Qbq (rnc (Qb4 rfl) (rnc (Qb4 rfl) (rnc (Qb4 rfl) (rnc (Qb4 rfl) rn0))))) rfl rfl rfl,Qiv rfl underlying235 Qxe (by decide) (by decide) (nle rfl) (by decide) rfl,Qbu rfl,Qbu rfl,Qbu rfl,tv⟩<|bln<|thn<|wxz1<|thn<|Qyn<|wxz<|wsq<|wtr<|Qaq ?_
  refine thn<|wsq<|Qap ?_
  refine wx tbk [(1,rp [(.tmp 5,Za3),(.tmp 6,I 1)] (.ref 1 4 0 1))] ⟨Qiv rfl underlying235 Qxe (by decide) (by decide) (nle rfl) (by decide) rfl,tv⟩ ?_
  obtain⟨x6,hf5,h⟩:=bno h
  refine wy1 tbk [(0,⟨_,_,_,_,false⟩),(2,rp [(.tmp 10,Q0q),(.tmp 11,I 1)] (.ref 0 4 0 1)),(3,rb [(.tmp 12,.ref 0 4 0 1)] [(0,(Zf9 p1 p0 p2 p3 p4))] (.ref 0 4 0 1)),(6,rb [(.tmp 15,.ref 1 4 0 1)] [(1,(Q72 p0))] (.ref 1 4 0 1)),(9,rb [(.tmp 12,.ref 0 4 0 1)] [(0,(Zf9 p1 p0 p2 p3 p4))] (.ref 0 4 0 1))] ⟨Qat (first:=[]) (cap:=[]) (vs:=[.ref 0 4 0 0]) (σr:=[(Zf9 p1 p0 p2 p3 p4)]) (σr':=[(Zf9 p1 p0 p2 p3 p4),Zga]) (res':=Q0q) [0,4] rfl Qso (Qd4 N (w64 (p1+p0.Mass)) p2 p3 p4 _ hf5) rfl (Qbq (rnc (Qa4 rfl) rn0)) (slc (Qan (rncc (rncc rn0))) Qas) (slc (Qan (rncc (rncc rn0))) (slc (Qan (rnc (Qb4 rfl) (rnc (Qb4 rfl) (rnc (Qb4 rfl) (rnc (Qb4 rfl) rn0))))) Qas)) (Qbq (rnc (Qb4 rfl) (rnc (Qb4 rfl) (rnc (Qb4 rfl) (rnc (Qb4 rfl) rn0))))) rfl rfl rfl,Qiv rfl underlying235 Qxe (by decide) (by decide) (nle rfl) (by decide) rfl,Qbu rfl,Qbu rfl,Qbu rfl,tv⟩<|bln<|thn<|wxz1<|thn<|Qyn<|wxz<|wsq<|wtr<|Qaq ?_
  refine thn<|wsq<|Qap ?_
  refine wx tbk [(1,rp [(.tmp 5,Za3),(.tmp 6,I 2)] (.ref 1 4 0 2))] ⟨Qiv rfl underlying235 Qxe (by decide) (by decide) (nle rfl) (by decide) rfl,tv⟩ ?_
  obtain⟨x8,hf7,h⟩:=bno h
  refine wy1 tbk [(0,⟨_,_,_,_,false⟩),(2,rp [(.tmp 10,Q0q),(.tmp 11,I 2)] (.ref 0 4 0 2)),(3,rb [(.tmp 12,.ref 0 4 0 2)] [(0,(Zf8 p1 p0 p2 p3 p4))] (.ref 0 4 0 2)),(6,rb [(.tmp 15,.ref 1 4 0 2)] [(1,(Q72 p0))] (.ref 1 4 0 2)),(9,rb [(.tmp 12,.ref 0 4 0 2)] [(0,(Zf8 p1 p0 p2 p3 p4))] (.ref 0 4 0 2))] ⟨Qat (first:=[]) (cap:=[]) (vs:=[.ref 0 4 0 0]) (σr:=[(Zf8 p1 p0 p2 p3 p4)]) (σr':=[(Zf8 p1 p0 p2 p3 p4),Zga]) (res':=Q0q) [0,5] rfl Qso (Qd4 N (w64 (p1+p0.Mass)) (w64 (p2+p0.Heat)) p3 p4 _ hf7) rfl (Qbq (rnc (Qa4 rfl) rn0)) (slc (Qan (rncc (rncc rn0))) Qas) (slc (Qan (rncc (rncc rn0))) (slc (Qan (rnc (Qb4 rfl) (rnc (Qb4 rfl) (rnc (Qb4 rfl) (rnc (Qb4 rfl) rn0))))) Qas)) (Qbq (rnc (Qb4 rfl) (rnc (Qb4 rfl) (rnc (Qb4 rfl) (rnc (Qb4 rfl) rn0))))) rfl rfl rfl,Qiv rfl underlying235 Qxe (by decide) (by decide) (nle rfl) (by decide) rfl,Qbu rfl,Qbu rfl,Qbu rfl,tv⟩<|bln<|thn<|wxz1<|thn<|Qyn<|wxz<|wsq<|wtr<|Qaq ?_
  refine thn<|wsq<|Qap ?_
  refine wx tbk [(1,rp [(.tmp 5,Za3),(.tmp 6,I 3)] (.ref 1 4 0 3))] ⟨Qiv rfl underlying235 Qxe (by decide) (by decide) (nle rfl) (by decide) rfl,tv⟩ ?_
  obtain⟨x10,hf9,h⟩:=bno h
  refine wy1 tbk [(0,⟨_,_,_,_,false⟩),(2,rp [(.tmp 10,Q0q),(.tmp 11,I 3)] (.ref 0 4 0 3)),(3,rb [(.tmp 12,.ref 0 4 0 3)] [(0,(Zf7 p1 p0 p2 p3 p4))] (.ref 0 4 0 3)),(6,rb [(.tmp 15,.ref 1 4 0 3)] [(1,(Q72 p0))] (.ref 1 4 0 3)),(9,rb [(.tmp 12,.ref 0 4 0 3)] [(0,(Zf7 p1 p0 p2 p3 p4))] (.ref 0 4 0 3))] ⟨Qat (first:=[]) (cap:=[]) (vs:=[.ref 0 4 0 0]) (σr:=[(Zf7 p1 p0 p2 p3 p4)]) (σr':=[(Zf7 p1 p0 p2 p3 p4),Zga]) (res':=Q0q) [0,6] rfl Qso (Qd4 N (w64 (p1+p0.Mass)) (w64 (p2+p0.Heat)) (w64 (p3+p0.Silica)) p4 _ hf9) rfl (Qbq (rnc (Qa4 rfl) rn0)) (slc (Qan (rncc (rncc rn0))) Qas) (slc (Qan (rncc (rncc rn0))) (slc (Qan (rnc (Qb4 rfl) (rnc (Qb4 rfl) (rnc (Qb4 rfl) (rnc (Qb4 rfl) rn0))))) Qas)) (Qbq (rnc (Qb4 rfl) (rnc (Qb4 rfl) (rnc (Qb4 rfl) (rnc (Qb4 rfl) rn0))))) rfl rfl rfl,Qiv rfl underlying235 Qxe (by decide) (by decide) (nle rfl) (by decide) rfl,Qbu rfl,Qbu rfl,Qbu rfl,tv⟩<|bln<|thn<|wxz1<|thn<|Qyn<|wxz<|wsq<|wfa<|Qbg ?_
  refine Qay<|Qay<|Qbf rfl ?_
  obtain rfl:=osi h
  exact⟨_,(mto (n:=21) (l':=[]) (own':=[(Za4 p1 p0 p2 p3 p4)]) [] [0] [(Za4 p1 p0 p2 p3 p4)] hφ0 pn (qb (lcc (lcc ln)) qn)),Qcy (vs:=[]) tv rfl (NLt.tup _ nl0) (by kernel_rfl) (Qar (Qa8 (nlc (NLt.of0 nll) (nlc (NLt.of0 nll) (nlc (NLt.of0 nll) (nlc (NLt.of0 nll) nl0))))) Qbx)⟩
def Qf2 (N:Nat) (p0:List Qaa) (k5:Int×Int×Int×Int→Option Qaa):Nat→Int→Int→Int→Int→Int→Option Qaa
  |0,_,_,_,_,_=>none
  |n16+1,y6,y7,y8,y9,y10=>
    bif (decide (y6<(p0.length:Int))) then
     (getI p0 y6).bind fun x18=>
     (Qk2 N x18 y7 y8 y9 y10).bind fun _=>
     Qf2 N p0 k5 n16 (w64 (y6+1)) (w64 (y7+x18.Mass)) (w64 (y8+x18.Heat)) (w64 (y9+x18.Silica)) (w64 (y10+x18.Gas))
    else
     k5 (y7,y8,y9,y10)
def Ql9 (N:Nat) (p0:List Qaa):Option Qaa:=
  Qbi (fun ⟨y1,y2,y3,y4⟩=>
    some (⟨y1,y2,y3,y4⟩:Qaa)) fun k5:Int×Int×Int×Int→Option Qaa=>
  Qf2 N p0 k5 N 0 0 0 0 0
def Za6:AV:=.fn (.func 160) [] [(.ref 0 4 (0) 0)]
def Zgb (p0:List Qaa):AV:=.dat 4 (p0.map Qac)
def Zpj:Slot:=.own 4 [[(I (0)),(I (0)),(I (0)),(I (0))]]
def Za5 (y7 y8:Int) (y9 y10:Int):Slot:=.own 4 [[(I y7),(I y8),(I y9),(I y10)]]
def Zpi (x18:Qaa):AV:=.agg [(I x18.Mass),(I x18.Heat),(I x18.Silica),(I x18.Gas)]
def Zkb (y7:Int) (x18:Qaa) (y8 y9 y10:Int):Slot:=.own 4 [[(I (w64 (y7+x18.Mass))),(I (w64 (y8+x18.Heat))),(I (w64 (y9+x18.Silica))),(I (w64 (y10+x18.Gas)))]]
theorem Qy8 (N:Nat) (p0:List Qaa) (r:Qaa) (h:Ql9 N p0=some r):Spec prog 155 [(.dat 4 (p0.map Qac))] [] (.agg (Qac r)) []:=by
  refine Qak func155 rfl 0 (nle rfl) (fun X φ0 w0 hφ0 hd0=>?_)
  unfold Ql9 at h
  refine wxz<|wx tbk [(0,rp [(.tmp 2,.ref 0 4 0 0)] Za6)] ⟨Qew (fs:=[]) (cs:=[.ref 0 4 0 0]) rfl rfl rfl rfl,tv⟩ ?_
  obtain⟨k5,hk_k5,h⟩:=jko h
  refine wjn (τ:=Int×Int×Int×Int) (fun t=>k5 t=some r) (fun ⟨y1,y2,y3,y4⟩=>⟨mk 18 [(2,.ref 0 4 0 0)],[(.own 4 [[I y1,I y2,I y3,I y4]])]⟩) (fun t h=>?_) ?_
  ·subst hk_k5
   obtain⟨y1,y2,y3,y4⟩:=t
   refine wxz<|Qah ?_
   obtain rfl:=osi h
   exact fend ⟨[(.agg [I y1,I y2,I y3,I y4])],⟨Qbn (n:=0) (m:=4) (j:=0) (i:=0) (xs:=[[I y1,I y2,I y3,I y4]]) (by kernel_rfl) (by kernel_rfl) ti63 (by decide) rfl (nle rfl) rfl,tv⟩,rfl⟩ (NLt.agg _ (nlcc (nlcc nl0)))
  ·skip
   refine wx tbk [(1,rp _ _)] ⟨alq 4 Qac p0 underlying45,tv⟩<|Qap ?_
   refine wmr (mto (n:=18) (l':=[(2,.ref 0 4 0 0),(3,Za6),(7,(Zgb p0)),(8,(I ((p0.length:Int)))),(9,I 0)]) (own':=[Zpj]) [(2,.ref 0 4 0 0),(3,Za6),(7,(Zgb p0)),(8,(I ((p0.length:Int)))),(9,I 0)] [0] [Zpj] hφ0 (prr (pc (.rn (Qbl rn0 (rnc (rqr rfl) rn0))) (pc (rnd Qaf) (pw (pw pn))))) (qb (lcc (lcc ln)) qn)) ?_
   refine Qbv (τ:=Int×Int×Int×Int×Int) (fun n t=>Qf2 N p0 k5 n t.1 t.2.1 t.2.2.1 t.2.2.2.1 t.2.2.2.2=some r) (fun ⟨y6,y7,y8,y9,y10⟩=>⟨mk 18 [(2,.ref 0 4 0 0),(3,Za6),(7,(Zgb p0)),(8,(I ((p0.length:Int)))),(9,I y6)],[(Za5 y7 y8 y9 y10)]⟩) (fun t h=>by rw[Qf2] at h;cases h) (fun n16 ih t h=>?_) N (0,0,0,0,0) h
   obtain⟨y6,y7,y8,y9,y10⟩:=t
   rw[Qf2] at h
   skip
   refine wxz<|wsq ?_
   refine bfe h (fun hc17 h=>?_) fun hc17 h=>?_
   ·refine wft hc17<|Qaq<|thn<|wsq<|Qap ?_
    obtain⟨x18,hg19,h⟩:=bno h
    obtain⟨hi20,hj21⟩:=gsm hg19
    refine wx tbk [(0,rp _ _)] ⟨aiq underlying45 ti63 Qac hi20 hj21,tv⟩ ?_
    obtain⟨x23,hf22,h⟩:=bno h
    refine wx1 tbk [(2,⟨_,_,_,_,false⟩)] ⟨Qat (first:=[]) (cap:=[.ref 0 4 0 0]) (vs:=[(Zpi x18)]) (σr:=[(Za5 y7 y8 y9 y10)]) (σr':=[(Zkb y7 x18 y8 y9 y10)]) (res':=(.tup [])) [0] rfl Zhw (Qtb N x18 y7 y8 y9 y10 _ hf22) rfl (Qbq (rnc (.plain _ (NLt.agg _ (nlcc (nlcc nl0)))) (rnc (Qa4 rfl) rn0))) (slc (Qan (rncc (rncc rn0))) Qas) (slc (Qan (rncc (rncc rn0))) Qas) (.plain _ (NLt.tup _ nl0)) rfl rfl rfl,tv⟩<|bln<|thn<|wxz1<|thn ?_
    exact arm (mto (n:=18) [(2,.ref 0 4 0 0),(3,Za6),(7,(Zgb p0)),(8,(I ((p0.length:Int)))),(9,(I (w64 (y6+1))))] [0] [(Zkb y7 x18 y8 y9 y10)] hφ0 (prr (pc (.rn (Qbl rn0 (rnc (rqr rfl) rn0))) (pc (rnd Qaf) (pw (pw pn))))) (qb (lcc (lcc ln)) qn)) (ih (w64 (y6+1),w64 (y7+x18.Mass),w64 (y8+x18.Heat),w64 (y9+x18.Silica),w64 (y10+x18.Gas)) h)
   ·exact wfn hc17<|Qbg<|Qay<|Qay<|Qbf rfl<|thn<|⟨(y7,y8,y9,y10),h,(mto (n:=18) [(2,.ref 0 4 0 0)] [0] [(Za5 y7 y8 y9 y10)] hφ0 (prr pn) (qb (lcc (lcc ln)) qn))⟩
def Qez (N:Nat) (p0:Qaa) (k3:(List Qaa)→Option ((List Qaa)×Qh2×Int)) (x7:List Int):Nat→(List Qaa)→Int→Option ((List Qaa)×Qh2×Int)
  |0,_,_=>none
  |n12+1,y8,y9=>
    bif (decide (y9<(x7.length:Int))) then
     (getI x7 y9).bind fun x14=>
     (Qf3 N p0.Heat x14 p0.Mass p0.Heat p0.Silica p0.Gas).bind fun x19=>
     (Qf3 N p0.Silica x14 p0.Mass p0.Heat p0.Silica p0.Gas).bind fun x21=>
     (Qf3 N p0.Gas x14 p0.Mass p0.Heat p0.Silica p0.Gas).bind fun x23=>
     chk (decide ((y8.length+([(⟨x14,x19,x21,x23⟩:Qaa)]).length)*32≤140737488355328))<|
     Qez N p0 k3 x7 n12 (y8++([(⟨x14,x19,x21,x23⟩:Qaa)])) (w64 (y9+1))
    else
     k3 (y8)
def Qla (N:Nat) (p0:Qaa) (p1:List Int):Option ((List Qaa)×Qh2×Int):=
  Qbi (fun _=>
    Qbi (fun y2=>
      (Ql9 N y2).bind fun x5=>
      some (y2,(⟨w64 (p0.Heat-x5.Heat),w64 (p0.Silica-x5.Silica),w64 (p0.Gas-x5.Gas)⟩:Qh2),0)) fun k3:(List Qaa)→Option ((List Qaa)×Qh2×Int)=>
    (Qjw N p0.Mass p1).bind fun x7=>
    Qez N p0 k3 x7 N ([]) 0) fun k1:Unit→Option ((List Qaa)×Qh2×Int)=>
  (Qeo N p0).bind fun x26=>
  bif (!x26) then
   some ([],(⟨0,0,0⟩:Qh2),1)
  else
   bif (decide ((p1.length:Int)>20)) then
    some ([],(⟨0,0,0⟩:Qh2),1)
   else
    (Qh7 N p1).bind fun x30=>
    bif (!x30) then
     some ([],(⟨0,0,0⟩:Qh2),1)
    else
     (Qcu N p1).bind fun x33=>
     bif (!x33) then
      some ([],(⟨0,0,0⟩:Qh2),1)
     else
      k1 ()
def Qvb (p0:Qaa):Slot:=.own 4 [[(I p0.Mass),(I p0.Heat),(I p0.Silica),(I p0.Gas)]]
def Q0s:Slot:=.own 3 [[(I (0)),(I (0)),(I (0))]]
def Zpq (p0 x5:Qaa):AV:=.agg [(I (w64 (p0.Heat-x5.Heat))),(I (w64 (p0.Silica-x5.Silica))),(I (w64 (p0.Gas-x5.Gas)))]
def Zgg:AV:=.fn (.func 154) [] [(.ref 3 1 (0) 0),(.ref 0 4 (0) 0)]
def Zbb (x14:Int) (p0:Qaa):AV:=.fn (.func 154) [] [(.dptr [(I x14)] 0),(.dptr [(I p0.Mass),(I p0.Heat),(I p0.Silica),(I p0.Gas)] 0)]
def Zrx (p0:Qaa):AV:=.agg [(I p0.Mass),(I p0.Heat),(I p0.Silica),(I p0.Gas)]
def Zba (p0:Qaa) (x26:Bool):List (Nat×Rec):=[(1,rp [fu 131,((.tmp 12),(Zrx p0))] (B x26))]
def Zgh:AV:=.agg [(I (0)),(I (0)),(I (0))]
def Q5x:AV:=.dat 4 (([]:List Qaa).map Qac)
def Za9 p0 x26 (p1:List Int):=hcat (Zba p0 x26) [(3,rp [((.tmp 14),(B ((!x26))))] (B false)),(5,rp [((.tmp 15),(B false)),((.tmp 16),(.dat 1 (p1.map Qad)))] (I ((p1.length:Int))))]
def Za8 p0 x26 p1 (x30:Bool):=hcat (Za9 p0 x26 p1) [(8,rp [((.tmp 19),(B ((decide ((p1.length:Int)>20)))))] (B false)),(11,rp [((.tmp 20),(B false)),fu 151,((.tmp 21),(.dat 1 (p1.map Qad))),((.tmp 22),(.fn (.func 150) [] []))] (B x30))]
theorem Qvm (N:Nat) (p0:Qaa) (p1:List Int) (r:((List Qaa)×Qh2×Int)) (h:Qla N p0 p1=some r):Spec prog 146 [(.agg (Qac p0)),(.dat 1 (p1.map Qad))] [] (.tup [(.dat 4 (r.1.map Qac)),(.agg (Ze5 r.2.1)),(I r.2.2)]) []:=by
  refine Qak func146 rfl 0 (nle rfl) (fun X φ0 w0 hφ0 hd0=>?_)
  unfold Qla at h
  refine wxz<|wxz ?_
  obtain⟨k1,hk_k1,h⟩:=jko h
  refine wjn (τ:=Unit) (fun t=>k1 t=some r) (fun _=>⟨mk 79 [(1,(.dat 1 (p1.map Qad))),(2,.ref 0 4 0 0),(4,nilS),(5,.ref 1 3 0 0)],[(Qvb p0),Q0s]⟩) (fun t h=>?_) ?_
  ·subst hk_k1
   obtain⟨k3,hk_k3,h⟩:=jko h
   refine wjn (τ:=(List Qaa)) (fun t=>k3 t=some r) (fun y2=>⟨mk 79 [(2,.ref 0 4 0 0),(4,(.acc 1 63 4 (y2.map Qac))),(5,.ref 2 3 0 0)],[(Qvb p0),.tok,Q0s]⟩) (fun y2 h=>?_) ?_
   ·subst hk_k3
    obtain⟨x5,hf4,h⟩:=bno h
    refine wx tbk [(1,rp [fu 155,(.tmp 60,(.acc 1 63 4 (y2.map Qac)))] (.agg [I x5.Mass,I x5.Heat,I x5.Silica,I x5.Gas]))] ⟨awk (rd':=(.func 155,(.fn (.func 155) [] []))::[(.tmp 60,(.dat 4 (y2.map Qac)))]) ⟨rfl,lrf,rfl,Less.acc,tv⟩ (apv Zh0 (Qy8 N y2 _ hf4) (nlc (nld Qaf _) nl0) (NLt.agg _ (nlcc (nlcc nl0)))),tv⟩ ?_
    refine wxd tbk [(16,rp _ _)] ⟨Qaz (vs:=[(I (w64 (p0.Heat-x5.Heat))),(I (w64 (p0.Silica-x5.Silica))),(I (w64 (p0.Gas-x5.Gas)))]) rfl Zck Q8g rfl (by rfl) rfl,tv⟩<|Qah ?_
    obtain rfl:=osi h
    exact fend ⟨[(.dat 4 (y2.map Qac)),(Zpq p0 x5),I 0],⟨Qdi (v:=(.acc 1 63 4 (y2.map Qac))) rot Less.acc,Qbn (n:=2) (m:=3) (j:=0) (i:=0) (xs:=[[(I (w64 (p0.Heat-x5.Heat))),(I (w64 (p0.Silica-x5.Silica))),(I (w64 (p0.Gas-x5.Gas)))]]) (by kernel_rfl) (by kernel_rfl) Q8i (by decide) rfl (nle rfl) rfl,rot,tv⟩,rfl⟩ (NLt.tup _ (nlc (nld Qaf _) (nlc (NLt.agg _ (nlcc (nlc nll nl0))) (nlc nll nl0))))
   ·skip
    obtain⟨x7,hf6,h⟩:=bno h
    refine wx tbk [(3,rp _ _),(4,rp _ _)] ⟨apv Zh1 (Quq N p0.Mass p1 _ hf6) (nlc nll (nlc (nld Qag _) nl0)) (nld Qag _),alq 1 Qad x7 underlying27,tv⟩<|Qap ?_
    refine wmr (Mor.trans (Qnq 2 63 4 4 (by kernel_rfl) (by kernel_rfl)) (mto (n:=79) (l':=[(2,.ref 0 4 0 0),(4,(.acc 1 63 4 ((([]):List Qaa).map Qac))),(5,.ref 2 3 0 0),(35,(.dat 1 (x7.map Qad))),(36,(I ((x7.length:Int)))),(37,I 0)]) (own':=[(Qvb p0),.tok,Q0s]) [(2,.ref 0 4 0 0),(4,(.acc 2 63 4 (([]:List Qaa).map Qac))),(5,.ref 1 3 0 0),(35,(.dat 1 (x7.map Qad))),(36,(I ((x7.length:Int)))),(37,I 0)] [0,2,1] [(Qvb p0),.tok,Q0s] hφ0 (prr (pc (.rn (Qa3 rfl (Qa0 Qaf _))) (prr (pc (rnd Qag) (pw (pw pn)))))) (qb (lcc (lcc ln)) (qc .tok (qb (lcc (lc rwl ln)) qn))))) ?_
    refine Qbv (τ:=(List Qaa)×Int) (fun n t=>Qez N p0 k3 x7 n t.1 t.2=some r) (fun ⟨y8,y9⟩=>⟨mk 79 [(2,.ref 0 4 0 0),(4,(.acc 1 63 4 (y8.map Qac))),(5,.ref 2 3 0 0),(35,(.dat 1 (x7.map Qad))),(36,(I ((x7.length:Int)))),(37,I y9)],[(Qvb p0),.tok,Q0s]⟩) (fun t h=>by rw[Qez] at h;cases h) (fun n12 ih t h=>?_) N ([],0) h
    obtain⟨y8,y9⟩:=t
    rw[Qez] at h
    skip
    refine wxz<|wsq ?_
    refine bfe h (fun hc13 h=>?_) fun hc13 h=>?_
    ·refine wft hc13<|Qaq<|thn<|wsq<|Qap ?_
     obtain⟨x14,hg15,h⟩:=bno h
     obtain⟨hi16,hj17⟩:=gsm hg15
     refine wx tbk [(0,rp _ _)] ⟨aiq underlying27 ti3 Qad hi16 hj17,tv⟩ ?_
     refine wx tbk [(0,rp [(.tmp 9,.ref 3 1 0 0),(.tmp 2,.ref 0 4 0 0)] Zgg)] ⟨Qew (fs:=[]) (cs:=[.ref 3 1 0 0,.ref 0 4 0 0]) rfl rfl rfl rfl,tv⟩ ?_
     obtain⟨x19,hf18,h⟩:=bno h
     obtain⟨x21,hf20,h⟩:=bno h
     obtain⟨x23,hf22,h⟩:=bno h
     obtain⟨ha24,h⟩:=cko h
     refine wy1 tbk [(5,rb [(.tmp 44,Zgg),(.tmp 46,I p0.Heat)] [(3,.own 1 [[I x14]]),(0,(Qvb p0))] (I x19)),(9,rb [(.tmp 48,Zgg),(.tmp 50,I p0.Silica)] [(3,.own 1 [[I x14]]),(0,(Qvb p0))] (I x21)),(13,rb [(.tmp 52,Zgg),(.tmp 54,I p0.Gas)] [(3,.own 1 [[I x14]]),(0,(Qvb p0))] (I x23)),(14,rp _ _),(15,rp [(.tmp 56,(.agg [I x14,I x19,I x21,I x23]))] (.dat 4 (([(⟨x14,x19,x21,x23⟩:Qaa)]:List Qaa).map Qac))),(16,⟨[(.tmp 42,(.acc 1 63 4 (y8.map Qac))),(.tmp 57,(.dat 4 (([(⟨x14,x19,x21,x23⟩:Qaa)]:List Qaa).map Qac)))],[(1,.tok),(4,.unused)],(.acc 4 63 4 ((y8++([(⟨x14,x19,x21,x23⟩:Qaa)]):List Qaa).map Qac)),[(1,.dead),(4,.tok)],false⟩)] ⟨Qi3 (rd':=[(.tmp 44,(Zbb x14 p0)),(.tmp 46,I p0.Heat)]) [(3,1,[[I x14]]),(0,4,[[I p0.Mass,I p0.Heat,I p0.Silica,I p0.Gas]])] ⟨rfl,(Zi6 tv ⟨(Qst 0 rfl (lc (.same _) ln)),(Qst 1 rfl (lc (.same _) (lc (.same _) (lc (.same _) (lc (.same _) ln))))),tv⟩),rfl,.same _,tv⟩ (by rfl) (.lit _) Qte (Qat (first:=[]) (cap:=[(.dptr [I x14] 0),(.dptr [I p0.Mass,I p0.Heat,I p0.Silica,I p0.Gas] 0)]) (vs:=[I p0.Heat]) (σr:=[]) (σr':=[]) (res':=(I x19)) [] rfl Qz7 (Qjc N p0.Heat x14 p0.Mass p0.Heat p0.Silica p0.Gas _ hf18) rfl (Qbq (rnc (.plain _ nll) (rnc (.plain _ (NLt.dptr _ _ (nlc nll nl0))) (rnc (.plain _ (NLt.dptr _ _ (nlcc (nlcc nl0)))) rn0)))) Qas Qas (.plain _ nll) rfl rfl rfl),Qi3 (rd':=[(.tmp 48,(Zbb x14 p0)),(.tmp 50,I p0.Silica)]) [(3,1,[[I x14]]),(0,4,[[I p0.Mass,I p0.Heat,I p0.Silica,I p0.Gas]])] ⟨rfl,(Zi6 tv ⟨(Qst 0 rfl (lc (.same _) ln)),(Qst 1 rfl (lc (.same _) (lc (.same _) (lc (.same _) (lc (.same _) ln))))),tv⟩),rfl,.same _,tv⟩ (by rfl) (.lit _) Qte (Qat (first:=[]) (cap:=[(.dptr [I x14] 0),(.dptr [I p0.Mass,I p0.Heat,I p0.Silica,I p0.Gas] 0)]) (vs:=[I p0.Silica]) (σr:=[]) (σr':=[]) (res':=(I x21)) [] rfl Qz7 (Qjc N p0.Silica x14 p0.Mass p0.Heat p0.Silica p0.Gas _ hf20) rfl (Qbq (rnc (.plain _ nll) (rnc (.plain _ (NLt.dptr _ _ (nlc nll nl0))) (rnc (.plain _ (NLt.dptr _ _ (nlcc (nlcc nl0)))) rn0)))) Qas Qas (.plain _ nll) rfl rfl rfl),Qi3 (rd':=[(.tmp 52,(Zbb x14 p0)),(.tmp 54,I p0.Gas)]) [(3,1,[[I x14]]),(0,4,[[I p0.Mass,I p0.Heat,I p0.Silica,I p0.Gas]])] ⟨rfl,(Zi6 tv ⟨(Qst 0 rfl (lc (.same _) ln)),(Qst 1 rfl (lc (.same _) (lc (.same _) (lc (.same _) (lc (.same _) ln))))),tv⟩),rfl,.same _,tv⟩ (by rfl) (.lit _) Qte (Qat (first:=[]) (cap:=[(.dptr [I x14] 0),(.dptr [I p0.Mass,I p0.Heat,I p0.Silica,I p0.Gas] 0)]) (vs:=[I p0.Gas]) (σr:=[]) (σr':=[]) (res':=(I x23)) [] rfl Qz7 (Qjc N p0.Gas x14 p0.Mass p0.Heat p0.Silica p0.Gas _ hf22) rfl (Qbq (rnc (.plain _ nll) (rnc (.plain _ (NLt.dptr _ _ (nlc nll nl0))) (rnc (.plain _ (NLt.dptr _ _ (nlcc (nlcc nl0)))) rn0)))) Qas Qas (.plain _ nll) rfl rfl rfl),Qaz (vs:=[I x14,I x19,I x21,I x23]) rfl ts63 tz63 rfl (by rfl) rfl,Qbo (vs:=[(.agg [I x14,I x19,I x21,I x23])]) rfl underlying45 ti63 tz63 rfl (by decide) rfl (by decide) (by rfl) (by rfl) (by rfl) rfl,Qd6 rfl underlying45 te63 (Base.acc _ _) rfl rfl (by rfl) (Qg2 Qac ha24) (Qg1 Qac ha24 (by decide)) (Qg0 Qac) rfl rfl,tv⟩<|bln<|thn<|wxz1<|thn ?_
     exact arm (mto (n:=79) [(2,.ref 0 4 0 0),(4,(.acc 4 63 4 ((y8++([(⟨x14,x19,x21,x23⟩:Qaa)]):List Qaa).map Qac))),(5,.ref 2 3 0 0),(35,(.dat 1 (x7.map Qad))),(36,(I ((x7.length:Int)))),(37,(I (w64 (y9+1))))] [0,4,2] [(Qvb p0),.tok,Q0s] hφ0 (prr (pc (.rn (Qa3 rfl (Qa0 Qaf _))) (prr (pc (rnd Qag) (pw (pw pn)))))) (qb (lcc (lcc ln)) (qc .tok (qb (lcc (lc rwl ln)) qn)))) (ih (y8++([(⟨x14,x19,x21,x23⟩:Qaa)]),w64 (y9+1)) h)
    ·exact wfn hc13<|Qbg<|Qay<|Qay<|Qbf rfl<|thn<|⟨(y8),h,(mto (n:=79) [(2,.ref 0 4 0 0),(4,(.acc 1 63 4 (y8.map Qac))),(5,.ref 2 3 0 0)] [0,1,2] [(Qvb p0),.tok,Q0s] hφ0 (prr (pc (.rn (Qa3 rfl (Qa0 Qaf _))) (prr pn))) (qb (lcc (lcc ln)) (qc .tok (qb (lcc (lc rwl ln)) qn))))⟩
  ·skip
   obtain⟨x26,hf25,h⟩:=bno h
   refine hpre (A:=(Zba p0 x26)) ⟨apv Qz8 (Qik N p0 _ hf25) (nlc (NLt.agg _ (nlcc (nlcc nl0))) nl0) nll,tv⟩ fun q1_=>?_
   refine bfe h (fun hb27 h=>?_) fun hb27 h=>?_
   ·refine wx tbk (hcat (Zba p0 x26) [(3,rp [(.tmp 14,(B ((!x26))))] (B true))]) (hap q1_ ⟨asb hb27 (amv rfl),tv⟩)<|wtr ?_
    refine wx tbk [(0,rp _ _)] ⟨Qaz (vs:=[]) rfl Zck Q8g rfl (by rfl) rfl,tv⟩<|Qah<|Qaj ?_
    obtain rfl:=osi h
    exact fend ⟨[Q5x,Zgh,I 1],⟨Qdi (v:=nilS) rot Less.nil,Qbn (n:=1) (m:=3) (j:=0) (i:=0) (xs:=[[I 0,I 0,I 0]]) (by kernel_rfl) (by kernel_rfl) Q8i (by decide) rfl (nle rfl) rfl,rot,tv⟩,rfl⟩ (NLt.tup _ (nlc (nld Qaf _) (nlc (NLt.agg _ (nlcc (nlc nll nl0))) (nlc nll nl0))))
   ·refine hpre (A:=(Za9 p0 x26 p1)) (hap q1_ ⟨asb hb27 (amv rfl),ag_ (alq 1 Qad p1 underlying27),tv⟩) fun q2_=>?_
    refine bfe h (fun hb28 h=>?_) fun hb28 h=>?_
    ·refine wx tbk (hcat (Za9 p0 x26 p1) [(8,rp [(.tmp 19,(B ((decide ((p1.length:Int)>20)))))] (B true))]) (hap q2_ ⟨asb hb28 (amv rfl),tv⟩)<|wtr ?_
     refine wx tbk [(0,rp _ _)] ⟨Qaz (vs:=[]) rfl Zck Q8g rfl (by rfl) rfl,tv⟩<|Qah<|Qaj ?_
     obtain rfl:=osi h
     exact fend ⟨[Q5x,Zgh,I 1],⟨Qdi (v:=nilS) rot Less.nil,Qbn (n:=1) (m:=3) (j:=0) (i:=0) (xs:=[[I 0,I 0,I 0]]) (by kernel_rfl) (by kernel_rfl) Q8i (by decide) rfl (nle rfl) rfl,rot,tv⟩,rfl⟩ (NLt.tup _ (nlc (nld Qaf _) (nlc (NLt.agg _ (nlcc (nlc nll nl0))) (nlc nll nl0))))
    ·obtain⟨x30,hf29,h⟩:=bno h
     refine hpre (A:=(Za8 p0 x26 p1 x30)) (hap q2_ ⟨asb hb28 (amv rfl),ag_ (Qat (first:=[]) (cap:=[]) (vs:=[(.dat 1 (p1.map Qad)),(.fn (.func 150) [] [])]) (σr:=[]) (σr':=[]) (res':=(B x30)) [] rfl Zh3 (Qq3 N p1 _ hf29) rfl (Qbq (rnc (pld Qag) (rnc (.plain _ (NLt.fn _ _ _ nl0 nl0)) rn0))) Qas Qas (.plain _ nll) rfl rfl rfl),tv⟩) fun q3_=>?_
     refine bfe h (fun hb31 h=>?_) fun hb31 h=>?_
     ·refine wx tbk (hcat (Za8 p0 x26 p1 x30) [(14,rp [(.tmp 25,(B ((!x30))))] (B true))]) (hap q3_ ⟨asb hb31 (amv rfl),tv⟩)<|wtr ?_
      refine wx tbk [(0,rp _ _)] ⟨Qaz (vs:=[]) rfl Zck Q8g rfl (by rfl) rfl,tv⟩<|Qah<|Qaj ?_
      obtain rfl:=osi h
      exact fend ⟨[Q5x,Zgh,I 1],⟨Qdi (v:=nilS) rot Less.nil,Qbn (n:=1) (m:=3) (j:=0) (i:=0) (xs:=[[I 0,I 0,I 0]]) (by kernel_rfl) (by kernel_rfl) Q8i (by decide) rfl (nle rfl) rfl,rot,tv⟩,rfl⟩ (NLt.tup _ (nlc (nld Qaf _) (nlc (NLt.agg _ (nlcc (nlc nll nl0))) (nlc nll nl0))))
     ·obtain⟨x33,hf32,h⟩:=bno h
      refine wx tbk (hcat (Za8 p0 x26 p1 x30) [(14,rp [(.tmp 25,(B ((!x30))))] (B false)),(16,rp [(.tmp 26,B false),fu 126,(.tmp 27,(.dat 1 (p1.map Qad))),fu 152] (B x33))]) (hap q3_ ⟨asb hb31 (amv rfl),ag_ (Qat (first:=[]) (cap:=[]) (vs:=[(.dat 1 (p1.map Qad)),(.fn (.func 152) [] [])]) (σr:=[]) (σr':=[]) (res':=(B x33)) [] rfl Qsq (Qjy N p1 _ hf32) rfl (Qbq (rnc (pld Qag) (rnc (.plain _ (NLt.fn _ _ _ nl0 nl0)) rn0))) Qas Qas (.plain _ nll) rfl rfl rfl),tv⟩) ?_
      refine bfe h (fun hc34 h=>?_) fun hc34 h=>?_
      ·refine wft hc34<|wx tbk [(0,rp _ _)] ⟨Qaz (vs:=[]) rfl Zck Q8g rfl (by rfl) rfl,tv⟩<|Qah<|Qaj ?_
       obtain rfl:=osi h
       exact fend ⟨[Q5x,Zgh,I 1],⟨Qdi (v:=nilS) rot Less.nil,Qbn (n:=1) (m:=3) (j:=0) (i:=0) (xs:=[[I 0,I 0,I 0]]) (by kernel_rfl) (by kernel_rfl) Q8i (by decide) rfl (nle rfl) rfl,rot,tv⟩,rfl⟩ (NLt.tup _ (nlc (nld Qaf _) (nlc (NLt.agg _ (nlcc (nlc nll nl0))) (nlc nll nl0))))
      ·exact wfn hc34<|Qaq<|thn<|⟨(),h,(mto (n:=79) [(1,(.dat 1 (p1.map Qad))),(2,.ref 0 4 0 0),(4,nilS),(5,.ref 1 3 0 0)] [0,1] [(Qvb p0),Q0s] hφ0 (pc (rnd Qag) (prr (pw (prr pn)))) (qb (lcc (lcc ln)) (qb (lcc (lc rwl ln)) qn)))⟩
end
end Go.Proofs.YtmbhnllcfmiajaaGreat
