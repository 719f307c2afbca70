/-
  The texts EngZ, Xo, X1, X2, X3 of the proof, one behind the other. No conditions.
-/
import Derived.Test.YtmbhnllcfmiajaaGreatG2
import Derived.Test.YtmbhnllcfmiajaaGreatRows
import Derived.ProofKit
import Derived.Deep.Slices
import Derived.Deep.Fields
import Derived.ChangeSame
import Derived.Lib.SmallJoins
import Derived.SizedLaws
namespace Go.Proofs.YtmbhnllcfmiajaaGreat
open _root_.Go.Proofs.Tryz
section
open Go.ChangeShapes Go.WideShapes Go.ChangeAt Go.RowKit Go.Deep Go.Joins
theorem Tryz.own:ownKnob prog.godebug=none:=by kernel_rfl
theorem Tryz.laidOut:laidOutB prog=true:=by kernel_rfl
def noX:Nat→Nat→Prop:=fun _ _=>False
def noφ:Nat→FSlot:=fun _=>.unused
def RelL (w:World):List AV→List Value→Prop
 |[],[]=>True
 |a::l,v::k=>RelV noX noφ w a v∧RelL w l k
 |_,_=>False
theorem RelL.get {w:World}:∀{l:List AV}{k:List Value},RelL w l k→k.length=l.length∧∀i a,l[i]? = some a→RelV noX noφ w a (k.getD i undef)
 |[],[],_=>⟨rfl,by simp⟩
 |_::_,_::_,h=>by
  obtain⟨h1,h2⟩:=RelL.get h.2
  refine⟨by simp[h1],fun i a hi=>?_⟩
  cases i with
  |zero=>simp at hi;subst hi;exact h.1
  |succ i=>simpa using h2 i a (by simpa using hi)
theorem RelL.app {w:World}:∀{l l':List AV}{k k':List Value},RelL w l k→RelL w l' k'→RelL w (l++l') (k++k')
 |[],_,[],_,_,h=>h
 |_::_,_,_::_,_,h,h'=>⟨h.1,RelL.app h.2 h'⟩
theorem Zbq {P:Program}{f:FuncId}{args:List AV}(h:Spec P f args [] (B true) []) {w:World}{vals:Array Value}(hr:RelL w args vals.toList):Calls P f vals w fun e w'=>e=.returned (.bool true)∧Below w.heap.size w w':=by
 obtain⟨h1,h2⟩:=hr.get
 refine(h.calls (X:=noX) (φ:=noφ) (by simpa using h1) (fun i a hi=>?_) (fun _=>rfl) (fun _ _ h=>h.elim)).mono ?_
 ·have:=h2 i a hi
  simpa [Array.getD_eq_getD_getElem?,List.getD_eq_getElem?_getD] using this
 ·rintro e w' ⟨v,φ',rfl,hv,hb⟩
  rw[Qco hv]
  exact⟨rfl,hb⟩
def Opn (P:Program) (t:TypeId) (n:Nat) {T:Type}(c:T→List AV) (G:T→Prop):Prop:=
 P.cellsOf t=n∧(∀x,(c x).length=n)∧∀(H:Type) (enc:TypeId×Value→H) (w:World) (base:Nat) (spare:Nat→Bool) (held:Bool) (fuel:Nat) (cs:List Value) (x:DataW H×List MemPlace),
  DataW.trod enc P w base spare held fuel t cs=some x→(∀q∈x.1.weights P t,q≤reachBytes)→∃v:T,G v∧RelL w (c v) cs
theorem Za5 {P:Program}{t:TypeId}{k:IntKind}(ht:P.underlying t=some (.int k)) (hc:P.cellsOf t=1):Opn P t 1 (fun x:Int=>[K k x]) (fun x=>(Lit.int k x).wf=true):=
 ⟨hc,fun _=>rfl,fun _ _ _ _ _ _ _ _ _ h _=>by
  obtain⟨n,rfl,_,hw⟩:=DataW.trod_int ht h
  exact⟨n,hw,.lit _,trivial⟩⟩
theorem Zkj {w:World}{a:Addr}{v:Value}(h:w.cell? a=some v):a.spot=none∧a.block<w.heap.size:=by
 unfold World.cell? at h
 split at h
 ·rename_i hb
  split at h
  ·cases h
  ·rename_i hs
   exact⟨by simpa using hs,(Array.getElem?_eq_some_iff.1 hb).1⟩
 ·cases h
theorem Qos (b o i:Nat):(⟨b,o,none⟩:Addr).add i=⟨b,o+i,none⟩:=by
 unfold Addr.add
 split
 ·rename_i h
  subst h
  rfl
 ·rfl
theorem Qzt {T:Type}{p:Nat→T→Prop}:∀(n:Nat),(∀i,i<n→∃x,p i x)→∃l:List T,l.length=n∧∀i x,l[i]? = some x→p i x
 |0,_=>⟨[],rfl,by simp⟩
 |n+1,h=>by
  obtain⟨l,h1,h2⟩:=Qzt n fun i hi=>h i (Nat.lt_succ_of_lt hi)
  obtain⟨x,hx⟩:=h n (Nat.lt_succ_self n)
  refine⟨l++[x],by simp[h1],fun i y hi=>?_⟩
  rcases Nat.lt_or_ge i n with hlt |hge
  ·rw[List.getElem?_append_left (by omega)] at hi
   exact h2 i y hi
  ·rw[List.getElem?_append_right (by omega)] at hi
   have:i=n:=by
    have:=(List.getElem?_eq_some_iff.1 hi).1
    simp at this
    omega
   subst this
   simp[h1] at hi
   exact hi▸hx
theorem Qtk {H:Type}{P:Program}{e:TypeId}:∀{l:List (DataW H)}{d:DataW H},d∈l→∀q∈d.weights P e,q∈DataW.weightsAll P e l
 |[],_,h,_,_=>by cases h
 |x::l,d,h,q,hq=>by
  rw[DataW.weightsAll]
  rcases List.mem_cons.1 h with rfl |h
  ·exact List.mem_append_left _ hq
  ·exact List.mem_append_right _ (Qtk h q hq)
theorem Qms {P:Program}{t e:TypeId}{n bb:Nat}{T:Type}{c:T→List AV}{G:T→Prop}(ht:P.underlying t=some (.slice e)) (hc:P.cellsOf t=1) (he:Opn P e n c G) (hn:0<n) (hbb:P.bytesOf e=bb) :
  Opn P t 1 (fun l:List T=>[.dat n (l.map c)]) (fun l=>l.length≤maxLen∧(∀x∈l,G x)∧l.length*bb≤140737488351232):=
 ⟨hc,fun _=>rfl,fun H enc w base spare held fuel cs x h hwt=>by
  obtain⟨hce,hcl,hop⟩:=he
  rcases open_slice ht h with ⟨rfl,_⟩ |⟨a,len,cap,m,fu,D,Pl,rfl,hb,hl,hm,hmm,rfl,hi⟩
  ·exact⟨[],⟨Nat.zero_le _,by simp,by simp⟩,.dat n [] none 0 0 (fun _ _=>undef) (DatOK.nil n none 0 _ (Nat.zero_le _)) (by simp),trivial⟩
  ·have hlm:len≤m:=by rw[hmm];split<;>omega
   obtain⟨l,hll,hlp⟩:=Qzt (p:=fun i (v:T)=>G v∧∃cs',cs'.length=n∧(∀j,j<n→w.cell? ((a.add (i*n)).add j)=cs'[j]?)∧RelL w (c v) cs') len fun i hil=>by
    obtain⟨cs',h1,h2⟩:=hi i (by omega)
    obtain⟨v,hG,hr⟩:=hop _ _ _ _ _ _ _ _ _ h2 fun q hq=>hwt q (by
     simp only[DataW.weights,ht]
     exact List.mem_cons_of_mem _ (List.mem_append_left _ (Qtk (List.mem_map.2 ⟨i,List.mem_range.2 hil,rfl⟩) q hq)))
    rw[hce] at h1
    obtain⟨_,h3,h4⟩:=World.cells?_some h1
    exact⟨v,hG,cs',h3,h4,hr⟩
   refine⟨l,⟨by omega,fun x hx=>?_,?_⟩,?_,trivial⟩
   ·obtain⟨i,hi'⟩:=List.getElem?_of_mem hx
    exact(hlp i x hi').1
   ·have:=hwt ((((List.range len).map D).length+((List.range (m-len)).map fun j=>D (len+j)).length)*P.bytesOf e) (by
     simp only[DataW.weights,ht]
     exact List.mem_cons_self ..)
    rw[hbb,List.length_map,List.length_range,Nat.add_mul] at this
    rw[hll]
    exact Nat.le_trans (Nat.le_add_right _ _) this
   ·have elt:∀(i:Nat) y,(l.map c)[i]? = some y→∃v cs',l[i]? = some v∧y=c v∧cs'.length=n∧(∀j,j<n→w.cell? ((a.add (i*n)).add j)=cs'[j]?)∧RelL w (c v) cs':=fun i y hy=>by
     rw[List.getElem?_map] at hy
     cases hv:l[i]? with
     |none=>rw[hv] at hy;cases hy
     |some v=>
      rw[hv] at hy
      cases hy
      obtain⟨_,cs',h1,h2,h3⟩:=hlp i v hv
      exact⟨v,cs',rfl,rfl,h1,h2,h3⟩
    have key:∀(i:Nat) y,(l.map c)[i]? = some y→∀j,j<n→∃u,w.cell? ((a.add (i*n)).add j)=some u∧∀q,y[j]? = some q→RelV noX noφ w q u:=fun i y hy j hj=>by
     obtain⟨v,cs',hv,rfl,h1,h2,h3⟩:=elt i y hy
     obtain⟨u,hu⟩:∃u,cs'[j]? = some u:=⟨_,List.getElem?_eq_getElem (by omega)⟩
     refine⟨u,(h2 j hj).trans hu,fun q hq=>?_⟩
     have:=(h3.get).2 j q hq
     rwa [List.getD_eq_getElem?_getD,hu] at this
    rw[←hll]
    refine .dat n _ (some a) l.length cap (fun i j=>(w.cell? ((a.add (i*n)).add j)).getD undef) ⟨by simp,by omega,hm,fun y hy=>?_,fun hne=>?_⟩ fun i y hy j q hq=>?_
    ·obtain⟨v,_,rfl⟩:=List.mem_map.1 hy
     exact hcl v
    ·obtain⟨y0,hy0⟩:∃y0,(l.map c)[0]? = some y0:=by
      cases l with
      |nil=>exact absurd rfl hne
      |cons v l=>exact⟨c v,rfl⟩
     obtain⟨u,hu,_⟩:=key 0 y0 hy0 0 hn
     have ha0:(a.add (0*n)).add 0=a:=by simp[Addr.add]
     rw[ha0] at hu
     obtain⟨hs,hlt⟩:=Zkj hu
     obtain⟨b,o,sp⟩:=a
     dsimp only at hs
     subst hs
     refine⟨b,o,rfl,fun i y hy j hj=>⟨⟨hlt,fun h=>h,(fun q h=>by cases h),(fun q L h=>by cases h),(fun q Y h=>by cases h),(fun q bs k h=>by cases h)⟩,?_⟩⟩
     obtain⟨u,hu,_⟩:=key i y hy j hj
     rw[Qos,Qos] at hu
     rw[hu,Qos,Qos,hu]
     rfl
    ·have hj:j<n:=by
      have h1:=(List.getElem?_eq_some_iff.1 hq).1
      obtain⟨v,_,rfl⟩:=List.mem_map.1 (List.mem_of_getElem? hy)
      rwa [hcl v] at h1
     obtain⟨u,hu,hr⟩:=key i y hy j hj
     rw[hu]
     exact hr q hq⟩
theorem Qeh {H:Type}{enc:TypeId×Value→H}{P:Program}{w:World}{base:Nat}{spare:Nat→Bool}{held:Bool}{fuel:Nat}{cs:List Value}{fs:Array Field}{xs:List (DataW H×List MemPlace)}(hf:∀(i:Nat) (f:Field),fs[i]? = some f→DataW.trod enc P w base spare held fuel f.type ((cs.drop f.offset).take (P.cellsOf f.type))=xs[i]?)
  (hxl:xs.length=fs.size) (hwt:∀q∈DataW.weightsEach P (fs.toList.map (·.type)) (xs.map (·.1)),q≤reachBytes) {n:Nat}{T:Type}{c:T→List AV}{G:T→Prop}(j:Nat) (f:Field) (hj:fs[j]? = some f) (hop:Opn P f.type n c G):∃v:T,G v∧RelL w (c v) ((cs.drop f.offset).take n):=by
 have hjl:j<xs.length:=by rw[hxl];exact(Array.getElem?_eq_some_iff.1 hj).1
 have h1:=hf j f hj
 rw[List.getElem?_eq_getElem hjl,hop.1] at h1
 exact hop.2.2 _ _ _ _ _ _ _ _ _ h1 fun q hq=>hwt q (DataW.weights_mem_each (j:=j) (by simp[hj]) (by rw[List.getElem?_map,List.getElem?_eq_getElem hjl];rfl) q hq)
theorem Qlc {H:Type}{P:Program}{t:TypeId}{fs:Array Field}{xs:List (DataW H×List MemPlace)}{pl:List MemPlace}(ht:P.underlying t=some (.struct fs)) (h:∀q∈(DataW.agg (xs.map (·.1)),pl).1.weights P t,q≤reachBytes):∀q∈DataW.weightsEach P (fs.toList.map (·.type)) (xs.map (·.1)),q≤reachBytes:=
 fun q hq=>h q (by simp only[DataW.weights,ht];exact hq)
theorem Q4a {H:Type}{P:Program}{ts:List TypeId}{ds:List (DataW H)}(h:(DataW.weightsEach P ts ds).all (· ≤ reachBytes)=true) (j:Nat) {t:TypeId}{d:DataW H}(ht:ts[j]? = some t) (hd:ds[j]? = some d):∀q∈d.weights P t,q≤reachBytes:=
 fun q hq=>by simpa using List.all_eq_true.1 h q (DataW.weights_mem_each ht hd q hq)
theorem Qhf {w:World}{A B':List AV}{cs:List Value}{k n k':Nat}(h:RelL w A (cs.take k)) (h':RelL w B' ((cs.drop k).take n)) (hk:k+n=k'):RelL w (A++B') (cs.take k'):=by
 subst hk
 rw[List.take_add]
 exact h.app h'
theorem Qn0 {w:World}{A:List AV}{cs:List Value}{n:Nat}(h:RelL w A ((cs.drop 0).take n)):RelL w A (cs.take n):=h
theorem Qty {w:World}{A:List AV}{cs:List Value}{n:Nat}(h:RelL w A (cs.take n)) (hn:cs.length=n):RelL w A cs:=by
 subst hn
 rwa [List.take_length] at h
section
variable {H : Type} {enc : TypeId × Value → H} {P : Program} {w : World} {base : Nat} {spare : Nat → Bool} {held : Bool} {r : Reach} {b0 : Nat} {v : Value} {d : DataW H} {p : List MemPlace} {t : TypeId} {n : Nat} {T : Type} {c : T → List AV} {G : T → Prop}
theorem Zkv (ho:Opn P t 1 c G) (a:T→AV) (ha:∀x,c x=[a x]) (h1:v.cells = #[v]) (h:DataW.Trod enc P w base spare held t v d p) (hwt:∀q∈d.weights P t,q≤reachBytes):∃x:T,G x∧RelV noX noφ w (a x) v:=by
 obtain⟨fuel,hf⟩:=h
 obtain⟨x,hG,hr⟩:=ho.2.2 _ _ _ _ _ _ _ _ _ hf hwt
 rw[ha,h1] at hr
 exact⟨x,hG,hr.1⟩
theorem Qud {e:TypeId}(ht:P.underlying t=some (.slice e)) (ho:Opn P t 1 c G) (a:T→AV) (ha:∀x,c x=[a x]) (hv:Value.okWide P w r b0 t v) (h:DataW.Trod enc P w base spare held t v d p) (hwt:∀q∈d.weights P t,q≤reachBytes):∃x:T,G x∧RelV noX noφ w (a x) v:=by
 obtain⟨A,len,cap,rfl⟩:=okWide_slice ht hv
 exact Zkv ho a ha rfl h hwt
theorem Q6v {fs:Array Field}(ht:P.underlying t=some (.struct fs)) (ho:Opn P t n c G) (hv:Value.okWide P w r b0 t v) (h:DataW.Trod enc P w base spare held t v d p) (hwt:∀q∈d.weights P t,q≤reachBytes):∃x:T,G x∧RelV noX noφ w (.agg (c x)) v:=by
 obtain⟨cs,rfl,hsz⟩:=okWide_struct ht hv
 obtain⟨fuel,hf⟩:=h
 obtain⟨x,hG,hr⟩:=ho.2.2 _ _ _ _ _ _ _ _ _ hf hwt
 obtain⟨h1,h2⟩:=hr.get
 refine⟨x,hG,.agg _ cs (by simpa [Value.cells] using h1) fun i a hi=>?_⟩
 have:=h2 i a hi
 simpa [Value.cells,Array.getD_eq_getD_getElem?,List.getD_eq_getElem?_getD] using this
end
section
variable {H : Type} {enc : TypeId × Value → H} {P : Program}
theorem Qqe (hl:laidOutB P=true) {W W':World}(hb:Below W.heap.size W W') {sp:Nat→Bool}:∀(ts:List TypeId) (vs:List Value) (ds:List (DataW H)) (ps:List MemPlace),
  ts.all (fun t=>P.readableRec t&&decide (t<P.types.size))=true→DataW.TrodAll enc P W 0 (fun _=>true) true ts vs ds ps→(∀x∈ps,x.block<W.heap.size)→(∀x∈ps,sp x.block=true) →
  DataW.TrodAll enc P W' 0 sp true ts vs ds ps
 |[],[],[],_,_,h,_,_=>h
 |[],_::_,_,_,_,h,_,_=>by simp[DataW.TrodAll] at h
 |[],[],_::_,_,_,h,_,_=>by simp[DataW.TrodAll] at h
 |_::_,[],_,_,_,h,_,_=>by simp[DataW.TrodAll] at h
 |_::_,_::_,[],_,_,h,_,_=>by simp[DataW.TrodAll] at h
 |t::ts,v::vs,d::ds,ps,hr,h,hlt,hsp=>by
  obtain⟨p,q,h1,h2,rfl⟩:=h
  rw[List.all_cons,Bool.and_eq_true,Bool.and_eq_true,decide_eq_true_eq] at hr
  refine⟨p,q,?_,Qqe hl hb ts vs ds q hr.2 h2 (fun x hx=>hlt x (List.mem_append_right _ hx)) (fun x hx=>hsp x (List.mem_append_right _ hx)),rfl⟩
  exact WideElems.Trod_stays hl hr.1.1 hr.1.2 h1 (fun x hx=>hb.same (hlt x (List.mem_append_left _ hx))) (fun x hx=>hsp x (List.mem_append_left _ hx))
theorem Zfh {f:Func}{s:ChangeSpec}{W W':World}{args:Array Value}{ds:List (DataW H)}{before:List MemPlace}(tb:TypeId)
  (hW:DataW.Whole enc P f.params.toList s.vars false W args.toList ds [] before) (hl:laidOutB P=true) (hp:f.params.toList.all (fun t=>P.readableRec t&&decide (t<P.types.size))=true)
  (hrt:f.resultTypes = #[tb]) (htb:P.underlying tb=some .bool) (hv:s.vars=[]) (hs1:(s.fn H (ds++[])).results=[.lit (.bool true)]) (hs2:(s.fn H (ds++[])).args=ds) (hs3:(s.fn H (ds++[])).vars=[])
  (hb:Below W.heap.size W W'):s.post enc P f false true false false W args (.bool true) W':=by
 have hlt:∀p∈before,p.block<W.heap.size:=fun p hp=>hW.lt p hp
 have hold:∀p∈before,(fun b=>decide (b<W.heap.size)) p.block=true:=fun p hp=>by simpa using hlt p hp
 obtain⟨pa,pv,hA,hV,he,hz,hn⟩:=hW
 rw[hv] at hV
 have hpv:pv=[]:=hV
 subst hpv
 rw[List.append_nil] at he
 subst he
 have hargs:∀sp:Nat→Bool,(∀p∈before,sp p.block=true)→DataW.TrodAll enc P W' 0 sp true f.params.toList args.toList (s.fn H (ds++[])).args before:=fun sp hsp=>by
  rw[hs2]
  exact Qqe hl hb _ _ _ _ hp hA hlt hsp
 have hvars:∀sp:Nat→Bool,DataW.TrodVars enc P W' sp s.vars (s.fn H (ds++[])).vars []:=fun sp=>by
  rw[hv,hs3]
  exact rfl
 have hres:∀(b:Nat) (sp:Nat→Bool) (hd:Bool),DataW.TrodAll enc P W' b sp hd f.resultTypes.toList ((Value.bool true).resultList f.resultTypes.size) (s.fn H (ds++[])).results []:=fun b sp hd=>by
  rw[hs1,hrt]
  exact trodAll_mk1 (shut_bool htb _)
 have hok:=ok_one (P:=P) (W':=W') (f:=f) (v:=.bool true) hrt rfl (okWide_bool_mk htb _)
 refine⟨ds,[],before,[],before,[],⟨before,[],hA,by rw[hv];exact rfl,by simp,hz,fun h=>by cases h⟩,hres _ _ _,hargs _ hold,hvars _,World.keptBut_mono (fun p hp=>⟨hp,Or.inr (Or.inl hp)⟩) (hb.frame (· ∈ before)),fun _=>?_⟩
 refine⟨hok,_,_,([]++before)++[],⟨[]++before,[],trodAll_append (hargs _ (fun _ _=>rfl)) (hres _ _ _),hvars _,rfl,?_,?_⟩,?_⟩
 ·intro b off hp
  have hin:MemPlace.cell b off∈before:=by simpa using hp
  rw[hb.frozen (hlt _ hin)]
  exact hz b off hin
 ·intro ha
  cases ha
 ·intro p hp _
  simpa using hp
end
end
section
set_option maxRecDepth 100000
open Go.ChangeShapes Go.WideShapes Go.ChangeAt Go.RowKit Go.Deep Go.Joins
def Qkl (x:Int):Prop:=(Lit.int .i64 x).wf=true
def Zbw (x:GRow):Prop:=Qkl x.T∧Qkl x.P∧Qkl x.Liquid∧Qkl x.Vapour∧Qkl x.Silica
def Q41 (x:List GRow):Prop:=x.length≤maxLen∧(∀y∈x,Zbw y)∧x.length*40≤140737488351232
def Zox (x:Int):Prop:=(Lit.int .u8 x).wf=true
def Q42 (x:Qbk):Prop:=Qkl x.Element∧Qkl x.Outlet
def Q0c (x:List Qbk):Prop:=x.length≤maxLen∧(∀y∈x,Q42 y)∧x.length*16≤140737488351232
def Qyb (x:List Int):Prop:=x.length≤maxLen∧(∀y∈x,Qkl y)∧x.length*8≤140737488351232
def Quq (x:Qae):Prop:=Zox x.Kind∧Q0c x.From∧Qkl x.Level∧Qkl x.Amount∧Qkl x.Wide∧Qkl x.Narrow∧Qyb x.Weights
def Qsc (x:List Qae):Prop:=x.length≤maxLen∧(∀y∈x,Quq y)∧x.length*88≤140737488351232
def Zbx (x:GNet):Prop:=Q41 x.Table∧Qsc x.Elements
theorem opn3:Opn prog 3 1 Qad Qkl:=Za5 underlying3 (by kernel_rfl)
theorem Zot:Opn prog 149 5 Qaq Zbw:=⟨by kernel_rfl,fun _=>rfl,fun _ _ _ _ _ _ _ _ _ h hw=>by
  obtain⟨xs,n,_,rfl,hl,hx,hf⟩:=DataW.trod_struct underlying149 h
  have hz:=Qlc underlying149 hw
  obtain⟨v0,g0,r0⟩:=Qeh hf hx hz 0 _ rfl opn3
  obtain⟨v1,g1,r1⟩:=Qeh hf hx hz 1 _ rfl opn3
  obtain⟨v2,g2,r2⟩:=Qeh hf hx hz 2 _ rfl opn3
  obtain⟨v3,g3,r3⟩:=Qeh hf hx hz 3 _ rfl opn3
  obtain⟨v4,g4,r4⟩:=Qeh hf hx hz 4 _ rfl opn3
  exact⟨⟨v0,v1,v2,v3,v4⟩,⟨g0,g1,g2,g3,g4⟩,Qty (Qhf (Qhf (Qhf (Qhf (Qn0 r0) r1 rfl) r2 rfl) r3 rfl) r4 rfl) (hl.trans (by kernel_rfl))⟩⟩
theorem Zq2:Opn prog 23 1 Q2o Q41:=Qms underlying23 (by kernel_rfl) Zot (by decide) (by kernel_rfl)
theorem opn5:Opn prog 5 1 c_u8 Zox:=Za5 underlying5 (by kernel_rfl)
theorem Zqv:Opn prog 61 2 Qay Q42:=⟨by kernel_rfl,fun _=>rfl,fun _ _ _ _ _ _ _ _ _ h hw=>by
  obtain⟨xs,n,_,rfl,hl,hx,hf⟩:=DataW.trod_struct underlying61 h
  have hz:=Qlc underlying61 hw
  obtain⟨v0,g0,r0⟩:=Qeh hf hx hz 0 _ rfl opn3
  obtain⟨v1,g1,r1⟩:=Qeh hf hx hz 1 _ rfl opn3
  exact⟨⟨v0,v1⟩,⟨g0,g1⟩,Qty (Qhf (Qn0 r0) r1 rfl) (hl.trans (by kernel_rfl))⟩⟩
theorem Zqx:Opn prog 57 1 Qs5 Q0c:=Qms underlying57 (by kernel_rfl) Zqv (by decide) (by kernel_rfl)
theorem Zkw:Opn prog 27 1 Q0q Qyb:=Qms underlying27 (by kernel_rfl) opn3 (by decide) (by kernel_rfl)
theorem Zqw:Opn prog 59 7 Qac Quq:=⟨by kernel_rfl,fun _=>rfl,fun _ _ _ _ _ _ _ _ _ h hw=>by
  obtain⟨xs,n,_,rfl,hl,hx,hf⟩:=DataW.trod_struct underlying59 h
  have hz:=Qlc underlying59 hw
  obtain⟨v0,g0,r0⟩:=Qeh hf hx hz 0 _ rfl opn5
  obtain⟨v1,g1,r1⟩:=Qeh hf hx hz 1 _ rfl Zqx
  obtain⟨v2,g2,r2⟩:=Qeh hf hx hz 2 _ rfl opn3
  obtain⟨v3,g3,r3⟩:=Qeh hf hx hz 3 _ rfl opn3
  obtain⟨v4,g4,r4⟩:=Qeh hf hx hz 4 _ rfl opn3
  obtain⟨v5,g5,r5⟩:=Qeh hf hx hz 5 _ rfl opn3
  obtain⟨v6,g6,r6⟩:=Qeh hf hx hz 6 _ rfl Zkw
  exact⟨⟨v0,v1,v2,v3,v4,v5,v6⟩,⟨g0,g1,g2,g3,g4,g5,g6⟩,Qty (Qhf (Qhf (Qhf (Qhf (Qhf (Qhf (Qn0 r0) r1 rfl) r2 rfl) r3 rfl) r4 rfl) r5 rfl) r6 rfl) (hl.trans (by kernel_rfl))⟩⟩
theorem Zq1:Opn prog 24 1 Qpy Qsc:=Qms underlying24 (by kernel_rfl) Zqw (by decide) (by kernel_rfl)
theorem Zq0:Opn prog 26 2 Qf6 Zbx:=⟨by kernel_rfl,fun _=>rfl,fun _ _ _ _ _ _ _ _ _ h hw=>by
  obtain⟨xs,n,_,rfl,hl,hx,hf⟩:=DataW.trod_struct underlying26 h
  have hz:=Qlc underlying26 hw
  obtain⟨v0,g0,r0⟩:=Qeh hf hx hz 0 _ rfl Zq2
  obtain⟨v1,g1,r1⟩:=Qeh hf hx hz 1 _ rfl Zq1
  exact⟨⟨v0,v1⟩,⟨g0,g1⟩,Qty (Qhf (Qn0 r0) r1 rfl) (hl.trans (by kernel_rfl))⟩⟩
def Qwk (x:Qaa):Prop:=Qkl x.Mass∧Qkl x.Heat∧Qkl x.Silica∧Qkl x.Gas
def Qup (x:List Qaa):Prop:=x.length≤maxLen∧(∀y∈x,Qwk y)∧x.length*32≤140737488351232
theorem Zqu:Opn prog 89 4 Qah Qwk:=⟨by kernel_rfl,fun _=>rfl,fun _ _ _ _ _ _ _ _ _ h hw=>by
  obtain⟨xs,n,_,rfl,hl,hx,hf⟩:=DataW.trod_struct underlying89 h
  have hz:=Qlc underlying89 hw
  obtain⟨v0,g0,r0⟩:=Qeh hf hx hz 0 _ rfl opn3
  obtain⟨v1,g1,r1⟩:=Qeh hf hx hz 1 _ rfl opn3
  obtain⟨v2,g2,r2⟩:=Qeh hf hx hz 2 _ rfl opn3
  obtain⟨v3,g3,r3⟩:=Qeh hf hx hz 3 _ rfl opn3
  exact⟨⟨v0,v1,v2,v3⟩,⟨g0,g1,g2,g3⟩,Qty (Qhf (Qhf (Qhf (Qn0 r0) r1 rfl) r2 rfl) r3 rfl) (hl.trans (by kernel_rfl))⟩⟩
theorem Zqz:Opn prog 28 1 Qak Qup:=Qms underlying28 (by kernel_rfl) Zqu (by decide) (by kernel_rfl)
def Qsb (x:List (List Qaa)):Prop:=x.length≤maxLen∧(∀y∈x,Qup y)∧x.length*24≤140737488351232
theorem Zqy:Opn prog 49 1 Qpx Qsb:=Qms underlying49 (by kernel_rfl) Zqz (by decide) (by kernel_rfl)
end
section
set_option maxRecDepth 100000
set_option maxHeartbeats 4000000
open Go.RowKit
def Qda (_N:Nat) (p0 p1 p2:Int):Option Bool:=
  bif (decide (p1≤p0)) then
   some (decide (p0≤p2))
  else
   some false
theorem Qdh (N:Nat) (p0 p1 p2:Int) (r:Bool) (h:Qda N p0 p1 p2=some r):Spec prog 137 [(I p0),(I p1),(I p2)] [] (B r) []:=by
  refine Qan func137 rfl 0 (nle rfl) (fun X φ0 w0 hφ0 hd0=>?_)
  unfold Qda at h
  refine wxz ?_
  refine bfe h (fun hb1 h=>?_) fun hb1 h=>?_
  ·refine wx tbk [(3,rp [(.tmp 9,(B ((decide (p1≤p0)))))] (B true))] ⟨asb hb1 (amv rfl),tv⟩<|Qaj ?_
   obtain rfl:=osi h
   exact fend ⟨[(B ((decide (p0≤p2))))],⟨rot,tv⟩,rfl⟩ nll
  ·exact wx tbk [(3,rp [(.tmp 9,(B ((decide (p1≤p0)))))] (B false))] ⟨asb hb1 (amv rfl),tv⟩<|Qaj<|frb h
def Qho (N:Nat) (p0:GRow):Option Bool:=
  (Qda N p0.T 0 400).bind fun x2=>
  bif x2 then
   (Qda N p0.P 1 10000).bind fun x5=>
   bif x5 then
    (Qda N p0.Liquid 0 4000).bind fun x8=>
    bif x8 then
     (Qda N p0.Silica 0 2000).bind fun x11=>
     bif x11 then
      bif (decide (p0.Liquid<p0.Vapour)) then
       some (decide (p0.Vapour≤4000))
      else
       some false
     else
      some false
    else
     some false
   else
    some false
  else
   some false
def z8_2 (p0:GRow) (x2:Bool):List (Nat×Rec):=[(2,rp [fu 137,((.tmp 4),(I p0.T)),ci 0,ci 400] (B x2))]
def z8_3 p0 x2 (x5:Bool):=hcat (z8_2 p0 x2) [(3,rp [((.tmp 5),(B x2))] (B true)),(6,rp [((.tmp 6),(B true)),fu 137,((.tmp 8),(I p0.P)),ci 1,ci 10000] (B x5))]
def z8_4 p0 x2 x5 (x8:Bool):=hcat (z8_3 p0 x2 x5) [(8,rp [((.tmp 10),(B x5))] (B true)),(11,rp [((.tmp 11),(B true)),fu 137,((.tmp 13),(I p0.Liquid)),ci 0,ci 4000] (B x8))]
def z8_5 p0 x2 x5 x8 (x11:Bool):=hcat (z8_4 p0 x2 x5 x8) [(13,rp [((.tmp 15),(B x8))] (B true)),(16,rp [((.tmp 16),(B true)),fu 137,((.tmp 18),(I p0.Silica)),ci 0,ci 2000] (B x11))]
theorem Qpl (N:Nat) (p0:GRow) (r:Bool) (h:Qho N p0=some r):Spec prog 139 [(.agg (Qaq p0))] [] (B r) []:=by
  refine Qan func139 rfl 0 (nle rfl) (fun X φ0 w0 hφ0 hd0=>?_)
  unfold Qho at h
  refine wxz ?_
  obtain⟨x2,hf1,h⟩:=bno h
  refine hpre (A:=(z8_2 p0 x2)) ⟨apv Qjo (Qdh N p0.T 0 400 _ hf1) (nlcc (nlc nll nl0)) nll,tv⟩ fun q1_=>?_
  refine bfe h (fun hb3 h=>?_) fun hb3 h=>?_
  ·obtain⟨x5,hf4,h⟩:=bno h
   refine hpre (A:=(z8_3 p0 x2 x5)) (hap q1_ ⟨asb hb3 (amv rfl),ag_ (apv Qjo (Qdh N p0.P 1 10000 _ hf4) (nlcc (nlc nll nl0)) nll),tv⟩) fun q2_=>?_
   refine bfe h (fun hb6 h=>?_) fun hb6 h=>?_
   ·obtain⟨x8,hf7,h⟩:=bno h
    refine hpre (A:=(z8_4 p0 x2 x5 x8)) (hap q2_ ⟨asb hb6 (amv rfl),ag_ (apv Qjo (Qdh N p0.Liquid 0 4000 _ hf7) (nlcc (nlc nll nl0)) nll),tv⟩) fun q3_=>?_
    refine bfe h (fun hb9 h=>?_) fun hb9 h=>?_
    ·obtain⟨x11,hf10,h⟩:=bno h
     refine hpre (A:=(z8_5 p0 x2 x5 x8 x11)) (hap q3_ ⟨asb hb9 (amv rfl),ag_ (apv Qjo (Qdh N p0.Silica 0 2000 _ hf10) (nlcc (nlc nll nl0)) nll),tv⟩) fun q4_=>?_
     refine bfe h (fun hb12 h=>?_) fun hb12 h=>?_
     ·refine bfe h (fun hb13 h=>?_) fun hb13 h=>?_
      ·refine wx tbk (hcat (z8_5 p0 x2 x5 x8 x11) [(18,rp [(.tmp 20,B x11)] (B true)),(25,rp [(.tmp 27,(B ((decide (p0.Liquid<p0.Vapour)))))] (B true))]) (hap q4_ ⟨asb hb12 (amv rfl),asb hb13 (amv rfl),tv⟩)<|Qaj ?_
       obtain rfl:=osi h
       exact fend ⟨[(B ((decide (p0.Vapour≤4000))))],⟨rot,tv⟩,rfl⟩ nll
      ·exact wx tbk (hcat (z8_5 p0 x2 x5 x8 x11) [(18,rp [(.tmp 20,B x11)] (B true)),(25,rp [(.tmp 27,(B ((decide (p0.Liquid<p0.Vapour)))))] (B false))]) (hap q4_ ⟨asb hb12 (amv rfl),asb hb13 (amv rfl),tv⟩)<|Qaj<|frb h
     ·exact wx tbk (hcat (z8_5 p0 x2 x5 x8 x11) [(18,rp [(.tmp 20,B x11)] (B false))]) (hap q4_ ⟨asb hb12 (amv rfl),tv⟩)<|Qaj<|frb h
    ·exact wx tbk (hcat (z8_4 p0 x2 x5 x8) [(13,rp [(.tmp 15,B x8)] (B false))]) (hap q3_ ⟨asb hb9 (amv rfl),tv⟩)<|Qaj<|frb h
   ·exact wx tbk (hcat (z8_3 p0 x2 x5) [(8,rp [(.tmp 10,B x5)] (B false))]) (hap q2_ ⟨asb hb6 (amv rfl),tv⟩)<|Qaj<|frb h
  ·exact wx tbk (hcat (z8_2 p0 x2) [(3,rp [(.tmp 5,B x2)] (B false))]) (hap q1_ ⟨asb hb3 (amv rfl),tv⟩)<|Qaj<|frb h
def Qfl (N:Nat) (p0:GRow):Option Bool:=
  (Qho N p0).bind fun x3=>
  some (!x3)
def z7_1 (p0:GRow):AV:=.agg [(I p0.T),(I p0.P),(I p0.Liquid),(I p0.Vapour),(I p0.Silica)]
def z7_2:Slot:=.own 1 [[(.fn (.func 139) [] [])]]
theorem Qld (N:Nat) (p0:GRow) (r:Bool) (h:Qfl N p0=some r):Spec prog 148 [(z7_1 p0),(.ref 0 1 (0) 0)] [z7_2] (B r) [z7_2]:=by
  refine Qan func148 rfl 1 (nle rfl) (fun X φ0 w0 hφ0 hd0=>?_)
  unfold Qfl at h
  refine Qbw<|wxz ?_
  obtain⟨x3,hf2,h⟩:=bno h
  refine wx tbk [(2,rp _ _)] ⟨apv Zf9 (Qpl N p0 _ hf2) (nlc (NLt.agg _ (nlcc (nlcc (nlc nll nl0)))) nl0) nll,tv⟩ ?_
  refine wmr (mto (n:=8) (l':=[(3,(B ((!x3))))]) (own':=[z7_2]) [(3,(B ((!x3))))] [0] [z7_2] hφ0 (pw pn) (qb (lc (.rn (Qbi rn0 rn0)) ln) qn))<|Qaj ?_
  obtain rfl:=osi h
  exact⟨_,Mor.rfl,Qc1 (vs:=[(B ((!x3)))]) ⟨rot,tv⟩ rfl (NLt.of0 nll) (by kernel_rfl) (Qao (Qax (nlc (NLt.of0 (NLt.fn _ _ _ nl0 nl0)) nl0)) Qbq)⟩
def Qbd (N:Nat) (p0:List GRow) (k2:Unit→Option Int):Nat→Int→Option Int
  |0,_=>none
  |n5+1,y3=>
    bif (decide (y3<(p0.length:Int))) then
     (getI p0 y3).bind fun x7=>
     (Qfl N x7).bind fun x12=>
     bif x12 then
      some y3
     else
      Qbd N p0 k2 n5 (w64 (y3+1))
    else
     k2 ()
def Qct (N:Nat) (p0:List GRow):Option Int:=
  Qbl (fun _=>
    some (-1)) fun k2:Unit→Option Int=>
  Qbd N p0 k2 N 0
def z6_0:AV:=.fn (.func 148) [] [(.ref 0 1 (0) 0)]
def z6_2:Slot:=.own 1 [[(.fn (.func 139) [] [])]]
def z6_7 (x7:GRow):AV:=.agg [(I x7.T),(I x7.P),(I x7.Liquid),(I x7.Vapour),(I x7.Silica)]
theorem Qhp (N:Nat) (p0:List GRow) (r:Int) (h:Qct N p0=some r):Spec prog 156 [(.dat 5 (p0.map Qaq)),z6_0] [z6_2] (I r) [z6_2]:=by
  refine Qan func156 rfl 1 (nle rfl) (fun X φ0 w0 hφ0 hd0=>?_)
  unfold Qct at h
  refine Qbw<|wxz ?_
  obtain⟨k2,hk_k2,h⟩:=jko h
  refine wjn (τ:=Unit) (fun t=>k2 t=some r) (fun _=>⟨mk 19 [],[z6_2]⟩) (fun t h=>?_) ?_
  ·subst hk_k2
   refine wxz<|wmr (mto (n:=19) (l':=[(4,(I ((-1))))]) (own':=[z6_2]) [(4,(I ((-1))))] [0] [z6_2] hφ0 (pw pn) (qb (lc (.rn (Qbi rn0 rn0)) ln) qn))<|Qaj ?_
   obtain rfl:=osi h
   exact⟨_,Mor.rfl,Qc1 (vs:=[(I ((-1)))]) ⟨rot,tv⟩ rfl (NLt.of0 nll) (by kernel_rfl) (Qao (Qax (nlc (NLt.of0 (NLt.fn _ _ _ nl0 nl0)) nl0)) Qbq)⟩
  ·skip
   refine wx tbk [(1,rp _ _)] ⟨alq 5 Qaq p0 underlying38,tv⟩<|Qar ?_
   refine wmr (mto (n:=19) (l':=[(0,(.dat 5 (p0.map Qaq))),(1,z6_0),(7,(I ((p0.length:Int)))),(8,I 0)]) (own':=[z6_2]) [(0,(.dat 5 (p0.map Qaq))),(1,z6_0),(7,(I ((p0.length:Int)))),(8,I 0)] [0] [z6_2] hφ0 (pc (rnd Qag) (pc (.rn (Qbi rn0 (rnc (rqr rfl) rn0))) (pw (pw pn)))) (qb (lc (.rn (Qbi rn0 rn0)) ln) qn)) ?_
   refine Qbt (τ:=Int) (fun n t=>Qbd N p0 k2 n t=some r) (fun y3=>⟨mk 19 [(0,(.dat 5 (p0.map Qaq))),(1,z6_0),(7,(I ((p0.length:Int)))),(8,I y3)],[z6_2]⟩) (fun t h=>by rw[Qbd] at h;cases h) (fun n5 ih y3 h=>?_) N (0) h
   rw[Qbd] at h
   skip
   refine wxz<|wsq ?_
   refine bfe h (fun hc6 h=>?_) fun hc6 h=>?_
   ·refine wft hc6<|Qap<|thn<|wsq<|Qar<|wxz ?_
    obtain⟨x7,hg8,h⟩:=bno h
    obtain⟨hi9,hj10⟩:=gsm hg8
    obtain⟨x12,hf11,h⟩:=bno h
    refine wx tbk [(3,rp _ _),(5,⟨_,_,_,_,false⟩)] ⟨aiq underlying38 Qsp Qaq hi9 hj10,Qav (first:=[]) (cap:=[.ref 0 1 0 0]) (vs:=[(z6_7 x7)]) (σr:=[z6_2]) (σr':=[z6_2]) (res':=(B x12)) [0] rfl Zf1 (Qld N x7 _ hf11) rfl (Qbs (rnc (.plain _ (NLt.agg _ (nlcc (nlcc (nlc nll nl0))))) (rnc (Qa1 rfl) rn0))) (slc (Qas (rnc (.plain _ (NLt.fn _ _ _ nl0 nl0)) rn0)) Qau) (slc (Qas (rnc (.plain _ (NLt.fn _ _ _ nl0 nl0)) rn0)) Qau) (.plain _ nll) rfl rfl rfl,tv⟩ ?_
    refine bfe h (fun hc13 h=>?_) fun hc13 h=>?_
    ·refine wft hc13<|wxz ?_
     refine wmr (mto (n:=19) (l':=[(4,I y3)]) (own':=[z6_2]) [(4,I y3)] [0] [z6_2] hφ0 (pw pn) (qb (lc (.rn (Qbi rn0 rn0)) ln) qn))<|Qaj<|Qat<|Qal<|Qal<|Qat<|Qal ?_
     obtain rfl:=osi h
     exact⟨_,Mor.rfl,Qc1 (vs:=[I y3]) ⟨rot,tv⟩ rfl (NLt.of0 nll) (by kernel_rfl) (Qao (Qax (nlc (NLt.of0 (NLt.fn _ _ _ nl0 nl0)) nl0)) Qbq)⟩
    ·exact wfn hc13<|Qap<|bln<|thn<|wxz1<|thn<|arm (mto (n:=19) [(0,(.dat 5 (p0.map Qaq))),(1,z6_0),(7,(I ((p0.length:Int)))),(8,(I (w64 (y3+1))))] [0] [z6_2] hφ0 (pc (rnd Qag) (pc (.rn (Qbi rn0 (rnc (rqr rfl) rn0))) (pw (pw pn)))) (qb (lc (.rn (Qbi rn0 rn0)) ln) qn)) (ih (w64 (y3+1)) h)
   ·exact wfn hc6<|Qbf<|Qaw<|Qaw<|Qbe rfl<|thn<|⟨(),h,(mto (n:=19) [] [0] [z6_2] hφ0 pn (qb (lc (.rn (Qbi rn0 rn0)) ln) qn))⟩
def Qcl (N:Nat) (p0:List GRow):Option Bool:=
  (Qct N p0).bind fun x3=>
  some (decide (x3≥0))
def z5_0:AV:=.fn (.func 148) [] [(.ref 0 1 (0) 0)]
def z5_1:Slot:=.own 1 [[(.fn (.func 139) [] [])]]
theorem Qg5 (N:Nat) (p0:List GRow) (r:Bool) (h:Qcl N p0=some r):Spec prog 147 [(.dat 5 (p0.map Qaq)),z5_0] [z5_1] (B r) [z5_1]:=by
  refine Qan func147 rfl 1 (nle rfl) (fun X φ0 w0 hφ0 hd0=>?_)
  unfold Qcl at h
  refine Qbw<|wxz ?_
  obtain⟨x3,hf2,h⟩:=bno h
  refine wx tbk [(2,⟨_,_,_,_,false⟩)] ⟨Qav (first:=[]) (cap:=[]) (vs:=[(.dat 5 (p0.map Qaq)),z5_0]) (σr:=[z5_1]) (σr':=[z5_1]) (res':=(I x3)) [0] rfl Zfu (Qhp N p0 _ hf2) rfl (Qbs (rnc (pld Qag) (rnc (Qbi rn0 (rnc (Qa1 rfl) rn0)) rn0))) (slc (Qas (rnc (.plain _ (NLt.fn _ _ _ nl0 nl0)) rn0)) Qau) (slc (Qas (rnc (.plain _ (NLt.fn _ _ _ nl0 nl0)) rn0)) Qau) (.plain _ nll) rfl rfl rfl,tv⟩ ?_
  refine wmr (mto (n:=9) (l':=[(4,(B ((decide (x3≥0)))))]) (own':=[z5_1]) [(4,(B ((decide (x3≥0)))))] [0] [z5_1] hφ0 (pw pn) (qb (lc (.rn (Qbi rn0 rn0)) ln) qn))<|Qaj ?_
  obtain rfl:=osi h
  exact⟨_,Mor.rfl,Qc1 (vs:=[(B ((decide (x3≥0))))]) ⟨rot,tv⟩ rfl (NLt.of0 nll) (by kernel_rfl) (Qao (Qax (nlc (NLt.of0 (NLt.fn _ _ _ nl0 nl0)) nl0)) Qbq)⟩
def Qe6 (N:Nat) (p0:List GRow):Option Bool:=
  (Qcl N p0).bind fun x2=>
  some (!x2)
def z4_1:AV:=.fn (.func 148) [] [(.ref 0 1 (0) 0)]
def z4_0:Slot:=.own 1 [[(.fn (.func 139) [] [])]]
theorem Ql8 (N:Nat) (p0:List GRow) (r:Bool) (h:Qe6 N p0=some r):Spec prog 138 [(.dat 5 (p0.map Qaq)),(.fn (.func 139) [] [])] [] (B r) []:=by
  refine Qan func138 rfl 0 (nle rfl) (fun X φ0 w0 hφ0 hd0=>?_)
  unfold Qe6 at h
  refine wxz ?_
  obtain⟨x2,hf1,h⟩:=bno h
  refine wx tbk [(1,rp [(.tmp 3,.ref 0 1 0 0)] z4_1),(2,⟨_,_,_,_,false⟩)] ⟨Qfq (fs:=[]) (cs:=[.ref 0 1 0 0]) rfl rfl rfl rfl,Qav (first:=[]) (cap:=[]) (vs:=[(.dat 5 (p0.map Qaq)),z4_1]) (σr:=[z4_0]) (σr':=[z4_0]) (res':=(B x2)) [0] rfl Zf2 (Qg5 N p0 _ hf1) rfl (Qbs (rnc (pld Qag) (rnc (Qbi rn0 (rnc (Qa1 rfl) rn0)) rn0))) (slc (Qas (rnc (.plain _ (NLt.fn _ _ _ nl0 nl0)) rn0)) Qau) (slc (Qas (rnc (.plain _ (NLt.fn _ _ _ nl0 nl0)) rn0)) Qau) (.plain _ nll) rfl rfl rfl,tv⟩<|Qaj ?_
  obtain rfl:=osi h
  exact fend ⟨[(B ((!x2)))],⟨rot,tv⟩,rfl⟩ nll
def Qc3 (N:Nat) (p0:List GRow) (k2:Unit→Option Bool):Nat→Int→Option Bool
  |0,_=>none
  |n6+1,y4=>
    bif (decide (y4<((p0.drop (1:Int).toNat).length:Int))) then
     (getI (p0.drop (1:Int).toNat) y4).bind fun x8=>
     (getI p0 y4).bind fun x12=>
     bif (decide (x8.T≤x12.T)) then
      some false
     else
      bif (decide (x8.P≤x12.P)) then
       some false
      else
       bif (decide (x8.Liquid≤x12.Liquid)) then
        some false
       else
        bif (decide (x8.Silica<x12.Silica)) then
         some false
        else
         Qc3 N p0 k2 n6 (w64 (y4+1))
    else
     k2 ()
def Qfm (N:Nat) (p0:List GRow):Option Bool:=
  Qbl (fun _=>
    Qbl (fun _=>
      some true) fun k2:Unit→Option Bool=>
    chk (decide (0≤1)&&decide (1≤(p0.length:Int))&&decide ((p0.length:Int)≤(p0.length:Int)))<|
    Qc3 N p0 k2 N 0) fun k1:Unit→Option Bool=>
  (Qda N (p0.length:Int) 2 20).bind fun x21=>
  bif (!x21) then
   some false
  else
   (Qe6 N p0).bind fun x24=>
   bif (!x24) then
    some false
   else
    k1 ()
def z2_0 (p0:List GRow):AV:=.dat 5 ((p0.drop (1:Int).toNat:List GRow).map Qaq)
def Zee (x8 x12:GRow):List (Nat×Rec):=[(5,rp [((.tmp 31),(B ((decide (x8.T≤x12.T)))))] (B false))]
def Zjv (p0:List GRow) (x21:Bool):List (Nat×Rec):=[(1,rp [((.tmp 6),(.dat 5 (p0.map Qaq)))] (I ((p0.length:Int)))),(2,rp [fu 137,((.tmp 7),(I ((p0.length:Int)))),ci 2,ci 20] (B x21))]
theorem Qj5 (N:Nat) (p0:List GRow) (r:Bool) (h:Qfm N p0=some r):Spec prog 122 [(.dat 5 (p0.map Qaq))] [] (B r) []:=by
  refine Qan func122 rfl 0 (nle rfl) (fun X φ0 w0 hφ0 hd0=>?_)
  unfold Qfm at h
  refine wxz ?_
  obtain⟨k1,hk_k1,h⟩:=jko h
  refine wjn (τ:=Unit) (fun t=>k1 t=some r) (fun _=>⟨mk 54 [(0,(.dat 5 (p0.map Qaq)))],[]⟩) (fun t h=>?_) ?_
  ·subst hk_k1
   obtain⟨k2,hk_k2,h⟩:=jko h
   refine wjn (τ:=Unit) (fun t=>k2 t=some r) (fun _=>⟨mk 54 [],[]⟩) (fun t h=>?_) ?_
   ·subst hk_k2
    exact wxz<|Qaj<|frb h
   ·skip
    obtain⟨hs3,h⟩:=cko h
    refine wx tbk [(1,rp [(.tmp 15,(.dat 5 (p0.map Qaq))),ci 1] (z2_0 p0)),(2,rp _ _)] ⟨Qoe (k:=.i64) (k':=.i64) (lo:=some (.const (.int .i64 1))) (hi:=none) (l:=1) (hh:=((p0.length:Nat):Int)) rfl underlying39 Qsp rfl (fun e=>nomatch e) (fun _=>by simp) (Q22 hs3) (Q21 hs3) (Zme Qaq hs3) (Zon Qaq),alq 5 Qaq (p0.drop (1:Int).toNat) underlying39,tv⟩<|Qar ?_
    refine wmr (mto (n:=54) (l':=[(0,(.dat 5 (p0.map Qaq))),(16,(z2_0 p0)),(17,(I (((p0.drop (1:Int).toNat).length:Int)))),(18,I 0)]) (own':=[]) [(0,(.dat 5 (p0.map Qaq))),(16,(z2_0 p0)),(17,(I (((p0.drop (1:Int).toNat).length:Int)))),(18,I 0)] [] [] hφ0 (pc (rnd Qag) (pc (rnd Qag) (pw (pw pn)))) qn) ?_
    refine Qbt (τ:=Int) (fun n t=>Qc3 N p0 k2 n t=some r) (fun y4=>⟨mk 54 [(0,(.dat 5 (p0.map Qaq))),(16,(z2_0 p0)),(17,(I (((p0.drop (1:Int).toNat).length:Int)))),(18,I y4)],[]⟩) (fun t h=>by rw[Qc3] at h;cases h) (fun n6 ih y4 h=>?_) N (0) h
    rw[Qc3] at h
    skip
    refine wxz<|wsq ?_
    refine bfe h (fun hc7 h=>?_) fun hc7 h=>?_
    ·refine wft hc7<|Qap<|thn<|wsq<|Qar ?_
     obtain⟨x8,hg9,h⟩:=bno h
     obtain⟨hi10,hj11⟩:=gsm hg9
     refine wx tbk [(1,rp _ _)] ⟨aiq underlying39 Qsp Qaq hi10 hj11,tv⟩ ?_
     obtain⟨x12,hg13,h⟩:=bno h
     obtain⟨hi14,hj15⟩:=gsm hg13
     refine wx tbk [(2,rp _ _)] ⟨aiq underlying39 Qsp Qaq hi14 hj15,tv⟩ ?_
     refine bfe h (fun hb16 h=>?_) fun hb16 h=>?_
     ·exact wx tbk [(5,rp [(.tmp 31,(B ((decide (x8.T≤x12.T)))))] (B true))] ⟨asb hb16 (amv rfl),tv⟩<|wtr<|wxz<|Qaj<|Qat<|Qal<|Qal<|Qat<|Qal<|frb h
     ·refine hpre (A:=(Zee x8 x12)) ⟨asb hb16 (amv rfl),tv⟩ fun q1_=>?_
      refine bfe h (fun hb17 h=>?_) fun hb17 h=>?_
      ·exact wx tbk (hcat (Zee x8 x12) [(12,rp [(.tmp 38,(B ((decide (x8.P≤x12.P)))))] (B true))]) (hap q1_ ⟨asb hb17 (amv rfl),tv⟩)<|wtr<|wxz<|Qaj<|Qat<|Qal<|Qal<|Qat<|Qal<|frb h
      ·refine bfe h (fun hb18 h=>?_) fun hb18 h=>?_
       ·exact wx tbk (hcat (Zee x8 x12) [(12,rp [(.tmp 38,(B ((decide (x8.P≤x12.P)))))] (B false)),(19,rp [(.tmp 45,(B ((decide (x8.Liquid≤x12.Liquid)))))] (B true))]) (hap q1_ ⟨asb hb17 (amv rfl),asb hb18 (amv rfl),tv⟩)<|wtr<|wxz<|Qaj<|Qat<|Qal<|Qal<|Qat<|Qal<|frb h
       ·refine wx tbk (hcat (Zee x8 x12) [(12,rp [(.tmp 38,(B ((decide (x8.P≤x12.P)))))] (B false)),(19,rp [(.tmp 45,(B ((decide (x8.Liquid≤x12.Liquid)))))] (B false))]) (hap q1_ ⟨asb hb17 (amv rfl),asb hb18 (amv rfl),tv⟩) ?_
        refine bfe h (fun hc19 h=>?_) fun hc19 h=>?_
        ·exact wft hc19<|wxz<|Qaj<|Qat<|Qal<|Qal<|Qat<|Qal<|frb h
        ·exact wfn hc19<|Qap<|bln<|thn<|wxz1<|thn<|arm (mto (n:=54) [(0,(.dat 5 (p0.map Qaq))),(16,(z2_0 p0)),(17,(I (((p0.drop (1:Int).toNat).length:Int)))),(18,(I (w64 (y4+1))))] [] [] hφ0 (pc (rnd Qag) (pc (rnd Qag) (pw (pw pn)))) qn) (ih (w64 (y4+1)) h)
    ·exact wfn hc7<|Qbf<|Qaw<|Qaw<|Qbe rfl<|thn<|⟨(),h,(mto (n:=54) [] [] [] hφ0 pn qn)⟩
  ·skip
   obtain⟨x21,hf20,h⟩:=bno h
   refine hpre (A:=(Zjv p0 x21)) ⟨alq 5 Qaq p0 underlying39,apv Qjo (Qdh N (p0.length:Int) 2 20 _ hf20) (nlcc (nlc nll nl0)) nll,tv⟩ fun q2_=>?_
   refine bfe h (fun hb22 h=>?_) fun hb22 h=>?_
   ·exact wx tbk (hcat (Zjv p0 x21) [(4,rp [(.tmp 9,(B ((!x21))))] (B true))]) (hap q2_ ⟨asb hb22 (amv rfl),tv⟩)<|wtr<|wxz<|Qaj<|Qal<|frb h
   ·obtain⟨x24,hf23,h⟩:=bno h
    refine wx tbk (hcat (Zjv p0 x21) [(4,rp [(.tmp 9,(B ((!x21))))] (B false)),(6,rp [(.tmp 10,B false),fu 138,(.tmp 11,(.dat 5 (p0.map Qaq))),fu 139] (B x24))]) (hap q2_ ⟨asb hb22 (amv rfl),ag_ (Qav (first:=[]) (cap:=[]) (vs:=[(.dat 5 (p0.map Qaq)),(.fn (.func 139) [] [])]) (σr:=[]) (σr':=[]) (res':=(B x24)) [] rfl Zga (Ql8 N p0 _ hf23) rfl (Qbs (rnc (pld Qag) (rnc (.plain _ (NLt.fn _ _ _ nl0 nl0)) rn0))) Qau Qau (.plain _ nll) rfl rfl rfl),tv⟩) ?_
    refine bfe h (fun hc25 h=>?_) fun hc25 h=>?_
    ·exact wft hc25<|wxz<|Qaj<|Qal<|frb h
    ·exact wfn hc25<|Qap<|thn<|⟨(),h,(mto (n:=54) [(0,(.dat 5 (p0.map Qaq)))] [] [] hφ0 (pc (rnd Qag) pn) qn)⟩
def Qic (N:Nat) (p0:List GRow):Option Int:=
  (Qfm N p0).bind fun x2=>
  bif (!x2) then
   some 1
  else
   some 0
theorem Qou (N:Nat) (p0:List GRow) (r:Int) (h:Qic N p0=some r):Spec prog 100 [(.dat 5 (p0.map Qaq))] [] (I r) []:=by
  refine Qan func100 rfl 0 (nle rfl) (fun X φ0 w0 hφ0 hd0=>?_)
  unfold Qic at h
  refine wxz<|wsq ?_
  obtain⟨x2,hf1,h⟩:=bno h
  refine wx tbk [(1,rp _ _)] ⟨apv Q5e (Qj5 N p0 _ hf1) (nlc (nld Qag _) nl0) nll,tv⟩ ?_
  refine bfe h (fun hc3 h=>?_) fun hc3 h=>?_
  ·refine wft hc3<|wxz<|Qaj<|Qal ?_
   obtain rfl:=osi h
   exact fend ⟨[I 1],⟨rot,tv⟩,rfl⟩ nll
  ·refine wfn hc3<|Qap<|thn<|wxz<|Qaj ?_
   obtain rfl:=osi h
   exact fend ⟨[I 0],⟨rot,tv⟩,rfl⟩ nll
def Qcw (_N:Nat) (p0 p1 p2:Int):Option Bool:=
  bif (decide (p1≤p0)) then
   some (decide (p0≤p2))
  else
   some false
theorem Qdq (N:Nat) (p0 p1 p2:Int) (r:Bool) (h:Qcw N p0 p1 p2=some r):Spec prog 65 [(I p0),(I p1),(I p2)] [] (B r) []:=by
  refine Qan func65 rfl 0 (nle rfl) (fun X φ0 w0 hφ0 hd0=>?_)
  unfold Qcw at h
  refine wxz ?_
  refine bfe h (fun hb1 h=>?_) fun hb1 h=>?_
  ·refine wx tbk [(3,rp [(.tmp 9,(B ((decide (p1≤p0)))))] (B true))] ⟨asb hb1 (amv rfl),tv⟩<|Qaj ?_
   obtain rfl:=osi h
   exact fend ⟨[(B ((decide (p0≤p2))))],⟨rot,tv⟩,rfl⟩ nll
  ·exact wx tbk [(3,rp [(.tmp 9,(B ((decide (p1≤p0)))))] (B false))] ⟨asb hb1 (amv rfl),tv⟩<|Qaj<|frb h
def Qgx (N:Nat) (p0:Int):Option Bool:=
  (Qcw N p0 0 1000).bind fun x2=>
  some x2
theorem Qmp (N:Nat) (p0:Int) (r:Bool) (h:Qgx N p0=some r):Spec prog 125 [(I p0)] [] (B r) []:=by
  refine Qan func125 rfl 0 (nle rfl) (fun X φ0 w0 hφ0 hd0=>?_)
  unfold Qgx at h
  refine wxz ?_
  obtain⟨x2,hf1,h⟩:=bno h
  exact wx tbk [(1,rp _ _)] ⟨apv Qlm (Qdq N p0 0 1000 _ hf1) (nlcc (nlc nll nl0)) nll,tv⟩<|Qaj<|frb h
def Qha (N:Nat) (p0:Int):Option Bool:=
  (Qgx N p0).bind fun x3=>
  some (!x3)
def Zeh:Slot:=.own 1 [[(.fn (.func 125) [] [])]]
theorem Qo1 (N:Nat) (p0:Int) (r:Bool) (h:Qha N p0=some r):Spec prog 128 [(I p0),(.ref 0 1 (0) 0)] [Zeh] (B r) [Zeh]:=by
  refine Qan func128 rfl 1 (nle rfl) (fun X φ0 w0 hφ0 hd0=>?_)
  unfold Qha at h
  refine Qbw<|wxz ?_
  obtain⟨x3,hf2,h⟩:=bno h
  refine wx tbk [(2,rp _ _)] ⟨apv Zgh (Qmp N p0 _ hf2) (nlc nll nl0) nll,tv⟩ ?_
  refine wmr (mto (n:=8) (l':=[(3,(B ((!x3))))]) (own':=[Zeh]) [(3,(B ((!x3))))] [0] [Zeh] hφ0 (pw pn) (qb (lc (.rn (Qbi rn0 rn0)) ln) qn))<|Qaj ?_
  obtain rfl:=osi h
  exact⟨_,Mor.rfl,Qc1 (vs:=[(B ((!x3)))]) ⟨rot,tv⟩ rfl (NLt.of0 nll) (by kernel_rfl) (Qao (Qax (nlc (NLt.of0 (NLt.fn _ _ _ nl0 nl0)) nl0)) Qbq)⟩
def Qcd (N:Nat) (p0:List Int) (k2:Unit→Option Int):Nat→Int→Option Int
  |0,_=>none
  |n5+1,y3=>
    bif (decide (y3<(p0.length:Int))) then
     (getI p0 y3).bind fun x7=>
     (Qha N x7).bind fun x12=>
     bif x12 then
      some y3
     else
      Qcd N p0 k2 n5 (w64 (y3+1))
    else
     k2 ()
def Qes (N:Nat) (p0:List Int):Option Int:=
  Qbl (fun _=>
    some (-1)) fun k2:Unit→Option Int=>
  Qcd N p0 k2 N 0
def Q9a:AV:=.fn (.func 128) [] [(.ref 0 1 (0) 0)]
def Qqa:Slot:=.own 1 [[(.fn (.func 125) [] [])]]
theorem Qkd (N:Nat) (p0:List Int) (r:Int) (h:Qes N p0=some r):Spec prog 141 [(.dat 1 (p0.map Qad)),Q9a] [Qqa] (I r) [Qqa]:=by
  refine Qan func141 rfl 1 (nle rfl) (fun X φ0 w0 hφ0 hd0=>?_)
  unfold Qes at h
  refine Qbw<|wxz ?_
  obtain⟨k2,hk_k2,h⟩:=jko h
  refine wjn (τ:=Unit) (fun t=>k2 t=some r) (fun _=>⟨mk 19 [],[Qqa]⟩) (fun t h=>?_) ?_
  ·subst hk_k2
   refine wxz<|wmr (mto (n:=19) (l':=[(4,(I ((-1))))]) (own':=[Qqa]) [(4,(I ((-1))))] [0] [Qqa] hφ0 (pw pn) (qb (lc (.rn (Qbi rn0 rn0)) ln) qn))<|Qaj ?_
   obtain rfl:=osi h
   exact⟨_,Mor.rfl,Qc1 (vs:=[(I ((-1)))]) ⟨rot,tv⟩ rfl (NLt.of0 nll) (by kernel_rfl) (Qao (Qax (nlc (NLt.of0 (NLt.fn _ _ _ nl0 nl0)) nl0)) Qbq)⟩
  ·skip
   refine wx tbk [(1,rp _ _)] ⟨alq 1 Qad p0 underlying27,tv⟩<|Qar ?_
   refine wmr (mto (n:=19) (l':=[(0,(.dat 1 (p0.map Qad))),(1,Q9a),(7,(I ((p0.length:Int)))),(8,I 0)]) (own':=[Qqa]) [(0,(.dat 1 (p0.map Qad))),(1,Q9a),(7,(I ((p0.length:Int)))),(8,I 0)] [0] [Qqa] hφ0 (pc (rnd Qaf) (pc (.rn (Qbi rn0 (rnc (rqr rfl) rn0))) (pw (pw pn)))) (qb (lc (.rn (Qbi rn0 rn0)) ln) qn)) ?_
   refine Qbt (τ:=Int) (fun n t=>Qcd N p0 k2 n t=some r) (fun y3=>⟨mk 19 [(0,(.dat 1 (p0.map Qad))),(1,Q9a),(7,(I ((p0.length:Int)))),(8,I y3)],[Qqa]⟩) (fun t h=>by rw[Qcd] at h;cases h) (fun n5 ih y3 h=>?_) N (0) h
   rw[Qcd] at h
   skip
   refine wxz<|wsq ?_
   refine bfe h (fun hc6 h=>?_) fun hc6 h=>?_
   ·refine wft hc6<|Qap<|thn<|wsq<|Qar<|wxz ?_
    obtain⟨x7,hg8,h⟩:=bno h
    obtain⟨hi9,hj10⟩:=gsm hg8
    obtain⟨x12,hf11,h⟩:=bno h
    refine wx tbk [(3,rp _ _),(5,⟨_,_,_,_,false⟩)] ⟨aiq underlying27 ti3 Qad hi9 hj10,Qav (first:=[]) (cap:=[.ref 0 1 0 0]) (vs:=[I x7]) (σr:=[Qqa]) (σr':=[Qqa]) (res':=(B x12)) [0] rfl Q5d (Qo1 N x7 _ hf11) rfl (Qbs (rnc (.plain _ nll) (rnc (Qa1 rfl) rn0))) (slc (Qas (rnc (.plain _ (NLt.fn _ _ _ nl0 nl0)) rn0)) Qau) (slc (Qas (rnc (.plain _ (NLt.fn _ _ _ nl0 nl0)) rn0)) Qau) (.plain _ nll) rfl rfl rfl,tv⟩ ?_
    refine bfe h (fun hc13 h=>?_) fun hc13 h=>?_
    ·refine wft hc13<|wxz ?_
     refine wmr (mto (n:=19) (l':=[(4,I y3)]) (own':=[Qqa]) [(4,I y3)] [0] [Qqa] hφ0 (pw pn) (qb (lc (.rn (Qbi rn0 rn0)) ln) qn))<|Qaj<|Qat<|Qal<|Qal<|Qat<|Qal ?_
     obtain rfl:=osi h
     exact⟨_,Mor.rfl,Qc1 (vs:=[I y3]) ⟨rot,tv⟩ rfl (NLt.of0 nll) (by kernel_rfl) (Qao (Qax (nlc (NLt.of0 (NLt.fn _ _ _ nl0 nl0)) nl0)) Qbq)⟩
    ·exact wfn hc13<|Qap<|bln<|thn<|wxz1<|thn<|arm (mto (n:=19) [(0,(.dat 1 (p0.map Qad))),(1,Q9a),(7,(I ((p0.length:Int)))),(8,(I (w64 (y3+1))))] [0] [Qqa] hφ0 (pc (rnd Qaf) (pc (.rn (Qbi rn0 (rnc (rqr rfl) rn0))) (pw (pw pn)))) (qb (lc (.rn (Qbi rn0 rn0)) ln) qn)) (ih (w64 (y3+1)) h)
   ·exact wfn hc6<|Qbf<|Qaw<|Qaw<|Qbe rfl<|thn<|⟨(),h,(mto (n:=19) [] [0] [Qqa] hφ0 pn (qb (lc (.rn (Qbi rn0 rn0)) ln) qn))⟩
def Qc7 (N:Nat) (p0:List Int):Option Bool:=
  (Qes N p0).bind fun x3=>
  some (decide (x3≥0))
def Znq:AV:=.fn (.func 128) [] [(.ref 0 1 (0) 0)]
def Q6a:Slot:=.own 1 [[(.fn (.func 125) [] [])]]
theorem Qjb (N:Nat) (p0:List Int) (r:Bool) (h:Qc7 N p0=some r):Spec prog 126 [(.dat 1 (p0.map Qad)),Znq] [Q6a] (B r) [Q6a]:=by
  refine Qan func126 rfl 1 (nle rfl) (fun X φ0 w0 hφ0 hd0=>?_)
  unfold Qc7 at h
  refine Qbw<|wxz ?_
  obtain⟨x3,hf2,h⟩:=bno h
  refine wx tbk [(2,⟨_,_,_,_,false⟩)] ⟨Qav (first:=[]) (cap:=[]) (vs:=[(.dat 1 (p0.map Qad)),Znq]) (σr:=[Q6a]) (σr':=[Q6a]) (res':=(I x3)) [0] rfl Qqz (Qkd N p0 _ hf2) rfl (Qbs (rnc (pld Qaf) (rnc (Qbi rn0 (rnc (Qa1 rfl) rn0)) rn0))) (slc (Qas (rnc (.plain _ (NLt.fn _ _ _ nl0 nl0)) rn0)) Qau) (slc (Qas (rnc (.plain _ (NLt.fn _ _ _ nl0 nl0)) rn0)) Qau) (.plain _ nll) rfl rfl rfl,tv⟩ ?_
  refine wmr (mto (n:=9) (l':=[(4,(B ((decide (x3≥0)))))]) (own':=[Q6a]) [(4,(B ((decide (x3≥0)))))] [0] [Q6a] hφ0 (pw pn) (qb (lc (.rn (Qbi rn0 rn0)) ln) qn))<|Qaj ?_
  obtain rfl:=osi h
  exact⟨_,Mor.rfl,Qc1 (vs:=[(B ((decide (x3≥0))))]) ⟨rot,tv⟩ rfl (NLt.of0 nll) (by kernel_rfl) (Qao (Qax (nlc (NLt.of0 (NLt.fn _ _ _ nl0 nl0)) nl0)) Qbq)⟩
def Qhb (N:Nat) (p0:List Int):Option Bool:=
  (Qc7 N p0).bind fun x2=>
  some (!x2)
def Zns:AV:=.fn (.func 128) [] [(.ref 0 1 (0) 0)]
def Znt:Slot:=.own 1 [[(.fn (.func 125) [] [])]]
theorem Qqo (N:Nat) (p0:List Int) (r:Bool) (h:Qhb N p0=some r):Spec prog 108 [(.dat 1 (p0.map Qad)),(.fn (.func 125) [] [])] [] (B r) []:=by
  refine Qan func108 rfl 0 (nle rfl) (fun X φ0 w0 hφ0 hd0=>?_)
  unfold Qhb at h
  refine wxz ?_
  obtain⟨x2,hf1,h⟩:=bno h
  refine wx tbk [(1,rp [(.tmp 3,.ref 0 1 0 0)] Zns),(2,⟨_,_,_,_,false⟩)] ⟨Qfq (fs:=[]) (cs:=[.ref 0 1 0 0]) rfl rfl rfl rfl,Qav (first:=[]) (cap:=[]) (vs:=[(.dat 1 (p0.map Qad)),Zns]) (σr:=[Znt]) (σr':=[Znt]) (res':=(B x2)) [0] rfl Qq0 (Qjb N p0 _ hf1) rfl (Qbs (rnc (pld Qaf) (rnc (Qbi rn0 (rnc (Qa1 rfl) rn0)) rn0))) (slc (Qas (rnc (.plain _ (NLt.fn _ _ _ nl0 nl0)) rn0)) Qau) (slc (Qas (rnc (.plain _ (NLt.fn _ _ _ nl0 nl0)) rn0)) Qau) (.plain _ nll) rfl rfl rfl,tv⟩<|Qaj ?_
  obtain rfl:=osi h
  exact fend ⟨[(B ((!x2)))],⟨rot,tv⟩,rfl⟩ nll
def Qgw (_N:Nat) (p0:Int):Option Bool:=
  some (decide (p0>0))
theorem Qmo (N:Nat) (p0:Int) (r:Bool) (h:Qgw N p0=some r):Spec prog 127 [(I p0)] [] (B r) []:=by
  refine Qan func127 rfl 0 (nle rfl) (fun X φ0 w0 hφ0 hd0=>?_)
  unfold Qgw at h
  refine wxz<|wxz<|Qaj ?_
  obtain rfl:=osi h
  exact fend ⟨[(B ((decide (p0>0))))],⟨rot,tv⟩,rfl⟩ nll
def Qcc (N:Nat) (p0:List Int) (k1:Unit→Option Int):Nat→Int→Option Int
  |0,_=>none
  |n4+1,y2=>
    bif (decide (y2<(p0.length:Int))) then
     (getI p0 y2).bind fun x6=>
     (Qgw N x6).bind fun x11=>
     bif x11 then
      some y2
     else
      Qcc N p0 k1 n4 (w64 (y2+1))
    else
     k1 ()
def Qer (N:Nat) (p0:List Int):Option Int:=
  Qbl (fun _=>
    some (-1)) fun k1:Unit→Option Int=>
  Qcc N p0 k1 N 0
theorem Qkc (N:Nat) (p0:List Int) (r:Int) (h:Qer N p0=some r):Spec prog 141 [(.dat 1 (p0.map Qad)),(.fn (.func 127) [] [])] [] (I r) []:=by
  refine Qan func141 rfl 0 (nle rfl) (fun X φ0 w0 hφ0 hd0=>?_)
  unfold Qer at h
  refine wxz ?_
  obtain⟨k1,hk_k1,h⟩:=jko h
  refine wjn (τ:=Unit) (fun t=>k1 t=some r) (fun _=>⟨mk 19 [],[]⟩) (fun t h=>?_) ?_
  ·subst hk_k1
   refine wxz<|Qaj ?_
   obtain rfl:=osi h
   exact fend ⟨[(I ((-1)))],⟨rot,tv⟩,rfl⟩ nll
  ·skip
   refine wx tbk [(1,rp _ _)] ⟨alq 1 Qad p0 underlying27,tv⟩<|Qar ?_
   refine wmr (mto (n:=19) (l':=[(0,(.dat 1 (p0.map Qad))),(1,(.fn (.func 127) [] [])),(7,(I ((p0.length:Int)))),(8,I 0)]) (own':=[]) [(0,(.dat 1 (p0.map Qad))),(1,(.fn (.func 127) [] [])),(7,(I ((p0.length:Int)))),(8,I 0)] [] [] hφ0 (pc (rnd Qaf) (pc (.rn (Qbi rn0 rn0)) (pw (pw pn)))) qn) ?_
   refine Qbt (τ:=Int) (fun n t=>Qcc N p0 k1 n t=some r) (fun y2=>⟨mk 19 [(0,(.dat 1 (p0.map Qad))),(1,(.fn (.func 127) [] [])),(7,(I ((p0.length:Int)))),(8,I y2)],[]⟩) (fun t h=>by rw[Qcc] at h;cases h) (fun n4 ih y2 h=>?_) N (0) h
   rw[Qcc] at h
   skip
   refine wxz<|wsq ?_
   refine bfe h (fun hc5 h=>?_) fun hc5 h=>?_
   ·refine wft hc5<|Qap<|thn<|wsq<|Qar<|wxz ?_
    obtain⟨x6,hg7,h⟩:=bno h
    obtain⟨hi8,hj9⟩:=gsm hg7
    obtain⟨x11,hf10,h⟩:=bno h
    refine wx tbk [(3,rp _ _),(5,rp _ _)] ⟨aiq underlying27 ti3 Qad hi8 hj9,apv Zgg (Qmo N x6 _ hf10) (nlc nll nl0) nll,tv⟩ ?_
    refine bfe h (fun hc12 h=>?_) fun hc12 h=>?_
    ·refine wft hc12<|wxz<|Qaj<|Qat<|Qal<|Qal<|Qat<|Qal ?_
     obtain rfl:=osi h
     exact fend ⟨[I y2],⟨rot,tv⟩,rfl⟩ nll
    ·exact wfn hc12<|Qap<|bln<|thn<|wxz1<|thn<|arm (mto (n:=19) [(0,(.dat 1 (p0.map Qad))),(1,(.fn (.func 127) [] [])),(7,(I ((p0.length:Int)))),(8,(I (w64 (y2+1))))] [] [] hφ0 (pc (rnd Qaf) (pc (.rn (Qbi rn0 rn0)) (pw (pw pn)))) qn) (ih (w64 (y2+1)) h)
   ·exact wfn hc5<|Qbf<|Qaw<|Qaw<|Qbe rfl<|thn<|⟨(),h,(mto (n:=19) [] [] [] hφ0 pn qn)⟩
def Qcr (N:Nat) (p0:List Int):Option Bool:=
  (Qer N p0).bind fun x2=>
  some (decide (x2≥0))
theorem Qja (N:Nat) (p0:List Int) (r:Bool) (h:Qcr N p0=some r):Spec prog 126 [(.dat 1 (p0.map Qad)),(.fn (.func 127) [] [])] [] (B r) []:=by
  refine Qan func126 rfl 0 (nle rfl) (fun X φ0 w0 hφ0 hd0=>?_)
  unfold Qcr at h
  refine wxz ?_
  obtain⟨x2,hf1,h⟩:=bno h
  refine wx tbk [(2,rp _ _)] ⟨Qav (first:=[]) (cap:=[]) (vs:=[(.dat 1 (p0.map Qad)),(.fn (.func 127) [] [])]) (σr:=[]) (σr':=[]) (res':=(I x2)) [] rfl Qqz (Qkc N p0 _ hf1) rfl (Qbs (rnc (pld Qaf) (rnc (.plain _ (NLt.fn _ _ _ nl0 nl0)) rn0))) Qau Qau (.plain _ nll) rfl rfl rfl,tv⟩<|Qaj ?_
  obtain rfl:=osi h
  exact fend ⟨[(B ((decide (x2≥0))))],⟨rot,tv⟩,rfl⟩ nll
def Qgh (N:Nat) (p0:Qae):Option Bool:=
  Qbl (fun ⟨y1,y2⟩=>
    Qbl (fun _=>
      bif (p0.Kind != 5) then
       some ((p0.Weights.length:Int)==0)
      else
       (Qcw N (p0.Weights.length:Int) 1 20).bind fun x7=>
       bif x7 then
        (Qhb N p0.Weights).bind fun x10=>
        bif x10 then
         (Qcr N p0.Weights).bind fun x13=>
         some x13
        else
         some false
       else
        some false) fun k4:Unit→Option Bool=>
    bif ((p0.From.length:Int) != y1) then
     some false
    else
     (Qcw N p0.Amount 0 y2).bind fun x16=>
     bif (!x16) then
      some false
     else
      (Qcw N p0.Wide 0 1000000).bind fun x19=>
      bif (!x19) then
       some false
      else
       (Qcw N p0.Narrow 1 1000000000).bind fun x22=>
       bif (!x22) then
        some false
       else
        k4 ()) fun k3:Int×Int→Option Bool=>
  bif (p0.Kind==1) then
   k3 (0,0)
  else
   bif (p0.Kind==2) then
    (some (if 6<(p0.From.length:Int) then 6 else(p0.From.length:Int))).bind fun x26=>
    (some (if x26>1 then x26 else 1)).bind fun x28=>
    k3 (x28,0)
   else
    bif (p0.Kind==3) then
     k3 (1,1000000000)
    else
     bif (p0.Kind==4) then
      k3 (1,1000)
     else
      bif (p0.Kind==5) then
       k3 (1,0)
      else
       bif (p0.Kind==6) then
        k3 (1,0)
       else
        some false
def Znv (p0:Qae):AV:=.dat 2 (p0.From.map Qay)
def Q6b (p0:Qae):AV:=.dat 1 (p0.Weights.map Qad)
def Qxd (p0:Qae):Slot:=.own 7 [[(K .u8 p0.Kind),(Znv p0),(I p0.Level),(I p0.Amount),(I p0.Wide),(I p0.Narrow),(Q6b p0)]]
def Zj3 (p0:Qae) (x7:Bool):List (Nat×Rec):=[(2,rp [((.tmp 55),(Q6b p0))] (I ((p0.Weights.length:Int)))),(3,rp [fu 65,((.tmp 56),(I ((p0.Weights.length:Int)))),ci 1,ci 20] (B x7))]
def Zj2 p0 x7 (x10:Bool):=hcat (Zj3 p0 x7) [(4,rp [((.tmp 57),(B x7))] (B true)),(7,rp [((.tmp 58),(B true)),fu 108,((.tmp 60),(Q6b p0)),fu 125] (B x10))]
def Zj1 (p0:Qae):List (Nat×Rec):=[(2,rp [((.tmp 24),(Znv p0))] (I ((p0.From.length:Int))))]
def Zj0 p0 (y1 y2:Int) (x16:Bool):=hcat (Zj1 p0) [(5,rp [((.tmp 27),(B (((p0.From.length:Int) != y1))))] (B false)),(9,rp [((.tmp 28),(B false)),fu 65,((.tmp 30),(I p0.Amount)),ci 0,((.tmp 31),(I y2))] (B x16))]
def Zjz p0 y1 y2 x16 (x19:Bool):=hcat (Zj0 p0 y1 y2 x16) [(12,rp [((.tmp 34),(B ((!x16))))] (B false)),(15,rp [((.tmp 35),(B false)),fu 65,((.tmp 37),(I p0.Wide)),ci 0,ci 1000000] (B x19))]
theorem Qnn (N:Nat) (p0:Qae) (r:Bool) (h:Qgh N p0=some r):Spec prog 102 [(.agg (Qac p0))] [] (B r) []:=by
  refine Qan func102 rfl 0 (nle rfl) (fun X φ0 w0 hφ0 hd0=>?_)
  unfold Qgh at h
  refine wxz<|wxz ?_
  obtain⟨k3,hk_k3,h⟩:=jko h
  refine wjn (τ:=Int×Int) (fun t=>k3 t=some r) (fun ⟨y1,y2⟩=>⟨mk 68 [(1,.ref 0 7 0 0),(3,I y1),(4,I y2)],[(Qxd p0)]⟩) (fun t h=>?_) ?_
  ·subst hk_k3
   obtain⟨y1,y2⟩:=t
   obtain⟨k4,hk_k4,h⟩:=jko h
   refine wjn (τ:=Unit) (fun t=>k4 t=some r) (fun _=>⟨mk 68 [(1,.ref 0 7 0 0)],[(Qxd p0)]⟩) (fun t h=>?_) ?_
   ·subst hk_k4
    refine wsq<|wxz ?_
    refine bfe h (fun hc5 h=>?_) fun hc5 h=>?_
    ·refine wft hc5<|wx tbk [(2,rp _ _)] ⟨alq 1 Qad p0.Weights underlying27,tv⟩<|Qaj<|Qal ?_
     obtain rfl:=osi h
     exact fend ⟨[(B (((p0.Weights.length:Int)==0)))],⟨rot,tv⟩,rfl⟩ nll
    ·refine wfn hc5<|Qap<|thn ?_
     obtain⟨x7,hf6,h⟩:=bno h
     refine hpre (A:=(Zj3 p0 x7)) ⟨alq 1 Qad p0.Weights underlying27,apv Qlm (Qdq N (p0.Weights.length:Int) 1 20 _ hf6) (nlcc (nlc nll nl0)) nll,tv⟩ fun q1_=>?_
     refine bfe h (fun hb8 h=>?_) fun hb8 h=>?_
     ·obtain⟨x10,hf9,h⟩:=bno h
      refine hpre (A:=(Zj2 p0 x7 x10)) (hap q1_ ⟨asb hb8 (amv rfl),ag_ (Qav (first:=[]) (cap:=[]) (vs:=[(Q6b p0),(.fn (.func 125) [] [])]) (σr:=[]) (σr':=[]) (res':=(B x10)) [] rfl Q5f (Qqo N p0.Weights _ hf9) rfl (Qbs (rnc (pld Qaf) (rnc (.plain _ (NLt.fn _ _ _ nl0 nl0)) rn0))) Qau Qau (.plain _ nll) rfl rfl rfl),tv⟩) fun q2_=>?_
      refine bfe h (fun hb11 h=>?_) fun hb11 h=>?_
      ·obtain⟨x13,hf12,h⟩:=bno h
       refine wx tbk (hcat (Zj2 p0 x7 x10) [(9,rp [(.tmp 62,B x10)] (B true)),(12,rp [(.tmp 63,B true),fu 126,(.tmp 65,(Q6b p0)),fu 127] (B x13))]) (hap q2_ ⟨asb hb11 (amv rfl),ag_ (Qav (first:=[]) (cap:=[]) (vs:=[(Q6b p0),(.fn (.func 127) [] [])]) (σr:=[]) (σr':=[]) (res':=(B x13)) [] rfl Qq0 (Qja N p0.Weights _ hf12) rfl (Qbs (rnc (pld Qaf) (rnc (.plain _ (NLt.fn _ _ _ nl0 nl0)) rn0))) Qau Qau (.plain _ nll) rfl rfl rfl),tv⟩)<|Qaj ?_
       exact frb h
      ·exact wx tbk (hcat (Zj2 p0 x7 x10) [(9,rp [(.tmp 62,B x10)] (B false))]) (hap q2_ ⟨asb hb11 (amv rfl),tv⟩)<|Qaj<|frb h
     ·exact wx tbk (hcat (Zj3 p0 x7) [(4,rp [(.tmp 57,B x7)] (B false))]) (hap q1_ ⟨asb hb8 (amv rfl),tv⟩)<|Qaj<|frb h
   ·skip
    refine hpre (A:=(Zj1 p0)) ⟨alq 2 Qay p0.From underlying116,tv⟩ fun q3_=>?_
    refine bfe h (fun hb14 h=>?_) fun hb14 h=>?_
    ·exact wx tbk (hcat (Zj1 p0) [(5,rp [(.tmp 27,(B (((p0.From.length:Int) != y1))))] (B true))]) (hap q3_ ⟨asb hb14 (amv rfl),tv⟩)<|wtr<|wxz<|Qaj<|Qal<|frb h
    ·obtain⟨x16,hf15,h⟩:=bno h
     refine hpre (A:=(Zj0 p0 y1 y2 x16)) (hap q3_ ⟨asb hb14 (amv rfl),ag_ (apv Qlm (Qdq N p0.Amount 0 y2 _ hf15) (nlcc (nlc nll nl0)) nll),tv⟩) fun q4_=>?_
     refine bfe h (fun hb17 h=>?_) fun hb17 h=>?_
     ·exact wx tbk (hcat (Zj0 p0 y1 y2 x16) [(12,rp [(.tmp 34,(B ((!x16))))] (B true))]) (hap q4_ ⟨asb hb17 (amv rfl),tv⟩)<|wtr<|wxz<|Qaj<|Qal<|frb h
     ·obtain⟨x19,hf18,h⟩:=bno h
      refine hpre (A:=(Zjz p0 y1 y2 x16 x19)) (hap q4_ ⟨asb hb17 (amv rfl),ag_ (apv Qlm (Qdq N p0.Wide 0 1000000 _ hf18) (nlcc (nlc nll nl0)) nll),tv⟩) fun q5_=>?_
      refine bfe h (fun hb20 h=>?_) fun hb20 h=>?_
      ·exact wx tbk (hcat (Zjz p0 y1 y2 x16 x19) [(18,rp [(.tmp 40,(B ((!x19))))] (B true))]) (hap q5_ ⟨asb hb20 (amv rfl),tv⟩)<|wtr<|wxz<|Qaj<|Qal<|frb h
      ·obtain⟨x22,hf21,h⟩:=bno h
       refine wx tbk (hcat (Zjz p0 y1 y2 x16 x19) [(18,rp [(.tmp 40,(B ((!x19))))] (B false)),(21,rp [(.tmp 41,B false),fu 65,(.tmp 43,I p0.Narrow),ci 1,ci 1000000000] (B x22))]) (hap q5_ ⟨asb hb20 (amv rfl),ag_ (apv Qlm (Qdq N p0.Narrow 1 1000000000 _ hf21) (nlcc (nlc nll nl0)) nll),tv⟩) ?_
       refine bfe h (fun hc23 h=>?_) fun hc23 h=>?_
       ·exact wft hc23<|wxz<|Qaj<|Qal<|frb h
       ·exact wfn hc23<|Qap<|thn<|⟨(),h,(mto (n:=68) [(1,.ref 0 7 0 0)] [0] [(Qxd p0)] hφ0 (prr pn) (qb (lc rwl (lc (rnd Qba) (lcc (lcc (lc (rnd Qaf) ln))))) qn))⟩
  ·skip
   refine wxz<|Qar<|wxz ?_
   refine bfe h (fun hc24 h=>?_) fun hc24 h=>?_
   ·exact wft hc24<|wxz1<|bln<|thn<|⟨(0,0),h,(mto (n:=68) [(1,.ref 0 7 0 0),(3,I 0),(4,I 0)] [0] [(Qxd p0)] hφ0 (prr (pw (pw pn))) (qb (lc rwl (lc (rnd Qba) (lcc (lcc (lc (rnd Qaf) ln))))) qn))⟩
   ·refine wfn hc24<|wxz ?_
    refine bfe h (fun hc25 h=>?_) fun hc25 h=>?_
    ·refine wft hc25 ?_
     obtain⟨x26,hl27,h⟩:=bno h
     obtain⟨x28,hl29,h⟩:=bno h
     exact wx1 tbk [(2,rp _ _),(3,rp [(.tmp 13,(I ((p0.From.length:Int)))),ci 6] (I x26)),(4,rp [ci 1,(.tmp 14,I x26)] (I ((if x26>1 then x26 else 1)))),(5,rp [(.tmp 15,(I ((if x26>1 then x26 else 1))))] (I x28))] ⟨alq 2 Qay p0.From underlying116,Qkz hl27 (Qq9 rfl),Qof rfl,Qkz hl29 (aas rfl),tv⟩<|bln<|thn<|⟨(x28,0),h,(mto (n:=68) [(1,.ref 0 7 0 0),(3,I x28),(4,I 0)] [0] [(Qxd p0)] hφ0 (prr (pw (pw pn))) (qb (lc rwl (lc (rnd Qba) (lcc (lcc (lc (rnd Qaf) ln))))) qn))⟩
    ·refine wfn hc25<|wxz ?_
     refine bfe h (fun hc30 h=>?_) fun hc30 h=>?_
     ·exact wft hc30<|wxz1<|bln<|thn<|⟨(1,1000000000),h,(mto (n:=68) [(1,.ref 0 7 0 0),(3,I 1),(4,I 1000000000)] [0] [(Qxd p0)] hφ0 (prr (pw (pw pn))) (qb (lc rwl (lc (rnd Qba) (lcc (lcc (lc (rnd Qaf) ln))))) qn))⟩
     ·refine wfn hc30<|wxz ?_
      refine bfe h (fun hc31 h=>?_) fun hc31 h=>?_
      ·exact wft hc31<|wxz1<|bln<|thn<|⟨(1,1000),h,(mto (n:=68) [(1,.ref 0 7 0 0),(3,I 1),(4,I 1000)] [0] [(Qxd p0)] hφ0 (prr (pw (pw pn))) (qb (lc rwl (lc (rnd Qba) (lcc (lcc (lc (rnd Qaf) ln))))) qn))⟩
      ·refine wfn hc31<|wsq<|wxz ?_
       refine bfe h (fun hc32 h=>?_) fun hc32 h=>?_
       ·exact wft hc32<|Qap<|thn<|wft hc32<|Qap<|bln<|thn<|⟨(1,0),h,(mto (n:=68) [(1,.ref 0 7 0 0),(3,I 1),(4,I 0)] [0] [(Qxd p0)] hφ0 (prr (pw (pw pn))) (qb (lc rwl (lc (rnd Qba) (lcc (lcc (lc (rnd Qaf) ln))))) qn))⟩
       ·refine wfn hc32<|wxz1<|thn ?_
        refine bfe h (fun hc33 h=>?_) fun hc33 h=>?_
        ·exact wft hc33<|Qap<|bln<|thn<|⟨(1,0),h,(mto (n:=68) [(1,.ref 0 7 0 0),(3,I 1),(4,I 0)] [0] [(Qxd p0)] hφ0 (prr (pw (pw pn))) (qb (lc rwl (lc (rnd Qba) (lcc (lcc (lc (rnd Qaf) ln))))) qn))⟩
        ·exact wfn hc33<|wxz<|Qaj<|Qat<|Qal<|frb h
def Qe5 (N:Nat) (p0:Qae):Option Bool:=
  (Qgh N p0).bind fun x3=>
  some (!x3)
def Zpw (p0:Qae):AV:=.agg [(K .u8 p0.Kind),(.dat 2 (p0.From.map Qay)),(I p0.Level),(I p0.Amount),(I p0.Wide),(I p0.Narrow),(.dat 1 (p0.Weights.map Qad))]
def Zei:Slot:=.own 1 [[(.fn (.func 102) [] [])]]
theorem Qkv (N:Nat) (p0:Qae) (r:Bool) (h:Qe5 N p0=some r):Spec prog 124 [(Zpw p0),(.ref 0 1 (0) 0)] [Zei] (B r) [Zei]:=by
  refine Qan func124 rfl 1 (nle rfl) (fun X φ0 w0 hφ0 hd0=>?_)
  unfold Qe5 at h
  refine Qbw<|wxz ?_
  obtain⟨x3,hf2,h⟩:=bno h
  refine wx tbk [(2,rp _ _)] ⟨apv Zgx (Qnn N p0 _ hf2) (nlc (NLt.agg _ (nlc nll (nlc (nld Qba _) (nlcc (nlcc (nlc (nld Qaf _) nl0)))))) nl0) nll,tv⟩ ?_
  refine wmr (mto (n:=8) (l':=[(3,(B ((!x3))))]) (own':=[Zei]) [(3,(B ((!x3))))] [0] [Zei] hφ0 (pw pn) (qb (lc (.rn (Qbi rn0 rn0)) ln) qn))<|Qaj ?_
  obtain rfl:=osi h
  exact⟨_,Mor.rfl,Qc1 (vs:=[(B ((!x3)))]) ⟨rot,tv⟩ rfl (NLt.of0 nll) (by kernel_rfl) (Qao (Qax (nlc (NLt.of0 (NLt.fn _ _ _ nl0 nl0)) nl0)) Qbq)⟩
def Qa4 (N:Nat) (p0:List Qae) (k2:Unit→Option Int):Nat→Int→Option Int
  |0,_=>none
  |n5+1,y3=>
    bif (decide (y3<(p0.length:Int))) then
     (getI p0 y3).bind fun x7=>
     (Qe5 N x7).bind fun x12=>
     bif x12 then
      some y3
     else
      Qa4 N p0 k2 n5 (w64 (y3+1))
    else
     k2 ()
def Qb8 (N:Nat) (p0:List Qae):Option Int:=
  Qbl (fun _=>
    some (-1)) fun k2:Unit→Option Int=>
  Qa4 N p0 k2 N 0
def Q9l (p0:List Qae):AV:=.dat 7 (p0.map Qac)
def Q9k:AV:=.fn (.func 124) [] [(.ref 0 1 (0) 0)]
def Qqc:Slot:=.own 1 [[(.fn (.func 102) [] [])]]
def Zny (x7:Qae):AV:=.agg [(K .u8 x7.Kind),(.dat 2 (x7.From.map Qay)),(I x7.Level),(I x7.Amount),(I x7.Wide),(I x7.Narrow),(.dat 1 (x7.Weights.map Qad))]
theorem Qgs (N:Nat) (p0:List Qae) (r:Int) (h:Qb8 N p0=some r):Spec prog 140 [(Q9l p0),Q9k] [Qqc] (I r) [Qqc]:=by
  refine Qan func140 rfl 1 (nle rfl) (fun X φ0 w0 hφ0 hd0=>?_)
  unfold Qb8 at h
  refine Qbw<|wxz ?_
  obtain⟨k2,hk_k2,h⟩:=jko h
  refine wjn (τ:=Unit) (fun t=>k2 t=some r) (fun _=>⟨mk 19 [],[Qqc]⟩) (fun t h=>?_) ?_
  ·subst hk_k2
   refine wxz<|wmr (mto (n:=19) (l':=[(4,(I ((-1))))]) (own':=[Qqc]) [(4,(I ((-1))))] [0] [Qqc] hφ0 (pw pn) (qb (lc (.rn (Qbi rn0 rn0)) ln) qn))<|Qaj ?_
   obtain rfl:=osi h
   exact⟨_,Mor.rfl,Qc1 (vs:=[(I ((-1)))]) ⟨rot,tv⟩ rfl (NLt.of0 nll) (by kernel_rfl) (Qao (Qax (nlc (NLt.of0 (NLt.fn _ _ _ nl0 nl0)) nl0)) Qbq)⟩
  ·skip
   refine wx tbk [(1,rp _ _)] ⟨alq 7 Qac p0 underlying40,tv⟩<|Qar ?_
   refine wmr (mto (n:=19) (l':=[(0,(Q9l p0)),(1,Q9k),(7,(I ((p0.length:Int)))),(8,I 0)]) (own':=[Qqc]) [(0,(Q9l p0)),(1,Q9k),(7,(I ((p0.length:Int)))),(8,I 0)] [0] [Qqc] hφ0 (pc (rnd Qab) (pc (.rn (Qbi rn0 (rnc (rqr rfl) rn0))) (pw (pw pn)))) (qb (lc (.rn (Qbi rn0 rn0)) ln) qn)) ?_
   refine Qbt (τ:=Int) (fun n t=>Qa4 N p0 k2 n t=some r) (fun y3=>⟨mk 19 [(0,(Q9l p0)),(1,Q9k),(7,(I ((p0.length:Int)))),(8,I y3)],[Qqc]⟩) (fun t h=>by rw[Qa4] at h;cases h) (fun n5 ih y3 h=>?_) N (0) h
   rw[Qa4] at h
   skip
   refine wxz<|wsq ?_
   refine bfe h (fun hc6 h=>?_) fun hc6 h=>?_
   ·refine wft hc6<|Qap<|thn<|wsq<|Qar<|wxz ?_
    obtain⟨x7,hg8,h⟩:=bno h
    obtain⟨hi9,hj10⟩:=gsm hg8
    obtain⟨x12,hf11,h⟩:=bno h
    refine wx tbk [(3,rp _ _),(5,⟨_,_,_,_,false⟩)] ⟨aiq underlying40 Qik Qac hi9 hj10,Qav (first:=[]) (cap:=[.ref 0 1 0 0]) (vs:=[(Zny x7)]) (σr:=[Qqc]) (σr':=[Qqc]) (res':=(B x12)) [0] rfl Zgi (Qkv N x7 _ hf11) rfl (Qbs (rnc (.plain _ (NLt.agg _ (nlc nll (nlc (nld Qba _) (nlcc (nlcc (nlc (nld Qaf _) nl0))))))) (rnc (Qa1 rfl) rn0))) (slc (Qas (rnc (.plain _ (NLt.fn _ _ _ nl0 nl0)) rn0)) Qau) (slc (Qas (rnc (.plain _ (NLt.fn _ _ _ nl0 nl0)) rn0)) Qau) (.plain _ nll) rfl rfl rfl,tv⟩ ?_
    refine bfe h (fun hc13 h=>?_) fun hc13 h=>?_
    ·refine wft hc13<|wxz ?_
     refine wmr (mto (n:=19) (l':=[(4,I y3)]) (own':=[Qqc]) [(4,I y3)] [0] [Qqc] hφ0 (pw pn) (qb (lc (.rn (Qbi rn0 rn0)) ln) qn))<|Qaj<|Qat<|Qal<|Qal<|Qat<|Qal ?_
     obtain rfl:=osi h
     exact⟨_,Mor.rfl,Qc1 (vs:=[I y3]) ⟨rot,tv⟩ rfl (NLt.of0 nll) (by kernel_rfl) (Qao (Qax (nlc (NLt.of0 (NLt.fn _ _ _ nl0 nl0)) nl0)) Qbq)⟩
    ·exact wfn hc13<|Qap<|bln<|thn<|wxz1<|thn<|arm (mto (n:=19) [(0,(Q9l p0)),(1,Q9k),(7,(I ((p0.length:Int)))),(8,(I (w64 (y3+1))))] [0] [Qqc] hφ0 (pc (rnd Qab) (pc (.rn (Qbi rn0 (rnc (rqr rfl) rn0))) (pw (pw pn)))) (qb (lc (.rn (Qbi rn0 rn0)) ln) qn)) (ih (w64 (y3+1)) h)
   ·exact wfn hc6<|Qbf<|Qaw<|Qaw<|Qbe rfl<|thn<|⟨(),h,(mto (n:=19) [] [0] [Qqc] hφ0 pn (qb (lc (.rn (Qbi rn0 rn0)) ln) qn))⟩
def Qbo (N:Nat) (p0:List Qae):Option Bool:=
  (Qb8 N p0).bind fun x3=>
  some (decide (x3≥0))
def Zn1:AV:=.fn (.func 124) [] [(.ref 0 1 (0) 0)]
def Q6c:Slot:=.own 1 [[(.fn (.func 102) [] [])]]
theorem Qgb (N:Nat) (p0:List Qae) (r:Bool) (h:Qbo N p0=some r):Spec prog 123 [(.dat 7 (p0.map Qac)),Zn1] [Q6c] (B r) [Q6c]:=by
  refine Qan func123 rfl 1 (nle rfl) (fun X φ0 w0 hφ0 hd0=>?_)
  unfold Qbo at h
  refine Qbw<|wxz ?_
  obtain⟨x3,hf2,h⟩:=bno h
  refine wx tbk [(2,⟨_,_,_,_,false⟩)] ⟨Qav (first:=[]) (cap:=[]) (vs:=[(.dat 7 (p0.map Qac)),Zn1]) (σr:=[Q6c]) (σr':=[Q6c]) (res':=(I x3)) [0] rfl Zf8 (Qgs N p0 _ hf2) rfl (Qbs (rnc (pld Qab) (rnc (Qbi rn0 (rnc (Qa1 rfl) rn0)) rn0))) (slc (Qas (rnc (.plain _ (NLt.fn _ _ _ nl0 nl0)) rn0)) Qau) (slc (Qas (rnc (.plain _ (NLt.fn _ _ _ nl0 nl0)) rn0)) Qau) (.plain _ nll) rfl rfl rfl,tv⟩ ?_
  refine wmr (mto (n:=9) (l':=[(4,(B ((decide (x3≥0)))))]) (own':=[Q6c]) [(4,(B ((decide (x3≥0)))))] [0] [Q6c] hφ0 (pw pn) (qb (lc (.rn (Qbi rn0 rn0)) ln) qn))<|Qaj ?_
  obtain rfl:=osi h
  exact⟨_,Mor.rfl,Qc1 (vs:=[(B ((decide (x3≥0))))]) ⟨rot,tv⟩ rfl (NLt.of0 nll) (by kernel_rfl) (Qao (Qax (nlc (NLt.of0 (NLt.fn _ _ _ nl0 nl0)) nl0)) Qbq)⟩
def Qef (N:Nat) (p0:List Qae):Option Bool:=
  (Qbo N p0).bind fun x2=>
  some (!x2)
def Zn2:AV:=.fn (.func 124) [] [(.ref 0 1 (0) 0)]
def Zn3:Slot:=.own 1 [[(.fn (.func 102) [] [])]]
theorem Qlj (N:Nat) (p0:List Qae) (r:Bool) (h:Qef N p0=some r):Spec prog 101 [(.dat 7 (p0.map Qac)),(.fn (.func 102) [] [])] [] (B r) []:=by
  refine Qan func101 rfl 0 (nle rfl) (fun X φ0 w0 hφ0 hd0=>?_)
  unfold Qef at h
  refine wxz ?_
  obtain⟨x2,hf1,h⟩:=bno h
  refine wx tbk [(1,rp [(.tmp 3,.ref 0 1 0 0)] Zn2),(2,⟨_,_,_,_,false⟩)] ⟨Qfq (fs:=[]) (cs:=[.ref 0 1 0 0]) rfl rfl rfl rfl,Qav (first:=[]) (cap:=[]) (vs:=[(.dat 7 (p0.map Qac)),Zn2]) (σr:=[Zn3]) (σr':=[Zn3]) (res':=(B x2)) [0] rfl Zgj (Qgb N p0 _ hf1) rfl (Qbs (rnc (pld Qab) (rnc (Qbi rn0 (rnc (Qa1 rfl) rn0)) rn0))) (slc (Qas (rnc (.plain _ (NLt.fn _ _ _ nl0 nl0)) rn0)) Qau) (slc (Qas (rnc (.plain _ (NLt.fn _ _ _ nl0 nl0)) rn0)) Qau) (.plain _ nll) rfl rfl rfl,tv⟩<|Qaj ?_
  obtain rfl:=osi h
  exact fend ⟨[(B ((!x2)))],⟨rot,tv⟩,rfl⟩ nll
def Qeg (_N:Nat) (p0:Qae):Option Int:=
  bif (p0.Kind==4) then
   some 2
  else
   bif (p0.Kind==5) then
    (some (p0.Weights.length:Int)).bind fun x3=>
    some x3
   else
    some 1
theorem Qi0 (N:Nat) (p0:Qae) (r:Int) (h:Qeg N p0=some r):Spec prog 103 [(.agg (Qac p0))] [] (I r) []:=by
  refine Qan func103 rfl 0 (nle rfl) (fun X φ0 w0 hφ0 hd0=>?_)
  unfold Qeg at h
  refine wxz<|wsq<|wxz<|Qar<|wxz ?_
  refine bfe h (fun hc1 h=>?_) fun hc1 h=>?_
  ·refine wft hc1<|wxz<|Qaj<|Qat<|Qal ?_
   obtain rfl:=osi h
   exact fend ⟨[I 2],⟨rot,tv⟩,rfl⟩ nll
  ·refine wfn hc1<|wxz ?_
   refine bfe h (fun hc2 h=>?_) fun hc2 h=>?_
   ·refine wft hc2 ?_
    obtain⟨x3,hl4,h⟩:=bno h
    refine wx tbk [(2,rp _ _),(3,rp [(.tmp 11,(I ((p0.Weights.length:Int))))] (I x3))] ⟨alq 1 Qad p0.Weights underlying27,Qkz hl4 (aas rfl),tv⟩<|Qaj<|Qat<|Qal ?_
    obtain rfl:=osi h
    exact fend ⟨[I x3],⟨rot,tv⟩,rfl⟩ nll
   ·refine wfn hc2<|Qap<|bln<|thn<|wxz<|Qaj ?_
    obtain rfl:=osi h
    exact fend ⟨[I 1],⟨rot,tv⟩,rfl⟩ nll
def Qdr (N:Nat) (p0:GNet) (y3:Int) (k10:(List (Int×Int))→Option Bool) (x11:Qae):Nat→Int→(List (Int×Int))→Option Bool
  |0,_,_=>none
  |n22+1,y18,y19=>
    bif (decide (y18<(x11.From.length:Int))) then
     (getI x11.From y18).bind fun x24=>
     (Qcw N x24.Element 0 (w64 (y3-1))).bind fun x29=>
     bif (!x29) then
      some false
     else
      (getI p0.Elements x24.Element).bind fun x31=>
      (Qeg N x31).bind fun x36=>
      (Qcw N x24.Outlet 0 (w64 (x36-1))).bind fun x38=>
      bif (!x38) then
       some false
      else
       bif y19.contains (x24.Element,x24.Outlet) then
        some false
       else
        bif (decide (x11.Level>x31.Level)) then
         some false
        else
         Qdr N p0 y3 k10 x11 n22 (w64 (y18+1)) (addQ y19 (x24.Element,x24.Outlet))
    else
     k10 (y19)
def Qc9 (N:Nat) (p0:GNet) (k2:Unit→Option Bool):Nat→Int→(List (Int×Int))→Option Bool
  |0,_,_=>none
  |n7+1,y3,y4=>
    bif (decide (y3<(p0.Elements.length:Int))) then
     Qbl (fun y9=>
       Qc9 N p0 k2 n7 (w64 (y3+1)) y9) fun k10:(List (Int×Int))→Option Bool=>
     (getI p0.Elements y3).bind fun x11=>
     (Qcw N x11.Level 0 (w64 ((p0.Table.length:Int)-1))).bind fun x16=>
     bif (!x16) then
      some false
     else
      Qdr N p0 y3 k10 x11 N 0 y4
    else
     k2 ()
def Qex (N:Nat) (p0:GNet):Option Bool:=
  Qbl (fun _=>
    Qbl (fun _=>
      some true) fun k2:Unit→Option Bool=>
    Qc9 N p0 k2 N 0 ([]:List (Int×Int))) fun k1:Unit→Option Bool=>
  (Qic N p0.Table).bind fun x43=>
  bif (x43 != 0) then
   some false
  else
   (Qcw N (p0.Elements.length:Int) 1 16).bind fun x46=>
   bif (!x46) then
    some false
   else
    (Qef N p0.Elements).bind fun x49=>
    bif (!x49) then
     some false
    else
     k1 ()
def z9_0 (p0:GNet):AV:=.dat 5 (p0.Table.map Qaq)
def z9_1 (p0:GNet):AV:=.dat 7 (p0.Elements.map Qac)
def z9_2 (p0:GNet):Slot:=.own 2 [[(z9_0 p0),(z9_1 p0)]]
def Qyu (x11:Qae):AV:=.dat 2 (x11.From.map Qay)
def Q26 (x11:Qae):Slot:=.own 7 [[(K .u8 x11.Kind),(Qyu x11),(I x11.Level),(I x11.Amount),(I x11.Wide),(I x11.Narrow),(.dat 1 (x11.Weights.map Qad))]]
def Q7t (x24:Qbk) (y3:Int) (x29:Bool):List (Nat×Rec):=[(4,rp [fu 65,((.tmp 50),(I x24.Element)),ci 0,((.tmp 52),(I (w64 (y3-1))))] (B x29))]
def Zmj (x31:Qae):AV:=.agg [(K .u8 x31.Kind),(.dat 2 (x31.From.map Qay)),(I x31.Level),(I x31.Amount),(I x31.Wide),(I x31.Narrow),(.dat 1 (x31.Weights.map Qad))]
def Q7s x24 y3 x29 (p0:GNet) (x31:Qae) (x36:Int) (x38:Bool):=hcat (Q7t x24 y3 x29) [(6,rp [((.tmp 54),(B ((!x29))))] (B false)),(13,rp [((.tmp 55),(B false)),((.tmp 59),(z9_1 p0)),((.tmp 61),(I x24.Element))] (.dptr (Qac x31) 0)),(15,rp [((.tmp 55),(B false)),fu 103,((.tmp 63),(Zmj x31))] (I x36)),(17,rp [((.tmp 55),(B false)),fu 65,((.tmp 57),(I x24.Outlet)),ci 0,((.tmp 65),(I (w64 (x36-1))))] (B x38))]
def Q7r x24 y3 x29 p0 x31 x36 x38 (y19:(List (Int×Int))):=hcat (Q7s x24 y3 x29 p0 x31 x36 x38) [(20,rp [((.tmp 68),(B ((!x38))))] (B false)),(23,rb [((.tmp 69),(B false)),((.tmp 70),(.mp 1)),((.tmp 71),(.agg [(I x24.Element),(I x24.Outlet)]))] [(1,(Qd8 y19))] (B (y19.contains (x24.Element,x24.Outlet))))]
def Q7q (p0:GNet) (x43:Int):List (Nat×Rec):=[(2,rp [fu 100,((.tmp 9),(z9_0 p0))] (I x43))]
def Q7p p0 x43 (x46:Bool):=hcat (Q7q p0 x43) [(4,rp [((.tmp 11),(B ((x43 != 0))))] (B false)),(7,rp [((.tmp 12),(B false)),((.tmp 14),(z9_1 p0))] (I ((p0.Elements.length:Int)))),(8,rp [((.tmp 12),(B false)),fu 65,((.tmp 15),(I ((p0.Elements.length:Int)))),ci 1,ci 16] (B x46))]
theorem Qgv (N:Nat) (p0:GNet) (r:Bool) (h:Qex N p0=some r):Spec prog 66 [(.agg (Qf6 p0))] [] (B r) []:=by
  refine Qan func66 rfl 0 (nle rfl) (fun X φ0 w0 hφ0 hd0=>?_)
  unfold Qex at h
  refine wxz ?_
  obtain⟨k1,hk_k1,h⟩:=jko h
  refine wjn (τ:=Unit) (fun t=>k1 t=some r) (fun _=>⟨mk 90 [(1,.ref 0 2 0 0)],[(z9_2 p0)]⟩) (fun t h=>?_) ?_
  ·subst hk_k1
   refine wx tbk [(0,⟨[],[(1,.unused)],(.mp 1),[(1,(Qd8 ([]:List (Int×Int))))],false⟩)] ⟨Qsf rfl,tv⟩ ?_
   obtain⟨k2,hk_k2,h⟩:=jko h
   refine wjn (τ:=Unit) (fun t=>k2 t=some r) (fun _=>⟨mk 90 [],[]⟩) (fun t h=>?_) ?_
   ·subst hk_k2
    exact wxz<|Qaj<|frb h
   ·skip
    refine wx tbk [(2,rp _ _)] ⟨alq 7 Qac p0.Elements underlying40,tv⟩<|Qar ?_
    refine wmr (mto (n:=90) (l':=[(1,.ref 0 2 0 0),(3,(.mp 1)),(27,(z9_1 p0)),(28,(I ((p0.Elements.length:Int)))),(29,I 0)]) (own':=[(z9_2 p0),(Qd8 ([]:List (Int×Int)))]) [(1,.ref 0 2 0 0),(3,(.mp 1)),(27,(z9_1 p0)),(28,(I ((p0.Elements.length:Int)))),(29,I 0)] [0,1] [(z9_2 p0),(Qd8 ([]:List (Int×Int)))] hφ0 (prr (pc (.rn (Qjd rfl)) (pc (rnd Qab) (pw (pw pn))))) (qb (lc (rnd Qag) (lc (rnd Qab) ln)) (qc Qfy qn))) ?_
    refine Qbt (τ:=Int×(List (Int×Int))) (fun n t=>Qc9 N p0 k2 n t.1 t.2=some r) (fun ⟨y3,y4⟩=>⟨mk 90 [(1,.ref 0 2 0 0),(3,(.mp 1)),(27,(z9_1 p0)),(28,(I ((p0.Elements.length:Int)))),(29,I y3)],[(z9_2 p0),(Qd8 y4)]⟩) (fun t h=>by rw[Qc9] at h;cases h) (fun n7 ih t h=>?_) N (0,([]:List (Int×Int))) h
    obtain⟨y3,y4⟩:=t
    rw[Qc9] at h
    skip
    refine wxz<|wsq ?_
    refine bfe h (fun hc8 h=>?_) fun hc8 h=>?_
    ·refine wft hc8<|Qap<|thn ?_
     obtain⟨k10,hk_k10,h⟩:=jko h
     refine wjn (τ:=(List (Int×Int))) (fun t=>k10 t=some r) (fun y9=>⟨mk 90 [(1,.ref 0 2 0 0),(3,(.mp 1)),(27,(z9_1 p0)),(28,(I ((p0.Elements.length:Int)))),(29,I y3)],[(z9_2 p0),(Qd8 y9)]⟩) (fun y9 h=>?_) ?_
     ·subst hk_k10
      exact wxz1<|thn<|arm (mto (n:=90) [(1,.ref 0 2 0 0),(3,(.mp 1)),(27,(z9_1 p0)),(28,(I ((p0.Elements.length:Int)))),(29,(I (w64 (y3+1))))] [0,1] [(z9_2 p0),(Qd8 y9)] hφ0 (prr (pc (.rn (Qjd rfl)) (pc (rnd Qab) (pw (pw pn))))) (qb (lc (rnd Qag) (lc (rnd Qab) ln)) (qc Qfy qn))) (ih (w64 (y3+1),y9) h)
     ·skip
      refine Qar ?_
      obtain⟨x11,hg12,h⟩:=bno h
      obtain⟨hi13,hj14⟩:=gsm hg12
      refine wx tbk [(1,rp _ _)] ⟨aiq underlying40 Qik Qac hi13 hj14,tv⟩<|wsq ?_
      obtain⟨x16,hf15,h⟩:=bno h
      refine wx tbk [(4,rp _ _),(6,rp _ _)] ⟨alq 5 Qaq p0.Table underlying39,apv Qlm (Qdq N x11.Level 0 (w64 ((p0.Table.length:Int)-1)) _ hf15) (nlcc (nlc nll nl0)) nll,tv⟩ ?_
      refine bfe h (fun hc17 h=>?_) fun hc17 h=>?_
      ·exact wft hc17<|wxz<|Qaj<|Qal<|Qat<|Qal<|Qal<|Qat<|Qal<|frb h
      ·refine wfn hc17<|Qap<|thn ?_
       refine wx tbk [(2,rp _ _)] ⟨alq 2 Qay x11.From underlying116,tv⟩<|Qar ?_
       refine wmr (mto (n:=90) (l':=[(1,.ref 0 2 0 0),(3,(.mp 1)),(4,I y3),(5,.ref 2 7 0 0),(27,(z9_1 p0)),(28,(I ((p0.Elements.length:Int)))),(29,I y3),(43,(Qyu x11)),(44,(I ((x11.From.length:Int)))),(45,I 0)]) (own':=[(z9_2 p0),(Qd8 y4),(Q26 x11)]) [(1,.ref 0 2 0 0),(3,(.mp 1)),(4,I y3),(5,.ref 2 7 0 0),(27,(z9_1 p0)),(28,(I ((p0.Elements.length:Int)))),(29,I y3),(43,(Qyu x11)),(44,(I ((x11.From.length:Int)))),(45,I 0)] [0,1,2] [(z9_2 p0),(Qd8 y4),(Q26 x11)] hφ0 (prr (pc (.rn (Qjd rfl)) (pw (prr (pc (rnd Qab) (pw (pw (pc (rnd Qba) (pw (pw pn)))))))))) (qb (lc (rnd Qag) (lc (rnd Qab) ln)) (qc Qfy (qb (lc rwl (lc (rnd Qba) (lcc (lcc (lc (rnd Qaf) ln))))) qn)))) ?_
       refine Qbt (τ:=Int×(List (Int×Int))) (fun n t=>Qdr N p0 y3 k10 x11 n t.1 t.2=some r) (fun ⟨y18,y19⟩=>⟨mk 90 [(1,.ref 0 2 0 0),(3,(.mp 1)),(4,I y3),(5,.ref 2 7 0 0),(27,(z9_1 p0)),(28,(I ((p0.Elements.length:Int)))),(29,I y3),(43,(Qyu x11)),(44,(I ((x11.From.length:Int)))),(45,I y18)],[(z9_2 p0),(Qd8 y19),(Q26 x11)]⟩) (fun t h=>by rw[Qdr] at h;cases h) (fun n22 ih t h=>?_) N (0,y4) h
       obtain⟨y18,y19⟩:=t
       rw[Qdr] at h
       skip
       refine wxz<|wsq ?_
       refine bfe h (fun hc23 h=>?_) fun hc23 h=>?_
       ·refine wft hc23<|Qap<|thn<|wsq<|Qar ?_
        obtain⟨x24,hg25,h⟩:=bno h
        obtain⟨hi26,hj27⟩:=gsm hg25
        refine wx tbk [(0,rp _ _)] ⟨aiq underlying116 Qpi Qay hi26 hj27,tv⟩<|wsq ?_
        obtain⟨x29,hf28,h⟩:=bno h
        refine hpre (A:=(Q7t x24 y3 x29)) ⟨apv Qlm (Qdq N x24.Element 0 (w64 (y3-1)) _ hf28) (nlcc (nlc nll nl0)) nll,tv⟩ fun q1_=>?_
        refine bfe h (fun hb30 h=>?_) fun hb30 h=>?_
        ·refine wxd tbk (hcat (Q7t x24 y3 x29) [(6,rp [(.tmp 54,(B ((!x29))))] (B true))]) (hap q1_ ⟨asb hb30 (amv rfl),tv⟩)<|wtr<|wxz<|Qaj<|Qal<|Qat<|Qal<|Qal<|Qat<|Qat ?_
         exact Qal<|Qal<|Qat<|Qal<|frb h
        ·obtain⟨x31,hg32,h⟩:=bno h
         obtain⟨hi33,hj34⟩:=gsm hg32
         obtain⟨x36,hf35,h⟩:=bno h
         obtain⟨x38,hf37,h⟩:=bno h
         refine hpre (A:=(Q7s x24 y3 x29 p0 x31 x36 x38)) (hap q1_ ⟨asb hb30 (amv rfl),ag_ (aiq underlying40 Qik Qac hi33 hj34),ag_ (apv Q5j (Qi0 N x31 _ hf35) (nlc (NLt.agg _ (nlc nll (nlc (nld Qba _) (nlcc (nlcc (nlc (nld Qaf _) nl0)))))) nl0) nll),ag_ (apv Qlm (Qdq N x24.Outlet 0 (w64 (x36-1)) _ hf37) (nlcc (nlc nll nl0)) nll),tv⟩) fun q2_=>?_
         refine bfe h (fun hb39 h=>?_) fun hb39 h=>?_
         ·refine wxd tbk (hcat (Q7s x24 y3 x29 p0 x31 x36 x38) [(20,rp [(.tmp 68,(B ((!x38))))] (B true))]) (hap q2_ ⟨asb hb39 (amv rfl),tv⟩)<|wtr<|wxz<|Qaj<|Qal<|Qat<|Qal<|Qal<|Qat<|Qat ?_
          exact Qal<|Qal<|Qat<|Qal<|frb h
         ·refine hpre (A:=(Q7r x24 y3 x29 p0 x31 x36 x38 y19)) (hap q2_ ⟨asb hb39 (amv rfl),ag_ (Qna rfl underlying190 underlying120 zb4 Qwn Quv),tv⟩) fun q3_=>?_
          refine bfe h (fun hb40 h=>?_) fun hb40 h=>?_
          ·refine wxd tbk (hcat (Q7r x24 y3 x29 p0 x31 x36 x38 y19) [(25,rp [(.tmp 73,(B (y19.contains (x24.Element,x24.Outlet))))] (B true))]) (hap q3_ ⟨asb hb40 (amv rfl),tv⟩)<|wtr<|wxz<|Qaj<|Qal<|Qat<|Qal<|Qal<|Qat<|Qat ?_
           exact Qal<|Qal<|Qat<|Qal<|frb h
          ·refine wxd tbk (hcat (Q7r x24 y3 x29 p0 x31 x36 x38 y19) [(25,rp [(.tmp 73,(B (y19.contains (x24.Element,x24.Outlet))))] (B false)),(32,rp [(.tmp 74,B false),(.tmp 78,(z9_1 p0)),(.tmp 80,I x24.Element)] (.dptr (Qac x31) 0))]) (hap q3_ ⟨asb hb40 (amv rfl),ag_ (aiq underlying40 Qik Qac hi33 hj34),tv⟩) ?_
           refine bfe h (fun hc41 h=>?_) fun hc41 h=>?_
           ·refine wft hc41<|wxz<|Qaj<|Qal<|Qat<|Qal<|Qal<|Qat<|Qat<|Qal ?_
            exact Qal<|Qat<|Qal<|frb h
           ·refine wfn hc41<|Qap<|thn ?_
            exact wx1 tbk [(2,⟨[(.tmp 86,(.mp 1)),(.tmp 87,(.agg [I x24.Element,I x24.Outlet])),cb true],[(1,(Qd8 y19))],.any,[(1,(Qd8 (addQ y19 (x24.Element,x24.Outlet))))],false⟩)] ⟨Qvd rfl underlying190 underlying120 Qwn Quv,tv⟩<|bln<|thn<|wxz1<|thn<|arm (mto (n:=90) [(1,.ref 0 2 0 0),(3,(.mp 1)),(4,I y3),(5,.ref 2 7 0 0),(27,(z9_1 p0)),(28,(I ((p0.Elements.length:Int)))),(29,I y3),(43,(Qyu x11)),(44,(I ((x11.From.length:Int)))),(45,(I (w64 (y18+1))))] [0,1,2] [(z9_2 p0),(Qd8 (addQ y19 (x24.Element,x24.Outlet))),(Q26 x11)] hφ0 (prr (pc (.rn (Qjd rfl)) (pw (prr (pc (rnd Qab) (pw (pw (pc (rnd Qba) (pw (pw pn)))))))))) (qb (lc (rnd Qag) (lc (rnd Qab) ln)) (qc Qfy (qb (lc rwl (lc (rnd Qba) (lcc (lcc (lc (rnd Qaf) ln))))) qn)))) (ih (w64 (y18+1),addQ y19 (x24.Element,x24.Outlet)) h)
       ·exact wfn hc23<|Qbf<|Qaw<|Qaw<|Qbe rfl<|bln<|thn<|⟨(y19),h,(mto (n:=90) [(1,.ref 0 2 0 0),(3,(.mp 1)),(27,(z9_1 p0)),(28,(I ((p0.Elements.length:Int)))),(29,I y3)] [0,1] [(z9_2 p0),(Qd8 y19)] hφ0 (prr (pc (.rn (Qjd rfl)) (pc (rnd Qab) (pw (pw pn))))) (qb (lc (rnd Qag) (lc (rnd Qab) ln)) (qc Qfy qn)))⟩
    ·exact wfn hc8<|Qbf<|Qaw<|Qaw<|Qbe rfl<|thn<|⟨(),h,(mto (n:=90) [] [] [] hφ0 pn qn)⟩
  ·skip
   obtain⟨x43,hf42,h⟩:=bno h
   refine hpre (A:=(Q7q p0 x43)) ⟨apv Zgz (Qou N p0.Table _ hf42) (nlc (nld Qag _) nl0) nll,tv⟩ fun q4_=>?_
   refine bfe h (fun hb44 h=>?_) fun hb44 h=>?_
   ·exact wx tbk (hcat (Q7q p0 x43) [(4,rp [(.tmp 11,(B ((x43 != 0))))] (B true))]) (hap q4_ ⟨asb hb44 (amv rfl),tv⟩)<|wtr<|wxz<|Qaj<|Qal<|frb h
   ·obtain⟨x46,hf45,h⟩:=bno h
    refine hpre (A:=(Q7p p0 x43 x46)) (hap q4_ ⟨asb hb44 (amv rfl),ag_ (alq 7 Qac p0.Elements underlying40),ag_ (apv Qlm (Qdq N (p0.Elements.length:Int) 1 16 _ hf45) (nlcc (nlc nll nl0)) nll),tv⟩) fun q5_=>?_
    refine bfe h (fun hb47 h=>?_) fun hb47 h=>?_
    ·exact wx tbk (hcat (Q7p p0 x43 x46) [(11,rp [(.tmp 18,(B ((!x46))))] (B true))]) (hap q5_ ⟨asb hb47 (amv rfl),tv⟩)<|wtr<|wxz<|Qaj<|Qal<|frb h
    ·obtain⟨x49,hf48,h⟩:=bno h
     refine wx tbk (hcat (Q7p p0 x43 x46) [(11,rp [(.tmp 18,(B ((!x46))))] (B false)),(14,rp [(.tmp 19,B false),fu 101,(.tmp 21,(z9_1 p0)),fu 102] (B x49))]) (hap q5_ ⟨asb hb47 (amv rfl),ag_ (Qav (first:=[]) (cap:=[]) (vs:=[(z9_1 p0),(.fn (.func 102) [] [])]) (σr:=[]) (σr':=[]) (res':=(B x49)) [] rfl Zgy (Qlj N p0.Elements _ hf48) rfl (Qbs (rnc (pld Qab) (rnc (.plain _ (NLt.fn _ _ _ nl0 nl0)) rn0))) Qau Qau (.plain _ nll) rfl rfl rfl),tv⟩) ?_
     refine bfe h (fun hc50 h=>?_) fun hc50 h=>?_
     ·exact wft hc50<|wxz<|Qaj<|Qal<|frb h
     ·exact wfn hc50<|Qap<|thn<|⟨(),h,(mto (n:=90) [(1,.ref 0 2 0 0)] [0] [(z9_2 p0)] hφ0 (prr pn) (qb (lc (rnd Qag) (lc (rnd Qab) ln)) qn))⟩
end
section
set_option maxRecDepth 100000
set_option maxHeartbeats 4000000
open Go.RowKit
def Qe9 (N:Nat) (k11:(List (Int×Int))→Option (List (Int×Int))) (x12:Qae):Nat→Int→(List (Int×Int))→Option (List (Int×Int))
  |0,_,_=>none
  |n20+1,y16,y17=>
    bif (decide (y16<(x12.From.length:Int))) then
     (getI x12.From y16).bind fun x22=>
     Qe9 N k11 x12 n20 (w64 (y16+1)) (addQ y17 (x22.Element,x22.Outlet))
    else
     k11 (y17)
def Qfa (N:Nat) (p0:GNet) (k3:(List (Int×Int))→Option (List (Int×Int))):Nat→Int→(List (Int×Int))→Option (List (Int×Int))
  |0,_,_=>none
  |n8+1,y4,y5=>
    bif (decide (y4<(p0.Elements.length:Int))) then
     Qbl (fun y10=>
       Qfa N p0 k3 n8 (w64 (y4+1)) y10) fun k11:(List (Int×Int))→Option (List (Int×Int))=>
     (getI p0.Elements y4).bind fun x12=>
     Qe9 N k11 x12 N 0 y5
    else
     k3 (y5)
def Qkx (N:Nat) (p0:GNet):Option (List (Int×Int)):=
  Qbl (fun y2=>
    some y2) fun k3:(List (Int×Int))→Option (List (Int×Int))=>
  Qfa N p0 k3 N 0 ([]:List (Int×Int))
def Qsn (p0:GNet):AV:=.dat 7 (p0.Elements.map Qac)
def Qy2:AV:=.fn (.func 110) [] [(.ref 0 2 (0) 0),(.ref 1 1 (0) 0)]
def Qpe (p0:GNet):Slot:=.own 2 [[(.dat 5 (p0.Table.map Qaq)),(Qsn p0)]]
def Q3p (x12:Qae):AV:=.dat 2 (x12.From.map Qay)
theorem Qpq (N:Nat) (p0:GNet) (r:(List (Int×Int))) (h:Qkx N p0=some r):Spec prog 75 [(.agg [(.dat 5 (p0.Table.map Qaq)),(Qsn p0)])] [] Qy2 [(Qpe p0),(.own 1 [[(.mp 2)]]),(Qd8 r)]:=by
  refine Qan func75 rfl 3 (nle rfl) (fun X φ0 w0 hφ0 hd0=>?_)
  unfold Qkx at h
  refine Qbw<|wxz ?_
  refine wx tbk [(0,⟨[],[(1,.unused)],(.mp 1),[(1,(Qd8 ([]:List (Int×Int))))],false⟩)] ⟨Qsf rfl,tv⟩ ?_
  obtain⟨k3,hk_k3,h⟩:=jko h
  refine wjn (τ:=(List (Int×Int))) (fun t=>k3 t=some r) (fun y2=>⟨mk 28 [(1,.ref 0 2 0 0),(3,.ref 1 1 0 0)],[(Qpe p0),(.own 1 [[(.mp 2)]]),(Qd8 y2)]⟩) (fun y2 h=>?_) ?_
  ·subst hk_k3
   refine wx tbk [(0,rp [(.tmp 1,.ref 0 2 0 0),(.tmp 3,.ref 1 1 0 0)] Qy2)] ⟨Qfq (fs:=[]) (cs:=[.ref 0 2 0 0,.ref 1 1 0 0]) rfl rfl rfl rfl,tv⟩ ?_
   refine wmr (mto (n:=28) (l':=[(2,Qy2)]) (own':=[(Qpe p0),(.own 1 [[(.mp 2)]]),(Qd8 y2)]) [(2,Qy2)] [0,1,2] [(Qpe p0),(.own 1 [[(.mp 2)]]),(Qd8 y2)] hφ0 (pc (.rn (Qbi rn0 (rnc (rqr rfl) (rnc (rqr rfl) rn0)))) pn) (qb (lc (rnd Qag) (lc (rnd Qab) ln)) (qb (lc (.rn (Qjd rfl)) ln) (qc Qfy qn))))<|Qaj ?_
   obtain rfl:=osi h
   exact⟨_,Mor.rfl,Qc1 (vs:=[Qy2]) ⟨rot,tv⟩ rfl (NLt.fn _ _ _ nl0 (nlc (NLt.ref _ _ _ _ (by decide)) (nlc (NLt.ref _ _ _ _ (by decide)) nl0))) (by kernel_rfl) (Qao (Qax (nlc (NLt.of0 (nld Qag _)) (nlc (NLt.of0 (nld Qab _)) nl0))) (Qao (Qax (nlc (NLt.mp _ (by decide)) nl0)) (Qao Zev Qbq)))⟩
  ·skip
   refine wx tbk [(2,rp _ _)] ⟨alq 7 Qac p0.Elements underlying40,tv⟩<|Qar ?_
   refine wmr (mto (n:=28) (l':=[(1,.ref 0 2 0 0),(3,.ref 1 1 0 0),(10,(Qsn p0)),(11,(I ((p0.Elements.length:Int)))),(12,I 0)]) (own':=[(Qpe p0),(.own 1 [[(.mp 2)]]),(Qd8 ([]:List (Int×Int)))]) [(1,.ref 0 2 0 0),(3,.ref 2 1 0 0),(10,(Qsn p0)),(11,(I ((p0.Elements.length:Int)))),(12,I 0)] [0,2,1] [(Qpe p0),(.own 1 [[(.mp 1)]]),(Qd8 ([]:List (Int×Int)))] hφ0 (prr (prr (pc (rnd Qab) (pw (pw pn))))) (qb (lc (rnd Qag) (lc (rnd Qab) ln)) (qb (lc (.rn (Qjd rfl)) ln) (qc Qfy qn)))) ?_
   refine Qbt (τ:=Int×(List (Int×Int))) (fun n t=>Qfa N p0 k3 n t.1 t.2=some r) (fun ⟨y4,y5⟩=>⟨mk 28 [(1,.ref 0 2 0 0),(3,.ref 1 1 0 0),(10,(Qsn p0)),(11,(I ((p0.Elements.length:Int)))),(12,I y4)],[(Qpe p0),(.own 1 [[(.mp 2)]]),(Qd8 y5)]⟩) (fun t h=>by rw[Qfa] at h;cases h) (fun n8 ih t h=>?_) N (0,([]:List (Int×Int))) h
   obtain⟨y4,y5⟩:=t
   rw[Qfa] at h
   skip
   refine wxz<|wsq ?_
   refine bfe h (fun hc9 h=>?_) fun hc9 h=>?_
   ·refine wft hc9<|Qap<|thn ?_
    obtain⟨k11,hk_k11,h⟩:=jko h
    refine wjn (τ:=(List (Int×Int))) (fun t=>k11 t=some r) (fun y10=>⟨mk 28 [(1,.ref 0 2 0 0),(3,.ref 1 1 0 0),(10,(Qsn p0)),(11,(I ((p0.Elements.length:Int)))),(12,I y4)],[(Qpe p0),(.own 1 [[(.mp 2)]]),(Qd8 y10)]⟩) (fun y10 h=>?_) ?_
    ·subst hk_k11
     exact wxz1<|thn<|arm (mto (n:=28) [(1,.ref 0 2 0 0),(3,.ref 1 1 0 0),(10,(Qsn p0)),(11,(I ((p0.Elements.length:Int)))),(12,(I (w64 (y4+1))))] [0,1,2] [(Qpe p0),(.own 1 [[(.mp 2)]]),(Qd8 y10)] hφ0 (prr (prr (pc (rnd Qab) (pw (pw pn))))) (qb (lc (rnd Qag) (lc (rnd Qab) ln)) (qb (lc (.rn (Qjd rfl)) ln) (qc Qfy qn)))) (ih (w64 (y4+1),y10) h)
    ·skip
     refine Qar ?_
     obtain⟨x12,hg13,h⟩:=bno h
     obtain⟨hi14,hj15⟩:=gsm hg13
     refine wx tbk [(0,rp _ _)] ⟨aiq underlying40 Qik Qac hi14 hj15,tv⟩ ?_
     refine wx tbk [(2,rp _ _)] ⟨alq 2 Qay x12.From underlying116,tv⟩<|Qar ?_
     refine wmr (mto (n:=28) (l':=[(1,.ref 0 2 0 0),(3,.ref 1 1 0 0),(10,(Qsn p0)),(11,(I ((p0.Elements.length:Int)))),(12,I y4),(17,(Q3p x12)),(18,(I ((x12.From.length:Int)))),(19,I 0)]) (own':=[(Qpe p0),(.own 1 [[(.mp 2)]]),(Qd8 y5)]) [(1,.ref 0 2 0 0),(3,.ref 1 1 0 0),(10,(Qsn p0)),(11,(I ((p0.Elements.length:Int)))),(12,I y4),(17,(Q3p x12)),(18,(I ((x12.From.length:Int)))),(19,I 0)] [0,1,2] [(Qpe p0),(.own 1 [[(.mp 2)]]),(Qd8 y5)] hφ0 (prr (prr (pc (rnd Qab) (pw (pw (pc (rnd Qba) (pw (pw pn)))))))) (qb (lc (rnd Qag) (lc (rnd Qab) ln)) (qb (lc (.rn (Qjd rfl)) ln) (qc Qfy qn)))) ?_
     refine Qbt (τ:=Int×(List (Int×Int))) (fun n t=>Qe9 N k11 x12 n t.1 t.2=some r) (fun ⟨y16,y17⟩=>⟨mk 28 [(1,.ref 0 2 0 0),(3,.ref 1 1 0 0),(10,(Qsn p0)),(11,(I ((p0.Elements.length:Int)))),(12,I y4),(17,(Q3p x12)),(18,(I ((x12.From.length:Int)))),(19,I y16)],[(Qpe p0),(.own 1 [[(.mp 2)]]),(Qd8 y17)]⟩) (fun t h=>by rw[Qe9] at h;cases h) (fun n20 ih t h=>?_) N (0,y5) h
     obtain⟨y16,y17⟩:=t
     rw[Qe9] at h
     skip
     refine wxz<|wsq ?_
     refine bfe h (fun hc21 h=>?_) fun hc21 h=>?_
     ·refine wft hc21<|Qap<|thn<|wsq<|Qar ?_
      obtain⟨x22,hg23,h⟩:=bno h
      obtain⟨hi24,hj25⟩:=gsm hg23
      refine wx tbk [(0,rp _ _)] ⟨aiq underlying116 Qpi Qay hi24 hj25,tv⟩ ?_
      exact wx1 tbk [(2,⟨[(.tmp 23,(.mp 2)),(.tmp 24,(.agg [I x22.Element,I x22.Outlet])),cb true],[(2,(Qd8 y17))],.any,[(2,(Qd8 (addQ y17 (x22.Element,x22.Outlet))))],false⟩)] ⟨Qvd rfl underlying190 underlying120 Qwn Quv,tv⟩<|bln<|thn<|wxz1<|thn<|arm (mto (n:=28) [(1,.ref 0 2 0 0),(3,.ref 1 1 0 0),(10,(Qsn p0)),(11,(I ((p0.Elements.length:Int)))),(12,I y4),(17,(Q3p x12)),(18,(I ((x12.From.length:Int)))),(19,(I (w64 (y16+1))))] [0,1,2] [(Qpe p0),(.own 1 [[(.mp 2)]]),(Qd8 (addQ y17 (x22.Element,x22.Outlet)))] hφ0 (prr (prr (pc (rnd Qab) (pw (pw (pc (rnd Qba) (pw (pw pn)))))))) (qb (lc (rnd Qag) (lc (rnd Qab) ln)) (qb (lc (.rn (Qjd rfl)) ln) (qc Qfy qn)))) (ih (w64 (y16+1),addQ y17 (x22.Element,x22.Outlet)) h)
     ·exact wfn hc21<|Qbf<|Qaw<|Qaw<|Qbe rfl<|bln<|thn<|⟨(y17),h,(mto (n:=28) [(1,.ref 0 2 0 0),(3,.ref 1 1 0 0),(10,(Qsn p0)),(11,(I ((p0.Elements.length:Int)))),(12,I y4)] [0,1,2] [(Qpe p0),(.own 1 [[(.mp 2)]]),(Qd8 y17)] hφ0 (prr (prr (pc (rnd Qab) (pw (pw pn))))) (qb (lc (rnd Qag) (lc (rnd Qab) ln)) (qb (lc (.rn (Qjd rfl)) ln) (qc Qfy qn))))⟩
   ·exact wfn hc9<|Qbf<|Qaw<|Qaw<|Qbe rfl<|thn<|⟨(y5),h,(mto (n:=28) [(1,.ref 0 2 0 0),(3,.ref 1 1 0 0)] [0,1,2] [(Qpe p0),(.own 1 [[(.mp 2)]]),(Qd8 y5)] hφ0 (prr (prr pn)) (qb (lc (rnd Qag) (lc (rnd Qab) ln)) (qb (lc (.rn (Qjd rfl)) ln) (qc Qfy qn))))⟩
def Qd5 (N:Nat) (y1:Int) (p2:(List (Int×Int))) (k8:Unit→Option (List Qbk)) (x14:Int):Nat→Int→Option (List Qbk)
  |0,_=>none
  |n19+1,y15=>
    bif (decide (y15<x14)) then
     bif (!(p2.contains (y1,y15))) then
      yld (⟨y1,y15⟩:Qbk)<|
      Qd5 N y1 p2 k8 x14 n19 (w64 (y15+1))
     else
      Qd5 N y1 p2 k8 x14 n19 (w64 (y15+1))
    else
     k8 ()
def Qe8 (N:Nat) (p1:List Qae) (p2:(List (Int×Int))):Nat→Int→Option (List Qbk)
  |0,_=>none
  |n5+1,y1=>
    bif (decide (y1<(p1.length:Int))) then
     Qbl (fun _=>
       Qe8 N p1 p2 n5 (w64 (y1+1))) fun k8:Unit→Option (List Qbk)=>
     (getI p1 y1).bind fun x9=>
     (Qeg N x9).bind fun x14=>
     Qd5 N y1 p2 k8 x14 N 0
    else
     some ([])
def Qkw (N:Nat) (_p0:List GRow) (p1:List Qae) (p2:(List (Int×Int))):Option (List Qbk):=
  Qe8 N p1 p2 N 0
def Qsm (p1:List Qae):AV:=.dat 7 (p1.map Qac)
def Qsl (p0:List GRow) (p1:List Qae):Slot:=.own 2 [[(.dat 5 (p0.map Qaq)),(Qsm p1)]]
def Qp9 (y1 y15:Int):AV:=.agg [(I y1),(I y15)]
theorem Qpp (N:Nat) (p0:List GRow) (p1:List Qae) (p2:(List (Int×Int))) (r:List Qbk) (h:Qkw N p0 p1 p2=some r):Qvm prog 110 [(.ref 0 2 (0) 0),(.ref 1 1 (0) 0)] [(Qsl p0 p1),(.own 1 [[(.mp 2)]]),(Qd8 p2)] (fun x=>[(.agg #[(.int .i64 x.Element),(.int .i64 x.Outlet)])]) r:=by
  refine Qwa func110 rfl rfl (fun X φ0 w0 l J hφ0 hy=>?_)
  unfold Qkw at h
  refine wx tbk [(2,rp _ _)] ⟨alq 7 Qac p1 underlying40,tv⟩<|Qar ?_
  refine wmr (mto (n:=36) (l':=[(0,(.lit (.func (.yield l) #[] #[]))),(2,.ref 1 1 0 0),(9,(Qsm p1)),(10,(I ((p1.length:Int)))),(11,I 0)]) (own':=[(Qsl p0 p1),(.own 1 [[(.mp 2)]]),(Qd8 p2),(.far (J (some r)))]) [(0,(.lit (.func (.yield l) #[] #[]))),(2,.ref 1 1 0 0),(9,(Qsm p1)),(10,(I ((p1.length:Int)))),(11,I 0)] [0,1,2,3] [(Qsl p0 p1),(.own 1 [[(.mp 2)]]),(Qd8 p2),(.far (J (some r)))] hφ0 (pw (prr (pc (rnd Qab) (pw (pw pn))))) (qb (lc (rnd Qag) (lc (rnd Qab) ln)) (qb (lc (.rn (Qjd rfl)) ln) (qc Qfy (qc (.far _) qn))))) ?_
  refine Qbt (τ:=(Int)×List Qbk) (fun n t=>Qe8 N p1 p2 n t.1=some t.2) (fun ⟨y1,q2⟩=>⟨mk 36 [(0,(.lit (.func (.yield l) #[] #[]))),(2,.ref 1 1 0 0),(9,(Qsm p1)),(10,(I ((p1.length:Int)))),(11,I y1)],[(Qsl p0 p1),(.own 1 [[(.mp 2)]]),(Qd8 p2),(.far (J (some q2)))]⟩) (fun t h=>by rw[Qe8] at h;cases h) (fun n5 ih t h=>?_) N ((0),r) h
  obtain⟨y1,q2⟩:=t
  rw[Qe8] at h
  try dsimp only at h
  refine wxz<|wsq ?_
  refine bfe h (fun hc6 h=>?_) fun hc6 h=>?_
  ·refine wft hc6<|Qap<|thn ?_
   obtain⟨k8,hk_k8,h⟩:=jko h
   refine wjn (τ:=(Unit)×List Qbk) (fun t=>k8 t.1=some t.2) (fun ⟨_,q7⟩=>⟨mk 36 [(0,(.lit (.func (.yield l) #[] #[]))),(2,.ref 1 1 0 0),(9,(Qsm p1)),(10,(I ((p1.length:Int)))),(11,I y1)],[(Qsl p0 p1),(.own 1 [[(.mp 2)]]),(Qd8 p2),(.far (J (some q7)))]⟩) (fun t h=>?_) ?_
   ·subst hk_k8
    obtain⟨_,q7⟩:=t
    exact wxz1<|thn<|arm (mto (n:=36) [(0,(.lit (.func (.yield l) #[] #[]))),(2,.ref 1 1 0 0),(9,(Qsm p1)),(10,(I ((p1.length:Int)))),(11,(I (w64 (y1+1))))] [0,1,2,3] [(Qsl p0 p1),(.own 1 [[(.mp 2)]]),(Qd8 p2),(.far (J (some q7)))] hφ0 (pw (prr (pc (rnd Qab) (pw (pw pn))))) (qb (lc (rnd Qag) (lc (rnd Qab) ln)) (qb (lc (.rn (Qjd rfl)) ln) (qc Qfy (qc (.far _) qn))))) (ih ((w64 (y1+1)),q7) h)
   ·skip
    refine Qar ?_
    obtain⟨x9,hg10,h⟩:=bno h
    obtain⟨hi11,hj12⟩:=gsm hg10
    refine wx tbk [(1,rp _ _)] ⟨aiq underlying40 Qik Qac hi11 hj12,tv⟩ ?_
    obtain⟨x14,hf13,h⟩:=bno h
    refine wx tbk [(1,rp _ _)] ⟨apv Q5j (Qi0 N x9 _ hf13) (nlc (NLt.agg _ (nlc nll (nlc (nld Qba _) (nlcc (nlcc (nlc (nld Qaf _) nl0)))))) nl0) nll,tv⟩<|Qar ?_
    refine wmr (mto (n:=36) (l':=[(0,(.lit (.func (.yield l) #[] #[]))),(2,.ref 1 1 0 0),(4,I y1),(9,(Qsm p1)),(10,(I ((p1.length:Int)))),(11,I y1),(17,I x14),(18,I 0)]) (own':=[(Qsl p0 p1),(.own 1 [[(.mp 2)]]),(Qd8 p2),(.far (J (some q2)))]) [(0,(.lit (.func (.yield l) #[] #[]))),(2,.ref 1 1 0 0),(4,I y1),(9,(Qsm p1)),(10,(I ((p1.length:Int)))),(11,I y1),(17,I x14),(18,I 0)] [0,1,2,3] [(Qsl p0 p1),(.own 1 [[(.mp 2)]]),(Qd8 p2),(.far (J (some q2)))] hφ0 (pw (prr (pw (pc (rnd Qab) (pw (pw (pw (pw pn)))))))) (qb (lc (rnd Qag) (lc (rnd Qab) ln)) (qb (lc (.rn (Qjd rfl)) ln) (qc Qfy (qc (.far _) qn))))) ?_
    refine Qbt (τ:=(Int)×List Qbk) (fun n t=>Qd5 N y1 p2 k8 x14 n t.1=some t.2) (fun ⟨y15,q16⟩=>⟨mk 36 [(0,(.lit (.func (.yield l) #[] #[]))),(2,.ref 1 1 0 0),(4,I y1),(9,(Qsm p1)),(10,(I ((p1.length:Int)))),(11,I y1),(17,I x14),(18,I y15)],[(Qsl p0 p1),(.own 1 [[(.mp 2)]]),(Qd8 p2),(.far (J (some q16)))]⟩) (fun t h=>by rw[Qd5] at h;cases h) (fun n19 ih t h=>?_) N ((0),q2) h
    obtain⟨y15,q16⟩:=t
    rw[Qd5] at h
    try dsimp only at h
    refine wxz<|wsq ?_
    refine bfe h (fun hc20 h=>?_) fun hc20 h=>?_
    ·refine wft hc20<|Qap<|thn<|wsq<|Qar<|wxz ?_
     refine wx tbk [(2,rp _ _)] ⟨Qa5 (vs:=[I y1,I y15]) rfl Q97 Qso rfl (by rfl) rfl,tv⟩ ?_
     refine bfe h (fun hb21 h=>?_) fun hb21 h=>?_
     ·obtain⟨q22,hy_,hq_⟩:=Q1r h
      clear h
      subst hq_
      have h:=hy_
      clear hy_
      refine Qs6 7 [rb [(.tmp 2,.ref 1 1 0 0)] [(1,(.own 1 [[(.mp 2)]]))] (.mp 2),rb [(.tmp 7,.ref 4 2 0 0)] [(4,.own 2 [[I y1,I y15]])] (Qp9 y1 y15),rb [(.tmp 24,(.mp 2)),(.tmp 25,(Qp9 y1 y15))] [(2,(Qd8 p2))] (B (p2.contains (y1,y15))),rp [(.tmp 26,(B (p2.contains (y1,y15))))] (B ((!(p2.contains (y1,y15))))),rp [(.tmp 27,(B ((!(p2.contains (y1,y15))))))] (B true),rp [(.tmp 28,B true),(.tmp 0,(.lit (.func (.yield l) #[] #[])))] (.lit (.func (.yield l) #[] #[])),rb [(.tmp 28,B true),(.tmp 7,.ref 4 2 0 0)] [(4,.own 2 [[I y1,I y15]])] (Qp9 y1 y15),⟨[(.tmp 28,B true),(.tmp 29,(.lit (.func (.yield l) #[] #[]))),(.tmp 30,(Qp9 y1 y15))],[(3,(.far (J (some ((⟨y1,y15⟩:Qbk)::q22)))))],B true,[(3,(.far (J (some q22))))],false⟩,rp [(.tmp 28,B true),(.tmp 31,B true)] (B false),rp [(.tmp 28,B true),(.tmp 32,B false),cb false] (B false)] [rb [(.tmp 2,.ref 1 1 0 0)] [(1,(.own 1 [[(.mp 2)]]))] (.mp 2),rb [(.tmp 7,.ref 4 2 0 0)] [(4,.own 2 [[I y1,I y15]])] (Qp9 y1 y15),rb [(.tmp 24,(.mp 2)),(.tmp 25,(Qp9 y1 y15))] [(2,(Qd8 p2))] (B (p2.contains (y1,y15))),rp [(.tmp 26,(B (p2.contains (y1,y15))))] (B ((!(p2.contains (y1,y15))))),rp [(.tmp 27,(B ((!(p2.contains (y1,y15))))))] (B true),rp [(.tmp 28,B true),(.tmp 0,(.lit (.func (.yield l) #[] #[])))] (.lit (.func (.yield l) #[] #[])),rb [(.tmp 28,B true),(.tmp 7,.ref 4 2 0 0)] [(4,.own 2 [[I y1,I y15]])] (Qp9 y1 y15),⟨[(.tmp 28,B true),(.tmp 29,(.lit (.func (.yield l) #[] #[]))),(.tmp 30,(Qp9 y1 y15))],[(3,(.far (J (some ((⟨y1,y15⟩:Qbk)::q22)))))],B false,[(3,(.far (J none)))],false⟩,rp [(.tmp 28,B true),(.tmp 31,B false)] (B true),rp [(.tmp 28,B true),(.tmp 32,B true),cb false] (B true)] (by exact⟨by kernel_rfl,by kernel_rfl⟩) (by exact⟨by kernel_rfl,by kernel_rfl⟩) rfl rfl rfl rfl (Q02 (Qp0 (rd':=(.tmp 29,.lit (.func (.yield l) #[] #[]))::[(.tmp 30,.lit (.agg #[(.int .i64 ((⟨y1,y15⟩:Qbk).Element)),(.int .i64 ((⟨y1,y15⟩:Qbk).Outlet))]))]) ⟨rfl,lrf,rfl,(Less.lits [(.int .i64 y1),(.int .i64 y15)]),tv⟩ (Qod (x:=(⟨y1,y15⟩:Qbk)) (rest:=q22) rfl rfl hy rfl))) (⟨fun _ _=>ald rfl Zkb (by decide) rfl (nle rfl) rfl,fun _ _=>ald rfl Qpi (by decide) rfl (nle rfl) rfl,fun _ _=>Qna rfl underlying190 underlying120 zb4 Qwn Quv,fun _ _=>Qlo rfl,fun _ _=>asb hb21 (amv rfl),fun _ _=>ag_ (amv rfl),fun _ _=>ag_ (ald rfl Qpi (by decide) rfl (nle rfl) rfl),fun _ h=>absurd rfl h,fun _ _=>ag_ (Qlo rfl),fun _ _=>apk rfl rfl,tv⟩) (⟨fun _ _=>ald rfl Zkb (by decide) rfl (nle rfl) rfl,fun _ _=>ald rfl Qpi (by decide) rfl (nle rfl) rfl,fun _ _=>Qna rfl underlying190 underlying120 zb4 Qwn Quv,fun _ _=>Qlo rfl,fun _ _=>asb hb21 (amv rfl),fun _ _=>ag_ (amv rfl),fun _ _=>ag_ (ald rfl Qpi (by decide) rfl (nle rfl) rfl),fun _ h=>absurd rfl h,fun _ _=>ag_ (Qlo rfl),fun _ _=>apk rfl rfl,tv⟩) ?_ ?_
      ·skip
       exact wfa<|Qap<|bln<|thn<|wxz1<|thn<|arm (mto (n:=36) [(0,(.lit (.func (.yield l) #[] #[]))),(2,.ref 1 1 0 0),(4,I y1),(9,(Qsm p1)),(10,(I ((p1.length:Int)))),(11,I y1),(17,I x14),(18,(I (w64 (y15+1))))] [0,1,2,3] [(Qsl p0 p1),(.own 1 [[(.mp 2)]]),(Qd8 p2),(.far (J (some q22)))] hφ0 (pw (prr (pw (pc (rnd Qab) (pw (pw (pw (pw pn)))))))) (qb (lc (rnd Qag) (lc (rnd Qab) ln)) (qb (lc (.rn (Qjd rfl)) ln) (qc Qfy (qc (.far _) qn))))) (ih ((w64 (y15+1)),q22) h)
      ·clear h
       refine wtr<|Qaj<|Qat<|Qal<|Qal<|Qat<|Qat<|Qal<|Qal<|Qat ?_
       exact Or.inr (by kernel_rfl)
     ·exact wx tbk [(2,rb [(.tmp 24,(.mp 2)),(.tmp 25,(Qp9 y1 y15))] [(2,(Qd8 p2))] (B (p2.contains (y1,y15)))),(4,rp [(.tmp 27,(B ((!(p2.contains (y1,y15))))))] (B false))] ⟨Qna rfl underlying190 underlying120 zb4 Qwn Quv,asb hb21 (amv rfl),tv⟩<|wfa<|Qap<|bln<|thn<|wxz1<|thn<|arm (mto (n:=36) [(0,(.lit (.func (.yield l) #[] #[]))),(2,.ref 1 1 0 0),(4,I y1),(9,(Qsm p1)),(10,(I ((p1.length:Int)))),(11,I y1),(17,I x14),(18,(I (w64 (y15+1))))] [0,1,2,3] [(Qsl p0 p1),(.own 1 [[(.mp 2)]]),(Qd8 p2),(.far (J (some q16)))] hφ0 (pw (prr (pw (pc (rnd Qab) (pw (pw (pw (pw pn)))))))) (qb (lc (rnd Qag) (lc (rnd Qab) ln)) (qb (lc (.rn (Qjd rfl)) ln) (qc Qfy (qc (.far _) qn))))) (ih ((w64 (y15+1)),q16) h)
    ·exact wfn hc20<|Qbf<|Qaw<|Qaw<|Qbe rfl<|bln<|thn<|⟨((),q16),h,(mto (n:=36) [(0,(.lit (.func (.yield l) #[] #[]))),(2,.ref 1 1 0 0),(9,(Qsm p1)),(10,(I ((p1.length:Int)))),(11,I y1)] [0,1,2,3] [(Qsl p0 p1),(.own 1 [[(.mp 2)]]),(Qd8 p2),(.far (J (some q16)))] hφ0 (pw (prr (pc (rnd Qab) (pw (pw pn))))) (qb (lc (rnd Qag) (lc (rnd Qab) ln)) (qb (lc (.rn (Qjd rfl)) ln) (qc Qfy (qc (.far _) qn)))))⟩
  ·refine wfn hc6<|Qbf<|Qaw<|Qaw<|Qbe rfl ?_
   obtain rfl:=osi h
   exact Or.inl rfl
def Qbr (N:Nat) (k3:(List Qbk)→Option (List Qbk)):(List Qbk)→(List Qbk)→Option (List Qbk)
  |[],y6=>
    k3 (y6)
  |x9::q10,y6=>
    chk (decide ((y6.length+([x9]).length)*16≤140737488355328))<|
    Qbr N k3 q10 (y6++([x9]))
def Qdp (N:Nat) (p0:List GRow) (p1:List Qae) (p2:(List (Int×Int))):Option (List Qbk):=
  Qbl (fun y2=>
    some y2) fun k3:(List Qbk)→Option (List Qbk)=>
  (Qkw N p0 p1 p2).bind fun q4=>
  Qbr N k3 q4 ([])
def Zjw:AV:=.fn (.func 110) [] [(.ref 0 2 (0) 0),(.ref 1 1 (0) 0)]
def Zef (p0:List GRow) (p1:List Qae):Slot:=.own 2 [[(.dat 5 (p0.map Qaq)),(.dat 7 (p1.map Qac))]]
theorem Qhq (N:Nat) (p0:List GRow) (p1:List Qae) (p2:(List (Int×Int))) (r:List Qbk) (h:Qdp N p0 p1 p2=some r):Spec prog 111 [nilS,Zjw] [(Zef p0 p1),(.own 1 [[(.mp 2)]]),(Qd8 p2)] (.dat 2 (r.map Qay)) [.dead,.dead,.dead]:=by
  refine Qan func111 rfl 3 (nle rfl) (fun X φ0 w0 hφ0 hd0=>?_)
  unfold Qdp at h
  refine Qbw<|wxz ?_
  obtain⟨k3,hk_k3,h⟩:=jko h
  refine wjn (τ:=(List Qbk)) (fun t=>k3 t=some r) (fun y2=>⟨mk 13 [(2,.ref 3 1 0 0)],[.dead,.dead,.dead,(.own 1 [[(.acc 4 120 2 (y2.map Qay))]]),.tok]⟩) (fun y2 h=>?_) ?_
  ·subst hk_k3
   refine wxz<|wmr (mto (n:=13) (l':=[(4,(.dat 2 (y2.map Qay)))]) (own':=[.dead,.dead,.dead]) [(4,(.acc 4 120 2 (y2.map Qay)))] [0,1,2] [.dead,.dead,.dead] hφ0 (pc (.dat _ _ _ _ (Qb5 Qba _)) pn) (qc .dead (qc .dead (qc .dead qn))))<|Qaj ?_
   obtain rfl:=osi h
   exact⟨_,Mor.rfl,Qc1 (vs:=[(.dat 2 (y2.map Qay))]) ⟨rot,tv⟩ rfl (NLt.of0 (nld Qba _)) (by kernel_rfl) (Qao .dead (Qao .dead (Qao .dead Qbq)))⟩
  ·skip
   refine wxz<|Qar ?_
   obtain⟨q4,hL5,h⟩:=bno h
   refine wmr (mto (n:=13) (l':=[(2,.ref 3 1 0 0),(6,Zjw)]) (own':=[(Zef p0 p1),(.own 1 [[(.mp 2)]]),(Qd8 p2),(.own 1 [[nilS]])]) [(2,.ref 3 1 0 0),(6,Zjw)] [0,1,2,3] [(Zef p0 p1),(.own 1 [[(.mp 2)]]),(Qd8 p2),(.own 1 [[nilS]])] hφ0 (prr (pc (.rn (Qbi rn0 (rnc (rqr rfl) (rnc (rqr rfl) rn0)))) pn)) (qb (lc (rnd Qag) (lc (rnd Qab) ln)) (qb (lc (.rn (Qjd rfl)) ln) (qc Qfy (qb (lc rwl ln) qn))))) ?_
   refine wmr (Qs0 (n:=4) (ty:=120) (m:=2) (q:=3) (mq:=1) (c:=[nilS]) 0 (by kernel_rfl) (by kernel_rfl) (by kernel_rfl) (by decide)) ?_
   refine Qws (τ:=((List Qbk))) (kb:=4) (caps:=[.ref 0 2 0 0,.ref 1 1 0 0]) (σr:=[(Zef p0 p1),(.own 1 [[(.mp 2)]]),(Qd8 p2)]) (encs:=fun x=>[(.agg #[(.int .i64 x.Element),(.int .i64 x.Outlet)])]) (fun x=>[(.agg [I x.Element,I x.Outlet])]) [0,1,2] (fun n hn=>hφ0 n (Nat.le_trans (nle rfl) hn)) hd0 (Qpp N p0 p1 p2 _ hL5) Zgu (by kernel_rfl) (by kernel_rfl) (Qbs (rnc (Qbb rfl) (rnc (Qbb rfl) rn0))) (slc (Qas (rnc (pld Qag) (rnc (pld Qab) rn0))) (slc (Qas (rnc (Ziq rfl) rn0)) (slc Qsx Qau))) (by kernel_rfl) (fun _=>rfl) (fun x=>⟨(Less.unlits [(.int .i64 x.Element),(.int .i64 x.Outlet)]),tv⟩) (Ziy (Qsz (NLt.ref _ _ _ _ (by decide)) (Qsz (NLt.fn _ _ _ nl0 (nlc (NLt.ref _ _ _ _ (by decide)) (nlc (NLt.ref _ _ _ _ (by decide)) nl0))) Zba))) (fun y6=>[.dead,.dead,.dead,(.own 1 [[(.acc 4 120 2 (y6.map Qay))]]),.tok]) (fun _=>rfl) (fun _=>rfl) (fun l t=>Qbr N k3 l t=some r) ([]) h (by kernel_rfl) ?_ ?_
   ·intro l11 o12 X15 φ16 w17 hφ14 x9 q10 y6 h
    rw[Qbr] at h
    refine wxz1 ?_
    refine⟨by kernel_rfl,fun o13=>?_⟩
    refine Qar ?_
    obtain⟨ha18,h⟩:=cko h
    refine wx1 tbk [(2,rp [(.tmp 9,(.agg [I x9.Element,I x9.Outlet]))] (.dat 2 (([x9]:List Qbk).map Qay))),(3,⟨[(.tmp 8,(.acc 4 120 2 (y6.map Qay))),(.tmp 10,(.dat 2 (([x9]:List Qbk).map Qay)))],[(4,.tok),(7,.unused)],(.acc 7 120 2 ((y6++([x9]):List Qbk).map Qay)),[(4,.dead),(7,.tok)],false⟩)] ⟨Qbz (vs:=[(.agg [I x9.Element,I x9.Outlet])]) rfl underlying116 Qpi Qso rfl (by decide) rfl (by decide) (by rfl) (by rfl) (by rfl) rfl,Qek rfl underlying116 Zep (Base.acc _ _) rfl rfl (by rfl) (Qhl Qay ha18) (Qhk Qay ha18 (by decide)) (Qhj Qay) rfl rfl,tv⟩<|bln ?_
    exact⟨(y6++([x9])),h,Zit (own':=[.dead,.dead,.dead,(.own 1 [[(.acc 4 120 2 (((y6++([x9])):List Qbk).map Qay))]]),.tok,(.far (farL l11 o13))]) [0,1,2,3,7,5] [.dead,.dead,.dead,(.own 1 [[(.acc 7 120 2 ((y6++([x9]):List Qbk).map Qay))]]),.tok,(.far (farL l11 o13))] (by kernel_rfl) (by kernel_rfl) ⟨.dead,.dead,.dead,(spb (lc (.rn (Qcv rfl (Qb5 Qba _))) ln)),.tok,.far _,tv⟩⟩
   ·intro y6 h
    rw[Qbr] at h
    exact bln<|thn<|⟨(y6),h,(mto (n:=13) [(2,.ref 3 1 0 0)] [0,1,2,3,4] [.dead,.dead,.dead,(.own 1 [[(.acc 4 120 2 (y6.map Qay))]]),.tok] hφ0 (prr pn) (qc .dead (qc .dead (qc .dead (qb (lc (.rn (Qcv rfl (Qb5 Qba _))) ln) (qc .tok qn))))))⟩
def Qgc (N:Nat) (p0:List GRow) (p1:List Qae) (p2:(List (Int×Int))):Option (List Qbk):=
  (Qdp N p0 p1 p2).bind fun x3=>
  some x3
def Znl:AV:=.fn (.func 110) [] [(.ref 0 2 (0) 0),(.ref 1 1 (0) 0)]
def Zeg (x3:List Qbk):AV:=.dat 2 (x3.map Qay)
theorem Qke (N:Nat) (p0:List GRow) (p1:List Qae) (p2:(List (Int×Int))) (r:List Qbk) (h:Qgc N p0 p1 p2=some r):Spec prog 89 [Znl] [(.own 2 [[(.dat 5 (p0.map Qaq)),(.dat 7 (p1.map Qac))]]),(.own 1 [[(.mp 2)]]),(Qd8 p2)] (.dat 2 (r.map Qay)) [.dead,.dead,.dead]:=by
  refine Qan func89 rfl 3 (nle rfl) (fun X φ0 w0 hφ0 hd0=>?_)
  unfold Qgc at h
  refine Qbw<|wxz ?_
  obtain⟨x3,hf2,h⟩:=bno h
  refine wx tbk [(1,⟨_,_,_,_,false⟩)] ⟨Qav (first:=[]) (cap:=[]) (vs:=[nilS,Znl]) (σr:=[(.own 2 [[(.dat 5 (p0.map Qaq)),(.dat 7 (p1.map Qac))]]),(.own 1 [[(.mp 2)]]),(Qd8 p2)]) (σr':=[.dead,.dead,.dead]) (res':=(Zeg x3)) [0,1,2] rfl Zgt (Qhq N p0 p1 p2 _ hf2) rfl (Qbs (rnc (.plain _ nll) (rnc (Qbi rn0 (rnc (Qa1 rfl) (rnc (Qa1 rfl) rn0))) rn0))) (slc (Qas (rnc (pld Qag) (rnc (pld Qab) rn0))) (slc (Qas (rnc (Zip rfl) rn0)) (slc Qsx Qau))) (slc .dead (slc .dead (slc .dead Qau))) (pld Qba) rfl rfl rfl,tv⟩ ?_
  refine wmr (mto (n:=5) (l':=[(2,(Zeg x3))]) (own':=[.dead,.dead,.dead]) [(2,(Zeg x3))] [0,1,2] [.dead,.dead,.dead] hφ0 (pc (rnd Qba) pn) (qc .dead (qc .dead (qc .dead qn))))<|Qaj ?_
  obtain rfl:=osi h
  exact⟨_,Mor.rfl,Qc1 (vs:=[(Zeg x3)]) ⟨rot,tv⟩ rfl (NLt.of0 (nld Qba _)) (by kernel_rfl) (Qao .dead (Qao .dead (Qao .dead Qbq)))⟩
def Qrt (N:Nat) (p0:GNet):Option ((List Qbk)×Int):=
  (Qex N p0).bind fun x2=>
  bif (!x2) then
   some ([],1)
  else
   (Qkx N p0).bind fun x5=>
   (Qgc N p0.Table p0.Elements x5).bind fun x7=>
   some (x7,0)
def Zpv (p0:GNet):AV:=.agg [(.dat 5 (p0.Table.map Qaq)),(.dat 7 (p0.Elements.map Qac))]
def Znm:AV:=.fn (.func 110) [] [(.ref 1 2 (0) 0),(.ref 2 1 (0) 0)]
def Znn (p0:GNet):Slot:=.own 2 [[(.dat 5 (p0.Table.map Qaq)),(.dat 7 (p0.Elements.map Qac))]]
theorem Qxw (N:Nat) (p0:GNet) (r:((List Qbk)×Int)) (h:Qrt N p0=some r):Spec prog 47 [(.agg (Qf6 p0))] [] (.tup [(.dat 2 (r.1.map Qay)),(I r.2)]) []:=by
  refine Qan func47 rfl 0 (nle rfl) (fun X φ0 w0 hφ0 hd0=>?_)
  unfold Qrt at h
  refine wxz<|wsq ?_
  obtain⟨x2,hf1,h⟩:=bno h
  refine wx tbk [(1,rp _ _)] ⟨apv Quy (Qgv N p0 _ hf1) (nlc (NLt.agg _ (nlc (nld Qag _) (nlc (nld Qab _) nl0))) nl0) nll,tv⟩ ?_
  refine bfe h (fun hc3 h=>?_) fun hc3 h=>?_
  ·refine wft hc3<|wxz<|Qaj<|Qal ?_
   obtain rfl:=osi h
   exact fend ⟨[(.dat 2 (([]:List Qbk).map Qay)),I 1],⟨Qb3 (v:=nilS) rot Less.nil,rot,tv⟩,rfl⟩ (NLt.tup _ (nlc (nld Qba _) (nlc nll nl0)))
  ·refine wfn hc3<|Qap<|thn ?_
   obtain⟨x5,hf4,h⟩:=bno h
   obtain⟨x7,hf6,h⟩:=bno h
   refine wx tbk [(1,⟨_,_,_,_,false⟩),(2,⟨_,_,_,_,false⟩)] ⟨Qav (first:=[]) (cap:=[]) (vs:=[(Zpv p0)]) (σr:=[]) (σr':=[(Znn p0),(.own 1 [[(.mp 3)]]),(Qd8 x5)]) (res':=Znm) [1,2,3] rfl Zlg (Qpq N p0 _ hf4) rfl (Qbs (rnc (.plain _ (NLt.agg _ (nlc (nld Qag _) (nlc (nld Qab _) nl0)))) rn0)) Qau (slc (Qas (rnc (pld Qag) (rnc (pld Qab) rn0))) (slc (Qas (rnc (Ziq rfl) rn0)) (slc Qsx Qau))) (Qbi rn0 (rnc (Qbb rfl) (rnc (Qbb rfl) rn0))) rfl rfl rfl,Qav (first:=[]) (cap:=[]) (vs:=[Znm]) (σr:=[(Znn p0),(.own 1 [[(.mp 3)]]),(Qd8 x5)]) (σr':=[.dead,.dead,.dead]) (res':=(.dat 2 (x7.map Qay))) [1,2,3] rfl Zld (Qke N p0.Table p0.Elements x5 _ hf6) rfl (Qbs (rnc (Qbi rn0 (rnc (Qa1 rfl) (rnc (Qa1 rfl) rn0))) rn0)) (slc (Qas (rnc (pld Qag) (rnc (pld Qab) rn0))) (slc (Qas (rnc (Zip rfl) rn0)) (slc Qsx Qau))) (slc .dead (slc .dead (slc .dead Qau))) (pld Qba) rfl rfl rfl,tv⟩<|Qaj ?_
   obtain rfl:=osi h
   exact fend ⟨[(.dat 2 (x7.map Qay)),I 0],⟨rot,rot,tv⟩,rfl⟩ (NLt.tup _ (nlc (nld Qba _) (nlc nll nl0)))
end
section
set_option maxRecDepth 100000
set_option maxHeartbeats 4000000
open Go.RowKit
def Qj3 (N:Nat) (p0:Int):Option Bool:=
  (Qcw N p0 0 1000000000000).bind fun x2=>
  some x2
theorem Qrr (N:Nat) (p0:Int) (r:Bool) (h:Qj3 N p0=some r):Spec prog 109 [(I p0)] [] (B r) []:=by
  refine Qan func109 rfl 0 (nle rfl) (fun X φ0 w0 hφ0 hd0=>?_)
  unfold Qj3 at h
  refine wxz ?_
  obtain⟨x2,hf1,h⟩:=bno h
  exact wx tbk [(1,rp _ _)] ⟨apv Qlm (Qdq N p0 0 1000000000000 _ hf1) (nlcc (nlc nll nl0)) nll,tv⟩<|Qaj<|frb h
def Qg9 (N:Nat) (p0:Int):Option Bool:=
  (Qj3 N p0).bind fun x3=>
  some (!x3)
def Zed:Slot:=.own 1 [[(.fn (.func 109) [] [])]]
theorem Qo0 (N:Nat) (p0:Int) (r:Bool) (h:Qg9 N p0=some r):Spec prog 128 [(I p0),(.ref 0 1 (0) 0)] [Zed] (B r) [Zed]:=by
  refine Qan func128 rfl 1 (nle rfl) (fun X φ0 w0 hφ0 hd0=>?_)
  unfold Qg9 at h
  refine Qbw<|wxz ?_
  obtain⟨x3,hf2,h⟩:=bno h
  refine wx tbk [(2,rp _ _)] ⟨apv Zgv (Qrr N p0 _ hf2) (nlc nll nl0) nll,tv⟩ ?_
  refine wmr (mto (n:=8) (l':=[(3,(B ((!x3))))]) (own':=[Zed]) [(3,(B ((!x3))))] [0] [Zed] hφ0 (pw pn) (qb (lc (.rn (Qbi rn0 rn0)) ln) qn))<|Qaj ?_
  obtain rfl:=osi h
  exact⟨_,Mor.rfl,Qc1 (vs:=[(B ((!x3)))]) ⟨rot,tv⟩ rfl (NLt.of0 nll) (by kernel_rfl) (Qao (Qax (nlc (NLt.of0 (NLt.fn _ _ _ nl0 nl0)) nl0)) Qbq)⟩
def Qcb (N:Nat) (p0:List Int) (k2:Unit→Option Int):Nat→Int→Option Int
  |0,_=>none
  |n5+1,y3=>
    bif (decide (y3<(p0.length:Int))) then
     (getI p0 y3).bind fun x7=>
     (Qg9 N x7).bind fun x12=>
     bif x12 then
      some y3
     else
      Qcb N p0 k2 n5 (w64 (y3+1))
    else
     k2 ()
def Qeq (N:Nat) (p0:List Int):Option Int:=
  Qbl (fun _=>
    some (-1)) fun k2:Unit→Option Int=>
  Qcb N p0 k2 N 0
def Q89:AV:=.fn (.func 128) [] [(.ref 0 1 (0) 0)]
def Qp8:Slot:=.own 1 [[(.fn (.func 109) [] [])]]
theorem Qkb (N:Nat) (p0:List Int) (r:Int) (h:Qeq N p0=some r):Spec prog 141 [(.dat 1 (p0.map Qad)),Q89] [Qp8] (I r) [Qp8]:=by
  refine Qan func141 rfl 1 (nle rfl) (fun X φ0 w0 hφ0 hd0=>?_)
  unfold Qeq at h
  refine Qbw<|wxz ?_
  obtain⟨k2,hk_k2,h⟩:=jko h
  refine wjn (τ:=Unit) (fun t=>k2 t=some r) (fun _=>⟨mk 19 [],[Qp8]⟩) (fun t h=>?_) ?_
  ·subst hk_k2
   refine wxz<|wmr (mto (n:=19) (l':=[(4,(I ((-1))))]) (own':=[Qp8]) [(4,(I ((-1))))] [0] [Qp8] hφ0 (pw pn) (qb (lc (.rn (Qbi rn0 rn0)) ln) qn))<|Qaj ?_
   obtain rfl:=osi h
   exact⟨_,Mor.rfl,Qc1 (vs:=[(I ((-1)))]) ⟨rot,tv⟩ rfl (NLt.of0 nll) (by kernel_rfl) (Qao (Qax (nlc (NLt.of0 (NLt.fn _ _ _ nl0 nl0)) nl0)) Qbq)⟩
  ·skip
   refine wx tbk [(1,rp _ _)] ⟨alq 1 Qad p0 underlying27,tv⟩<|Qar ?_
   refine wmr (mto (n:=19) (l':=[(0,(.dat 1 (p0.map Qad))),(1,Q89),(7,(I ((p0.length:Int)))),(8,I 0)]) (own':=[Qp8]) [(0,(.dat 1 (p0.map Qad))),(1,Q89),(7,(I ((p0.length:Int)))),(8,I 0)] [0] [Qp8] hφ0 (pc (rnd Qaf) (pc (.rn (Qbi rn0 (rnc (rqr rfl) rn0))) (pw (pw pn)))) (qb (lc (.rn (Qbi rn0 rn0)) ln) qn)) ?_
   refine Qbt (τ:=Int) (fun n t=>Qcb N p0 k2 n t=some r) (fun y3=>⟨mk 19 [(0,(.dat 1 (p0.map Qad))),(1,Q89),(7,(I ((p0.length:Int)))),(8,I y3)],[Qp8]⟩) (fun t h=>by rw[Qcb] at h;cases h) (fun n5 ih y3 h=>?_) N (0) h
   rw[Qcb] at h
   skip
   refine wxz<|wsq ?_
   refine bfe h (fun hc6 h=>?_) fun hc6 h=>?_
   ·refine wft hc6<|Qap<|thn<|wsq<|Qar<|wxz ?_
    obtain⟨x7,hg8,h⟩:=bno h
    obtain⟨hi9,hj10⟩:=gsm hg8
    obtain⟨x12,hf11,h⟩:=bno h
    refine wx tbk [(3,rp _ _),(5,⟨_,_,_,_,false⟩)] ⟨aiq underlying27 ti3 Qad hi9 hj10,Qav (first:=[]) (cap:=[.ref 0 1 0 0]) (vs:=[I x7]) (σr:=[Qp8]) (σr':=[Qp8]) (res':=(B x12)) [0] rfl Q5d (Qo0 N x7 _ hf11) rfl (Qbs (rnc (.plain _ nll) (rnc (Qa1 rfl) rn0))) (slc (Qas (rnc (.plain _ (NLt.fn _ _ _ nl0 nl0)) rn0)) Qau) (slc (Qas (rnc (.plain _ (NLt.fn _ _ _ nl0 nl0)) rn0)) Qau) (.plain _ nll) rfl rfl rfl,tv⟩ ?_
    refine bfe h (fun hc13 h=>?_) fun hc13 h=>?_
    ·refine wft hc13<|wxz ?_
     refine wmr (mto (n:=19) (l':=[(4,I y3)]) (own':=[Qp8]) [(4,I y3)] [0] [Qp8] hφ0 (pw pn) (qb (lc (.rn (Qbi rn0 rn0)) ln) qn))<|Qaj<|Qat<|Qal<|Qal<|Qat<|Qal ?_
     obtain rfl:=osi h
     exact⟨_,Mor.rfl,Qc1 (vs:=[I y3]) ⟨rot,tv⟩ rfl (NLt.of0 nll) (by kernel_rfl) (Qao (Qax (nlc (NLt.of0 (NLt.fn _ _ _ nl0 nl0)) nl0)) Qbq)⟩
    ·exact wfn hc13<|Qap<|bln<|thn<|wxz1<|thn<|arm (mto (n:=19) [(0,(.dat 1 (p0.map Qad))),(1,Q89),(7,(I ((p0.length:Int)))),(8,(I (w64 (y3+1))))] [0] [Qp8] hφ0 (pc (rnd Qaf) (pc (.rn (Qbi rn0 (rnc (rqr rfl) rn0))) (pw (pw pn)))) (qb (lc (.rn (Qbi rn0 rn0)) ln) qn)) (ih (w64 (y3+1)) h)
   ·exact wfn hc6<|Qbf<|Qaw<|Qaw<|Qbe rfl<|thn<|⟨(),h,(mto (n:=19) [] [0] [Qp8] hφ0 pn (qb (lc (.rn (Qbi rn0 rn0)) ln) qn))⟩
def Qc6 (N:Nat) (p0:List Int):Option Bool:=
  (Qeq N p0).bind fun x3=>
  some (decide (x3≥0))
def Znh:AV:=.fn (.func 128) [] [(.ref 0 1 (0) 0)]
def Q59:Slot:=.own 1 [[(.fn (.func 109) [] [])]]
theorem Qi9 (N:Nat) (p0:List Int) (r:Bool) (h:Qc6 N p0=some r):Spec prog 126 [(.dat 1 (p0.map Qad)),Znh] [Q59] (B r) [Q59]:=by
  refine Qan func126 rfl 1 (nle rfl) (fun X φ0 w0 hφ0 hd0=>?_)
  unfold Qc6 at h
  refine Qbw<|wxz ?_
  obtain⟨x3,hf2,h⟩:=bno h
  refine wx tbk [(2,⟨_,_,_,_,false⟩)] ⟨Qav (first:=[]) (cap:=[]) (vs:=[(.dat 1 (p0.map Qad)),Znh]) (σr:=[Q59]) (σr':=[Q59]) (res':=(I x3)) [0] rfl Qqz (Qkb N p0 _ hf2) rfl (Qbs (rnc (pld Qaf) (rnc (Qbi rn0 (rnc (Qa1 rfl) rn0)) rn0))) (slc (Qas (rnc (.plain _ (NLt.fn _ _ _ nl0 nl0)) rn0)) Qau) (slc (Qas (rnc (.plain _ (NLt.fn _ _ _ nl0 nl0)) rn0)) Qau) (.plain _ nll) rfl rfl rfl,tv⟩ ?_
  refine wmr (mto (n:=9) (l':=[(4,(B ((decide (x3≥0)))))]) (own':=[Q59]) [(4,(B ((decide (x3≥0)))))] [0] [Q59] hφ0 (pw pn) (qb (lc (.rn (Qbi rn0 rn0)) ln) qn))<|Qaj ?_
  obtain rfl:=osi h
  exact⟨_,Mor.rfl,Qc1 (vs:=[(B ((decide (x3≥0))))]) ⟨rot,tv⟩ rfl (NLt.of0 nll) (by kernel_rfl) (Qao (Qax (nlc (NLt.of0 (NLt.fn _ _ _ nl0 nl0)) nl0)) Qbq)⟩
def Qjg (N:Nat) (p0:List Int):Option Bool:=
  (Qc6 N p0).bind fun x2=>
  some (!x2)
def Zni:AV:=.fn (.func 128) [] [(.ref 0 1 (0) 0)]
def Znj:Slot:=.own 1 [[(.fn (.func 109) [] [])]]
theorem Qqn (N:Nat) (p0:List Int) (r:Bool) (h:Qjg N p0=some r):Spec prog 108 [(.dat 1 (p0.map Qad)),(.fn (.func 109) [] [])] [] (B r) []:=by
  refine Qan func108 rfl 0 (nle rfl) (fun X φ0 w0 hφ0 hd0=>?_)
  unfold Qjg at h
  refine wxz ?_
  obtain⟨x2,hf1,h⟩:=bno h
  refine wx tbk [(1,rp [(.tmp 3,.ref 0 1 0 0)] Zni),(2,⟨_,_,_,_,false⟩)] ⟨Qfq (fs:=[]) (cs:=[.ref 0 1 0 0]) rfl rfl rfl rfl,Qav (first:=[]) (cap:=[]) (vs:=[(.dat 1 (p0.map Qad)),Zni]) (σr:=[Znj]) (σr':=[Znj]) (res':=(B x2)) [0] rfl Qq0 (Qi9 N p0 _ hf1) rfl (Qbs (rnc (pld Qaf) (rnc (Qbi rn0 (rnc (Qa1 rfl) rn0)) rn0))) (slc (Qas (rnc (.plain _ (NLt.fn _ _ _ nl0 nl0)) rn0)) Qau) (slc (Qas (rnc (.plain _ (NLt.fn _ _ _ nl0 nl0)) rn0)) Qau) (.plain _ nll) rfl rfl rfl,tv⟩<|Qaj ?_
  obtain rfl:=osi h
  exact fend ⟨[(B ((!x2)))],⟨rot,tv⟩,rfl⟩ nll
def Qiy (N:Nat) (p0:GNet) (p1:List Int):Option Int:=
  (Qex N p0).bind fun x2=>
  bif (!x2) then
   some 1
  else
   bif ((p1.length:Int) != (p0.Elements.length:Int)) then
    some 1
   else
    (Qjg N p1).bind fun x6=>
    bif (!x6) then
     some 1
    else
     some 0
def Zpu (p0:GNet):AV:=.dat 5 (p0.Table.map Qaq)
def Znk (p0:GNet):AV:=.dat 7 (p0.Elements.map Qac)
def Zju (p0:GNet) (x2:Bool):List (Nat×Rec):=[(1,rp [fu 66,((.tmp 5),(.agg [(Zpu p0),(Znk p0)]))] (B x2))]
def Zjt p0 x2 (p1:List Int):=hcat (Zju p0 x2) [(3,rp [((.tmp 7),(B ((!x2))))] (B false)),(5,rp [((.tmp 8),(B false)),((.tmp 9),(.dat 1 (p1.map Qad)))] (I ((p1.length:Int)))),(8,rp [((.tmp 8),(B false)),((.tmp 12),(Znk p0))] (I ((p0.Elements.length:Int))))]
theorem Qn6 (N:Nat) (p0:GNet) (p1:List Int) (r:Int) (h:Qiy N p0 p1=some r):Spec prog 73 [(.agg (Qf6 p0)),(.dat 1 (p1.map Qad))] [] (I r) []:=by
  refine Qan func73 rfl 0 (nle rfl) (fun X φ0 w0 hφ0 hd0=>?_)
  unfold Qiy at h
  refine wxz<|wsq ?_
  obtain⟨x2,hf1,h⟩:=bno h
  refine hpre (A:=(Zju p0 x2)) ⟨apv Quy (Qgv N p0 _ hf1) (nlc (NLt.agg _ (nlc (nld Qag _) (nlc (nld Qab _) nl0))) nl0) nll,tv⟩ fun q1_=>?_
  refine bfe h (fun hb3 h=>?_) fun hb3 h=>?_
  ·refine wx tbk (hcat (Zju p0 x2) [(3,rp [(.tmp 7,(B ((!x2))))] (B true))]) (hap q1_ ⟨asb hb3 (amv rfl),tv⟩)<|wtr<|wxz<|Qaj<|Qal ?_
   obtain rfl:=osi h
   exact fend ⟨[I 1],⟨rot,tv⟩,rfl⟩ nll
  ·refine hpre (A:=(Zjt p0 x2 p1)) (hap q1_ ⟨asb hb3 (amv rfl),ag_ (alq 1 Qad p1 underlying27),ag_ (alq 7 Qac p0.Elements underlying40),tv⟩) fun q2_=>?_
   refine bfe h (fun hb4 h=>?_) fun hb4 h=>?_
   ·refine wx tbk (hcat (Zjt p0 x2 p1) [(11,rp [(.tmp 15,(B (((p1.length:Int) != (p0.Elements.length:Int)))))] (B true))]) (hap q2_ ⟨asb hb4 (amv rfl),tv⟩)<|wtr<|wxz<|Qaj<|Qal ?_
    obtain rfl:=osi h
    exact fend ⟨[I 1],⟨rot,tv⟩,rfl⟩ nll
   ·obtain⟨x6,hf5,h⟩:=bno h
    refine wx tbk (hcat (Zjt p0 x2 p1) [(11,rp [(.tmp 15,(B (((p1.length:Int) != (p0.Elements.length:Int)))))] (B false)),(13,rp [(.tmp 16,B false),fu 108,(.tmp 17,(.dat 1 (p1.map Qad))),fu 109] (B x6))]) (hap q2_ ⟨asb hb4 (amv rfl),ag_ (Qav (first:=[]) (cap:=[]) (vs:=[(.dat 1 (p1.map Qad)),(.fn (.func 109) [] [])]) (σr:=[]) (σr':=[]) (res':=(B x6)) [] rfl Q5f (Qqn N p1 _ hf5) rfl (Qbs (rnc (pld Qaf) (rnc (.plain _ (NLt.fn _ _ _ nl0 nl0)) rn0))) Qau Qau (.plain _ nll) rfl rfl rfl),tv⟩) ?_
    refine bfe h (fun hc7 h=>?_) fun hc7 h=>?_
    ·refine wft hc7<|wxz<|Qaj<|Qal ?_
     obtain rfl:=osi h
     exact fend ⟨[I 1],⟨rot,tv⟩,rfl⟩ nll
    ·refine wfn hc7<|Qap<|thn<|wxz<|Qaj ?_
     obtain rfl:=osi h
     exact fend ⟨[I 0],⟨rot,tv⟩,rfl⟩ nll
def Qd4 (N:Nat) (p0:GNet) (p1:Int) (k2:(List Int)→Option (List Int)):Nat→(List Int)→Int→Option (List Int)
  |0,_,_=>none
  |n7+1,y3,y4=>
    bif (decide (y4<(p0.Elements.length:Int))) then
     (getI p0.Elements y4).bind fun x9=>
     bif (x9.Kind==p1) then
      chk (decide ((y3.length+([y4]).length)*8≤140737488355328))<|
      Qd4 N p0 p1 k2 n7 (y3++([y4])) (w64 (y4+1))
     else
      Qd4 N p0 p1 k2 n7 y3 (w64 (y4+1))
    else
     k2 (y3)
def Qf2 (N:Nat) (p0:GNet) (p1:Int):Option (List Int):=
  Qbl (fun y1=>
    some y1) fun k2:(List Int)→Option (List Int)=>
  Qd4 N p0 p1 k2 N ([]) 0
def Q87 (p0:GNet):AV:=.dat 7 (p0.Elements.map Qac)
def Q3o (y3:List Int):AV:=.acc 0 3 1 (y3.map Qad)
theorem Qgf (N:Nat) (p0:GNet) (p1:Int) (r:List Int) (h:Qf2 N p0 p1=some r):Spec prog 67 [(.agg (Qf6 p0)),(K .u8 p1)] [] (.dat 1 (r.map Qad)) []:=by
  refine Qan func67 rfl 0 (nle rfl) (fun X φ0 w0 hφ0 hd0=>?_)
  unfold Qf2 at h
  refine wxz ?_
  obtain⟨k2,hk_k2,h⟩:=jko h
  refine wjn (τ:=(List Int)) (fun t=>k2 t=some r) (fun y1=>⟨mk 25 [(4,(.acc 0 3 1 (y1.map Qad)))],[.tok]⟩) (fun y1 h=>?_) ?_
  ·subst hk_k2
   refine wxz<|Qaj ?_
   obtain rfl:=osi h
   exact fend ⟨[(.dat 1 (y1.map Qad))],⟨Qb3 (v:=(.acc 0 3 1 (y1.map Qad))) rot Less.acc,tv⟩,rfl⟩ (nld Qaf _)
  ·skip
   refine wx tbk [(2,rp _ _)] ⟨alq 7 Qac p0.Elements underlying40,tv⟩<|Qar ?_
   refine wmr (Mor.trans (Qps 1 3 1 4 (by kernel_rfl) (by kernel_rfl)) (mto (n:=25) (l':=[(1,(K .u8 p1)),(4,(.acc 0 3 1 ((([]):List Int).map Qad))),(8,(Q87 p0)),(9,(I ((p0.Elements.length:Int)))),(10,I 0)]) (own':=[.tok]) [(1,(K .u8 p1)),(4,(.acc 1 3 1 (([]:List Int).map Qad))),(8,(Q87 p0)),(9,(I ((p0.Elements.length:Int)))),(10,I 0)] [1] [.tok] hφ0 (pw (pc (.rn (Qcv rfl (Qb5 Qaf _))) (pc (rnd Qab) (pw (pw pn))))) (qc .tok qn))) ?_
   refine Qbt (τ:=(List Int)×Int) (fun n t=>Qd4 N p0 p1 k2 n t.1 t.2=some r) (fun ⟨y3,y4⟩=>⟨mk 25 [(1,(K .u8 p1)),(4,(Q3o y3)),(8,(Q87 p0)),(9,(I ((p0.Elements.length:Int)))),(10,I y4)],[.tok]⟩) (fun t h=>by rw[Qd4] at h;cases h) (fun n7 ih t h=>?_) N ([],0) h
   obtain⟨y3,y4⟩:=t
   rw[Qd4] at h
   skip
   refine wxz<|wsq ?_
   refine bfe h (fun hc8 h=>?_) fun hc8 h=>?_
   ·refine wft hc8<|Qap<|thn<|wsq<|Qar ?_
    obtain⟨x9,hg10,h⟩:=bno h
    obtain⟨hi11,hj12⟩:=gsm hg10
    refine wx tbk [(1,rp _ _)] ⟨aiq underlying40 Qik Qac hi11 hj12,tv⟩<|wxz ?_
    refine bfe h (fun hc13 h=>?_) fun hc13 h=>?_
    ·refine wft hc13 ?_
     obtain⟨ha14,h⟩:=cko h
     refine wx1 tbk [(2,rp [(.tmp 20,I y4)] (.dat 1 (([y4]:List Int).map Qad))),(3,⟨[(.tmp 19,(Q3o y3)),(.tmp 21,(.dat 1 (([y4]:List Int).map Qad)))],[(0,.tok),(2,.unused)],(.acc 2 3 1 ((y3++([y4]):List Int).map Qad)),[(0,.dead),(2,.tok)],false⟩)] ⟨Qbz (vs:=[I y4]) rfl underlying27 ti3 tz3 rfl (by decide) rfl (by decide) (by rfl) (by rfl) (by rfl) rfl,Qek rfl underlying27 te3 (Base.acc _ _) rfl rfl (by rfl) (Qhl Qad ha14) (Qhk Qad ha14 (by decide)) (Qhj Qad) rfl rfl,tv⟩<|bln<|thn<|wxz1<|thn ?_
     exact arm (mto (n:=25) [(1,(K .u8 p1)),(4,(.acc 2 3 1 ((y3++([y4]):List Int).map Qad))),(8,(Q87 p0)),(9,(I ((p0.Elements.length:Int)))),(10,(I (w64 (y4+1))))] [2] [.tok] hφ0 (pw (pc (.rn (Qcv rfl (Qb5 Qaf _))) (pc (rnd Qab) (pw (pw pn))))) (qc .tok qn)) (ih (y3++([y4]),w64 (y4+1)) h)
    ·exact wfn hc13<|Qap<|bln<|thn<|wxz1<|thn<|arm (mto (n:=25) [(1,(K .u8 p1)),(4,(Q3o y3)),(8,(Q87 p0)),(9,(I ((p0.Elements.length:Int)))),(10,(I (w64 (y4+1))))] [0] [.tok] hφ0 (pw (pc (.rn (Qcv rfl (Qb5 Qaf _))) (pc (rnd Qab) (pw (pw pn))))) (qc .tok qn)) (ih (y3,w64 (y4+1)) h)
   ·exact wfn hc8<|Qbf<|Qaw<|Qaw<|Qbe rfl<|thn<|⟨(y3),h,(mto (n:=25) [(4,(Q3o y3))] [0] [.tok] hφ0 (pc (.rn (Qcv rfl (Qb5 Qaf _))) pn) (qc .tok qn))⟩
def Qed (N:Nat) (p0:Qaa):Option Bool:=
  (Qda N p0.Mass 0 1000000).bind fun x2=>
  bif x2 then
   (Qda N p0.Heat 0 (w64 (4000*p0.Mass))).bind fun x5=>
   bif x5 then
    (Qda N p0.Silica 0 (w64 (10000*p0.Mass))).bind fun x8=>
    bif x8 then
     (Qda N p0.Gas 0 1000000000).bind fun x11=>
     some x11
    else
     some false
   else
    some false
  else
   some false
def Zjr (p0:Qaa) (x2:Bool):List (Nat×Rec):=[(2,rp [fu 137,((.tmp 4),(I p0.Mass)),ci 0,ci 1000000] (B x2))]
def Zjq p0 x2 (x5:Bool):=hcat (Zjr p0 x2) [(3,rp [((.tmp 5),(B x2))] (B true)),(9,rp [((.tmp 6),(B true)),fu 137,((.tmp 8),(I p0.Heat)),ci 0,((.tmp 11),(I (w64 (4000*p0.Mass))))] (B x5))]
def Zjp p0 x2 x5 (x8:Bool):=hcat (Zjq p0 x2 x5) [(11,rp [((.tmp 13),(B x5))] (B true)),(17,rp [((.tmp 14),(B true)),fu 137,((.tmp 16),(I p0.Silica)),ci 0,((.tmp 19),(I (w64 (10000*p0.Mass))))] (B x8))]
theorem Qhv (N:Nat) (p0:Qaa) (r:Bool) (h:Qed N p0=some r):Spec prog 131 [(.agg (Qah p0))] [] (B r) []:=by
  refine Qan func131 rfl 0 (nle rfl) (fun X φ0 w0 hφ0 hd0=>?_)
  unfold Qed at h
  refine wxz ?_
  obtain⟨x2,hf1,h⟩:=bno h
  refine hpre (A:=(Zjr p0 x2)) ⟨apv Qjo (Qdh N p0.Mass 0 1000000 _ hf1) (nlcc (nlc nll nl0)) nll,tv⟩ fun q1_=>?_
  refine bfe h (fun hb3 h=>?_) fun hb3 h=>?_
  ·obtain⟨x5,hf4,h⟩:=bno h
   refine hpre (A:=(Zjq p0 x2 x5)) (hap q1_ ⟨asb hb3 (amv rfl),ag_ (apv Qjo (Qdh N p0.Heat 0 (w64 (4000*p0.Mass)) _ hf4) (nlcc (nlc nll nl0)) nll),tv⟩) fun q2_=>?_
   refine bfe h (fun hb6 h=>?_) fun hb6 h=>?_
   ·obtain⟨x8,hf7,h⟩:=bno h
    refine hpre (A:=(Zjp p0 x2 x5 x8)) (hap q2_ ⟨asb hb6 (amv rfl),ag_ (apv Qjo (Qdh N p0.Silica 0 (w64 (10000*p0.Mass)) _ hf7) (nlcc (nlc nll nl0)) nll),tv⟩) fun q3_=>?_
    refine bfe h (fun hb9 h=>?_) fun hb9 h=>?_
    ·obtain⟨x11,hf10,h⟩:=bno h
     exact wx tbk (hcat (Zjp p0 x2 x5 x8) [(19,rp [(.tmp 21,B x8)] (B true)),(22,rp [(.tmp 22,B true),fu 137,(.tmp 24,I p0.Gas),ci 0,ci 1000000000] (B x11))]) (hap q3_ ⟨asb hb9 (amv rfl),ag_ (apv Qjo (Qdh N p0.Gas 0 1000000000 _ hf10) (nlcc (nlc nll nl0)) nll),tv⟩)<|Qaj<|frb h
    ·exact wx tbk (hcat (Zjp p0 x2 x5 x8) [(19,rp [(.tmp 21,B x8)] (B false))]) (hap q3_ ⟨asb hb9 (amv rfl),tv⟩)<|Qaj<|frb h
   ·exact wx tbk (hcat (Zjq p0 x2 x5) [(11,rp [(.tmp 13,B x5)] (B false))]) (hap q2_ ⟨asb hb6 (amv rfl),tv⟩)<|Qaj<|frb h
  ·exact wx tbk (hcat (Zjr p0 x2) [(3,rp [(.tmp 5,B x2)] (B false))]) (hap q1_ ⟨asb hb3 (amv rfl),tv⟩)<|Qaj<|frb h
def Qgq (N:Nat) (p0:Qaa):Option Int:=
  (Qed N p0).bind fun x2=>
  bif (!x2) then
   some 1
  else
   some 0
theorem Qnz (N:Nat) (p0:Qaa) (r:Int) (h:Qgq N p0=some r):Spec prog 114 [(.agg (Qah p0))] [] (I r) []:=by
  refine Qan func114 rfl 0 (nle rfl) (fun X φ0 w0 hφ0 hd0=>?_)
  unfold Qgq at h
  refine wxz<|wsq ?_
  obtain⟨x2,hf1,h⟩:=bno h
  refine wx tbk [(1,rp _ _)] ⟨apv Qyg (Qhv N p0 _ hf1) (nlc (NLt.agg _ (nlcc (nlcc nl0))) nl0) nll,tv⟩ ?_
  refine bfe h (fun hc3 h=>?_) fun hc3 h=>?_
  ·refine wft hc3<|wxz<|Qaj<|Qal ?_
   obtain rfl:=osi h
   exact fend ⟨[I 1],⟨rot,tv⟩,rfl⟩ nll
  ·refine wfn hc3<|Qap<|thn<|wxz<|Qaj ?_
   obtain rfl:=osi h
   exact fend ⟨[I 0],⟨rot,tv⟩,rfl⟩ nll
def Qjh (N:Nat) (p0:Qaa):Option Bool:=
  (Qgq N p0).bind fun x2=>
  some (x2==0)
theorem Qqq (N:Nat) (p0:Qaa) (r:Bool) (h:Qjh N p0=some r):Spec prog 113 [(.agg (Qah p0))] [] (B r) []:=by
  refine Qan func113 rfl 0 (nle rfl) (fun X φ0 w0 hφ0 hd0=>?_)
  unfold Qjh at h
  refine wxz ?_
  obtain⟨x2,hf1,h⟩:=bno h
  refine wx tbk [(1,rp _ _)] ⟨apv Zgq (Qnz N p0 _ hf1) (nlc (NLt.agg _ (nlcc (nlcc nl0))) nl0) nll,tv⟩<|Qaj ?_
  obtain rfl:=osi h
  exact fend ⟨[(B ((x2==0)))],⟨rot,tv⟩,rfl⟩ nll
def Qdx (N:Nat) (p0:Qaa):Option Bool:=
  (Qjh N p0).bind fun x3=>
  some (!x3)
def Zpq (p0:Qaa):AV:=.agg [(I p0.Mass),(I p0.Heat),(I p0.Silica),(I p0.Gas)]
def Zec:Slot:=.own 1 [[(.fn (.func 113) [] [])]]
theorem Qku (N:Nat) (p0:Qaa) (r:Bool) (h:Qdx N p0=some r):Spec prog 130 [(Zpq p0),(.ref 0 1 (0) 0)] [Zec] (B r) [Zec]:=by
  refine Qan func130 rfl 1 (nle rfl) (fun X φ0 w0 hφ0 hd0=>?_)
  unfold Qdx at h
  refine Qbw<|wxz ?_
  obtain⟨x3,hf2,h⟩:=bno h
  refine wx tbk [(2,rp _ _)] ⟨apv Zgr (Qqq N p0 _ hf2) (nlc (NLt.agg _ (nlcc (nlcc nl0))) nl0) nll,tv⟩ ?_
  refine wmr (mto (n:=8) (l':=[(3,(B ((!x3))))]) (own':=[Zec]) [(3,(B ((!x3))))] [0] [Zec] hφ0 (pw pn) (qb (lc (.rn (Qbi rn0 rn0)) ln) qn))<|Qaj ?_
  obtain rfl:=osi h
  exact⟨_,Mor.rfl,Qc1 (vs:=[(B ((!x3)))]) ⟨rot,tv⟩ rfl (NLt.of0 nll) (by kernel_rfl) (Qao (Qax (nlc (NLt.of0 (NLt.fn _ _ _ nl0 nl0)) nl0)) Qbq)⟩
def Qbc (N:Nat) (p0:List Qaa) (k2:Unit→Option Int):Nat→Int→Option Int
  |0,_=>none
  |n5+1,y3=>
    bif (decide (y3<(p0.length:Int))) then
     (getI p0 y3).bind fun x7=>
     (Qdx N x7).bind fun x12=>
     bif x12 then
      some y3
     else
      Qbc N p0 k2 n5 (w64 (y3+1))
    else
     k2 ()
def Qb7 (N:Nat) (p0:List Qaa):Option Int:=
  Qbl (fun _=>
    some (-1)) fun k2:Unit→Option Int=>
  Qbc N p0 k2 N 0
def Q86 (p0:List Qaa):AV:=.dat 4 (p0.map Qah)
def Q85:AV:=.fn (.func 130) [] [(.ref 0 1 (0) 0)]
def Qp7:Slot:=.own 1 [[(.fn (.func 113) [] [])]]
def Zpr (x7:Qaa):AV:=.agg [(I x7.Mass),(I x7.Heat),(I x7.Silica),(I x7.Gas)]
theorem Qgr (N:Nat) (p0:List Qaa) (r:Int) (h:Qb7 N p0=some r):Spec prog 142 [(Q86 p0),Q85] [Qp7] (I r) [Qp7]:=by
  refine Qan func142 rfl 1 (nle rfl) (fun X φ0 w0 hφ0 hd0=>?_)
  unfold Qb7 at h
  refine Qbw<|wxz ?_
  obtain⟨k2,hk_k2,h⟩:=jko h
  refine wjn (τ:=Unit) (fun t=>k2 t=some r) (fun _=>⟨mk 19 [],[Qp7]⟩) (fun t h=>?_) ?_
  ·subst hk_k2
   refine wxz<|wmr (mto (n:=19) (l':=[(4,(I ((-1))))]) (own':=[Qp7]) [(4,(I ((-1))))] [0] [Qp7] hφ0 (pw pn) (qb (lc (.rn (Qbi rn0 rn0)) ln) qn))<|Qaj ?_
   obtain rfl:=osi h
   exact⟨_,Mor.rfl,Qc1 (vs:=[(I ((-1)))]) ⟨rot,tv⟩ rfl (NLt.of0 nll) (by kernel_rfl) (Qao (Qax (nlc (NLt.of0 (NLt.fn _ _ _ nl0 nl0)) nl0)) Qbq)⟩
  ·skip
   refine wx tbk [(1,rp _ _)] ⟨alq 4 Qah p0 underlying45,tv⟩<|Qar ?_
   refine wmr (mto (n:=19) (l':=[(0,(Q86 p0)),(1,Q85),(7,(I ((p0.length:Int)))),(8,I 0)]) (own':=[Qp7]) [(0,(Q86 p0)),(1,Q85),(7,(I ((p0.length:Int)))),(8,I 0)] [0] [Qp7] hφ0 (pc (rnd Qam) (pc (.rn (Qbi rn0 (rnc (rqr rfl) rn0))) (pw (pw pn)))) (qb (lc (.rn (Qbi rn0 rn0)) ln) qn)) ?_
   refine Qbt (τ:=Int) (fun n t=>Qbc N p0 k2 n t=some r) (fun y3=>⟨mk 19 [(0,(Q86 p0)),(1,Q85),(7,(I ((p0.length:Int)))),(8,I y3)],[Qp7]⟩) (fun t h=>by rw[Qbc] at h;cases h) (fun n5 ih y3 h=>?_) N (0) h
   rw[Qbc] at h
   skip
   refine wxz<|wsq ?_
   refine bfe h (fun hc6 h=>?_) fun hc6 h=>?_
   ·refine wft hc6<|Qap<|thn<|wsq<|Qar<|wxz ?_
    obtain⟨x7,hg8,h⟩:=bno h
    obtain⟨hi9,hj10⟩:=gsm hg8
    obtain⟨x12,hf11,h⟩:=bno h
    refine wx tbk [(3,rp _ _),(5,⟨_,_,_,_,false⟩)] ⟨aiq underlying45 ti63 Qah hi9 hj10,Qav (first:=[]) (cap:=[.ref 0 1 0 0]) (vs:=[(Zpr x7)]) (σr:=[Qp7]) (σr':=[Qp7]) (res':=(B x12)) [0] rfl Zge (Qku N x7 _ hf11) rfl (Qbs (rnc (.plain _ (NLt.agg _ (nlcc (nlcc nl0)))) (rnc (Qa1 rfl) rn0))) (slc (Qas (rnc (.plain _ (NLt.fn _ _ _ nl0 nl0)) rn0)) Qau) (slc (Qas (rnc (.plain _ (NLt.fn _ _ _ nl0 nl0)) rn0)) Qau) (.plain _ nll) rfl rfl rfl,tv⟩ ?_
    refine bfe h (fun hc13 h=>?_) fun hc13 h=>?_
    ·refine wft hc13<|wxz ?_
     refine wmr (mto (n:=19) (l':=[(4,I y3)]) (own':=[Qp7]) [(4,I y3)] [0] [Qp7] hφ0 (pw pn) (qb (lc (.rn (Qbi rn0 rn0)) ln) qn))<|Qaj<|Qat<|Qal<|Qal<|Qat<|Qal ?_
     obtain rfl:=osi h
     exact⟨_,Mor.rfl,Qc1 (vs:=[I y3]) ⟨rot,tv⟩ rfl (NLt.of0 nll) (by kernel_rfl) (Qao (Qax (nlc (NLt.of0 (NLt.fn _ _ _ nl0 nl0)) nl0)) Qbq)⟩
    ·exact wfn hc13<|Qap<|bln<|thn<|wxz1<|thn<|arm (mto (n:=19) [(0,(Q86 p0)),(1,Q85),(7,(I ((p0.length:Int)))),(8,(I (w64 (y3+1))))] [0] [Qp7] hφ0 (pc (rnd Qam) (pc (.rn (Qbi rn0 (rnc (rqr rfl) rn0))) (pw (pw pn)))) (qb (lc (.rn (Qbi rn0 rn0)) ln) qn)) (ih (w64 (y3+1)) h)
   ·exact wfn hc6<|Qbf<|Qaw<|Qaw<|Qbe rfl<|thn<|⟨(),h,(mto (n:=19) [] [0] [Qp7] hφ0 pn (qb (lc (.rn (Qbi rn0 rn0)) ln) qn))⟩
def Qbn (N:Nat) (p0:List Qaa):Option Bool:=
  (Qb7 N p0).bind fun x3=>
  some (decide (x3≥0))
def Zne:AV:=.fn (.func 130) [] [(.ref 0 1 (0) 0)]
def Q58:Slot:=.own 1 [[(.fn (.func 113) [] [])]]
theorem Qga (N:Nat) (p0:List Qaa) (r:Bool) (h:Qbn N p0=some r):Spec prog 129 [(.dat 4 (p0.map Qah)),Zne] [Q58] (B r) [Q58]:=by
  refine Qan func129 rfl 1 (nle rfl) (fun X φ0 w0 hφ0 hd0=>?_)
  unfold Qbn at h
  refine Qbw<|wxz ?_
  obtain⟨x3,hf2,h⟩:=bno h
  refine wx tbk [(2,⟨_,_,_,_,false⟩)] ⟨Qav (first:=[]) (cap:=[]) (vs:=[(.dat 4 (p0.map Qah)),Zne]) (σr:=[Q58]) (σr':=[Q58]) (res':=(I x3)) [0] rfl Zf7 (Qgr N p0 _ hf2) rfl (Qbs (rnc (pld Qam) (rnc (Qbi rn0 (rnc (Qa1 rfl) rn0)) rn0))) (slc (Qas (rnc (.plain _ (NLt.fn _ _ _ nl0 nl0)) rn0)) Qau) (slc (Qas (rnc (.plain _ (NLt.fn _ _ _ nl0 nl0)) rn0)) Qau) (.plain _ nll) rfl rfl rfl,tv⟩ ?_
  refine wmr (mto (n:=9) (l':=[(4,(B ((decide (x3≥0)))))]) (own':=[Q58]) [(4,(B ((decide (x3≥0)))))] [0] [Q58] hφ0 (pw pn) (qb (lc (.rn (Qbi rn0 rn0)) ln) qn))<|Qaj ?_
  obtain rfl:=osi h
  exact⟨_,Mor.rfl,Qc1 (vs:=[(B ((decide (x3≥0))))]) ⟨rot,tv⟩ rfl (NLt.of0 nll) (by kernel_rfl) (Qao (Qax (nlc (NLt.of0 (NLt.fn _ _ _ nl0 nl0)) nl0)) Qbq)⟩
def Qfp (N:Nat) (p0:List Qaa):Option Bool:=
  (Qbn N p0).bind fun x2=>
  some (!x2)
def Znf:AV:=.fn (.func 130) [] [(.ref 0 1 (0) 0)]
def Zng:Slot:=.own 1 [[(.fn (.func 113) [] [])]]
theorem Qli (N:Nat) (p0:List Qaa) (r:Bool) (h:Qfp N p0=some r):Spec prog 112 [(.dat 4 (p0.map Qah)),(.fn (.func 113) [] [])] [] (B r) []:=by
  refine Qan func112 rfl 0 (nle rfl) (fun X φ0 w0 hφ0 hd0=>?_)
  unfold Qfp at h
  refine wxz ?_
  obtain⟨x2,hf1,h⟩:=bno h
  refine wx tbk [(1,rp [(.tmp 3,.ref 0 1 0 0)] Znf),(2,⟨_,_,_,_,false⟩)] ⟨Qfq (fs:=[]) (cs:=[.ref 0 1 0 0]) rfl rfl rfl rfl,Qav (first:=[]) (cap:=[]) (vs:=[(.dat 4 (p0.map Qah)),Znf]) (σr:=[Zng]) (σr':=[Zng]) (res':=(B x2)) [0] rfl Zgf (Qga N p0 _ hf1) rfl (Qbs (rnc (pld Qam) (rnc (Qbi rn0 (rnc (Qa1 rfl) rn0)) rn0))) (slc (Qas (rnc (.plain _ (NLt.fn _ _ _ nl0 nl0)) rn0)) Qau) (slc (Qas (rnc (.plain _ (NLt.fn _ _ _ nl0 nl0)) rn0)) Qau) (.plain _ nll) rfl rfl rfl,tv⟩<|Qaj ?_
  obtain rfl:=osi h
  exact fend ⟨[(B ((!x2)))],⟨rot,tv⟩,rfl⟩ nll
def Qfc (N:Nat) (p0:List Qaa) (k5:Int×Int×Int×Int→Option Qaa):Nat→Int→Int→Int→Int→Int→Option Qaa
  |0,_,_,_,_,_=>none
  |n16+1,y6,y7,y8,y9,y10=>
    bif (decide (y6<(p0.length:Int))) then
     (getI p0 y6).bind fun x18=>
     Qfc N p0 k5 n16 (w64 (y6+1)) (w64 (y7+x18.Mass)) (w64 (y8+x18.Heat)) (w64 (y9+x18.Silica)) (w64 (y10+x18.Gas))
    else
     k5 (y7,y8,y9,y10)
def Qge (N:Nat) (p0:List Qaa):Option Qaa:=
  Qbl (fun ⟨y1,y2,y3,y4⟩=>
    some (⟨y1,y2,y3,y4⟩:Qaa)) fun k5:Int×Int×Int×Int→Option Qaa=>
  Qfc N p0 k5 N 0 0 0 0 0
def Zeb (p0:List Qaa):AV:=.dat 4 (p0.map Qah)
def Znd:Slot:=.own 4 [[(I (0)),(I (0)),(I (0)),(I (0))]]
theorem Ql9 (N:Nat) (p0:List Qaa) (r:Qaa) (h:Qge N p0=some r):Spec prog 76 [(.dat 4 (p0.map Qah))] [] (.agg (Qah r)) []:=by
  refine Qan func76 rfl 0 (nle rfl) (fun X φ0 w0 hφ0 hd0=>?_)
  unfold Qge at h
  refine wxz ?_
  obtain⟨k5,hk_k5,h⟩:=jko h
  refine wjn (τ:=Int×Int×Int×Int) (fun t=>k5 t=some r) (fun ⟨y1,y2,y3,y4⟩=>⟨mk 34 [(2,.ref 0 4 0 0)],[(.own 4 [[I y1,I y2,I y3,I y4]])]⟩) (fun t h=>?_) ?_
  ·subst hk_k5
   obtain⟨y1,y2,y3,y4⟩:=t
   refine wxz<|Qaj ?_
   obtain rfl:=osi h
   exact fend ⟨[(.agg [I y1,I y2,I y3,I y4])],⟨Qbu (n:=0) (m:=4) (j:=0) (i:=0) (xs:=[[I y1,I y2,I y3,I y4]]) (by kernel_rfl) (by kernel_rfl) ti63 (by decide) rfl (nle rfl) rfl,tv⟩,rfl⟩ (NLt.agg _ (nlcc (nlcc nl0)))
  ·skip
   refine wx tbk [(1,rp _ _)] ⟨alq 4 Qah p0 underlying45,tv⟩<|Qar ?_
   refine wmr (mto (n:=34) (l':=[(2,.ref 0 4 0 0),(5,(Zeb p0)),(6,(I ((p0.length:Int)))),(7,I 0)]) (own':=[Znd]) [(2,.ref 0 4 0 0),(5,(Zeb p0)),(6,(I ((p0.length:Int)))),(7,I 0)] [0] [Znd] hφ0 (prr (pc (rnd Qam) (pw (pw pn)))) (qb (lcc (lcc ln)) qn)) ?_
   refine Qbt (τ:=Int×Int×Int×Int×Int) (fun n t=>Qfc N p0 k5 n t.1 t.2.1 t.2.2.1 t.2.2.2.1 t.2.2.2.2=some r) (fun ⟨y6,y7,y8,y9,y10⟩=>⟨mk 34 [(2,.ref 0 4 0 0),(5,(Zeb p0)),(6,(I ((p0.length:Int)))),(7,I y6)],[(.own 4 [[I y7,I y8,I y9,I y10]])]⟩) (fun t h=>by rw[Qfc] at h;cases h) (fun n16 ih t h=>?_) N (0,0,0,0,0) h
   obtain⟨y6,y7,y8,y9,y10⟩:=t
   rw[Qfc] at h
   skip
   refine wxz<|wsq ?_
   refine bfe h (fun hc17 h=>?_) fun hc17 h=>?_
   ·refine wft hc17<|Qap<|thn<|wsq<|Qar ?_
    obtain⟨x18,hg19,h⟩:=bno h
    obtain⟨hi20,hj21⟩:=gsm hg19
    refine wx tbk [(0,rp _ _)] ⟨aiq underlying45 ti63 Qah hi20 hj21,tv⟩ ?_
    exact wx1 tbk [(20,rp _ _)] ⟨Qa5 (vs:=[(I (w64 (y7+x18.Mass))),(I (w64 (y8+x18.Heat))),(I (w64 (y9+x18.Silica))),(I (w64 (y10+x18.Gas)))]) rfl ts63 tz63 rfl (by rfl) rfl,tv⟩<|bln<|thn<|wxz1<|thn<|arm (mto (n:=34) [(2,.ref 0 4 0 0),(5,(Zeb p0)),(6,(I ((p0.length:Int)))),(7,(I (w64 (y6+1))))] [0] [(.own 4 [[(I (w64 (y7+x18.Mass))),(I (w64 (y8+x18.Heat))),(I (w64 (y9+x18.Silica))),(I (w64 (y10+x18.Gas)))]])] hφ0 (prr (pc (rnd Qam) (pw (pw pn)))) (qb (lcc (lcc ln)) qn)) (ih (w64 (y6+1),w64 (y7+x18.Mass),w64 (y8+x18.Heat),w64 (y9+x18.Silica),w64 (y10+x18.Gas)) h)
   ·exact wfn hc17<|Qbf<|Qaw<|Qaw<|Qbe rfl<|thn<|⟨(y7,y8,y9,y10),h,(mto (n:=34) [(2,.ref 0 4 0 0)] [0] [(.own 4 [[I y7,I y8,I y9,I y10]])] hφ0 (prr pn) (qb (lcc (lcc ln)) qn))⟩
def Qif (N:Nat) (p0:GNet) (p1:List Qaa):Option Int:=
  Qbl (fun _=>
    (Qge N p1).bind fun x3=>
    bif (decide (x3.Mass>1000000)) then
     some 3
    else
     bif (decide (x3.Gas>1000000000)) then
      some 3
     else
      some 0) fun k1:Unit→Option Int=>
  (Qf2 N p0 1).bind fun x7=>
  bif ((p1.length:Int) != (x7.length:Int)) then
   some 1
  else
   (Qfp N p1).bind fun x10=>
   bif (!x10) then
    some 1
   else
    k1 ()
def Q88 (p1:List Qaa):AV:=.dat 4 (p1.map Qah)
def Zpt (p0:GNet):AV:=.dat 5 (p0.Table.map Qaq)
def Zps (p0:GNet):AV:=.dat 7 (p0.Elements.map Qac)
def Zjs (p1:List Qaa) (p0:GNet) (x7:List Int):List (Nat×Rec):=[(1,rp [((.tmp 6),(Q88 p1))] (I ((p1.length:Int)))),(3,rp [fu 67,((.tmp 8),(.agg [(Zpt p0),(Zps p0)])),((.const (.int .u8 1)),(K .u8 (1)))] (.dat 1 (x7.map Qad))),(4,rp [((.tmp 9),(.dat 1 (x7.map Qad)))] (I ((x7.length:Int))))]
theorem Qnj (N:Nat) (p0:GNet) (p1:List Qaa) (r:Int) (h:Qif N p0 p1=some r):Spec prog 94 [(.agg (Qf6 p0)),(.dat 4 (p1.map Qah))] [] (I r) []:=by
  refine Qan func94 rfl 0 (nle rfl) (fun X φ0 w0 hφ0 hd0=>?_)
  unfold Qif at h
  refine wxz ?_
  obtain⟨k1,hk_k1,h⟩:=jko h
  refine wjn (τ:=Unit) (fun t=>k1 t=some r) (fun _=>⟨mk 27 [(1,(Q88 p1))],[]⟩) (fun t h=>?_) ?_
  ·subst hk_k1
   refine wsq ?_
   obtain⟨x3,hf2,h⟩:=bno h
   refine wx tbk [(1,rp _ _)] ⟨apv Q2h (Ql9 N p1 _ hf2) (nlc (nld Qam _) nl0) (NLt.agg _ (nlcc (nlcc nl0))),tv⟩ ?_
   refine bfe h (fun hb4 h=>?_) fun hb4 h=>?_
   ·refine wx tbk [(3,rp [(.tmp 21,(B ((decide (x3.Mass>1000000)))))] (B true))] ⟨asb hb4 (amv rfl),tv⟩<|wtr<|wxz<|Qaj<|Qal ?_
    obtain rfl:=osi h
    exact fend ⟨[I 3],⟨rot,tv⟩,rfl⟩ nll
   ·refine wx tbk [(3,rp [(.tmp 21,(B ((decide (x3.Mass>1000000)))))] (B false))] ⟨asb hb4 (amv rfl),tv⟩ ?_
    refine bfe h (fun hc5 h=>?_) fun hc5 h=>?_
    ·refine wft hc5<|wxz<|Qaj<|Qal ?_
     obtain rfl:=osi h
     exact fend ⟨[I 3],⟨rot,tv⟩,rfl⟩ nll
    ·refine wfn hc5<|Qap<|thn<|wxz<|Qaj ?_
     obtain rfl:=osi h
     exact fend ⟨[I 0],⟨rot,tv⟩,rfl⟩ nll
  ·skip
   obtain⟨x7,hf6,h⟩:=bno h
   refine hpre (A:=(Zjs p1 p0 x7)) ⟨alq 4 Qah p1 underlying45,apv Qpw (Qgf N p0 1 _ hf6) (nlc (NLt.agg _ (nlc (nld Qag _) (nlc (nld Qab _) nl0))) (nlc nll nl0)) (nld Qaf _),alq 1 Qad x7 underlying27,tv⟩ fun q1_=>?_
   refine bfe h (fun hb8 h=>?_) fun hb8 h=>?_
   ·refine wx tbk (hcat (Zjs p1 p0 x7) [(6,rp [(.tmp 11,(B (((p1.length:Int) != (x7.length:Int)))))] (B true))]) (hap q1_ ⟨asb hb8 (amv rfl),tv⟩)<|wtr<|wxz<|Qaj<|Qal ?_
    obtain rfl:=osi h
    exact fend ⟨[I 1],⟨rot,tv⟩,rfl⟩ nll
   ·obtain⟨x10,hf9,h⟩:=bno h
    refine wx tbk (hcat (Zjs p1 p0 x7) [(6,rp [(.tmp 11,(B (((p1.length:Int) != (x7.length:Int)))))] (B false)),(8,rp [(.tmp 12,B false),fu 112,(.tmp 13,(Q88 p1)),fu 113] (B x10))]) (hap q1_ ⟨asb hb8 (amv rfl),ag_ (Qav (first:=[]) (cap:=[]) (vs:=[(Q88 p1),(.fn (.func 113) [] [])]) (σr:=[]) (σr':=[]) (res':=(B x10)) [] rfl Zgs (Qli N p1 _ hf9) rfl (Qbs (rnc (pld Qam) (rnc (.plain _ (NLt.fn _ _ _ nl0 nl0)) rn0))) Qau Qau (.plain _ nll) rfl rfl rfl),tv⟩) ?_
    refine bfe h (fun hc11 h=>?_) fun hc11 h=>?_
    ·refine wft hc11<|wxz<|Qaj<|Qal ?_
     obtain rfl:=osi h
     exact fend ⟨[I 1],⟨rot,tv⟩,rfl⟩ nll
    ·exact wfn hc11<|Qap<|thn<|⟨(),h,(mto (n:=27) [(1,(Q88 p1))] [] [] hφ0 (pc (rnd Qam) pn) qn)⟩
def Qlh (N:Nat) (p0:GNet) (p1:List Int) (p2:List Qaa):Option Int:=
  (Qiy N p0 p1).bind fun x2=>
  bif (x2 != 0) then
   some x2
  else
   (Qif N p0 p2).bind fun x5=>
   some x5
theorem Qvq (N:Nat) (p0:GNet) (p1:List Int) (p2:List Qaa) (r:Int) (h:Qlh N p0 p1 p2=some r):Spec prog 57 [(.agg (Qf6 p0)),(.dat 1 (p1.map Qad)),(.dat 4 (p2.map Qah))] [] (I r) []:=by
  refine Qan func57 rfl 0 (nle rfl) (fun X φ0 w0 hφ0 hd0=>?_)
  unfold Qlh at h
  refine wxz<|wsq ?_
  obtain⟨x2,hf1,h⟩:=bno h
  refine wx tbk [(2,rp _ _)] ⟨apv Zcd (Qn6 N p0 p1 _ hf1) (nlc (NLt.agg _ (nlc (nld Qag _) (nlc (nld Qab _) nl0))) (nlc (nld Qaf _) nl0)) nll,tv⟩<|wxz ?_
  refine bfe h (fun hc3 h=>?_) fun hc3 h=>?_
  ·refine wft hc3<|wxz<|Qaj<|Qal ?_
   obtain rfl:=osi h
   exact fend ⟨[I x2],⟨rot,tv⟩,rfl⟩ nll
  ·refine wfn hc3<|Qap<|thn ?_
   obtain⟨x5,hf4,h⟩:=bno h
   refine wx tbk [(2,rp _ _)] ⟨apv Zb7 (Qnj N p0 p2 _ hf4) (nlc (NLt.agg _ (nlc (nld Qag _) (nlc (nld Qab _) nl0))) (nlc (nld Qam _) nl0)) nll,tv⟩<|Qaj ?_
   obtain rfl:=osi h
   exact fend ⟨[I x5],⟨rot,tv⟩,rfl⟩ nll
def Qj2 (N:Nat) (p0:Int):Option Bool:=
  (Qda N p0 0 1000).bind fun x2=>
  some x2
theorem Qrm (N:Nat) (p0:Int) (r:Bool) (h:Qj2 N p0=some r):Spec prog 150 [(I p0)] [] (B r) []:=by
  refine Qan func150 rfl 0 (nle rfl) (fun X φ0 w0 hφ0 hd0=>?_)
  unfold Qj2 at h
  refine wxz ?_
  obtain⟨x2,hf1,h⟩:=bno h
  exact wx tbk [(1,rp _ _)] ⟨apv Qjo (Qdh N p0 0 1000 _ hf1) (nlcc (nlc nll nl0)) nll,tv⟩<|Qaj<|frb h
def Qgp (N:Nat) (p0:Int):Option Bool:=
  (Qj2 N p0).bind fun x3=>
  some (!x3)
def Zd8:Slot:=.own 1 [[(.fn (.func 150) [] [])]]
theorem Qny (N:Nat) (p0:Int) (r:Bool) (h:Qgp N p0=some r):Spec prog 157 [(I p0),(.ref 0 1 (0) 0)] [Zd8] (B r) [Zd8]:=by
  refine Qan func157 rfl 1 (nle rfl) (fun X φ0 w0 hφ0 hd0=>?_)
  unfold Qgp at h
  refine Qbw<|wxz ?_
  obtain⟨x3,hf2,h⟩:=bno h
  refine wx tbk [(2,rp _ _)] ⟨apv Zfz (Qrm N p0 _ hf2) (nlc nll nl0) nll,tv⟩ ?_
  refine wmr (mto (n:=8) (l':=[(3,(B ((!x3))))]) (own':=[Zd8]) [(3,(B ((!x3))))] [0] [Zd8] hφ0 (pw pn) (qb (lc (.rn (Qbi rn0 rn0)) ln) qn))<|Qaj ?_
  obtain rfl:=osi h
  exact⟨_,Mor.rfl,Qc1 (vs:=[(B ((!x3)))]) ⟨rot,tv⟩ rfl (NLt.of0 nll) (by kernel_rfl) (Qao (Qax (nlc (NLt.of0 (NLt.fn _ _ _ nl0 nl0)) nl0)) Qbq)⟩
def Qca (N:Nat) (p0:List Int) (k2:Unit→Option Int):Nat→Int→Option Int
  |0,_=>none
  |n5+1,y3=>
    bif (decide (y3<(p0.length:Int))) then
     (getI p0 y3).bind fun x7=>
     (Qgp N x7).bind fun x12=>
     bif x12 then
      some y3
     else
      Qca N p0 k2 n5 (w64 (y3+1))
    else
     k2 ()
def Qep (N:Nat) (p0:List Int):Option Int:=
  Qbl (fun _=>
    some (-1)) fun k2:Unit→Option Int=>
  Qca N p0 k2 N 0
def Q80:AV:=.fn (.func 157) [] [(.ref 0 1 (0) 0)]
def Qp6:Slot:=.own 1 [[(.fn (.func 150) [] [])]]
theorem Qka (N:Nat) (p0:List Int) (r:Int) (h:Qep N p0=some r):Spec prog 141 [(.dat 1 (p0.map Qad)),Q80] [Qp6] (I r) [Qp6]:=by
  refine Qan func141 rfl 1 (nle rfl) (fun X φ0 w0 hφ0 hd0=>?_)
  unfold Qep at h
  refine Qbw<|wxz ?_
  obtain⟨k2,hk_k2,h⟩:=jko h
  refine wjn (τ:=Unit) (fun t=>k2 t=some r) (fun _=>⟨mk 19 [],[Qp6]⟩) (fun t h=>?_) ?_
  ·subst hk_k2
   refine wxz<|wmr (mto (n:=19) (l':=[(4,(I ((-1))))]) (own':=[Qp6]) [(4,(I ((-1))))] [0] [Qp6] hφ0 (pw pn) (qb (lc (.rn (Qbi rn0 rn0)) ln) qn))<|Qaj ?_
   obtain rfl:=osi h
   exact⟨_,Mor.rfl,Qc1 (vs:=[(I ((-1)))]) ⟨rot,tv⟩ rfl (NLt.of0 nll) (by kernel_rfl) (Qao (Qax (nlc (NLt.of0 (NLt.fn _ _ _ nl0 nl0)) nl0)) Qbq)⟩
  ·skip
   refine wx tbk [(1,rp _ _)] ⟨alq 1 Qad p0 underlying27,tv⟩<|Qar ?_
   refine wmr (mto (n:=19) (l':=[(0,(.dat 1 (p0.map Qad))),(1,Q80),(7,(I ((p0.length:Int)))),(8,I 0)]) (own':=[Qp6]) [(0,(.dat 1 (p0.map Qad))),(1,Q80),(7,(I ((p0.length:Int)))),(8,I 0)] [0] [Qp6] hφ0 (pc (rnd Qaf) (pc (.rn (Qbi rn0 (rnc (rqr rfl) rn0))) (pw (pw pn)))) (qb (lc (.rn (Qbi rn0 rn0)) ln) qn)) ?_
   refine Qbt (τ:=Int) (fun n t=>Qca N p0 k2 n t=some r) (fun y3=>⟨mk 19 [(0,(.dat 1 (p0.map Qad))),(1,Q80),(7,(I ((p0.length:Int)))),(8,I y3)],[Qp6]⟩) (fun t h=>by rw[Qca] at h;cases h) (fun n5 ih y3 h=>?_) N (0) h
   rw[Qca] at h
   skip
   refine wxz<|wsq ?_
   refine bfe h (fun hc6 h=>?_) fun hc6 h=>?_
   ·refine wft hc6<|Qap<|thn<|wsq<|Qar<|wxz ?_
    obtain⟨x7,hg8,h⟩:=bno h
    obtain⟨hi9,hj10⟩:=gsm hg8
    obtain⟨x12,hf11,h⟩:=bno h
    refine wx tbk [(3,rp _ _),(5,⟨_,_,_,_,false⟩)] ⟨aiq underlying27 ti3 Qad hi9 hj10,Qav (first:=[]) (cap:=[.ref 0 1 0 0]) (vs:=[I x7]) (σr:=[Qp6]) (σr':=[Qp6]) (res':=(B x12)) [0] rfl Zft (Qny N x7 _ hf11) rfl (Qbs (rnc (.plain _ nll) (rnc (Qa1 rfl) rn0))) (slc (Qas (rnc (.plain _ (NLt.fn _ _ _ nl0 nl0)) rn0)) Qau) (slc (Qas (rnc (.plain _ (NLt.fn _ _ _ nl0 nl0)) rn0)) Qau) (.plain _ nll) rfl rfl rfl,tv⟩ ?_
    refine bfe h (fun hc13 h=>?_) fun hc13 h=>?_
    ·refine wft hc13<|wxz ?_
     refine wmr (mto (n:=19) (l':=[(4,I y3)]) (own':=[Qp6]) [(4,I y3)] [0] [Qp6] hφ0 (pw pn) (qb (lc (.rn (Qbi rn0 rn0)) ln) qn))<|Qaj<|Qat<|Qal<|Qal<|Qat<|Qal ?_
     obtain rfl:=osi h
     exact⟨_,Mor.rfl,Qc1 (vs:=[I y3]) ⟨rot,tv⟩ rfl (NLt.of0 nll) (by kernel_rfl) (Qao (Qax (nlc (NLt.of0 (NLt.fn _ _ _ nl0 nl0)) nl0)) Qbq)⟩
    ·exact wfn hc13<|Qap<|bln<|thn<|wxz1<|thn<|arm (mto (n:=19) [(0,(.dat 1 (p0.map Qad))),(1,Q80),(7,(I ((p0.length:Int)))),(8,(I (w64 (y3+1))))] [0] [Qp6] hφ0 (pc (rnd Qaf) (pc (.rn (Qbi rn0 (rnc (rqr rfl) rn0))) (pw (pw pn)))) (qb (lc (.rn (Qbi rn0 rn0)) ln) qn)) (ih (w64 (y3+1)) h)
   ·exact wfn hc6<|Qbf<|Qaw<|Qaw<|Qbe rfl<|thn<|⟨(),h,(mto (n:=19) [] [0] [Qp6] hφ0 pn (qb (lc (.rn (Qbi rn0 rn0)) ln) qn))⟩
def Qc5 (N:Nat) (p0:List Int):Option Bool:=
  (Qep N p0).bind fun x3=>
  some (decide (x3≥0))
def Zm9:AV:=.fn (.func 157) [] [(.ref 0 1 (0) 0)]
def Q57:Slot:=.own 1 [[(.fn (.func 150) [] [])]]
theorem Qi8 (N:Nat) (p0:List Int) (r:Bool) (h:Qc5 N p0=some r):Spec prog 126 [(.dat 1 (p0.map Qad)),Zm9] [Q57] (B r) [Q57]:=by
  refine Qan func126 rfl 1 (nle rfl) (fun X φ0 w0 hφ0 hd0=>?_)
  unfold Qc5 at h
  refine Qbw<|wxz ?_
  obtain⟨x3,hf2,h⟩:=bno h
  refine wx tbk [(2,⟨_,_,_,_,false⟩)] ⟨Qav (first:=[]) (cap:=[]) (vs:=[(.dat 1 (p0.map Qad)),Zm9]) (σr:=[Q57]) (σr':=[Q57]) (res':=(I x3)) [0] rfl Qqz (Qka N p0 _ hf2) rfl (Qbs (rnc (pld Qaf) (rnc (Qbi rn0 (rnc (Qa1 rfl) rn0)) rn0))) (slc (Qas (rnc (.plain _ (NLt.fn _ _ _ nl0 nl0)) rn0)) Qau) (slc (Qas (rnc (.plain _ (NLt.fn _ _ _ nl0 nl0)) rn0)) Qau) (.plain _ nll) rfl rfl rfl,tv⟩ ?_
  refine wmr (mto (n:=9) (l':=[(4,(B ((decide (x3≥0)))))]) (own':=[Q57]) [(4,(B ((decide (x3≥0)))))] [0] [Q57] hφ0 (pw pn) (qb (lc (.rn (Qbi rn0 rn0)) ln) qn))<|Qaj ?_
  obtain rfl:=osi h
  exact⟨_,Mor.rfl,Qc1 (vs:=[(B ((decide (x3≥0))))]) ⟨rot,tv⟩ rfl (NLt.of0 nll) (by kernel_rfl) (Qao (Qax (nlc (NLt.of0 (NLt.fn _ _ _ nl0 nl0)) nl0)) Qbq)⟩
def Qhn (N:Nat) (p0:List Int):Option Bool:=
  (Qc5 N p0).bind fun x2=>
  some (!x2)
def Zna:AV:=.fn (.func 157) [] [(.ref 0 1 (0) 0)]
def Znb:Slot:=.own 1 [[(.fn (.func 150) [] [])]]
theorem Qpj (N:Nat) (p0:List Int) (r:Bool) (h:Qhn N p0=some r):Spec prog 151 [(.dat 1 (p0.map Qad)),(.fn (.func 150) [] [])] [] (B r) []:=by
  refine Qan func151 rfl 0 (nle rfl) (fun X φ0 w0 hφ0 hd0=>?_)
  unfold Qhn at h
  refine wxz ?_
  obtain⟨x2,hf1,h⟩:=bno h
  refine wx tbk [(1,rp [(.tmp 3,.ref 0 1 0 0)] Zna),(2,⟨_,_,_,_,false⟩)] ⟨Qfq (fs:=[]) (cs:=[.ref 0 1 0 0]) rfl rfl rfl rfl,Qav (first:=[]) (cap:=[]) (vs:=[(.dat 1 (p0.map Qad)),Zna]) (σr:=[Znb]) (σr':=[Znb]) (res':=(B x2)) [0] rfl Qq0 (Qi8 N p0 _ hf1) rfl (Qbs (rnc (pld Qaf) (rnc (Qbi rn0 (rnc (Qa1 rfl) rn0)) rn0))) (slc (Qas (rnc (.plain _ (NLt.fn _ _ _ nl0 nl0)) rn0)) Qau) (slc (Qas (rnc (.plain _ (NLt.fn _ _ _ nl0 nl0)) rn0)) Qau) (.plain _ nll) rfl rfl rfl,tv⟩<|Qaj ?_
  obtain rfl:=osi h
  exact fend ⟨[(B ((!x2)))],⟨rot,tv⟩,rfl⟩ nll
def Qj1 (_N:Nat) (p0:Int):Option Bool:=
  some (decide (p0>0))
theorem Qrl (N:Nat) (p0:Int) (r:Bool) (h:Qj1 N p0=some r):Spec prog 152 [(I p0)] [] (B r) []:=by
  refine Qan func152 rfl 0 (nle rfl) (fun X φ0 w0 hφ0 hd0=>?_)
  unfold Qj1 at h
  refine wxz<|wxz<|Qaj ?_
  obtain rfl:=osi h
  exact fend ⟨[(B ((decide (p0>0))))],⟨rot,tv⟩,rfl⟩ nll
def Qb9 (N:Nat) (p0:List Int) (k1:Unit→Option Int):Nat→Int→Option Int
  |0,_=>none
  |n4+1,y2=>
    bif (decide (y2<(p0.length:Int))) then
     (getI p0 y2).bind fun x6=>
     (Qj1 N x6).bind fun x11=>
     bif x11 then
      some y2
     else
      Qb9 N p0 k1 n4 (w64 (y2+1))
    else
     k1 ()
def Qeo (N:Nat) (p0:List Int):Option Int:=
  Qbl (fun _=>
    some (-1)) fun k1:Unit→Option Int=>
  Qb9 N p0 k1 N 0
theorem Qj9 (N:Nat) (p0:List Int) (r:Int) (h:Qeo N p0=some r):Spec prog 141 [(.dat 1 (p0.map Qad)),(.fn (.func 152) [] [])] [] (I r) []:=by
  refine Qan func141 rfl 0 (nle rfl) (fun X φ0 w0 hφ0 hd0=>?_)
  unfold Qeo at h
  refine wxz ?_
  obtain⟨k1,hk_k1,h⟩:=jko h
  refine wjn (τ:=Unit) (fun t=>k1 t=some r) (fun _=>⟨mk 19 [],[]⟩) (fun t h=>?_) ?_
  ·subst hk_k1
   refine wxz<|Qaj ?_
   obtain rfl:=osi h
   exact fend ⟨[(I ((-1)))],⟨rot,tv⟩,rfl⟩ nll
  ·skip
   refine wx tbk [(1,rp _ _)] ⟨alq 1 Qad p0 underlying27,tv⟩<|Qar ?_
   refine wmr (mto (n:=19) (l':=[(0,(.dat 1 (p0.map Qad))),(1,(.fn (.func 152) [] [])),(7,(I ((p0.length:Int)))),(8,I 0)]) (own':=[]) [(0,(.dat 1 (p0.map Qad))),(1,(.fn (.func 152) [] [])),(7,(I ((p0.length:Int)))),(8,I 0)] [] [] hφ0 (pc (rnd Qaf) (pc (.rn (Qbi rn0 rn0)) (pw (pw pn)))) qn) ?_
   refine Qbt (τ:=Int) (fun n t=>Qb9 N p0 k1 n t=some r) (fun y2=>⟨mk 19 [(0,(.dat 1 (p0.map Qad))),(1,(.fn (.func 152) [] [])),(7,(I ((p0.length:Int)))),(8,I y2)],[]⟩) (fun t h=>by rw[Qb9] at h;cases h) (fun n4 ih y2 h=>?_) N (0) h
   rw[Qb9] at h
   skip
   refine wxz<|wsq ?_
   refine bfe h (fun hc5 h=>?_) fun hc5 h=>?_
   ·refine wft hc5<|Qap<|thn<|wsq<|Qar<|wxz ?_
    obtain⟨x6,hg7,h⟩:=bno h
    obtain⟨hi8,hj9⟩:=gsm hg7
    obtain⟨x11,hf10,h⟩:=bno h
    refine wx tbk [(3,rp _ _),(5,rp _ _)] ⟨aiq underlying27 ti3 Qad hi8 hj9,apv Zfx (Qrl N x6 _ hf10) (nlc nll nl0) nll,tv⟩ ?_
    refine bfe h (fun hc12 h=>?_) fun hc12 h=>?_
    ·refine wft hc12<|wxz<|Qaj<|Qat<|Qal<|Qal<|Qat<|Qal ?_
     obtain rfl:=osi h
     exact fend ⟨[I y2],⟨rot,tv⟩,rfl⟩ nll
    ·exact wfn hc12<|Qap<|bln<|thn<|wxz1<|thn<|arm (mto (n:=19) [(0,(.dat 1 (p0.map Qad))),(1,(.fn (.func 152) [] [])),(7,(I ((p0.length:Int)))),(8,(I (w64 (y2+1))))] [] [] hφ0 (pc (rnd Qaf) (pc (.rn (Qbi rn0 rn0)) (pw (pw pn)))) qn) (ih (w64 (y2+1)) h)
   ·exact wfn hc5<|Qbf<|Qaw<|Qaw<|Qbe rfl<|thn<|⟨(),h,(mto (n:=19) [] [] [] hφ0 pn qn)⟩
def Qcq (N:Nat) (p0:List Int):Option Bool:=
  (Qeo N p0).bind fun x2=>
  some (decide (x2≥0))
theorem Qi7 (N:Nat) (p0:List Int) (r:Bool) (h:Qcq N p0=some r):Spec prog 126 [(.dat 1 (p0.map Qad)),(.fn (.func 152) [] [])] [] (B r) []:=by
  refine Qan func126 rfl 0 (nle rfl) (fun X φ0 w0 hφ0 hd0=>?_)
  unfold Qcq at h
  refine wxz ?_
  obtain⟨x2,hf1,h⟩:=bno h
  refine wx tbk [(2,rp _ _)] ⟨Qav (first:=[]) (cap:=[]) (vs:=[(.dat 1 (p0.map Qad)),(.fn (.func 152) [] [])]) (σr:=[]) (σr':=[]) (res':=(I x2)) [] rfl Qqz (Qj9 N p0 _ hf1) rfl (Qbs (rnc (pld Qaf) (rnc (.plain _ (NLt.fn _ _ _ nl0 nl0)) rn0))) Qau Qau (.plain _ nll) rfl rfl rfl,tv⟩<|Qaj ?_
  obtain rfl:=osi h
  exact fend ⟨[(B ((decide (x2≥0))))],⟨rot,tv⟩,rfl⟩ nll
def Qf7 (_N:Nat) (p0 p1 p2:Int):Option Int:=
  chk (p2 != 0)<|
  some ((w64 (p1*p0)).tmod p2)
theorem Qk2 (N:Nat) (p0 p1:Int) (p2 r:Int) (h:Qf7 N p0 p1 p2=some r):Spec prog 159 [(I p0),(.ref 0 1 (0) 0),(.ref 1 1 (0) 0)] [(.own 1 [[(I p1)]]),(.own 1 [[(I p2)]])] (I r) [(.own 1 [[(I p1)]]),(.own 1 [[(I p2)]])]:=by
  refine Qan func159 rfl 2 (nle rfl) (fun X φ0 w0 hφ0 hd0=>?_)
  unfold Qf7 at h
  refine Qbw<|wxz ?_
  obtain⟨hz2,h⟩:=cko h
  refine wx tbk [(4,rp [(.tmp 7,(I (w64 (p1*p0)))),(.tmp 8,I p2)] (I ((w64 (p1*p0)).tmod p2)))] ⟨Zc7 rfl (Qu7 hz2),tv⟩ ?_
  refine wmr (mto (n:=10) (l':=[(4,(I ((w64 (p1*p0)).tmod p2)))]) (own':=[(.own 1 [[I p1]]),(.own 1 [[I p2]])]) [(4,(I ((w64 (p1*p0)).tmod p2)))] [0,1] [(.own 1 [[I p1]]),(.own 1 [[I p2]])] hφ0 (pw pn) (qb (lc rwl ln) (qb (lc rwl ln) qn)))<|Qaj ?_
  obtain rfl:=osi h
  exact⟨_,Mor.rfl,Qc1 (vs:=[(I ((w64 (p1*p0)).tmod p2))]) ⟨rot,tv⟩ rfl (NLt.of0 nll) (by kernel_rfl) (Qao (Qax (nlc (NLt.of0 nll) nl0)) (Qao (Qax (nlc (NLt.of0 nll) nl0)) Qbq))⟩
def Qfh (N:Nat) (p0 p1:Int) (p2:List Int) (p3 p4:Int):Option Int:=
  (getI p2 p1).bind fun x2=>
  (Qf7 N x2 p3 p4).bind fun x7=>
  (getI p2 p0).bind fun x8=>
  (Qf7 N x8 p3 p4).bind fun x13=>
  some (w64 (x7-x13))
def Zd6:AV:=.fn (.func 159) [] [(.ref 2 1 (0) 0),(.ref 3 1 (0) 0)]
def Zd5 (p2:List Int):Slot:=.own 1 [[(.dat 1 (p2.map Qad))]]
theorem Qmg (N:Nat) (p0 p1:Int) (p2:List Int) (p3 p4 r:Int) (h:Qfh N p0 p1 p2 p3 p4=some r):Spec prog 163 [(I p0),(I p1),(.ref 0 1 (0) 0),(.ref 1 1 (0) 0)] [(.own 1 [[Zd6]]),(Zd5 p2),(.own 1 [[(I p3)]]),(.own 1 [[(I p4)]])] (I r) [(.own 1 [[Zd6]]),(Zd5 p2),(.own 1 [[(I p3)]]),(.own 1 [[(I p4)]])]:=by
  refine Qan func163 rfl 4 (nle rfl) (fun X φ0 w0 hφ0 hd0=>?_)
  unfold Qfh at h
  refine Qbw<|wxz ?_
  obtain⟨x2,hg3,h⟩:=bno h
  obtain⟨hi4,hj5⟩:=gsm hg3
  obtain⟨x7,hf6,h⟩:=bno h
  obtain⟨x8,hg9,h⟩:=bno h
  obtain⟨hi10,hj11⟩:=gsm hg9
  obtain⟨x13,hf12,h⟩:=bno h
  refine wxd tbk [(3,rp _ _),(5,⟨_,_,_,_,false⟩),(9,rp _ _),(11,⟨_,_,_,_,false⟩)] ⟨aiq underlying27 ti3 Qad hi4 hj5,Qav (first:=[]) (cap:=[.ref 2 1 0 0,.ref 3 1 0 0]) (vs:=[I x2]) (σr:=[(.own 1 [[I p3]]),(.own 1 [[I p4]])]) (σr':=[(.own 1 [[I p3]]),(.own 1 [[I p4]])]) (res':=(I x7)) [2,3] rfl Q5a (Qk2 N x2 p3 p4 _ hf6) rfl (Qbs (rnc (.plain _ nll) (rnc (Qa1 rfl) (rnc (Qa1 rfl) rn0)))) (slc (Qas (rnc (.plain _ nll) rn0)) (slc (Qas (rnc (.plain _ nll) rn0)) Qau)) (slc (Qas (rnc (.plain _ nll) rn0)) (slc (Qas (rnc (.plain _ nll) rn0)) Qau)) (.plain _ nll) rfl rfl rfl,aiq underlying27 ti3 Qad hi10 hj11,Qav (first:=[]) (cap:=[.ref 2 1 0 0,.ref 3 1 0 0]) (vs:=[I x8]) (σr:=[(.own 1 [[I p3]]),(.own 1 [[I p4]])]) (σr':=[(.own 1 [[I p3]]),(.own 1 [[I p4]])]) (res':=(I x13)) [2,3] rfl Q5a (Qk2 N x8 p3 p4 _ hf12) rfl (Qbs (rnc (.plain _ nll) (rnc (Qa1 rfl) (rnc (Qa1 rfl) rn0)))) (slc (Qas (rnc (.plain _ nll) rn0)) (slc (Qas (rnc (.plain _ nll) rn0)) Qau)) (slc (Qas (rnc (.plain _ nll) rn0)) (slc (Qas (rnc (.plain _ nll) rn0)) Qau)) (.plain _ nll) rfl rfl rfl,tv⟩ ?_
  refine wmr (mto (n:=20) (l':=[(6,(I (w64 (x7-x13))))]) (own':=[(.own 1 [[Zd6]]),(Zd5 p2),(.own 1 [[I p3]]),(.own 1 [[I p4]])]) [(6,(I (w64 (x7-x13))))] [0,1,2,3] [(.own 1 [[Zd6]]),(Zd5 p2),(.own 1 [[I p3]]),(.own 1 [[I p4]])] hφ0 (pw pn) (qb (lc (.rn (Qbi rn0 (rnc (rqr rfl) (rnc (rqr rfl) rn0)))) ln) (qb (lc (rnd Qaf) ln) (qb (lc rwl ln) (qb (lc rwl ln) qn)))))<|Qaj ?_
  obtain rfl:=osi h
  exact⟨_,Mor.rfl,Qc1 (vs:=[(I (w64 (x7-x13)))]) ⟨rot,tv⟩ rfl (NLt.of0 nll) (by kernel_rfl) (Qao (Qax (nlc (NLt.fn _ _ _ nl0 (nlc (NLt.ref _ _ _ _ (by decide)) (nlc (NLt.ref _ _ _ _ (by decide)) nl0))) nl0)) (Qao (Qax (nlc (NLt.of0 (nld Qaf _)) nl0)) (Qao (Qax (nlc (NLt.of0 nll) nl0)) (Qao (Qax (nlc (NLt.of0 nll) nl0)) Qbq))))⟩
def Qbh (N p0:Nat) (p1:Int) (p4:List Int) (p5 p6:Int) (k9:(List Int)→Option (List Int)):Nat→Int→(List Int)→Option (List Int)
  |0,_,_=>none
  |n14+1,y10,y11=>
    Qbl (fun _=>
      chk (decide (0≤w64 (y10-1))&&decide ((w64 (y10-1)).toNat<p0))<|
      (y11[(w64 (y10-1)).toNat]?).bind fun x17=>
      chk (decide (0≤y10)&&decide (y10.toNat<p0))<|
      (y11[y10.toNat]?).bind fun x20=>
      chk (decide (0≤y10)&&decide (y10.toNat<p0))<|
      (y11[y10.toNat]?).bind fun _=>
      chk (decide (0≤w64 (y10-1))&&decide ((w64 (y10-1)).toNat<p0))<|
      ((y11.set y10.toNat x17)[(w64 (y10-1)).toNat]?).bind fun _=>
      Qbh N p0 p1 p4 p5 p6 k9 n14 (w64 (y10-1)) ((y11.set y10.toNat x17).set ((w64 (y10-1)).toNat) x20)) fun k15:Unit→Option (List Int)=>
    bif (decide (y10>p1)) then
     chk (decide (0≤y10)&&decide (y10.toNat<p0))<|
     (y11[y10.toNat]?).bind fun x30=>
     chk (decide (0≤w64 (y10-1))&&decide ((w64 (y10-1)).toNat<p0))<|
     (y11[(w64 (y10-1)).toNat]?).bind fun x33=>
     (Qfh N x30 x33 p4 p5 p6).bind fun x36=>
     bif (decide (x36<0)) then
      k15 ()
     else
      k9 (y11)
    else
     k9 (y11)
def Qa6 (N p0:Nat) (p1 p2:Int) (p4:List Int) (p5 p6:Int):Nat→Int→(List Int)→Option (List Int)
  |0,_,_=>none
  |n6+1,y2,y3=>
    bif (decide (y2<p2)) then
     Qbl (fun y8=>
       Qa6 N p0 p1 p2 p4 p5 p6 n6 (w64 (y2+1)) y8) fun k9:(List Int)→Option (List Int)=>
     Qbh N p0 p1 p4 p5 p6 k9 N y2 y3
    else
     some y3
def Qbm (N p0:Nat) (p1 p2:Int) (p3 p4:List Int) (p5 p6:Int):Option (List Int):=
  Qa6 N p0 p1 p2 p4 p5 p6 N (w64 (p1+1)) p3
def Qpd:AV:=.fn (.func 163) [] [(.ref 1 1 (0) 0),(.ref 2 1 (0) 0)]
def Ql6:AV:=.fn (.func 159) [] [(.ref 3 1 (0) 0),(.ref 4 1 (0) 0)]
def Ql5 (p4:List Int):Slot:=.own 1 [[(.dat 1 (p4.map Qad))]]
theorem Qfx (N p0:Nat) (p1 p2:Int) (p3 p4:List Int) (p5 p6:Int) (r:List Int) (h:Qbm N p0 p1 p2 p3 p4 p5 p6=some r):Spec prog 165 [(.own 0 1 (0) p0),(I p1),(I p2),Qpd] [(.own 1 (p3.map Qad)),(.own 1 [[Ql6]]),(Ql5 p4),(.own 1 [[(I p5)]]),(.own 1 [[(I p6)]])] (.tup []) [(.own 1 (r.map Qad)),(.own 1 [[Ql6]]),(Ql5 p4),(.own 1 [[(I p5)]]),(.own 1 [[(I p6)]])]:=by
  refine Qan func165 rfl 5 (nle rfl) (fun X φ0 w0 hφ0 hd0=>?_)
  unfold Qbm at h
  refine Qbw<|wxz<|Qar ?_
  refine wmr (mto (n:=53) (l':=[(0,(.own 0 1 (0) p0)),(1,I p1),(2,I p2),(3,Qpd),(8,(I ((w64 (p1+1)))))]) (own':=[(.own 1 (p3.map Qad)),(.own 1 [[Ql6]]),(Ql5 p4),(.own 1 [[I p5]]),(.own 1 [[I p6]])]) [(0,(.own 0 1 (0) p0)),(1,I p1),(2,I p2),(3,Qpd),(8,(I (w64 (p1+1))))] [0,1,2,3,4] [(.own 1 (p3.map Qad)),(.own 1 [[Ql6]]),(Ql5 p4),(.own 1 [[I p5]]),(.own 1 [[I p6]])] hφ0 (pc (.rn (Qa2 rfl)) (pw (pw (pc (.rn (Qbi rn0 (rnc (rqr rfl) (rnc (rqr rfl) rn0)))) (pw pn))))) (qc (spr Qaf) (qb (lc (.rn (Qbi rn0 (rnc (rqr rfl) (rnc (rqr rfl) rn0)))) ln) (qb (lc (rnd Qaf) ln) (qb (lc rwl ln) (qb (lc rwl ln) qn)))))) ?_
  refine Qbt (τ:=Int×(List Int)) (fun n t=>Qa6 N p0 p1 p2 p4 p5 p6 n t.1 t.2=some r) (fun ⟨y2,y3⟩=>⟨mk 53 [(0,(.own 0 1 (0) p0)),(1,I p1),(2,I p2),(3,Qpd),(8,I y2)],[(.own 1 (y3.map Qad)),(.own 1 [[Ql6]]),(Ql5 p4),(.own 1 [[I p5]]),(.own 1 [[I p6]])]⟩) (fun t h=>by rw[Qa6] at h;cases h) (fun n6 ih t h=>?_) N (w64 (p1+1),p3) h
  obtain⟨y2,y3⟩:=t
  rw[Qa6] at h
  skip
  refine wsq<|wxz ?_
  refine bfe h (fun hc7 h=>?_) fun hc7 h=>?_
  ·refine wft hc7<|Qap<|thn ?_
   obtain⟨k9,hk_k9,h⟩:=jko h
   refine wjn (τ:=(List Int)) (fun t=>k9 t=some r) (fun y8=>⟨mk 53 [(0,(.own 0 1 (0) p0)),(1,I p1),(2,I p2),(3,Qpd),(8,I y2)],[(.own 1 (y8.map Qad)),(.own 1 [[Ql6]]),(Ql5 p4),(.own 1 [[I p5]]),(.own 1 [[I p6]])]⟩) (fun y8 h=>?_) ?_
   ·subst hk_k9
    exact wxz1<|thn<|arm (mto (n:=53) [(0,(.own 0 1 (0) p0)),(1,I p1),(2,I p2),(3,Qpd),(8,(I (w64 (y2+1))))] [0,1,2,3,4] [(.own 1 (y8.map Qad)),(.own 1 [[Ql6]]),(Ql5 p4),(.own 1 [[I p5]]),(.own 1 [[I p6]])] hφ0 (pc (.rn (Qa2 rfl)) (pw (pw (pc (.rn (Qbi rn0 (rnc (rqr rfl) (rnc (rqr rfl) rn0)))) (pw pn))))) (qc (spr Qaf) (qb (lc (.rn (Qbi rn0 (rnc (rqr rfl) (rnc (rqr rfl) rn0)))) ln) (qb (lc (rnd Qaf) ln) (qb (lc rwl ln) (qb (lc rwl ln) qn)))))) (ih (w64 (y2+1),y8) h)
   ·skip
    refine Qar<|wxz<|Qar ?_
    refine wmr (mto (n:=53) (l':=[(0,(.own 0 1 (0) p0)),(1,I p1),(2,I p2),(3,Qpd),(8,I y2),(9,I y2)]) (own':=[(.own 1 (y3.map Qad)),(.own 1 [[Ql6]]),(Ql5 p4),(.own 1 [[I p5]]),(.own 1 [[I p6]])]) [(0,(.own 0 1 (0) p0)),(1,I p1),(2,I p2),(3,Qpd),(8,I y2),(9,I y2)] [0,1,2,3,4] [(.own 1 (y3.map Qad)),(.own 1 [[Ql6]]),(Ql5 p4),(.own 1 [[I p5]]),(.own 1 [[I p6]])] hφ0 (pc (.rn (Qa2 rfl)) (pw (pw (pc (.rn (Qbi rn0 (rnc (rqr rfl) (rnc (rqr rfl) rn0)))) (pw (pw pn)))))) (qc (spr Qaf) (qb (lc (.rn (Qbi rn0 (rnc (rqr rfl) (rnc (rqr rfl) rn0)))) ln) (qb (lc (rnd Qaf) ln) (qb (lc rwl ln) (qb (lc rwl ln) qn)))))) ?_
    refine Qbt (τ:=Int×(List Int)) (fun n t=>Qbh N p0 p1 p4 p5 p6 k9 n t.1 t.2=some r) (fun ⟨y10,y11⟩=>⟨mk 53 [(0,(.own 0 1 (0) p0)),(1,I p1),(2,I p2),(3,Qpd),(8,I y2),(9,I y10)],[(.own 1 (y11.map Qad)),(.own 1 [[Ql6]]),(Ql5 p4),(.own 1 [[I p5]]),(.own 1 [[I p6]])]⟩) (fun t h=>by rw[Qbh] at h;cases h) (fun n14 ih t h=>?_) N (y2,y3) h
    obtain⟨y10,y11⟩:=t
    rw[Qbh] at h
    skip
    obtain⟨k15,hk_k15,h⟩:=jko h
    refine wjn (τ:=Unit) (fun t=>k15 t=some r) (fun _=>⟨mk 53 [(0,(.own 0 1 (0) p0)),(1,I p1),(2,I p2),(3,Qpd),(8,I y2),(9,I y10)],[(.own 1 (y11.map Qad)),(.own 1 [[Ql6]]),(Ql5 p4),(.own 1 [[I p5]]),(.own 1 [[I p6]])]⟩) (fun t h=>?_) ?_
    ·subst hk_k15
     refine wsq<|Qar ?_
     obtain⟨hi16,h⟩:=cko h
     obtain⟨hi16a,hi16b⟩:=Qdv hi16
     obtain⟨x17,hg18,h⟩:=bno h
     obtain⟨hi19,h⟩:=cko h
     obtain⟨hi19a,hi19b⟩:=Qdv hi19
     obtain⟨x20,hg21,h⟩:=bno h
     obtain⟨hi22,h⟩:=cko h
     obtain⟨hi22a,hi22b⟩:=Qdv hi22
     obtain⟨x23,hg24,h⟩:=bno h
     obtain⟨hi25,h⟩:=cko h
     obtain⟨hi25a,hi25b⟩:=Qdv hi25
     obtain⟨x26,hg27,h⟩:=bno h
     refine wy1 tbk [(8,rb [(.tmp 42,(.own 0 1 (0) p0)),(.tmp 44,(I (w64 (y10-1))))] [(0,(.own 1 (y11.map Qad)))] (.ref 0 1 ((w64 (y10-1)).toNat) 0)),(9,rb [(.tmp 45,(.ref 0 1 ((w64 (y10-1)).toNat) 0))] [(0,(.own 1 (y11.map Qad)))] (I x17)),(12,rb [(.tmp 47,(.own 0 1 (0) p0)),(.tmp 48,I y10)] [(0,(.own 1 (y11.map Qad)))] (.ref 0 1 y10.toNat 0)),(13,rb [(.tmp 49,(.ref 0 1 y10.toNat 0))] [(0,(.own 1 (y11.map Qad)))] (I x20)),(14,rb [(.tmp 37,(.own 0 1 (0) p0)),(.tmp 38,I y10)] [(0,(.own 1 (y11.map Qad)))] (.ref 0 1 y10.toNat 0)),(15,⟨[(.tmp 51,(.ref 0 1 y10.toNat 0)),(.tmp 46,I x17)],[(0,(.own 1 (y11.map Qad)))],.any,[(0,(.own 1 ((y11.set y10.toNat x17:List Int).map Qad)))],false⟩),(16,rb [(.tmp 39,(.own 0 1 (0) p0)),(.tmp 41,(I (w64 (y10-1))))] [(0,(.own 1 ((y11.set y10.toNat x17:List Int).map Qad)))] (.ref 0 1 ((w64 (y10-1)).toNat) 0)),(17,⟨[(.tmp 52,(.ref 0 1 ((w64 (y10-1)).toNat) 0)),(.tmp 50,I x20)],[(0,(.own 1 ((y11.set y10.toNat x17:List Int).map Qad)))],.any,[(0,(.own 1 (((y11.set y10.toNat x17).set ((w64 (y10-1)).toNat) x20:List Int).map Qad)))],false⟩)] ⟨aio rfl underlying27 ti3 (odt hi16a) (odt hi16b) (Nat.zero_add _),ald rfl ti3 (by decide) (mgt Qad hg18) (nle rfl) rfl,aio rfl underlying27 ti3 (odt hi19a) (odt hi19b) (Nat.zero_add _),ald rfl ti3 (by decide) (mgt Qad hg21) (nle rfl) rfl,aio rfl underlying27 ti3 (odt hi22a) (odt hi22b) (Nat.zero_add _),ast rfl ti3 (by rfl) (mgt Qad hg24) (nle rfl) (Qf0 Qad rfl),aio rfl underlying27 ti3 (odt hi25a) (odt hi25b) (Nat.zero_add _),ast rfl ti3 (by rfl) (mgt Qad hg27) (nle rfl) (Qf0 Qad rfl),tv⟩<|bln<|thn<|wxz1<|thn ?_
     exact arm (mto (n:=53) [(0,(.own 0 1 (0) p0)),(1,I p1),(2,I p2),(3,Qpd),(8,I y2),(9,(I (w64 (y10-1))))] [0,1,2,3,4] [(.own 1 (((y11.set y10.toNat x17).set ((w64 (y10-1)).toNat) x20:List Int).map Qad)),(.own 1 [[Ql6]]),(Ql5 p4),(.own 1 [[I p5]]),(.own 1 [[I p6]])] hφ0 (pc (.rn (Qa2 rfl)) (pw (pw (pc (.rn (Qbi rn0 (rnc (rqr rfl) (rnc (rqr rfl) rn0)))) (pw (pw pn)))))) (qc (spr Qaf) (qb (lc (.rn (Qbi rn0 (rnc (rqr rfl) (rnc (rqr rfl) rn0)))) ln) (qb (lc (rnd Qaf) ln) (qb (lc rwl ln) (qb (lc rwl ln) qn)))))) (ih (w64 (y10-1),(y11.set y10.toNat x17).set ((w64 (y10-1)).toNat) x20) h)
    ·skip
     refine bfe h (fun hb28 h=>?_) fun hb28 h=>?_
     ·obtain⟨hi29,h⟩:=cko h
      obtain⟨hi29a,hi29b⟩:=Qdv hi29
      obtain⟨x30,hg31,h⟩:=bno h
      obtain⟨hi32,h⟩:=cko h
      obtain⟨hi32a,hi32b⟩:=Qdv hi32
      obtain⟨x33,hg34,h⟩:=bno h
      obtain⟨x36,hf35,h⟩:=bno h
      refine wxd tbk [(3,rp [(.tmp 20,(B ((decide (y10>p1)))))] (B true)),(7,rb [(.tmp 21,B true),(.tmp 23,(.own 0 1 (0) p0)),(.tmp 24,I y10)] [(0,(.own 1 (y11.map Qad)))] (.ref 0 1 y10.toNat 0)),(8,rb [(.tmp 21,B true),(.tmp 25,(.ref 0 1 y10.toNat 0))] [(0,(.own 1 (y11.map Qad)))] (I x30)),(12,rb [(.tmp 21,B true),(.tmp 27,(.own 0 1 (0) p0)),(.tmp 29,(I (w64 (y10-1))))] [(0,(.own 1 (y11.map Qad)))] (.ref 0 1 ((w64 (y10-1)).toNat) 0)),(13,rb [(.tmp 21,B true),(.tmp 30,(.ref 0 1 ((w64 (y10-1)).toNat) 0))] [(0,(.own 1 (y11.map Qad)))] (I x33)),(14,⟨[(.tmp 21,B true),(.tmp 22,Qpd),(.tmp 26,I x30),(.tmp 31,I x33)],[(1,.own 1 [[Ql6]]),(2,(Ql5 p4)),(3,.own 1 [[I p5]]),(4,.own 1 [[I p6]])],I x36,[(1,.own 1 [[Ql6]]),(2,(Ql5 p4)),(3,.own 1 [[I p5]]),(4,.own 1 [[I p6]])],false⟩)] ⟨asb hb28 (amv rfl),ag_ (aio rfl underlying27 ti3 (odt hi29a) (odt hi29b) (Nat.zero_add _)),ag_ (ald rfl ti3 (by decide) (mgt Qad hg31) (nle rfl) rfl),ag_ (aio rfl underlying27 ti3 (odt hi32a) (odt hi32b) (Nat.zero_add _)),ag_ (ald rfl ti3 (by decide) (mgt Qad hg34) (nle rfl) rfl),ag_ (Qav (first:=[]) (cap:=[.ref 1 1 0 0,.ref 2 1 0 0]) (vs:=[I x30,I x33]) (σr:=[(.own 1 [[Ql6]]),(Ql5 p4),(.own 1 [[I p5]]),(.own 1 [[I p6]])]) (σr':=[(.own 1 [[Ql6]]),(Ql5 p4),(.own 1 [[I p5]]),(.own 1 [[I p6]])]) (res':=(I x36)) [1,2,3,4] rfl Zfp (Qmg N x30 x33 p4 p5 p6 _ hf35) rfl (Qbs (rncc (rnc (Qa1 rfl) (rnc (Qa1 rfl) rn0)))) (slc (Qas (rnc (Qbi rn0 (rnc (Qa1 rfl) (rnc (Qa1 rfl) rn0))) rn0)) (slc (Qas (rnc (pld Qaf) rn0)) (slc (Qas (rnc (.plain _ nll) rn0)) (slc (Qas (rnc (.plain _ nll) rn0)) Qau)))) (slc (Qas (rnc (Qbi rn0 (rnc (Qbb rfl) (rnc (Qbb rfl) rn0))) rn0)) (slc (Qas (rnc (pld Qaf) rn0)) (slc (Qas (rnc (.plain _ nll) rn0)) (slc (Qas (rnc (.plain _ nll) rn0)) Qau)))) (.plain _ nll) rfl rfl rfl),tv⟩ ?_
      refine bfe h (fun hc37 h=>?_) fun hc37 h=>?_
      ·exact wft hc37<|Qap<|thn<|⟨(),h,(mto (n:=53) [(0,(.own 0 1 (0) p0)),(1,I p1),(2,I p2),(3,Qpd),(8,I y2),(9,I y10)] [0,1,2,3,4] [(.own 1 (y11.map Qad)),(.own 1 [[Ql6]]),(Ql5 p4),(.own 1 [[I p5]]),(.own 1 [[I p6]])] hφ0 (pc (.rn (Qa2 rfl)) (pw (pw (pc (.rn (Qbi rn0 (rnc (rqr rfl) (rnc (rqr rfl) rn0)))) (pw (pw pn)))))) (qc (spr Qaf) (qb (lc (.rn (Qbi rn0 (rnc (rqr rfl) (rnc (rqr rfl) rn0)))) ln) (qb (lc (rnd Qaf) ln) (qb (lc rwl ln) (qb (lc rwl ln) qn))))))⟩
      ·exact wfn hc37<|Qbf<|Qaw<|Qaw<|Qbe rfl<|bln<|thn<|⟨(y11),h,(mto (n:=53) [(0,(.own 0 1 (0) p0)),(1,I p1),(2,I p2),(3,Qpd),(8,I y2)] [0,1,2,3,4] [(.own 1 (y11.map Qad)),(.own 1 [[Ql6]]),(Ql5 p4),(.own 1 [[I p5]]),(.own 1 [[I p6]])] hφ0 (pc (.rn (Qa2 rfl)) (pw (pw (pc (.rn (Qbi rn0 (rnc (rqr rfl) (rnc (rqr rfl) rn0)))) (pw pn))))) (qc (spr Qaf) (qb (lc (.rn (Qbi rn0 (rnc (rqr rfl) (rnc (rqr rfl) rn0)))) ln) (qb (lc (rnd Qaf) ln) (qb (lc rwl ln) (qb (lc rwl ln) qn))))))⟩
     ·exact wxd tbk [(3,rp [(.tmp 20,(B ((decide (y10>p1)))))] (B false))] ⟨asb hb28 (amv rfl),tv⟩<|wfa<|Qbf<|Qaw<|Qaw<|Qbe rfl<|bln<|thn<|⟨(y11),h,(mto (n:=53) [(0,(.own 0 1 (0) p0)),(1,I p1),(2,I p2),(3,Qpd),(8,I y2)] [0,1,2,3,4] [(.own 1 (y11.map Qad)),(.own 1 [[Ql6]]),(Ql5 p4),(.own 1 [[I p5]]),(.own 1 [[I p6]])] hφ0 (pc (.rn (Qa2 rfl)) (pw (pw (pc (.rn (Qbi rn0 (rnc (rqr rfl) (rnc (rqr rfl) rn0)))) (pw pn))))) (qc (spr Qaf) (qb (lc (.rn (Qbi rn0 (rnc (rqr rfl) (rnc (rqr rfl) rn0)))) ln) (qb (lc (rnd Qaf) ln) (qb (lc rwl ln) (qb (lc rwl ln) qn))))))⟩
  ·refine wfn hc7<|Qbf<|Qaw<|Qaw<|Qbe rfl ?_
   obtain rfl:=osi h
   exact⟨_,(mto (n:=53) (l':=[]) (own':=[(.own 1 (y3.map Qad)),(.own 1 [[Ql6]]),(Ql5 p4),(.own 1 [[I p5]]),(.own 1 [[I p6]])]) [] [0,1,2,3,4] [(.own 1 (y3.map Qad)),(.own 1 [[Ql6]]),(Ql5 p4),(.own 1 [[I p5]]),(.own 1 [[I p6]])] hφ0 pn (qc (spr Qaf) (qb (lc (.rn (Qbi rn0 (rnc (rqr rfl) (rnc (rqr rfl) rn0)))) ln) (qb (lc (rnd Qaf) ln) (qb (lc rwl ln) (qb (lc rwl ln) qn)))))),Qc1 (vs:=[]) tv rfl (NLt.tup _ nl0) (by kernel_rfl) (Qao (Qb0 Qaf _) (Qao (Qax (nlc (NLt.fn _ _ _ nl0 (nlc (NLt.ref _ _ _ _ (by decide)) (nlc (NLt.ref _ _ _ _ (by decide)) nl0))) nl0)) (Qao (Qax (nlc (NLt.of0 (nld Qaf _)) nl0)) (Qao (Qax (nlc (NLt.of0 nll) nl0)) (Qao (Qax (nlc (NLt.of0 nll) nl0)) Qbq)))))⟩
def Qdl (N:Nat) (p1:Int) (k9:Unit→Option (List Int)):Nat→Option (List Int)
  |0=>none
  |n10+1=>
    bif (decide (40≤p1)) then
     none
    else
     k9 ()
def Qb6 (N:Nat) (p1:Int) (x6:List Int):Nat→Option (List Int)
  |0=>none
  |n7+1=>
    bif (decide (20<p1)) then
     Qbl (fun _=>
       none) fun k9:Unit→Option (List Int)=>
     Qdl N p1 k9 N
    else
     some x6
def Qbv (N p0:Nat) (p1:Int) (p3:List Int) (k4:Int×(List Int)→Option (List Int)) (p4 p5:Int):Nat→Int→Int→(List Int)→Option (List Int)
  |0,_,_,_=>none
  |n18+1,y12,y13,y14=>
    bif (decide (y13≤p1)) then
     (Qbm N p0 y12 y13 y14 p3 p4 p5).bind fun x21=>
     Qbv N p0 p1 p3 k4 p4 p5 n18 y13 (w64 (y13+20)) x21
    else
     k4 (y12,y14)
def Qen (N p0:Nat) (p1:Int) (p2 p3:List Int) (p4 p5:Int):Option (List Int):=
  Qbl (fun ⟨y2,y3⟩=>
    (Qbm N p0 y2 p1 y3 p3 p4 p5).bind fun x6=>
    Qb6 N p1 x6 N) fun k4:Int×(List Int)→Option (List Int)=>
  Qbv N p0 p1 p3 k4 p4 p5 N 0 20 p2
def Qnq:AV:=.fn (.func 163) [] [(.ref 1 1 (0) 0),(.ref 2 1 (0) 0)]
def Qls:AV:=.fn (.func 159) [] [(.ref 3 1 (0) 0),(.ref 4 1 (0) 0)]
def Qlr (p3:List Int):Slot:=.own 1 [[(.dat 1 (p3.map Qad))]]
theorem Qj8 (N p0:Nat) (p1:Int) (p2 p3:List Int) (p4 p5:Int) (r:List Int) (h:Qen N p0 p1 p2 p3 p4 p5=some r):Spec prog 164 [(.own 0 1 (0) p0),(I p1),Qnq] [(.own 1 (p2.map Qad)),(.own 1 [[Qls]]),(Qlr p3),(.own 1 [[(I p4)]]),(.own 1 [[(I p5)]])] (.tup []) [(.own 1 (r.map Qad)),(.own 1 [[Qls]]),(Qlr p3),(.own 1 [[(I p4)]]),(.own 1 [[(I p5)]])]:=by
  refine Qan func164 rfl 5 (nle rfl) (fun X φ0 w0 hφ0 hd0=>?_)
  unfold Qen at h
  refine Qbw<|wxz<|wxz ?_
  obtain⟨k4,hk_k4,h⟩:=jko h
  refine wjn (τ:=Int×(List Int)) (fun t=>k4 t=some r) (fun ⟨y2,y3⟩=>⟨mk 63 [(0,(.own 0 1 (0) p0)),(1,I p1),(2,Qnq),(6,I 20),(7,I y2)],[(.own 1 (y3.map Qad)),(.own 1 [[Qls]]),(Qlr p3),(.own 1 [[I p4]]),(.own 1 [[I p5]])]⟩) (fun t h=>?_) ?_
  ·subst hk_k4
   obtain⟨y2,y3⟩:=t
   obtain⟨x6,hf5,h⟩:=bno h
   refine wx tbk [(4,⟨_,_,_,_,false⟩)] ⟨Qav (first:=[]) (cap:=[]) (vs:=[(.own 0 1 (0) p0),I y2,I p1,Qnq]) (σr:=[(.own 1 (y3.map Qad)),(.own 1 [[Qls]]),(Qlr p3),(.own 1 [[I p4]]),(.own 1 [[I p5]])]) (σr':=[(.own 1 (x6.map Qad)),(.own 1 [[Qls]]),(Qlr p3),(.own 1 [[I p4]]),(.own 1 [[I p5]])]) (res':=(.tup [])) [0,1,2,3,4] rfl Q49 (Qfx N p0 y2 p1 y3 p3 p4 p5 _ hf5) rfl (Qbs (rnc (Qc4 rfl) (rncc (rnc (Qbi rn0 (rnc (Qa1 rfl) (rnc (Qa1 rfl) rn0))) rn0)))) (slc (Qa9 Qaf) (slc (Qas (rnc (Qbi rn0 (rnc (Qa1 rfl) (rnc (Qa1 rfl) rn0))) rn0)) (slc (Qas (rnc (pld Qaf) rn0)) (slc (Qas (rnc (.plain _ nll) rn0)) (slc (Qas (rnc (.plain _ nll) rn0)) Qau))))) (slc (Qa9 Qaf) (slc (Qas (rnc (Qbi rn0 (rnc (Qbb rfl) (rnc (Qbb rfl) rn0))) rn0)) (slc (Qas (rnc (pld Qaf) rn0)) (slc (Qas (rnc (.plain _ nll) rn0)) (slc (Qas (rnc (.plain _ nll) rn0)) Qau))))) (.plain _ (NLt.tup _ nl0)) rfl rfl rfl,tv⟩<|Qar ?_
   refine wmr (mto (n:=63) (l':=[(0,(.own 0 1 (0) p0)),(1,I p1),(2,Qnq),(6,I 20)]) (own':=[(.own 1 (x6.map Qad)),(.own 1 [[Qls]]),(Qlr p3),(.own 1 [[I p4]]),(.own 1 [[I p5]])]) [(0,(.own 0 1 (0) p0)),(1,I p1),(2,Qnq),(6,I 20)] [0,1,2,3,4] [(.own 1 (x6.map Qad)),(.own 1 [[Qls]]),(Qlr p3),(.own 1 [[I p4]]),(.own 1 [[I p5]])] hφ0 (pc (.rn (Qa2 rfl)) (pw (pc (.rn (Qbi rn0 (rnc (rqr rfl) (rnc (rqr rfl) rn0)))) (pw pn)))) (qc (spr Qaf) (qb (lc (.rn (Qbi rn0 (rnc (rqr rfl) (rnc (rqr rfl) rn0)))) ln) (qb (lc (rnd Qaf) ln) (qb (lc rwl ln) (qb (lc rwl ln) qn)))))) ?_
   refine Qbt (τ:=Unit) (fun n t=>Qb6 N p1 x6 n=some r) (fun _=>⟨mk 63 [(0,(.own 0 1 (0) p0)),(1,I p1),(2,Qnq),(6,I 20)],[(.own 1 (x6.map Qad)),(.own 1 [[Qls]]),(Qlr p3),(.own 1 [[I p4]]),(.own 1 [[I p5]])]⟩) (fun t h=>by rw[Qb6] at h;cases h) (fun n7 ih t h=>?_) N () h
   rw[Qb6] at h
   skip
   refine wsq<|wxz ?_
   refine bfe h (fun hc8 h=>?_) fun hc8 h=>?_
   ·refine wft hc8<|Qap<|thn<|Qar<|wxz ?_
    obtain⟨k9,hk_k9,h⟩:=jko h
    refine wjn (τ:=Unit) (fun t=>k9 t=some r) (fun _=>⟨mk 63 [(0,(.own 0 1 (0) p0)),(1,I p1),(2,Qnq),(6,I 20),(7,I 0)],[(.own 1 (x6.map Qad)),(.own 1 [[Qls]]),(Qlr p3),(.own 1 [[I p4]]),(.own 1 [[I p5]])]⟩) (fun t h=>?_) ?_
    ·subst hk_k9
     refine wsq<|wxz<|wxz<|wft hc8 ?_
     cases h
    ·skip
     refine Qar<|wmr (mto (n:=63) (l':=[(0,(.own 0 1 (0) p0)),(1,I p1),(2,Qnq),(6,I 20),(7,I 0),(8,I 40)]) (own':=[(.own 1 (x6.map Qad)),(.own 1 [[Qls]]),(Qlr p3),(.own 1 [[I p4]]),(.own 1 [[I p5]])]) [(0,(.own 0 1 (0) p0)),(1,I p1),(2,Qnq),(6,I 20),(7,I 0),(8,I 40)] [0,1,2,3,4] [(.own 1 (x6.map Qad)),(.own 1 [[Qls]]),(Qlr p3),(.own 1 [[I p4]]),(.own 1 [[I p5]])] hφ0 (pc (.rn (Qa2 rfl)) (pw (pc (.rn (Qbi rn0 (rnc (rqr rfl) (rnc (rqr rfl) rn0)))) (pw (pw (pw pn)))))) (qc (spr Qaf) (qb (lc (.rn (Qbi rn0 (rnc (rqr rfl) (rnc (rqr rfl) rn0)))) ln) (qb (lc (rnd Qaf) ln) (qb (lc rwl ln) (qb (lc rwl ln) qn)))))) ?_
     refine Qbt (τ:=Unit) (fun n t=>Qdl N p1 k9 n=some r) (fun _=>⟨mk 63 [(0,(.own 0 1 (0) p0)),(1,I p1),(2,Qnq),(6,I 20),(7,I 0),(8,I 40)],[(.own 1 (x6.map Qad)),(.own 1 [[Qls]]),(Qlr p3),(.own 1 [[I p4]]),(.own 1 [[I p5]])]⟩) (fun t h=>by rw[Qdl] at h;cases h) (fun n10 ih t h=>?_) N () h
     rw[Qdl] at h
     skip
     refine wsq<|wxz ?_
     refine bfe h (fun hc11 h=>?_) fun hc11 h=>?_
     ·refine wft hc11<|Qap<|thn<|Qar ?_
      cases h
     ·exact wfn hc11<|Qbf<|Qaw<|Qaw<|Qbe rfl<|thn<|⟨(),h,(mto (n:=63) [(0,(.own 0 1 (0) p0)),(1,I p1),(2,Qnq),(6,I 20),(7,I 0)] [0,1,2,3,4] [(.own 1 (x6.map Qad)),(.own 1 [[Qls]]),(Qlr p3),(.own 1 [[I p4]]),(.own 1 [[I p5]])] hφ0 (pc (.rn (Qa2 rfl)) (pw (pc (.rn (Qbi rn0 (rnc (rqr rfl) (rnc (rqr rfl) rn0)))) (pw (pw pn))))) (qc (spr Qaf) (qb (lc (.rn (Qbi rn0 (rnc (rqr rfl) (rnc (rqr rfl) rn0)))) ln) (qb (lc (rnd Qaf) ln) (qb (lc rwl ln) (qb (lc rwl ln) qn))))))⟩
   ·refine wfn hc8<|Qbf<|Qaw<|Qaw<|Qbe rfl ?_
    obtain rfl:=osi h
    exact⟨_,(mto (n:=63) (l':=[]) (own':=[(.own 1 (x6.map Qad)),(.own 1 [[Qls]]),(Qlr p3),(.own 1 [[I p4]]),(.own 1 [[I p5]])]) [] [0,1,2,3,4] [(.own 1 (x6.map Qad)),(.own 1 [[Qls]]),(Qlr p3),(.own 1 [[I p4]]),(.own 1 [[I p5]])] hφ0 pn (qc (spr Qaf) (qb (lc (.rn (Qbi rn0 (rnc (rqr rfl) (rnc (rqr rfl) rn0)))) ln) (qb (lc (rnd Qaf) ln) (qb (lc rwl ln) (qb (lc rwl ln) qn)))))),Qc1 (vs:=[]) tv rfl (NLt.tup _ nl0) (by kernel_rfl) (Qao (Qb0 Qaf _) (Qao (Qax (nlc (NLt.fn _ _ _ nl0 (nlc (NLt.ref _ _ _ _ (by decide)) (nlc (NLt.ref _ _ _ _ (by decide)) nl0))) nl0)) (Qao (Qax (nlc (NLt.of0 (nld Qaf _)) nl0)) (Qao (Qax (nlc (NLt.of0 nll) nl0)) (Qao (Qax (nlc (NLt.of0 nll) nl0)) Qbq)))))⟩
  ·skip
   refine Qar<|wmr (mto (n:=63) (l':=[(0,(.own 0 1 (0) p0)),(1,I p1),(2,Qnq),(6,I 20),(7,I 0),(8,I 20)]) (own':=[(.own 1 (p2.map Qad)),(.own 1 [[Qls]]),(Qlr p3),(.own 1 [[I p4]]),(.own 1 [[I p5]])]) [(0,(.own 0 1 (0) p0)),(1,I p1),(2,Qnq),(6,I 20),(7,I 0),(8,I 20)] [0,1,2,3,4] [(.own 1 (p2.map Qad)),(.own 1 [[Qls]]),(Qlr p3),(.own 1 [[I p4]]),(.own 1 [[I p5]])] hφ0 (pc (.rn (Qa2 rfl)) (pw (pc (.rn (Qbi rn0 (rnc (rqr rfl) (rnc (rqr rfl) rn0)))) (pw (pw (pw pn)))))) (qc (spr Qaf) (qb (lc (.rn (Qbi rn0 (rnc (rqr rfl) (rnc (rqr rfl) rn0)))) ln) (qb (lc (rnd Qaf) ln) (qb (lc rwl ln) (qb (lc rwl ln) qn)))))) ?_
   refine Qbt (τ:=Int×Int×(List Int)) (fun n t=>Qbv N p0 p1 p3 k4 p4 p5 n t.1 t.2.1 t.2.2=some r) (fun ⟨y12,y13,y14⟩=>⟨mk 63 [(0,(.own 0 1 (0) p0)),(1,I p1),(2,Qnq),(6,I 20),(7,I y12),(8,I y13)],[(.own 1 (y14.map Qad)),(.own 1 [[Qls]]),(Qlr p3),(.own 1 [[I p4]]),(.own 1 [[I p5]])]⟩) (fun t h=>by rw[Qbv] at h;cases h) (fun n18 ih t h=>?_) N (0,20,p2) h
   obtain⟨y12,y13,y14⟩:=t
   rw[Qbv] at h
   skip
   refine wsq<|wxz ?_
   refine bfe h (fun hc19 h=>?_) fun hc19 h=>?_
   ·refine wft hc19<|Qap<|thn<|Qar ?_
    obtain⟨x21,hf20,h⟩:=bno h
    refine wx tbk [(4,⟨_,_,_,_,false⟩)] ⟨Qav (first:=[]) (cap:=[]) (vs:=[(.own 0 1 (0) p0),I y12,I y13,Qnq]) (σr:=[(.own 1 (y14.map Qad)),(.own 1 [[Qls]]),(Qlr p3),(.own 1 [[I p4]]),(.own 1 [[I p5]])]) (σr':=[(.own 1 (x21.map Qad)),(.own 1 [[Qls]]),(Qlr p3),(.own 1 [[I p4]]),(.own 1 [[I p5]])]) (res':=(.tup [])) [0,1,2,3,4] rfl Q49 (Qfx N p0 y12 y13 y14 p3 p4 p5 _ hf20) rfl (Qbs (rnc (Qc4 rfl) (rncc (rnc (Qbi rn0 (rnc (Qa1 rfl) (rnc (Qa1 rfl) rn0))) rn0)))) (slc (Qa9 Qaf) (slc (Qas (rnc (Qbi rn0 (rnc (Qa1 rfl) (rnc (Qa1 rfl) rn0))) rn0)) (slc (Qas (rnc (pld Qaf) rn0)) (slc (Qas (rnc (.plain _ nll) rn0)) (slc (Qas (rnc (.plain _ nll) rn0)) Qau))))) (slc (Qa9 Qaf) (slc (Qas (rnc (Qbi rn0 (rnc (Qbb rfl) (rnc (Qbb rfl) rn0))) rn0)) (slc (Qas (rnc (pld Qaf) rn0)) (slc (Qas (rnc (.plain _ nll) rn0)) (slc (Qas (rnc (.plain _ nll) rn0)) Qau))))) (.plain _ (NLt.tup _ nl0)) rfl rfl rfl,tv⟩<|wxz<|wxz1<|bln<|thn ?_
    exact arm (mto (n:=63) [(0,(.own 0 1 (0) p0)),(1,I p1),(2,Qnq),(6,I 20),(7,I y13),(8,(I (w64 (y13+20))))] [0,1,2,3,4] [(.own 1 (x21.map Qad)),(.own 1 [[Qls]]),(Qlr p3),(.own 1 [[I p4]]),(.own 1 [[I p5]])] hφ0 (pc (.rn (Qa2 rfl)) (pw (pc (.rn (Qbi rn0 (rnc (rqr rfl) (rnc (rqr rfl) rn0)))) (pw (pw (pw pn)))))) (qc (spr Qaf) (qb (lc (.rn (Qbi rn0 (rnc (rqr rfl) (rnc (rqr rfl) rn0)))) ln) (qb (lc (rnd Qaf) ln) (qb (lc rwl ln) (qb (lc rwl ln) qn)))))) (ih (y13,w64 (y13+20),x21) h)
   ·exact wfn hc19<|Qbf<|Qaw<|Qaw<|Qbe rfl<|thn<|⟨(y12,y14),h,(mto (n:=63) [(0,(.own 0 1 (0) p0)),(1,I p1),(2,Qnq),(6,I 20),(7,I y12)] [0,1,2,3,4] [(.own 1 (y14.map Qad)),(.own 1 [[Qls]]),(Qlr p3),(.own 1 [[I p4]]),(.own 1 [[I p5]])] hφ0 (pc (.rn (Qa2 rfl)) (pw (pc (.rn (Qbi rn0 (rnc (rqr rfl) (rnc (rqr rfl) rn0)))) (pw (pw pn))))) (qc (spr Qaf) (qb (lc (.rn (Qbi rn0 (rnc (rqr rfl) (rnc (rqr rfl) rn0)))) ln) (qb (lc (rnd Qaf) ln) (qb (lc rwl ln) (qb (lc rwl ln) qn))))))⟩
def Qci (N p0:Nat) (p1 p2:List Int) (p3 p4:Int):Option (List Int):=
  (Qen N p0 ((p0:Nat):Int) p1 p2 p3 p4).bind fun x3=>
  some x3
def Zm6:AV:=.fn (.func 163) [] [(.ref 1 1 (0) 0),(.ref 2 1 (0) 0)]
def Q56:AV:=.fn (.func 159) [] [(.ref 3 1 (0) 0),(.ref 4 1 (0) 0)]
def Q55 (p2:List Int):Slot:=.own 1 [[(.dat 1 (p2.map Qad))]]
theorem Qir (N p0:Nat) (p1 p2:List Int) (p3 p4:Int) (r:List Int) (h:Qci N p0 p1 p2 p3 p4=some r):Spec prog 162 [(.own 0 1 (0) p0),Zm6] [(.own 1 (p1.map Qad)),(.own 1 [[Q56]]),(Q55 p2),(.own 1 [[(I p3)]]),(.own 1 [[(I p4)]])] (.tup []) [(.own 1 (r.map Qad)),(.own 1 [[Q56]]),(Q55 p2),(.own 1 [[(I p3)]]),(.own 1 [[(I p4)]])]:=by
  refine Qan func162 rfl 5 (nle rfl) (fun X φ0 w0 hφ0 hd0=>?_)
  unfold Qci at h
  refine Qbw ?_
  obtain⟨x3,hf2,h⟩:=bno h
  refine wx1 tbk [(2,rp [(.tmp 5,(.own 0 1 (0) p0))] (I (((p0:Nat):Int)))),(4,⟨_,_,_,_,false⟩)] ⟨aln rfl underlying27 rfl,Qav (first:=[]) (cap:=[]) (vs:=[(.own 0 1 (0) p0),(I (((p0:Nat):Int))),Zm6]) (σr:=[(.own 1 (p1.map Qad)),(.own 1 [[Q56]]),(Q55 p2),(.own 1 [[I p3]]),(.own 1 [[I p4]])]) (σr':=[(.own 1 (x3.map Qad)),(.own 1 [[Q56]]),(Q55 p2),(.own 1 [[I p3]]),(.own 1 [[I p4]])]) (res':=(.tup [])) [0,1,2,3,4] rfl Zfo (Qj8 N p0 ((p0:Nat):Int) p1 p2 p3 p4 _ hf2) rfl (Qbs (rnc (Qc4 rfl) (rnc (.plain _ nll) (rnc (Qbi rn0 (rnc (Qa1 rfl) (rnc (Qa1 rfl) rn0))) rn0)))) (slc (Qa9 Qaf) (slc (Qas (rnc (Qbi rn0 (rnc (Qa1 rfl) (rnc (Qa1 rfl) rn0))) rn0)) (slc (Qas (rnc (pld Qaf) rn0)) (slc (Qas (rnc (.plain _ nll) rn0)) (slc (Qas (rnc (.plain _ nll) rn0)) Qau))))) (slc (Qa9 Qaf) (slc (Qas (rnc (Qbi rn0 (rnc (Qbb rfl) (rnc (Qbb rfl) rn0))) rn0)) (slc (Qas (rnc (pld Qaf) rn0)) (slc (Qas (rnc (.plain _ nll) rn0)) (slc (Qas (rnc (.plain _ nll) rn0)) Qau))))) (.plain _ (NLt.tup _ nl0)) rfl rfl rfl,tv⟩ ?_
  obtain rfl:=osi h
  exact⟨_,(mto (n:=9) (l':=[]) (own':=[(.own 1 (x3.map Qad)),(.own 1 [[Q56]]),(Q55 p2),(.own 1 [[I p3]]),(.own 1 [[I p4]])]) [] [0,1,2,3,4] [(.own 1 (x3.map Qad)),(.own 1 [[Q56]]),(Q55 p2),(.own 1 [[I p3]]),(.own 1 [[I p4]])] hφ0 pn (qc (spr Qaf) (qb (lc (.rn (Qbi rn0 (rnc (rqr rfl) (rnc (rqr rfl) rn0)))) ln) (qb (lc (rnd Qaf) ln) (qb (lc rwl ln) (qb (lc rwl ln) qn)))))),Qc1 (vs:=[]) tv rfl (NLt.tup _ nl0) (by kernel_rfl) (Qao (Qb0 Qaf _) (Qao (Qax (nlc (NLt.fn _ _ _ nl0 (nlc (NLt.ref _ _ _ _ (by decide)) (nlc (NLt.ref _ _ _ _ (by decide)) nl0))) nl0)) (Qao (Qax (nlc (NLt.of0 (nld Qaf _)) nl0)) (Qao (Qax (nlc (NLt.of0 nll) nl0)) (Qao (Qax (nlc (NLt.of0 nll) nl0)) Qbq)))))⟩
def Qcy (N:Nat) (p0:List Int) (k4:(List Int)→Option (List Int)):Nat→Int→(List Int)→Option (List Int)
  |0,_,_=>none
  |n13+1,y9,y10=>
    bif (decide (y9<(p0.length:Int))) then
     chk (decide ((y10.length+([y9]).length)*8≤140737488355328))<|
     Qcy N p0 k4 n13 (w64 (y9+1)) (y10++([y9]))
    else
     k4 (y10)
def Qf9 (N:Nat) (p0:List Int) (p1 p2:Int):Option (List Int):=
  Qbl (fun y3=>
    chk (!y3.isEmpty)<|
    (Qci N y3.length y3 p0 p1 p2).bind fun x7=>
    chk (decide (y3.length≤x7.length))<|
    some (x7.take y3.length)) fun k4:(List Int)→Option (List Int)=>
  Qcy N p0 k4 N 0 ([]:List Int)
def Qsk:AV:=.fn (.func 159) [] [(.ref 0 1 (0) 0),(.ref 1 1 (0) 0)]
def Qtb (p0:List Int):Slot:=.own 1 [[(.dat 1 (p0.map Qad))]]
def Zd7:AV:=.fn (.func 163) [] [(.ref 3 1 (0) 0),(.ref 2 1 (0) 0)]
def Q3k (x7 y3:List Int):AV:=.dat 1 ((x7.take y3.length:List Int).map Qad)
def Zm7:Slot:=.gro 1 ((([]:List Int):List Int).map Qad)
theorem Qnl (N:Nat) (p0:List Int) (p1 p2:Int) (r:List Int) (h:Qf9 N p0 p1 p2=some r):Spec prog 158 [(.dat 1 (p0.map Qad)),Qsk] [(.own 1 [[(I p1)]]),(.own 1 [[(I p2)]])] (.dat 1 (r.map Qad)) [(.own 1 [[(I p1)]]),(.own 1 [[(I p2)]])]:=by
  refine Qan func158 rfl 2 (nle rfl) (fun X φ0 w0 hφ0 hd0=>?_)
  unfold Qf9 at h
  refine Qbw<|wxz<|wxz ?_
  obtain⟨k4,hk_k4,h⟩:=jko h
  refine wjn (τ:=(List Int)) (fun t=>k4 t=some r) (fun y3=>⟨mk 21 [(2,.ref 2 1 0 0),(3,.ref 3 1 0 0),(5,(.gro 4 3 1 y3.length))],[(.own 1 [[I p1]]),(.own 1 [[I p2]]),(Qtb p0),(.own 1 [[Qsk]]),(.gro 1 (y3.map Qad))]⟩) (fun y3 h=>?_) ?_
  ·subst hk_k4
   obtain⟨hz5,h⟩:=cko h
   obtain⟨x7,hf6,h⟩:=bno h
   refine wx tbk [(1,rp [(.tmp 3,.ref 3 1 0 0),(.tmp 2,.ref 2 1 0 0)] Zd7),(2,⟨[fu 162,(.tmp 17,(.gro 4 3 1 y3.length)),(.tmp 18,Zd7)],[(4,(.gro 1 (y3.map Qad))),(3,.own 1 [[Qsk]]),(2,(Qtb p0)),(0,.own 1 [[I p1]]),(1,.own 1 [[I p2]])],(.tup []),[(4,(.own 1 (x7.map Qad))),(3,.own 1 [[Qsk]]),(2,(Qtb p0)),(0,.own 1 [[I p1]]),(1,.own 1 [[I p2]])],false⟩)] ⟨Qfq (fs:=[]) (cs:=[.ref 3 1 0 0,.ref 2 1 0 0]) rfl rfl rfl rfl,Q2u (bl':=[(4,(.own 1 (y3.map Qad))),(3,.own 1 [[Qsk]]),(2,(Qtb p0)),(0,.own 1 [[I p1]]),(1,.own 1 [[I p2]])]) ⟨rfl,SLess.gro (Qhi hz5),rfl,SLess.rfl,rfl,SLess.rfl,rfl,SLess.rfl,rfl,SLess.rfl,tv⟩ (awk (rd':=[fu 162,(.tmp 17,(.own 4 1 (0) y3.length)),(.tmp 18,Zd7)]) ⟨rfl,lrf,rfl,Less.gro,rfl,lrf,tv⟩ (Qav (first:=[]) (cap:=[]) (vs:=[(.own 4 1 (0) y3.length),Zd7]) (σr:=[(.own 1 (y3.map Qad)),(.own 1 [[Qsk]]),(Qtb p0),(.own 1 [[I p1]]),(.own 1 [[I p2]])]) (σr':=[(.own 1 (x7.map Qad)),(.own 1 [[Qsk]]),(Qtb p0),(.own 1 [[I p1]]),(.own 1 [[I p2]])]) (res':=(.tup [])) [4,3,2,0,1] rfl Zfq (Qir N y3.length y3 p0 p1 p2 _ hf6) rfl (Qbs (rnc (Qc4 rfl) (rnc (Qbi rn0 (rnc (Qa1 rfl) (rnc (Qa1 rfl) rn0))) rn0))) (slc (Qa9 Qaf) (slc (Qas (rnc (Qbi rn0 (rnc (Qa1 rfl) (rnc (Qa1 rfl) rn0))) rn0)) (slc (Qas (rnc (pld Qaf) rn0)) (slc (Qas (rnc (.plain _ nll) rn0)) (slc (Qas (rnc (.plain _ nll) rn0)) Qau))))) (slc (Qa9 Qaf) (slc (Qas (rnc (Qbi rn0 (rnc (Qbb rfl) (rnc (Qbb rfl) rn0))) rn0)) (slc (Qas (rnc (pld Qaf) rn0)) (slc (Qas (rnc (.plain _ nll) rn0)) (slc (Qas (rnc (.plain _ nll) rn0)) Qau))))) (.plain _ (NLt.tup _ nl0)) rfl rfl rfl)),tv⟩<|wxz ?_
   obtain⟨hz8,h⟩:=cko h
   refine wmr (Zff (n:=21) (l':=[(4,(.own 4 1 (0) y3.length))]) [(4,(.gro 4 3 1 y3.length))] (by kernel_rfl) (by kernel_rfl) ⟨rfl,Less.gro,tv⟩) ?_
   refine wmr (Ziz (n:=21) (l':=[(4,(Q3k x7 y3))]) 4 [(4,(.own 4 1 (0) y3.length))] (by kernel_rfl) (by kernel_rfl) (by kernel_rfl) ⟨rfl,(Qmc hz8),tv⟩ rfl) ?_
   refine wmr (mto (n:=21) (l':=[(4,(Q3k x7 y3))]) (own':=[(.own 1 [[I p1]]),(.own 1 [[I p2]])]) [(4,(Q3k x7 y3))] [0,1] [(.own 1 [[I p1]]),(.own 1 [[I p2]])] hφ0 (pc (rnd Qaf) pn) (qb (lc rwl ln) (qb (lc rwl ln) qn)))<|Qaj ?_
   obtain rfl:=osi h
   exact⟨_,Mor.rfl,Qc1 (vs:=[(Q3k x7 y3)]) ⟨rot,tv⟩ rfl (NLt.of0 (nld Qaf _)) (by kernel_rfl) (Qao (Qax (nlc (NLt.of0 nll) nl0)) (Qao (Qax (nlc (NLt.of0 nll) nl0)) Qbq))⟩
  ·skip
   refine wx tbk [(1,rp _ _)] ⟨alq 1 Qad p0 underlying27,tv⟩<|Qar ?_
   refine wmr (Mor.trans (Zfe 4 3 1 5 (by kernel_rfl) (by kernel_rfl)) (mto (n:=21) (l':=[(2,.ref 2 1 0 0),(3,.ref 3 1 0 0),(5,(.gro 4 3 1 (([]:List Int).length))),(8,(I ((p0.length:Int)))),(9,I 0)]) (own':=[(.own 1 [[I p1]]),(.own 1 [[I p2]]),(Qtb p0),(.own 1 [[Qsk]]),Zm7]) [(2,.ref 2 1 0 0),(3,.ref 3 1 0 0),(5,(.gro 4 3 1 (([]:List Int).length))),(8,(I ((p0.length:Int)))),(9,I 0)] [0,1,2,3,4] [(.own 1 [[I p1]]),(.own 1 [[I p2]]),(Qtb p0),(.own 1 [[Qsk]]),Zm7] hφ0 (prr (prr (pc (.rn (Q1z rfl)) (pw (pw pn))))) (qb (lc rwl ln) (qb (lc rwl ln) (qb (lc (rnd Qaf) ln) (qb (lc (.rn (Qbi rn0 (rnc (rqr rfl) (rnc (rqr rfl) rn0)))) ln) (qc (Qxo Qaf) qn))))))) ?_
   refine Qbt (τ:=Int×(List Int)) (fun n t=>Qcy N p0 k4 n t.1 t.2=some r) (fun ⟨y9,y10⟩=>⟨mk 21 [(2,.ref 2 1 0 0),(3,.ref 3 1 0 0),(5,(.gro 4 3 1 y10.length)),(8,(I ((p0.length:Int)))),(9,I y9)],[(.own 1 [[I p1]]),(.own 1 [[I p2]]),(Qtb p0),(.own 1 [[Qsk]]),(.gro 1 (y10.map Qad))]⟩) (fun t h=>by rw[Qcy] at h;cases h) (fun n13 ih t h=>?_) N (0,([]:List Int)) h
   obtain⟨y9,y10⟩:=t
   rw[Qcy] at h
   skip
   refine wxz<|wsq ?_
   refine bfe h (fun hc14 h=>?_) fun hc14 h=>?_
   ·refine wft hc14<|Qap<|thn<|wsq<|Qar<|wxz ?_
    obtain⟨ha15,h⟩:=cko h
    refine wx1 tbk [(2,rp [(.tmp 13,I y9)] (.dat 1 (([y9]:List Int).map Qad))),(3,⟨[(.tmp 12,(.gro 4 3 1 y10.length)),(.tmp 14,(.dat 1 (([y9]:List Int).map Qad)))],[(4,(.gro 1 (y10.map Qad))),(5,.unused)],(.gro 5 3 1 ((y10++([y9])).length)),[(4,.dead),(5,(.gro 1 ((y10++([y9]):List Int).map Qad)))],false⟩)] ?_ ?_
    ·exact⟨Qbz (vs:=[I y9]) rfl underlying27 ti3 tz3 rfl (by decide) rfl (by decide) (by rfl) (by rfl) (by rfl) rfl,Q20 (c:=Qad) (a:=y10) (b:=[y9]) rfl underlying27 te3 rfl (Qhi rfl) (by rfl) ha15 (by decide),tv⟩
    exact bln<|thn<|wxz1<|thn<|arm (mto (n:=21) [(2,.ref 2 1 0 0),(3,.ref 3 1 0 0),(5,(.gro 5 3 1 ((y10++([y9])).length))),(8,(I ((p0.length:Int)))),(9,(I (w64 (y9+1))))] [0,1,2,3,5] [(.own 1 [[I p1]]),(.own 1 [[I p2]]),(Qtb p0),(.own 1 [[Qsk]]),(.gro 1 ((y10++([y9]):List Int).map Qad))] hφ0 (prr (prr (pc (.rn (Q1z rfl)) (pw (pw pn))))) (qb (lc rwl ln) (qb (lc rwl ln) (qb (lc (rnd Qaf) ln) (qb (lc (.rn (Qbi rn0 (rnc (rqr rfl) (rnc (rqr rfl) rn0)))) ln) (qc (Qxo Qaf) qn)))))) (ih (w64 (y9+1),y10++([y9])) h)
   ·exact wfn hc14<|Qbf<|Qaw<|Qaw<|Qbe rfl<|thn<|⟨(y10),h,(mto (n:=21) [(2,.ref 2 1 0 0),(3,.ref 3 1 0 0),(5,(.gro 4 3 1 y10.length))] [0,1,2,3,4] [(.own 1 [[I p1]]),(.own 1 [[I p2]]),(Qtb p0),(.own 1 [[Qsk]]),(.gro 1 (y10.map Qad))] hφ0 (prr (prr (pc (.rn (Q1z rfl)) pn))) (qb (lc rwl ln) (qb (lc rwl ln) (qb (lc (rnd Qaf) ln) (qb (lc (.rn (Qbi rn0 (rnc (rqr rfl) (rnc (rqr rfl) rn0)))) ln) (qc (Qxo Qaf) qn))))))⟩
def Qec (N:Nat) (p1:List Int) (y6:Int) (k10:(List Int)→Option (List Int)) (x13:List Int):Nat→Int→(List Int)→Option (List Int)
  |0,_,_=>none
  |n19+1,y15,y16=>
    bif (decide (y15<(((x13).take (y6.toNat-0)).length:Int))) then
     (getI ((x13).take (y6.toNat-0)) y15).bind fun x21=>
     chk (decide (0≤x21)&&decide (x21.toNat<(p1.length:Int).toNat))<|
     (y16[x21.toNat]?).bind fun x26=>
     chk (decide (0≤x21)&&decide (x21.toNat<(p1.length:Int).toNat))<|
     (y16[x21.toNat]?).bind fun _=>
     Qec N p1 y6 k10 x13 n19 (w64 (y15+1)) (y16.set x21.toNat (w64 (x26+1)))
    else
     k10 (y16)
def Qeb (N:Nat) (p0:Int) (p1:List Int) (y3:Int) (k8:Int×(List Int)→Option (List Int)):Nat→Int→Int→(List Int)→Option (List Int)
  |0,_,_,_=>none
  |n37+1,y31,y32,y33=>
    bif (decide (y32<(p1.length:Int))) then
     (getI p1 y32).bind fun x39=>
     chk (y3 != 0)<|
     chk (decide (0≤y32)&&decide (y32.toNat<(p1.length:Int).toNat))<|
     (y33[y32.toNat]?).bind fun _=>
     chk (decide (0≤y32)&&decide (y32.toNat<(p1.length:Int).toNat))<|
     ((y33.set y32.toNat (w64 ((w64 (p0*x39)).tdiv y3)))[y32.toNat]?).bind fun x48=>
     Qeb N p0 p1 y3 k8 n37 (w64 (y31-x48)) (w64 (y32+1)) (y33.set y32.toNat (w64 ((w64 (p0*x39)).tdiv y3)))
    else
     k8 (y31,y33)
def Qea (N:Nat) (p1:List Int) (k4:Int→Option (List Int)):Nat→Int→Int→Option (List Int)
  |0,_,_=>none
  |n54+1,y50,y51=>
    bif (decide (y50<(p1.length:Int))) then
     (getI p1 y50).bind fun x56=>
     Qea N p1 k4 n54 (w64 (y50+1)) (w64 (y51+x56))
    else
     k4 (y51)
def Qi5 (N:Nat) (p0:Int) (p1:List Int):Option (List Int):=
  Qbl (fun y3=>
    chk (decide (0≤(p1.length:Int))&&decide (8*(p1.length:Int)≤281474976710656)&&decide ((p1.length:Int)≤9223372036854775807))<|
    Qbl (fun ⟨y6,y7⟩=>
      Qbl (fun y9=>
        chk (decide ((p1.length:Int).toNat≤y9.length))<|
        some (y9.take ((p1.length:Int).toNat))) fun k10:(List Int)→Option (List Int)=>
      (Qf9 N p1 p0 y3).bind fun x13=>
      chk (decide (0≤0)&&decide (0≤y6)&&decide (y6≤(x13.length:Int)))<|
      Qec N p1 y6 k10 x13 N 0 y7) fun k8:Int×(List Int)→Option (List Int)=>
    Qeb N p0 p1 y3 k8 N p0 0 (List.replicate (p1.length:Int).toNat 0)) fun k4:Int→Option (List Int)=>
  Qea N p1 k4 N 0 0
def Zm8 (p1:List Int):Slot:=.own 1 ((List.replicate (p1.length:Int).toNat 0:List Int).map Qad)
def Q3m (y9 p1:List Int):AV:=.dat 1 ((y9.take ((p1.length:Int).toNat):List Int).map Qad)
def Zh5:AV:=.fn (.func 159) [] [(.ref 0 1 (0) 0),(.ref 1 1 (0) 0)]
def Qy0 (x13:List Int) (y6:Int):AV:=.dat 1 (((x13).take (y6.toNat-0):List Int).map Qad)
def Q3l (y33:List Int) (y32 p0:Int) (x39 y3:Int):Slot:=.own 1 ((y33.set y32.toNat (w64 ((w64 (p0*x39)).tdiv y3)):List Int).map Qad)
theorem Qsq (N:Nat) (p0:Int) (p1 r:List Int) (h:Qi5 N p0 p1=some r):Spec prog 153 [(I p0),(.dat 1 (p1.map Qad))] [] (.dat 1 (r.map Qad)) []:=by
  refine Qan func153 rfl 0 (nle rfl) (fun X φ0 w0 hφ0 hd0=>?_)
  unfold Qi5 at h
  refine Qbw<|wxz<|wxz ?_
  obtain⟨k4,hk_k4,h⟩:=jko h
  refine wjn (τ:=Int) (fun t=>k4 t=some r) (fun y3=>⟨mk 68 [(1,(.dat 1 (p1.map Qad))),(2,.ref 0 1 0 0),(5,.ref 1 1 0 0)],[(.own 1 [[I p0]]),(.own 1 [[I y3]])]⟩) (fun y3 h=>?_) ?_
  ·subst hk_k4
   obtain⟨hm5,h⟩:=cko h
   refine wxd tbk [(1,rp _ _),(2,⟨[(.tmp 25,(I ((p1.length:Int)))),(.tmp 25,(I ((p1.length:Int))))],[(2,.unused)],(.own 2 1 (0) ((p1.length:Int).toNat)),[(2,(Zm8 p1))],false⟩)] ⟨alq 1 Qad p1 underlying27,Qor rfl underlying27 te3 tz3 rfl (Q22 hm5) rfl (Q21 hm5) (Q5x hm5) (Q12 Qad rfl),tv⟩ ?_
   obtain⟨k8,hk_k8,h⟩:=jko h
   refine wjn (τ:=Int×(List Int)) (fun t=>k8 t=some r) (fun ⟨y6,y7⟩=>⟨mk 68 [(1,(.dat 1 (p1.map Qad))),(2,.ref 0 1 0 0),(5,.ref 1 1 0 0),(8,(.own 2 1 (0) ((p1.length:Int).toNat))),(9,I y6)],[(.own 1 [[I p0]]),(.own 1 [[I y3]]),(.own 1 (y7.map Qad))]⟩) (fun t h=>?_) ?_
   ·subst hk_k8
    obtain⟨y6,y7⟩:=t
    obtain⟨k10,hk_k10,h⟩:=jko h
    refine wjn (τ:=(List Int)) (fun t=>k10 t=some r) (fun y9=>⟨mk 68 [(8,(.own 0 1 (0) ((p1.length:Int).toNat)))],[(.own 1 (y9.map Qad))]⟩) (fun y9 h=>?_) ?_
    ·subst hk_k10
     refine wxz ?_
     obtain⟨hz11,h⟩:=cko h
     refine wmr (Ziz (n:=68) (l':=[(4,(Q3m y9 p1))]) 0 [(4,(.own 0 1 (0) ((p1.length:Int).toNat)))] (by kernel_rfl) (by kernel_rfl) (by kernel_rfl) ⟨rfl,(Qmc hz11),tv⟩ rfl) ?_
     refine wmr (mto (n:=68) (l':=[(4,(Q3m y9 p1))]) (own':=[]) [(4,(Q3m y9 p1))] [] [] hφ0 (pc (rnd Qaf) pn) qn)<|Qaj ?_
     obtain rfl:=osi h
     exact⟨_,Mor.rfl,Qc1 (vs:=[(Q3m y9 p1)]) ⟨rot,tv⟩ rfl (nld Qaf _) (by kernel_rfl) Qbq⟩
    ·skip
     obtain⟨x13,hf12,h⟩:=bno h
     obtain⟨hs14,h⟩:=cko h
     refine wx tbk [(1,rp [(.tmp 2,.ref 0 1 0 0),(.tmp 5,.ref 1 1 0 0)] Zh5),(2,⟨_,_,_,_,false⟩),(4,rp [(.tmp 52,(.dat 1 (x13.map Qad))),(.tmp 53,I y6)] (Qy0 x13 y6)),(5,rp _ _)] ⟨Qfq (fs:=[]) (cs:=[.ref 0 1 0 0,.ref 1 1 0 0]) rfl rfl rfl rfl,Qav (first:=[]) (cap:=[]) (vs:=[(.dat 1 (p1.map Qad)),Zh5]) (σr:=[(.own 1 [[I p0]]),(.own 1 [[I y3]])]) (σr':=[(.own 1 [[I p0]]),(.own 1 [[I y3]])]) (res':=(.dat 1 (x13.map Qad))) [0,1] rfl Zfs (Qnl N p1 p0 y3 _ hf12) rfl (Qbs (rnc (pld Qaf) (rnc (Qbi rn0 (rnc (Qa1 rfl) (rnc (Qa1 rfl) rn0))) rn0))) (slc (Qas (rnc (.plain _ nll) rn0)) (slc (Qas (rnc (.plain _ nll) rn0)) Qau)) (slc (Qas (rnc (.plain _ nll) rn0)) (slc (Qas (rnc (.plain _ nll) rn0)) Qau)) (pld Qaf) rfl rfl rfl,Qoe (k:=.i64) (k':=.i64) (lo:=none) (hi:=some (.tmp 53)) (l:=0) (hh:=y6) rfl underlying27 ti3 rfl (fun _=>rfl) (fun e=>nomatch e) (Q22 hs14) (Q21 hs14) (Zme Qad hs14) (Zqs Qad),alq 1 Qad ((x13).take (y6.toNat-0)) underlying27,tv⟩<|Qar ?_
     refine wmr (mto (n:=68) (l':=[(8,(.own 0 1 (0) ((p1.length:Int).toNat))),(54,(Qy0 x13 y6)),(55,(I ((((x13).take (y6.toNat-0)).length:Int)))),(56,I 0)]) (own':=[(.own 1 (y7.map Qad))]) [(8,(.own 2 1 (0) ((p1.length:Int).toNat))),(54,(Qy0 x13 y6)),(55,(I ((((x13).take (y6.toNat-0)).length:Int)))),(56,I 0)] [2] [(.own 1 (y7.map Qad))] hφ0 (pc (.rn (Qa2 rfl)) (pc (rnd Qaf) (pw (pw pn)))) (qc (spr Qaf) qn)) ?_
     refine Qbt (τ:=Int×(List Int)) (fun n t=>Qec N p1 y6 k10 x13 n t.1 t.2=some r) (fun ⟨y15,y16⟩=>⟨mk 68 [(8,(.own 0 1 (0) ((p1.length:Int).toNat))),(54,(Qy0 x13 y6)),(55,(I ((((x13).take (y6.toNat-0)).length:Int)))),(56,I y15)],[(.own 1 (y16.map Qad))]⟩) (fun t h=>by rw[Qec] at h;cases h) (fun n19 ih t h=>?_) N (0,y7) h
     obtain⟨y15,y16⟩:=t
     rw[Qec] at h
     skip
     refine wxz<|wsq ?_
     refine bfe h (fun hc20 h=>?_) fun hc20 h=>?_
     ·refine wft hc20<|Qap<|thn<|wsq<|Qar ?_
      obtain⟨x21,hg22,h⟩:=bno h
      obtain⟨hi23,hj24⟩:=gsm hg22
      refine wx tbk [(0,rp _ _)] ⟨aiq underlying27 ti3 Qad hi23 hj24,tv⟩ ?_
      obtain⟨hi25,h⟩:=cko h
      obtain⟨hi25a,hi25b⟩:=Qdv hi25
      obtain⟨x26,hg27,h⟩:=bno h
      obtain⟨hi28,h⟩:=cko h
      obtain⟨hi28a,hi28b⟩:=Qdv hi28
      obtain⟨x29,hg30,h⟩:=bno h
      refine wx1 tbk [(2,rb [(.tmp 60,(.own 0 1 (0) ((p1.length:Int).toNat))),(.tmp 61,I x21)] [(0,(.own 1 (y16.map Qad)))] (.ref 0 1 x21.toNat 0)),(3,rb [(.tmp 62,(.ref 0 1 x21.toNat 0))] [(0,(.own 1 (y16.map Qad)))] (I x26)),(5,rb [(.tmp 60,(.own 0 1 (0) ((p1.length:Int).toNat))),(.tmp 61,I x21)] [(0,(.own 1 (y16.map Qad)))] (.ref 0 1 x21.toNat 0)),(6,⟨[(.tmp 65,(.ref 0 1 x21.toNat 0)),(.tmp 64,(I (w64 (x26+1))))],[(0,(.own 1 (y16.map Qad)))],.any,[(0,(.own 1 ((y16.set x21.toNat (w64 (x26+1)):List Int).map Qad)))],false⟩)] ⟨aio rfl underlying27 ti3 (odt hi25a) (odt hi25b) (Nat.zero_add _),ald rfl ti3 (by decide) (mgt Qad hg27) (nle rfl) rfl,aio rfl underlying27 ti3 (odt hi28a) (odt hi28b) (Nat.zero_add _),ast rfl ti3 (by rfl) (mgt Qad hg30) (nle rfl) (Qf0 Qad rfl),tv⟩<|bln<|thn<|wxz1<|thn ?_
      exact arm (mto (n:=68) [(8,(.own 0 1 (0) ((p1.length:Int).toNat))),(54,(Qy0 x13 y6)),(55,(I ((((x13).take (y6.toNat-0)).length:Int)))),(56,(I (w64 (y15+1))))] [0] [(.own 1 ((y16.set x21.toNat (w64 (x26+1)):List Int).map Qad))] hφ0 (pc (.rn (Qa2 rfl)) (pc (rnd Qaf) (pw (pw pn)))) (qc (spr Qaf) qn)) (ih (w64 (y15+1),y16.set x21.toNat (w64 (x26+1))) h)
     ·exact wfn hc20<|Qbf<|Qaw<|Qaw<|Qbe rfl<|thn<|⟨(y16),h,(mto (n:=68) [(8,(.own 0 1 (0) ((p1.length:Int).toNat)))] [0] [(.own 1 (y16.map Qad))] hφ0 (pc (.rn (Qa2 rfl)) pn) (qc (spr Qaf) qn))⟩
   ·skip
    refine wx tbk [(1,rp _ _)] ⟨alq 1 Qad p1 underlying27,tv⟩<|Qar ?_
    refine wmr (mto (n:=68) (l':=[(1,(.dat 1 (p1.map Qad))),(2,.ref 0 1 0 0),(5,.ref 1 1 0 0),(8,(.own 2 1 (0) ((p1.length:Int).toNat))),(9,I p0),(28,(.dat 1 (p1.map Qad))),(29,(I ((p1.length:Int)))),(30,I 0)]) (own':=[(.own 1 [[I p0]]),(.own 1 [[I y3]]),(.own 1 (((List.replicate (p1.length:Int).toNat 0):List Int).map Qad))]) [(1,(.dat 1 (p1.map Qad))),(2,.ref 0 1 0 0),(5,.ref 1 1 0 0),(8,(.own 2 1 (0) ((p1.length:Int).toNat))),(9,I p0),(28,(.dat 1 (p1.map Qad))),(29,(I ((p1.length:Int)))),(30,I 0)] [0,1,2] [(.own 1 [[I p0]]),(.own 1 [[I y3]]),(Zm8 p1)] hφ0 (pc (rnd Qaf) (prr (prr (pc (.rn (Qa2 rfl)) (pw (pc (rnd Qaf) (pw (pw pn)))))))) (qb (lc rwl ln) (qb (lc rwl ln) (qc (spr Qaf) qn)))) ?_
    refine Qbt (τ:=Int×Int×(List Int)) (fun n t=>Qeb N p0 p1 y3 k8 n t.1 t.2.1 t.2.2=some r) (fun ⟨y31,y32,y33⟩=>⟨mk 68 [(1,(.dat 1 (p1.map Qad))),(2,.ref 0 1 0 0),(5,.ref 1 1 0 0),(8,(.own 2 1 (0) ((p1.length:Int).toNat))),(9,I y31),(28,(.dat 1 (p1.map Qad))),(29,(I ((p1.length:Int)))),(30,I y32)],[(.own 1 [[I p0]]),(.own 1 [[I y3]]),(.own 1 (y33.map Qad))]⟩) (fun t h=>by rw[Qeb] at h;cases h) (fun n37 ih t h=>?_) N (p0,0,List.replicate (p1.length:Int).toNat 0) h
    obtain⟨y31,y32,y33⟩:=t
    rw[Qeb] at h
    skip
    refine wxz<|wsq ?_
    refine bfe h (fun hc38 h=>?_) fun hc38 h=>?_
    ·refine wft hc38<|Qap<|thn<|wsq<|Qar ?_
     obtain⟨x39,hg40,h⟩:=bno h
     obtain⟨hi41,hj42⟩:=gsm hg40
     refine wx tbk [(1,rp _ _)] ⟨aiq underlying27 ti3 Qad hi41 hj42,tv⟩ ?_
     obtain⟨hz43,h⟩:=cko h
     obtain⟨hi44,h⟩:=cko h
     obtain⟨hi44a,hi44b⟩:=Qdv hi44
     obtain⟨x45,hg46,h⟩:=bno h
     refine wx tbk [(6,rp [(.tmp 39,(I (w64 (p0*x39)))),(.tmp 40,I y3)] (I (w64 ((w64 (p0*x39)).tdiv y3)))),(7,rb [(.tmp 35,(.own 2 1 (0) ((p1.length:Int).toNat))),(.tmp 36,I y32)] [(2,(.own 1 (y33.map Qad)))] (.ref 2 1 y32.toNat 0)),(8,⟨[(.tmp 42,(.ref 2 1 y32.toNat 0)),(.tmp 41,(I (w64 ((w64 (p0*x39)).tdiv y3))))],[(2,(.own 1 (y33.map Qad)))],.any,[(2,(Q3l y33 y32 p0 x39 y3))],false⟩)] ⟨Qq8 rfl (Qu7 hz43),aio rfl underlying27 ti3 (odt hi44a) (odt hi44b) (Nat.zero_add _),ast rfl ti3 (by rfl) (mgt Qad hg46) (nle rfl) (Qf0 Qad rfl),tv⟩ ?_
     obtain⟨hi47,h⟩:=cko h
     obtain⟨hi47a,hi47b⟩:=Qdv hi47
     obtain⟨x48,hg49,h⟩:=bno h
     refine wx1 tbk [(3,rb [(.tmp 44,(.own 2 1 (0) ((p1.length:Int).toNat))),(.tmp 45,I y32)] [(2,(Q3l y33 y32 p0 x39 y3))] (.ref 2 1 y32.toNat 0)),(4,rb [(.tmp 46,(.ref 2 1 y32.toNat 0))] [(2,(Q3l y33 y32 p0 x39 y3))] (I x48))] ⟨aio rfl underlying27 ti3 (odt hi47a) (odt hi47b) (Nat.zero_add _),ald rfl ti3 (by decide) (mgt Qad hg49) (nle rfl) rfl,tv⟩<|bln<|thn<|wxz1<|thn ?_
     exact arm (mto (n:=68) [(1,(.dat 1 (p1.map Qad))),(2,.ref 0 1 0 0),(5,.ref 1 1 0 0),(8,(.own 2 1 (0) ((p1.length:Int).toNat))),(9,(I (w64 (y31-x48)))),(28,(.dat 1 (p1.map Qad))),(29,(I ((p1.length:Int)))),(30,(I (w64 (y32+1))))] [0,1,2] [(.own 1 [[I p0]]),(.own 1 [[I y3]]),(Q3l y33 y32 p0 x39 y3)] hφ0 (pc (rnd Qaf) (prr (prr (pc (.rn (Qa2 rfl)) (pw (pc (rnd Qaf) (pw (pw pn)))))))) (qb (lc rwl ln) (qb (lc rwl ln) (qc (spr Qaf) qn)))) (ih (w64 (y31-x48),w64 (y32+1),y33.set y32.toNat (w64 ((w64 (p0*x39)).tdiv y3))) h)
    ·exact wfn hc38<|Qbf<|Qaw<|Qaw<|Qbe rfl<|thn<|⟨(y31,y33),h,(mto (n:=68) [(1,(.dat 1 (p1.map Qad))),(2,.ref 0 1 0 0),(5,.ref 1 1 0 0),(8,(.own 2 1 (0) ((p1.length:Int).toNat))),(9,I y31)] [0,1,2] [(.own 1 [[I p0]]),(.own 1 [[I y3]]),(.own 1 (y33.map Qad))] hφ0 (pc (rnd Qaf) (prr (prr (pc (.rn (Qa2 rfl)) (pw pn))))) (qb (lc rwl ln) (qb (lc rwl ln) (qc (spr Qaf) qn))))⟩
  ·skip
   refine wx tbk [(1,rp _ _)] ⟨alq 1 Qad p1 underlying27,tv⟩<|Qar ?_
   refine wmr (mto (n:=68) (l':=[(1,(.dat 1 (p1.map Qad))),(2,.ref 0 1 0 0),(5,.ref 1 1 0 0),(14,(.dat 1 (p1.map Qad))),(15,(I ((p1.length:Int)))),(16,I 0)]) (own':=[(.own 1 [[I p0]]),(.own 1 [[I 0]])]) [(1,(.dat 1 (p1.map Qad))),(2,.ref 0 1 0 0),(5,.ref 1 1 0 0),(14,(.dat 1 (p1.map Qad))),(15,(I ((p1.length:Int)))),(16,I 0)] [0,1] [(.own 1 [[I p0]]),(.own 1 [[I 0]])] hφ0 (pc (rnd Qaf) (prr (prr (pc (rnd Qaf) (pw (pw pn)))))) (qb (lc rwl ln) (qb (lc rwl ln) qn))) ?_
   refine Qbt (τ:=Int×Int) (fun n t=>Qea N p1 k4 n t.1 t.2=some r) (fun ⟨y50,y51⟩=>⟨mk 68 [(1,(.dat 1 (p1.map Qad))),(2,.ref 0 1 0 0),(5,.ref 1 1 0 0),(14,(.dat 1 (p1.map Qad))),(15,(I ((p1.length:Int)))),(16,I y50)],[(.own 1 [[I p0]]),(.own 1 [[I y51]])]⟩) (fun t h=>by rw[Qea] at h;cases h) (fun n54 ih t h=>?_) N (0,0) h
   obtain⟨y50,y51⟩:=t
   rw[Qea] at h
   skip
   refine wxz<|wsq ?_
   refine bfe h (fun hc55 h=>?_) fun hc55 h=>?_
   ·refine wft hc55<|Qap<|thn<|wsq<|Qar ?_
    obtain⟨x56,hg57,h⟩:=bno h
    obtain⟨hi58,hj59⟩:=gsm hg57
    exact wx tbk [(0,rp _ _)] ⟨aiq underlying27 ti3 Qad hi58 hj59,tv⟩<|wxz1<|bln<|thn<|wxz1<|thn<|arm (mto (n:=68) [(1,(.dat 1 (p1.map Qad))),(2,.ref 0 1 0 0),(5,.ref 1 1 0 0),(14,(.dat 1 (p1.map Qad))),(15,(I ((p1.length:Int)))),(16,(I (w64 (y50+1))))] [0,1] [(.own 1 [[I p0]]),(.own 1 [[(I (w64 (y51+x56)))]])] hφ0 (pc (rnd Qaf) (prr (prr (pc (rnd Qaf) (pw (pw pn)))))) (qb (lc rwl ln) (qb (lc rwl ln) qn))) (ih (w64 (y50+1),w64 (y51+x56)) h)
   ·exact wfn hc55<|Qbf<|Qaw<|Qaw<|Qbe rfl<|thn<|⟨(y51),h,(mto (n:=68) [(1,(.dat 1 (p1.map Qad))),(2,.ref 0 1 0 0),(5,.ref 1 1 0 0)] [0,1] [(.own 1 [[I p0]]),(.own 1 [[I y51]])] hφ0 (pc (rnd Qaf) (prr (prr pn))) (qb (lc rwl ln) (qb (lc rwl ln) qn)))⟩
def Qfs (_N:Nat) (p0 p1:Int) (p2 _p3:Int) (_p4 _p5:Int):Option Int:=
  chk ((if p2>1 then p2 else 1) != 0)<|
  (some (w64 ((w64 (p0*p1)).tdiv (if p2>1 then p2 else 1)))).bind fun x2=>
  some x2
theorem Qiq (N:Nat) (p0 p1:Int) (p2 p3:Int) (p4 p5 r:Int) (h:Qfs N p0 p1 p2 p3 p4 p5=some r):Spec prog 154 [(I p0),(.dptr [(I p1)] 0),(.dptr [(I p2),(I p3),(I p4),(I p5)] 0)] [] (I r) []:=by
  refine Qan func154 rfl 0 (nle rfl) (fun X φ0 w0 hφ0 hd0=>?_)
  unfold Qfs at h
  refine wxz ?_
  obtain⟨hz1,h⟩:=cko h
  obtain⟨x2,hl3,h⟩:=bno h
  refine wx tbk [(5,rp [ci 1,(.tmp 9,I p2)] (I ((if p2>1 then p2 else 1)))),(6,rp [(.tmp 7,(I (w64 (p0*p1)))),(.tmp 10,(I ((if p2>1 then p2 else 1))))] (I (w64 ((w64 (p0*p1)).tdiv (if p2>1 then p2 else 1))))),(7,rp [(.tmp 11,(I (w64 ((w64 (p0*p1)).tdiv (if p2>1 then p2 else 1)))))] (I x2))] ⟨Qof rfl,Qq8 rfl (Qu7 hz1),Qkz hl3 (aas rfl),tv⟩<|Qaj ?_
  obtain rfl:=osi h
  exact fend ⟨[I x2],⟨rot,tv⟩,rfl⟩ nll
def Qcs (_N:Nat) (_p0 _p1:Int) (_p2 _p3:Int):Option Unit:=
  some ()
def Qyy (p0 p1:Int) (p2 p3:Int):Slot:=.own 4 [[(I p0),(I p1),(I p2),(I p3)]]
def Zjo:AV:=.agg [(.ref 0 4 (0) 0),(.ref 0 4 (0) 1),(.ref 0 4 (0) 2),(.ref 0 4 (0) 3)]
def Zjn:Slot:=.own 4 [[(.ref 0 4 (0) 0),(.ref 0 4 (0) 1),(.ref 0 4 (0) 2),(.ref 0 4 (0) 3)]]
theorem Qdw (N:Nat) (p0 p1:Int) (p2 p3:Int) (r:Unit) (h:Qcs N p0 p1 p2 p3=some r):Spec prog 161 [(.ref 0 4 (0) 0)] [(Qyy p0 p1 p2 p3)] Zjo [(Qyy p0 p1 p2 p3),Zjn]:=by
  refine Qan func161 rfl 2 (nle rfl) (fun X φ0 w0 hφ0 hd0=>?_)
  unfold Qcs at h
  refine Qbw<|wxz ?_
  refine wxd tbk [(1,rb [(.tmp 3,.ref 0 4 0 0)] [(0,(Qyy p0 p1 p2 p3))] (.ref 0 4 0 0)),(4,rb [(.tmp 6,.ref 0 4 0 0)] [(0,(Qyy p0 p1 p2 p3))] (.ref 0 4 0 0)),(7,rb [(.tmp 9,.ref 0 4 0 0)] [(0,(Qyy p0 p1 p2 p3))] (.ref 0 4 0 0)),(10,rb [(.tmp 12,.ref 0 4 0 0)] [(0,(Qyy p0 p1 p2 p3))] (.ref 0 4 0 0)),(12,rp [(.tmp 5,.ref 0 4 0 0),(.tmp 8,.ref 0 4 0 1),(.tmp 11,.ref 0 4 0 2),(.tmp 14,.ref 0 4 0 3)] Zjo)] ⟨Qbj rfl,Qbj rfl,Qbj rfl,Qbj rfl,Qsh (vs:=[.ref 0 4 0 0,.ref 0 4 0 1,.ref 0 4 0 2,.ref 0 4 0 3]) rfl underlying235 Qvo Zoa rfl (by rfl) rfl,tv⟩ ?_
  refine wmr (mto (n:=16) (l':=[(2,.ref 1 4 0 0)]) (own':=[(Qyy p0 p1 p2 p3),Zjn]) [(2,.ref 1 4 0 0)] [0,1] [(Qyy p0 p1 p2 p3),Zjn] hφ0 (prr pn) (qb (lcc (lcc ln)) (qb (lc (.rn (rqr rfl)) (lc (.rn (rqr rfl)) (lc (.rn (rqr rfl)) (lc (.rn (rqr rfl)) ln)))) qn)))<|Qaj ?_
  obtain rfl:=osi h
  exact⟨_,Mor.rfl,Qc1 (vs:=[Zjo]) ⟨Qbu (n:=1) (m:=4) (j:=0) (i:=0) (xs:=[[.ref 0 4 0 0,.ref 0 4 0 1,.ref 0 4 0 2,.ref 0 4 0 3]]) (by kernel_rfl) (by kernel_rfl) Zoj (by decide) rfl (nle rfl) rfl,tv⟩ rfl (NLt.agg _ (nlc (NLt.ref _ _ _ _ (by decide)) (nlc (NLt.ref _ _ _ _ (by decide)) (nlc (NLt.ref _ _ _ _ (by decide)) (nlc (NLt.ref _ _ _ _ (by decide)) nl0))))) (by kernel_rfl) (Qao (Qax (nlc (NLt.of0 nll) (nlc (NLt.of0 nll) (nlc (NLt.of0 nll) (nlc (NLt.of0 nll) nl0))))) (Qao (Qax (nlc (NLt.ref _ _ _ _ (by decide)) (nlc (NLt.ref _ _ _ _ (by decide)) (nlc (NLt.ref _ _ _ _ (by decide)) (nlc (NLt.ref _ _ _ _ (by decide)) nl0))))) Qbq))⟩
def Qj0 (N:Nat) (p0:Qaa) (p1 p2:Int) (p3 p4:Int):Option Unit:=
  (Qcs N p0.Mass p0.Heat p0.Silica p0.Gas).bind fun _=>
  (Qcs N p1 p2 p3 p4).bind fun _=>
  (Qcs N (w64 (p1+p0.Mass)) p2 p3 p4).bind fun _=>
  (Qcs N (w64 (p1+p0.Mass)) (w64 (p2+p0.Heat)) p3 p4).bind fun _=>
  (Qcs N (w64 (p1+p0.Mass)) (w64 (p2+p0.Heat)) (w64 (p3+p0.Silica)) p4).bind fun _=>
  some ()
def Q8v (p1 p2:Int) (p3 p4:Int):Slot:=.own 4 [[(I p1),(I p2),(I p3),(I p4)]]
def Q8x (p1:Int) (p0:Qaa) (p2 p3 p4:Int):Slot:=.own 4 [[(I (w64 (p1+p0.Mass))),(I (w64 (p2+p0.Heat))),(I (w64 (p3+p0.Silica))),(I (w64 (p4+p0.Gas)))]]
def Q54 (p0:Qaa):Slot:=.own 4 [[(I p0.Mass),(I p0.Heat),(I p0.Silica),(I p0.Gas)]]
def Q8w:AV:=.agg [(.ref 1 4 (0) 0),(.ref 1 4 (0) 1),(.ref 1 4 (0) 2),(.ref 1 4 (0) 3)]
def Zpo:Slot:=.own 4 [[(.ref 1 4 (0) 0),(.ref 1 4 (0) 1),(.ref 1 4 (0) 2),(.ref 1 4 (0) 3)]]
def Qyz:AV:=.agg [(.ref 0 4 (0) 0),(.ref 0 4 (0) 1),(.ref 0 4 (0) 2),(.ref 0 4 (0) 3)]
def Zd3:Slot:=.own 4 [[(.ref 0 4 (0) 0),(.ref 0 4 (0) 1),(.ref 0 4 (0) 2),(.ref 0 4 (0) 3)]]
def Zd2 (p1:Int) (p0:Qaa) (p2 p3 p4:Int):Slot:=.own 4 [[(I (w64 (p1+p0.Mass))),(I p2),(I p3),(I p4)]]
def Zd1 (p1:Int) (p0:Qaa) (p2 p3 p4:Int):Slot:=.own 4 [[(I (w64 (p1+p0.Mass))),(I (w64 (p2+p0.Heat))),(I p3),(I p4)]]
def Zd0 (p1:Int) (p0:Qaa) (p2 p3 p4:Int):Slot:=.own 4 [[(I (w64 (p1+p0.Mass))),(I (w64 (p2+p0.Heat))),(I (w64 (p3+p0.Silica))),(I p4)]]
theorem Qrk (N:Nat) (p0:Qaa) (p1 p2:Int) (p3 p4:Int) (r:Unit) (h:Qj0 N p0 p1 p2 p3 p4=some r):Spec prog 160 [(.agg [(I p0.Mass),(I p0.Heat),(I p0.Silica),(I p0.Gas)]),(.ref 0 4 (0) 0)] [(Q8v p1 p2 p3 p4)] (.tup []) [(Q8x p1 p0 p2 p3 p4)]:=by
  refine Qan func160 rfl 1 (nle rfl) (fun X φ0 w0 hφ0 hd0=>?_)
  unfold Qj0 at h
  refine Qbw<|wxz ?_
  obtain⟨x2,hf1,h⟩:=bno h
  refine wx tbk [(0,⟨_,_,_,_,false⟩)] ⟨Qav (first:=[]) (cap:=[]) (vs:=[.ref 1 4 0 0]) (σr:=[(Q54 p0)]) (σr':=[(Q54 p0),Zpo]) (res':=Q8w) [1,2] rfl Qqy (Qdw N p0.Mass p0.Heat p0.Silica p0.Gas _ hf1) rfl (Qbs (rnc (Qa1 rfl) rn0)) (slc (Qas (rncc (rncc rn0))) Qau) (slc (Qas (rncc (rncc rn0))) (slc (Qas (rnc (Qbb rfl) (rnc (Qbb rfl) (rnc (Qbb rfl) (rnc (Qbb rfl) rn0))))) Qau)) (Qbs (rnc (Qbb rfl) (rnc (Qbb rfl) (rnc (Qbb rfl) (rnc (Qbb rfl) rn0))))) rfl rfl rfl,tv⟩<|Qar<|Q5r 17<|Qwz<|wxz<|wsq<|wtr<|Qap<|thn<|wsq ?_
  refine Qar<|wx tbk [(1,rp [(.tmp 5,Q8w),(.tmp 6,I 0)] (.ref 1 4 0 0))] ⟨Qia rfl underlying235 Qvo (by decide) (by decide) (nle rfl) (by decide) rfl,tv⟩ ?_
  obtain⟨x4,hf3,h⟩:=bno h
  refine wy1 tbk [(0,⟨_,_,_,_,false⟩),(2,rp [(.tmp 10,Qyz),(.tmp 11,I 0)] (.ref 0 4 0 0)),(3,rb [(.tmp 12,.ref 0 4 0 0)] [(0,(Q8v p1 p2 p3 p4))] (.ref 0 4 0 0)),(6,rb [(.tmp 15,.ref 1 4 0 0)] [(1,(Q54 p0))] (.ref 1 4 0 0)),(9,rb [(.tmp 12,.ref 0 4 0 0)] [(0,(Q8v p1 p2 p3 p4))] (.ref 0 4 0 0))] ⟨Qav (first:=[]) (cap:=[]) (vs:=[.ref 0 4 0 0]) (σr:=[(Q8v p1 p2 p3 p4)]) (σr':=[(Q8v p1 p2 p3 p4),Zd3]) (res':=Qyz) [0,3] rfl Qqy (Qdw N p1 p2 p3 p4 _ hf3) rfl (Qbs (rnc (Qa1 rfl) rn0)) (slc (Qas (rncc (rncc rn0))) Qau) (slc (Qas (rncc (rncc rn0))) (slc (Qas (rnc (Qbb rfl) (rnc (Qbb rfl) (rnc (Qbb rfl) (rnc (Qbb rfl) rn0))))) Qau)) (Qbs (rnc (Qbb rfl) (rnc (Qbb rfl) (rnc (Qbb rfl) (rnc (Qbb rfl) rn0))))) rfl rfl rfl,Qia rfl underlying235 Qvo (by decide) (by decide) (nle rfl) (by decide) rfl,Qbj rfl,Qbj rfl,Qbj rfl,tv⟩<|bln<|thn<|wxz1<|thn<|Qwz<|wxz<|wsq<|wtr<|Qap ?_
  refine thn<|wsq<|Qar ?_
  refine wx tbk [(1,rp [(.tmp 5,Q8w),(.tmp 6,I 1)] (.ref 1 4 0 1))] ⟨Qia rfl underlying235 Qvo (by decide) (by decide) (nle rfl) (by decide) rfl,tv⟩ ?_
  obtain⟨x6,hf5,h⟩:=bno h
  refine wy1 tbk [(0,⟨_,_,_,_,false⟩),(2,rp [(.tmp 10,Qyz),(.tmp 11,I 1)] (.ref 0 4 0 1)),(3,rb [(.tmp 12,.ref 0 4 0 1)] [(0,(Zd2 p1 p0 p2 p3 p4))] (.ref 0 4 0 1)),(6,rb [(.tmp 15,.ref 1 4 0 1)] [(1,(Q54 p0))] (.ref 1 4 0 1)),(9,rb [(.tmp 12,.ref 0 4 0 1)] [(0,(Zd2 p1 p0 p2 p3 p4))] (.ref 0 4 0 1))] ⟨Qav (first:=[]) (cap:=[]) (vs:=[.ref 0 4 0 0]) (σr:=[(Zd2 p1 p0 p2 p3 p4)]) (σr':=[(Zd2 p1 p0 p2 p3 p4),Zd3]) (res':=Qyz) [0,4] rfl Qqy (Qdw N (w64 (p1+p0.Mass)) p2 p3 p4 _ hf5) rfl (Qbs (rnc (Qa1 rfl) rn0)) (slc (Qas (rncc (rncc rn0))) Qau) (slc (Qas (rncc (rncc rn0))) (slc (Qas (rnc (Qbb rfl) (rnc (Qbb rfl) (rnc (Qbb rfl) (rnc (Qbb rfl) rn0))))) Qau)) (Qbs (rnc (Qbb rfl) (rnc (Qbb rfl) (rnc (Qbb rfl) (rnc (Qbb rfl) rn0))))) rfl rfl rfl,Qia rfl underlying235 Qvo (by decide) (by decide) (nle rfl) (by decide) rfl,Qbj rfl,Qbj rfl,Qbj rfl,tv⟩<|bln<|thn<|wxz1<|thn<|Qwz<|wxz<|wsq<|wtr<|Qap ?_
  refine thn<|wsq<|Qar ?_
  refine wx tbk [(1,rp [(.tmp 5,Q8w),(.tmp 6,I 2)] (.ref 1 4 0 2))] ⟨Qia rfl underlying235 Qvo (by decide) (by decide) (nle rfl) (by decide) rfl,tv⟩ ?_
  obtain⟨x8,hf7,h⟩:=bno h
  refine wy1 tbk [(0,⟨_,_,_,_,false⟩),(2,rp [(.tmp 10,Qyz),(.tmp 11,I 2)] (.ref 0 4 0 2)),(3,rb [(.tmp 12,.ref 0 4 0 2)] [(0,(Zd1 p1 p0 p2 p3 p4))] (.ref 0 4 0 2)),(6,rb [(.tmp 15,.ref 1 4 0 2)] [(1,(Q54 p0))] (.ref 1 4 0 2)),(9,rb [(.tmp 12,.ref 0 4 0 2)] [(0,(Zd1 p1 p0 p2 p3 p4))] (.ref 0 4 0 2))] ⟨Qav (first:=[]) (cap:=[]) (vs:=[.ref 0 4 0 0]) (σr:=[(Zd1 p1 p0 p2 p3 p4)]) (σr':=[(Zd1 p1 p0 p2 p3 p4),Zd3]) (res':=Qyz) [0,5] rfl Qqy (Qdw N (w64 (p1+p0.Mass)) (w64 (p2+p0.Heat)) p3 p4 _ hf7) rfl (Qbs (rnc (Qa1 rfl) rn0)) (slc (Qas (rncc (rncc rn0))) Qau) (slc (Qas (rncc (rncc rn0))) (slc (Qas (rnc (Qbb rfl) (rnc (Qbb rfl) (rnc (Qbb rfl) (rnc (Qbb rfl) rn0))))) Qau)) (Qbs (rnc (Qbb rfl) (rnc (Qbb rfl) (rnc (Qbb rfl) (rnc (Qbb rfl) rn0))))) rfl rfl rfl,Qia rfl underlying235 Qvo (by decide) (by decide) (nle rfl) (by decide) rfl,Qbj rfl,Qbj rfl,Qbj rfl,tv⟩<|bln<|thn<|wxz1<|thn<|Qwz<|wxz<|wsq<|wtr<|Qap ?_
  refine thn<|wsq<|Qar ?_
  refine wx tbk [(1,rp [(.tmp 5,Q8w),(.tmp 6,I 3)] (.ref 1 4 0 3))] ⟨Qia rfl underlying235 Qvo (by decide) (by decide) (nle rfl) (by decide) rfl,tv⟩ ?_
  obtain⟨x10,hf9,h⟩:=bno h
  refine wy1 tbk [(0,⟨_,_,_,_,false⟩),(2,rp [(.tmp 10,Qyz),(.tmp 11,I 3)] (.ref 0 4 0 3)),(3,rb [(.tmp 12,.ref 0 4 0 3)] [(0,(Zd0 p1 p0 p2 p3 p4))] (.ref 0 4 0 3)),(6,rb [(.tmp 15,.ref 1 4 0 3)] [(1,(Q54 p0))] (.ref 1 4 0 3)),(9,rb [(.tmp 12,.ref 0 4 0 3)] [(0,(Zd0 p1 p0 p2 p3 p4))] (.ref 0 4 0 3))] ⟨Qav (first:=[]) (cap:=[]) (vs:=[.ref 0 4 0 0]) (σr:=[(Zd0 p1 p0 p2 p3 p4)]) (σr':=[(Zd0 p1 p0 p2 p3 p4),Zd3]) (res':=Qyz) [0,6] rfl Qqy (Qdw N (w64 (p1+p0.Mass)) (w64 (p2+p0.Heat)) (w64 (p3+p0.Silica)) p4 _ hf9) rfl (Qbs (rnc (Qa1 rfl) rn0)) (slc (Qas (rncc (rncc rn0))) Qau) (slc (Qas (rncc (rncc rn0))) (slc (Qas (rnc (Qbb rfl) (rnc (Qbb rfl) (rnc (Qbb rfl) (rnc (Qbb rfl) rn0))))) Qau)) (Qbs (rnc (Qbb rfl) (rnc (Qbb rfl) (rnc (Qbb rfl) (rnc (Qbb rfl) rn0))))) rfl rfl rfl,Qia rfl underlying235 Qvo (by decide) (by decide) (nle rfl) (by decide) rfl,Qbj rfl,Qbj rfl,Qbj rfl,tv⟩<|bln<|thn<|wxz1<|thn<|Qwz<|wxz<|wsq<|wfa<|Qbf ?_
  refine Qaw<|Qaw<|Qbe rfl ?_
  obtain rfl:=osi h
  exact⟨_,(mto (n:=21) (l':=[]) (own':=[(Q8x p1 p0 p2 p3 p4)]) [] [0] [(Q8x p1 p0 p2 p3 p4)] hφ0 pn (qb (lcc (lcc ln)) qn)),Qc1 (vs:=[]) tv rfl (NLt.tup _ nl0) (by kernel_rfl) (Qao (Qax (nlc (NLt.of0 nll) (nlc (NLt.of0 nll) (nlc (NLt.of0 nll) (nlc (NLt.of0 nll) nl0))))) Qbq)⟩
def Qfr (N:Nat) (p0:List Qaa) (k5:Int×Int×Int×Int→Option Qaa):Nat→Int→Int→Int→Int→Int→Option Qaa
  |0,_,_,_,_,_=>none
  |n16+1,y6,y7,y8,y9,y10=>
    bif (decide (y6<(p0.length:Int))) then
     (getI p0 y6).bind fun x18=>
     (Qj0 N x18 y7 y8 y9 y10).bind fun _=>
     Qfr N p0 k5 n16 (w64 (y6+1)) (w64 (y7+x18.Mass)) (w64 (y8+x18.Heat)) (w64 (y9+x18.Silica)) (w64 (y10+x18.Gas))
    else
     k5 (y7,y8,y9,y10)
def Qk5 (N:Nat) (p0:List Qaa):Option Qaa:=
  Qbl (fun ⟨y1,y2,y3,y4⟩=>
    some (⟨y1,y2,y3,y4⟩:Qaa)) fun k5:Int×Int×Int×Int→Option Qaa=>
  Qfr N p0 k5 N 0 0 0 0 0
def Q8z:AV:=.fn (.func 160) [] [(.ref 0 4 (0) 0)]
def Zd4 (p0:List Qaa):AV:=.dat 4 (p0.map Qah)
def Zm5:Slot:=.own 4 [[(I (0)),(I (0)),(I (0)),(I (0))]]
def Q8y (y7 y8:Int) (y9 y10:Int):Slot:=.own 4 [[(I y7),(I y8),(I y9),(I y10)]]
def Zm4 (x18:Qaa):AV:=.agg [(I x18.Mass),(I x18.Heat),(I x18.Silica),(I x18.Gas)]
def Zh4 (y7:Int) (x18:Qaa) (y8 y9 y10:Int):Slot:=.own 4 [[(I (w64 (y7+x18.Mass))),(I (w64 (y8+x18.Heat))),(I (w64 (y9+x18.Silica))),(I (w64 (y10+x18.Gas)))]]
theorem Qxm (N:Nat) (p0:List Qaa) (r:Qaa) (h:Qk5 N p0=some r):Spec prog 155 [(.dat 4 (p0.map Qah))] [] (.agg (Qah r)) []:=by
  refine Qan func155 rfl 0 (nle rfl) (fun X φ0 w0 hφ0 hd0=>?_)
  unfold Qk5 at h
  refine wxz<|wx tbk [(0,rp [(.tmp 2,.ref 0 4 0 0)] Q8z)] ⟨Qfq (fs:=[]) (cs:=[.ref 0 4 0 0]) rfl rfl rfl rfl,tv⟩ ?_
  obtain⟨k5,hk_k5,h⟩:=jko h
  refine wjn (τ:=Int×Int×Int×Int) (fun t=>k5 t=some r) (fun ⟨y1,y2,y3,y4⟩=>⟨mk 18 [(2,.ref 0 4 0 0)],[(.own 4 [[I y1,I y2,I y3,I y4]])]⟩) (fun t h=>?_) ?_
  ·subst hk_k5
   obtain⟨y1,y2,y3,y4⟩:=t
   refine wxz<|Qaj ?_
   obtain rfl:=osi h
   exact fend ⟨[(.agg [I y1,I y2,I y3,I y4])],⟨Qbu (n:=0) (m:=4) (j:=0) (i:=0) (xs:=[[I y1,I y2,I y3,I y4]]) (by kernel_rfl) (by kernel_rfl) ti63 (by decide) rfl (nle rfl) rfl,tv⟩,rfl⟩ (NLt.agg _ (nlcc (nlcc nl0)))
  ·skip
   refine wx tbk [(1,rp _ _)] ⟨alq 4 Qah p0 underlying45,tv⟩<|Qar ?_
   refine wmr (mto (n:=18) (l':=[(2,.ref 0 4 0 0),(3,Q8z),(7,(Zd4 p0)),(8,(I ((p0.length:Int)))),(9,I 0)]) (own':=[Zm5]) [(2,.ref 0 4 0 0),(3,Q8z),(7,(Zd4 p0)),(8,(I ((p0.length:Int)))),(9,I 0)] [0] [Zm5] hφ0 (prr (pc (.rn (Qbi rn0 (rnc (rqr rfl) rn0))) (pc (rnd Qam) (pw (pw pn))))) (qb (lcc (lcc ln)) qn)) ?_
   refine Qbt (τ:=Int×Int×Int×Int×Int) (fun n t=>Qfr N p0 k5 n t.1 t.2.1 t.2.2.1 t.2.2.2.1 t.2.2.2.2=some r) (fun ⟨y6,y7,y8,y9,y10⟩=>⟨mk 18 [(2,.ref 0 4 0 0),(3,Q8z),(7,(Zd4 p0)),(8,(I ((p0.length:Int)))),(9,I y6)],[(Q8y y7 y8 y9 y10)]⟩) (fun t h=>by rw[Qfr] at h;cases h) (fun n16 ih t h=>?_) N (0,0,0,0,0) h
   obtain⟨y6,y7,y8,y9,y10⟩:=t
   rw[Qfr] at h
   skip
   refine wxz<|wsq ?_
   refine bfe h (fun hc17 h=>?_) fun hc17 h=>?_
   ·refine wft hc17<|Qap<|thn<|wsq<|Qar ?_
    obtain⟨x18,hg19,h⟩:=bno h
    obtain⟨hi20,hj21⟩:=gsm hg19
    refine wx tbk [(0,rp _ _)] ⟨aiq underlying45 ti63 Qah hi20 hj21,tv⟩ ?_
    obtain⟨x23,hf22,h⟩:=bno h
    refine wx1 tbk [(2,⟨_,_,_,_,false⟩)] ⟨Qav (first:=[]) (cap:=[.ref 0 4 0 0]) (vs:=[(Zm4 x18)]) (σr:=[(Q8y y7 y8 y9 y10)]) (σr':=[(Zh4 y7 x18 y8 y9 y10)]) (res':=(.tup [])) [0] rfl Zfr (Qrk N x18 y7 y8 y9 y10 _ hf22) rfl (Qbs (rnc (.plain _ (NLt.agg _ (nlcc (nlcc nl0)))) (rnc (Qa1 rfl) rn0))) (slc (Qas (rncc (rncc rn0))) Qau) (slc (Qas (rncc (rncc rn0))) Qau) (.plain _ (NLt.tup _ nl0)) rfl rfl rfl,tv⟩<|bln<|thn<|wxz1<|thn ?_
    exact arm (mto (n:=18) [(2,.ref 0 4 0 0),(3,Q8z),(7,(Zd4 p0)),(8,(I ((p0.length:Int)))),(9,(I (w64 (y6+1))))] [0] [(Zh4 y7 x18 y8 y9 y10)] hφ0 (prr (pc (.rn (Qbi rn0 (rnc (rqr rfl) rn0))) (pc (rnd Qam) (pw (pw pn))))) (qb (lcc (lcc ln)) qn)) (ih (w64 (y6+1),w64 (y7+x18.Mass),w64 (y8+x18.Heat),w64 (y9+x18.Silica),w64 (y10+x18.Gas)) h)
   ·exact wfn hc17<|Qbf<|Qaw<|Qaw<|Qbe rfl<|thn<|⟨(y7,y8,y9,y10),h,(mto (n:=18) [(2,.ref 0 4 0 0)] [0] [(Q8y y7 y8 y9 y10)] hφ0 (prr pn) (qb (lcc (lcc ln)) qn))⟩
def Qem (N:Nat) (p0:Qaa) (k3:(List Qaa)→Option ((List Qaa)×Qnp×Int)) (x7:List Int):Nat→(List Qaa)→Int→Option ((List Qaa)×Qnp×Int)
  |0,_,_=>none
  |n12+1,y8,y9=>
    bif (decide (y9<(x7.length:Int))) then
     (getI x7 y9).bind fun x14=>
     (Qfs N p0.Heat x14 p0.Mass p0.Heat p0.Silica p0.Gas).bind fun x19=>
     (Qfs N p0.Silica x14 p0.Mass p0.Heat p0.Silica p0.Gas).bind fun x21=>
     (Qfs N p0.Gas x14 p0.Mass p0.Heat p0.Silica p0.Gas).bind fun x23=>
     chk (decide ((y8.length+([(⟨x14,x19,x21,x23⟩:Qaa)]).length)*32≤140737488355328))<|
     Qem N p0 k3 x7 n12 (y8++([(⟨x14,x19,x21,x23⟩:Qaa)])) (w64 (y9+1))
    else
     k3 (y8)
def Qj6 (N:Nat) (p0:Qaa) (p1:List Int):Option ((List Qaa)×Qnp×Int):=
  Qbl (fun _=>
    Qbl (fun y2=>
      (Qk5 N y2).bind fun x5=>
      some (y2,(⟨w64 (p0.Heat-x5.Heat),w64 (p0.Silica-x5.Silica),w64 (p0.Gas-x5.Gas)⟩:Qnp),0)) fun k3:(List Qaa)→Option ((List Qaa)×Qnp×Int)=>
    (Qi5 N p0.Mass p1).bind fun x7=>
    Qem N p0 k3 x7 N ([]) 0) fun k1:Unit→Option ((List Qaa)×Qnp×Int)=>
  (Qed N p0).bind fun x26=>
  bif (!x26) then
   some ([],(⟨0,0,0⟩:Qnp),1)
  else
   bif (decide ((p1.length:Int)>20)) then
    some ([],(⟨0,0,0⟩:Qnp),1)
   else
    (Qhn N p1).bind fun x30=>
    bif (!x30) then
     some ([],(⟨0,0,0⟩:Qnp),1)
    else
     (Qcq N p1).bind fun x33=>
     bif (!x33) then
      some ([],(⟨0,0,0⟩:Qnp),1)
     else
      k1 ()
def Qtc (p0:Qaa):Slot:=.own 4 [[(I p0.Mass),(I p0.Heat),(I p0.Silica),(I p0.Gas)]]
def Qy1:Slot:=.own 3 [[(I (0)),(I (0)),(I (0))]]
def Znc (p0 x5:Qaa):AV:=.agg [(I (w64 (p0.Heat-x5.Heat))),(I (w64 (p0.Silica-x5.Silica))),(I (w64 (p0.Gas-x5.Gas)))]
def Zd9:AV:=.fn (.func 154) [] [(.ref 3 1 (0) 0),(.ref 0 4 (0) 0)]
def Q84 (x14:Int) (p0:Qaa):AV:=.fn (.func 154) [] [(.dptr [(I x14)] 0),(.dptr [(I p0.Mass),(I p0.Heat),(I p0.Silica),(I p0.Gas)] 0)]
def Zpp (p0:Qaa):AV:=.agg [(I p0.Mass),(I p0.Heat),(I p0.Silica),(I p0.Gas)]
def Q83 (p0:Qaa) (x26:Bool):List (Nat×Rec):=[(1,rp [fu 131,((.tmp 12),(Zpp p0))] (B x26))]
def Zea:AV:=.agg [(I (0)),(I (0)),(I (0))]
def Q3n:AV:=.dat 4 (([]:List Qaa).map Qah)
def Q82 p0 x26 (p1:List Int):=hcat (Q83 p0 x26) [(3,rp [((.tmp 14),(B ((!x26))))] (B false)),(5,rp [((.tmp 15),(B false)),((.tmp 16),(.dat 1 (p1.map Qad)))] (I ((p1.length:Int))))]
def Q81 p0 x26 p1 (x30:Bool):=hcat (Q82 p0 x26 p1) [(8,rp [((.tmp 19),(B ((decide ((p1.length:Int)>20)))))] (B false)),(11,rp [((.tmp 20),(B false)),fu 151,((.tmp 21),(.dat 1 (p1.map Qad))),((.tmp 22),(.fn (.func 150) [] []))] (B x30))]
theorem Qtr (N:Nat) (p0:Qaa) (p1:List Int) (r:((List Qaa)×Qnp×Int)) (h:Qj6 N p0 p1=some r):Spec prog 146 [(.agg (Qah p0)),(.dat 1 (p1.map Qad))] [] (.tup [(.dat 4 (r.1.map Qah)),(.agg (Zl4 r.2.1)),(I r.2.2)]) []:=by
  refine Qan func146 rfl 0 (nle rfl) (fun X φ0 w0 hφ0 hd0=>?_)
  unfold Qj6 at h
  refine wxz<|wxz ?_
  obtain⟨k1,hk_k1,h⟩:=jko h
  refine wjn (τ:=Unit) (fun t=>k1 t=some r) (fun _=>⟨mk 79 [(1,(.dat 1 (p1.map Qad))),(2,.ref 0 4 0 0),(4,nilS),(5,.ref 1 3 0 0)],[(Qtc p0),Qy1]⟩) (fun t h=>?_) ?_
  ·subst hk_k1
   obtain⟨k3,hk_k3,h⟩:=jko h
   refine wjn (τ:=(List Qaa)) (fun t=>k3 t=some r) (fun y2=>⟨mk 79 [(2,.ref 0 4 0 0),(4,(.acc 1 63 4 (y2.map Qah))),(5,.ref 2 3 0 0)],[(Qtc p0),.tok,Qy1]⟩) (fun y2 h=>?_) ?_
   ·subst hk_k3
    obtain⟨x5,hf4,h⟩:=bno h
    refine wx tbk [(1,rp [fu 155,(.tmp 60,(.acc 1 63 4 (y2.map Qah)))] (.agg [I x5.Mass,I x5.Heat,I x5.Silica,I x5.Gas]))] ⟨awk (rd':=(.func 155,(.fn (.func 155) [] []))::[(.tmp 60,(.dat 4 (y2.map Qah)))]) ⟨rfl,lrf,rfl,Less.acc,tv⟩ (apv Zfv (Qxm N y2 _ hf4) (nlc (nld Qam _) nl0) (NLt.agg _ (nlcc (nlcc nl0)))),tv⟩ ?_
    refine wxd tbk [(16,rp _ _)] ⟨Qa5 (vs:=[(I (w64 (p0.Heat-x5.Heat))),(I (w64 (p0.Silica-x5.Silica))),(I (w64 (p0.Gas-x5.Gas)))]) rfl Q96 Q6f rfl (by rfl) rfl,tv⟩<|Qaj ?_
    obtain rfl:=osi h
    exact fend ⟨[(.dat 4 (y2.map Qah)),(Znc p0 x5),I 0],⟨Qb3 (v:=(.acc 1 63 4 (y2.map Qah))) rot Less.acc,Qbu (n:=2) (m:=3) (j:=0) (i:=0) (xs:=[[(I (w64 (p0.Heat-x5.Heat))),(I (w64 (p0.Silica-x5.Silica))),(I (w64 (p0.Gas-x5.Gas)))]]) (by kernel_rfl) (by kernel_rfl) Q6i (by decide) rfl (nle rfl) rfl,rot,tv⟩,rfl⟩ (NLt.tup _ (nlc (nld Qam _) (nlc (NLt.agg _ (nlcc (nlc nll nl0))) (nlc nll nl0))))
   ·skip
    obtain⟨x7,hf6,h⟩:=bno h
    refine wx tbk [(3,rp _ _),(4,rp _ _)] ⟨apv Zfw (Qsq N p0.Mass p1 _ hf6) (nlc nll (nlc (nld Qaf _) nl0)) (nld Qaf _),alq 1 Qad x7 underlying27,tv⟩<|Qar ?_
    refine wmr (Mor.trans (Qps 2 63 4 4 (by kernel_rfl) (by kernel_rfl)) (mto (n:=79) (l':=[(2,.ref 0 4 0 0),(4,(.acc 1 63 4 ((([]):List Qaa).map Qah))),(5,.ref 2 3 0 0),(35,(.dat 1 (x7.map Qad))),(36,(I ((x7.length:Int)))),(37,I 0)]) (own':=[(Qtc p0),.tok,Qy1]) [(2,.ref 0 4 0 0),(4,(.acc 2 63 4 (([]:List Qaa).map Qah))),(5,.ref 1 3 0 0),(35,(.dat 1 (x7.map Qad))),(36,(I ((x7.length:Int)))),(37,I 0)] [0,2,1] [(Qtc p0),.tok,Qy1] hφ0 (prr (pc (.rn (Qcv rfl (Qb5 Qam _))) (prr (pc (rnd Qaf) (pw (pw pn)))))) (qb (lcc (lcc ln)) (qc .tok (qb (lcc (lc rwl ln)) qn))))) ?_
    refine Qbt (τ:=(List Qaa)×Int) (fun n t=>Qem N p0 k3 x7 n t.1 t.2=some r) (fun ⟨y8,y9⟩=>⟨mk 79 [(2,.ref 0 4 0 0),(4,(.acc 1 63 4 (y8.map Qah))),(5,.ref 2 3 0 0),(35,(.dat 1 (x7.map Qad))),(36,(I ((x7.length:Int)))),(37,I y9)],[(Qtc p0),.tok,Qy1]⟩) (fun t h=>by rw[Qem] at h;cases h) (fun n12 ih t h=>?_) N ([],0) h
    obtain⟨y8,y9⟩:=t
    rw[Qem] at h
    skip
    refine wxz<|wsq ?_
    refine bfe h (fun hc13 h=>?_) fun hc13 h=>?_
    ·refine wft hc13<|Qap<|thn<|wsq<|Qar ?_
     obtain⟨x14,hg15,h⟩:=bno h
     obtain⟨hi16,hj17⟩:=gsm hg15
     refine wx tbk [(0,rp _ _)] ⟨aiq underlying27 ti3 Qad hi16 hj17,tv⟩ ?_
     refine wx tbk [(0,rp [(.tmp 9,.ref 3 1 0 0),(.tmp 2,.ref 0 4 0 0)] Zd9)] ⟨Qfq (fs:=[]) (cs:=[.ref 3 1 0 0,.ref 0 4 0 0]) rfl rfl rfl rfl,tv⟩ ?_
     obtain⟨x19,hf18,h⟩:=bno h
     obtain⟨x21,hf20,h⟩:=bno h
     obtain⟨x23,hf22,h⟩:=bno h
     obtain⟨ha24,h⟩:=cko h
     refine wy1 tbk [(5,rb [(.tmp 44,Zd9),(.tmp 46,I p0.Heat)] [(3,.own 1 [[I x14]]),(0,(Qtc p0))] (I x19)),(9,rb [(.tmp 48,Zd9),(.tmp 50,I p0.Silica)] [(3,.own 1 [[I x14]]),(0,(Qtc p0))] (I x21)),(13,rb [(.tmp 52,Zd9),(.tmp 54,I p0.Gas)] [(3,.own 1 [[I x14]]),(0,(Qtc p0))] (I x23)),(14,rp _ _),(15,rp [(.tmp 56,(.agg [I x14,I x19,I x21,I x23]))] (.dat 4 (([(⟨x14,x19,x21,x23⟩:Qaa)]:List Qaa).map Qah))),(16,⟨[(.tmp 42,(.acc 1 63 4 (y8.map Qah))),(.tmp 57,(.dat 4 (([(⟨x14,x19,x21,x23⟩:Qaa)]:List Qaa).map Qah)))],[(1,.tok),(4,.unused)],(.acc 4 63 4 ((y8++([(⟨x14,x19,x21,x23⟩:Qaa)]):List Qaa).map Qah)),[(1,.dead),(4,.tok)],false⟩)] ⟨Qjp (rd':=[(.tmp 44,(Q84 x14 p0)),(.tmp 46,I p0.Heat)]) [(3,1,[[I x14]]),(0,4,[[I p0.Mass,I p0.Heat,I p0.Silica,I p0.Gas]])] ⟨rfl,(Zg1 tv ⟨(Qq3 0 rfl (lc (.same _) ln)),(Qq3 1 rfl (lc (.same _) (lc (.same _) (lc (.same _) (lc (.same _) ln))))),tv⟩),rfl,.same _,tv⟩ (by rfl) (.lit _) Qtu (Qav (first:=[]) (cap:=[(.dptr [I x14] 0),(.dptr [I p0.Mass,I p0.Heat,I p0.Silica,I p0.Gas] 0)]) (vs:=[I p0.Heat]) (σr:=[]) (σr':=[]) (res':=(I x19)) [] rfl Qyf (Qiq N p0.Heat x14 p0.Mass p0.Heat p0.Silica p0.Gas _ hf18) rfl (Qbs (rnc (.plain _ nll) (rnc (.plain _ (NLt.dptr _ _ (nlc nll nl0))) (rnc (.plain _ (NLt.dptr _ _ (nlcc (nlcc nl0)))) rn0)))) Qau Qau (.plain _ nll) rfl rfl rfl),Qjp (rd':=[(.tmp 48,(Q84 x14 p0)),(.tmp 50,I p0.Silica)]) [(3,1,[[I x14]]),(0,4,[[I p0.Mass,I p0.Heat,I p0.Silica,I p0.Gas]])] ⟨rfl,(Zg1 tv ⟨(Qq3 0 rfl (lc (.same _) ln)),(Qq3 1 rfl (lc (.same _) (lc (.same _) (lc (.same _) (lc (.same _) ln))))),tv⟩),rfl,.same _,tv⟩ (by rfl) (.lit _) Qtu (Qav (first:=[]) (cap:=[(.dptr [I x14] 0),(.dptr [I p0.Mass,I p0.Heat,I p0.Silica,I p0.Gas] 0)]) (vs:=[I p0.Silica]) (σr:=[]) (σr':=[]) (res':=(I x21)) [] rfl Qyf (Qiq N p0.Silica x14 p0.Mass p0.Heat p0.Silica p0.Gas _ hf20) rfl (Qbs (rnc (.plain _ nll) (rnc (.plain _ (NLt.dptr _ _ (nlc nll nl0))) (rnc (.plain _ (NLt.dptr _ _ (nlcc (nlcc nl0)))) rn0)))) Qau Qau (.plain _ nll) rfl rfl rfl),Qjp (rd':=[(.tmp 52,(Q84 x14 p0)),(.tmp 54,I p0.Gas)]) [(3,1,[[I x14]]),(0,4,[[I p0.Mass,I p0.Heat,I p0.Silica,I p0.Gas]])] ⟨rfl,(Zg1 tv ⟨(Qq3 0 rfl (lc (.same _) ln)),(Qq3 1 rfl (lc (.same _) (lc (.same _) (lc (.same _) (lc (.same _) ln))))),tv⟩),rfl,.same _,tv⟩ (by rfl) (.lit _) Qtu (Qav (first:=[]) (cap:=[(.dptr [I x14] 0),(.dptr [I p0.Mass,I p0.Heat,I p0.Silica,I p0.Gas] 0)]) (vs:=[I p0.Gas]) (σr:=[]) (σr':=[]) (res':=(I x23)) [] rfl Qyf (Qiq N p0.Gas x14 p0.Mass p0.Heat p0.Silica p0.Gas _ hf22) rfl (Qbs (rnc (.plain _ nll) (rnc (.plain _ (NLt.dptr _ _ (nlc nll nl0))) (rnc (.plain _ (NLt.dptr _ _ (nlcc (nlcc nl0)))) rn0)))) Qau Qau (.plain _ nll) rfl rfl rfl),Qa5 (vs:=[I x14,I x19,I x21,I x23]) rfl ts63 tz63 rfl (by rfl) rfl,Qbz (vs:=[(.agg [I x14,I x19,I x21,I x23])]) rfl underlying45 ti63 tz63 rfl (by decide) rfl (by decide) (by rfl) (by rfl) (by rfl) rfl,Qek rfl underlying45 te63 (Base.acc _ _) rfl rfl (by rfl) (Qhl Qah ha24) (Qhk Qah ha24 (by decide)) (Qhj Qah) rfl rfl,tv⟩<|bln<|thn<|wxz1<|thn ?_
     exact arm (mto (n:=79) [(2,.ref 0 4 0 0),(4,(.acc 4 63 4 ((y8++([(⟨x14,x19,x21,x23⟩:Qaa)]):List Qaa).map Qah))),(5,.ref 2 3 0 0),(35,(.dat 1 (x7.map Qad))),(36,(I ((x7.length:Int)))),(37,(I (w64 (y9+1))))] [0,4,2] [(Qtc p0),.tok,Qy1] hφ0 (prr (pc (.rn (Qcv rfl (Qb5 Qam _))) (prr (pc (rnd Qaf) (pw (pw pn)))))) (qb (lcc (lcc ln)) (qc .tok (qb (lcc (lc rwl ln)) qn)))) (ih (y8++([(⟨x14,x19,x21,x23⟩:Qaa)]),w64 (y9+1)) h)
    ·exact wfn hc13<|Qbf<|Qaw<|Qaw<|Qbe rfl<|thn<|⟨(y8),h,(mto (n:=79) [(2,.ref 0 4 0 0),(4,(.acc 1 63 4 (y8.map Qah))),(5,.ref 2 3 0 0)] [0,1,2] [(Qtc p0),.tok,Qy1] hφ0 (prr (pc (.rn (Qcv rfl (Qb5 Qam _))) (prr pn))) (qb (lcc (lcc ln)) (qc .tok (qb (lcc (lc rwl ln)) qn))))⟩
  ·skip
   obtain⟨x26,hf25,h⟩:=bno h
   refine hpre (A:=(Q83 p0 x26)) ⟨apv Qyg (Qhv N p0 _ hf25) (nlc (NLt.agg _ (nlcc (nlcc nl0))) nl0) nll,tv⟩ fun q1_=>?_
   refine bfe h (fun hb27 h=>?_) fun hb27 h=>?_
   ·refine wx tbk (hcat (Q83 p0 x26) [(3,rp [(.tmp 14,(B ((!x26))))] (B true))]) (hap q1_ ⟨asb hb27 (amv rfl),tv⟩)<|wtr ?_
    refine wx tbk [(0,rp _ _)] ⟨Qa5 (vs:=[]) rfl Q96 Q6f rfl (by rfl) rfl,tv⟩<|Qaj<|Qal ?_
    obtain rfl:=osi h
    exact fend ⟨[Q3n,Zea,I 1],⟨Qb3 (v:=nilS) rot Less.nil,Qbu (n:=1) (m:=3) (j:=0) (i:=0) (xs:=[[I 0,I 0,I 0]]) (by kernel_rfl) (by kernel_rfl) Q6i (by decide) rfl (nle rfl) rfl,rot,tv⟩,rfl⟩ (NLt.tup _ (nlc (nld Qam _) (nlc (NLt.agg _ (nlcc (nlc nll nl0))) (nlc nll nl0))))
   ·refine hpre (A:=(Q82 p0 x26 p1)) (hap q1_ ⟨asb hb27 (amv rfl),ag_ (alq 1 Qad p1 underlying27),tv⟩) fun q2_=>?_
    refine bfe h (fun hb28 h=>?_) fun hb28 h=>?_
    ·refine wx tbk (hcat (Q82 p0 x26 p1) [(8,rp [(.tmp 19,(B ((decide ((p1.length:Int)>20)))))] (B true))]) (hap q2_ ⟨asb hb28 (amv rfl),tv⟩)<|wtr ?_
     refine wx tbk [(0,rp _ _)] ⟨Qa5 (vs:=[]) rfl Q96 Q6f rfl (by rfl) rfl,tv⟩<|Qaj<|Qal ?_
     obtain rfl:=osi h
     exact fend ⟨[Q3n,Zea,I 1],⟨Qb3 (v:=nilS) rot Less.nil,Qbu (n:=1) (m:=3) (j:=0) (i:=0) (xs:=[[I 0,I 0,I 0]]) (by kernel_rfl) (by kernel_rfl) Q6i (by decide) rfl (nle rfl) rfl,rot,tv⟩,rfl⟩ (NLt.tup _ (nlc (nld Qam _) (nlc (NLt.agg _ (nlcc (nlc nll nl0))) (nlc nll nl0))))
    ·obtain⟨x30,hf29,h⟩:=bno h
     refine hpre (A:=(Q81 p0 x26 p1 x30)) (hap q2_ ⟨asb hb28 (amv rfl),ag_ (Qav (first:=[]) (cap:=[]) (vs:=[(.dat 1 (p1.map Qad)),(.fn (.func 150) [] [])]) (σr:=[]) (σr':=[]) (res':=(B x30)) [] rfl Zfy (Qpj N p1 _ hf29) rfl (Qbs (rnc (pld Qaf) (rnc (.plain _ (NLt.fn _ _ _ nl0 nl0)) rn0))) Qau Qau (.plain _ nll) rfl rfl rfl),tv⟩) fun q3_=>?_
     refine bfe h (fun hb31 h=>?_) fun hb31 h=>?_
     ·refine wx tbk (hcat (Q81 p0 x26 p1 x30) [(14,rp [(.tmp 25,(B ((!x30))))] (B true))]) (hap q3_ ⟨asb hb31 (amv rfl),tv⟩)<|wtr ?_
      refine wx tbk [(0,rp _ _)] ⟨Qa5 (vs:=[]) rfl Q96 Q6f rfl (by rfl) rfl,tv⟩<|Qaj<|Qal ?_
      obtain rfl:=osi h
      exact fend ⟨[Q3n,Zea,I 1],⟨Qb3 (v:=nilS) rot Less.nil,Qbu (n:=1) (m:=3) (j:=0) (i:=0) (xs:=[[I 0,I 0,I 0]]) (by kernel_rfl) (by kernel_rfl) Q6i (by decide) rfl (nle rfl) rfl,rot,tv⟩,rfl⟩ (NLt.tup _ (nlc (nld Qam _) (nlc (NLt.agg _ (nlcc (nlc nll nl0))) (nlc nll nl0))))
     ·obtain⟨x33,hf32,h⟩:=bno h
      refine wx tbk (hcat (Q81 p0 x26 p1 x30) [(14,rp [(.tmp 25,(B ((!x30))))] (B false)),(16,rp [(.tmp 26,B false),fu 126,(.tmp 27,(.dat 1 (p1.map Qad))),fu 152] (B x33))]) (hap q3_ ⟨asb hb31 (amv rfl),ag_ (Qav (first:=[]) (cap:=[]) (vs:=[(.dat 1 (p1.map Qad)),(.fn (.func 152) [] [])]) (σr:=[]) (σr':=[]) (res':=(B x33)) [] rfl Qq0 (Qi7 N p1 _ hf32) rfl (Qbs (rnc (pld Qaf) (rnc (.plain _ (NLt.fn _ _ _ nl0 nl0)) rn0))) Qau Qau (.plain _ nll) rfl rfl rfl),tv⟩) ?_
      refine bfe h (fun hc34 h=>?_) fun hc34 h=>?_
      ·refine wft hc34<|wx tbk [(0,rp _ _)] ⟨Qa5 (vs:=[]) rfl Q96 Q6f rfl (by rfl) rfl,tv⟩<|Qaj<|Qal ?_
       obtain rfl:=osi h
       exact fend ⟨[Q3n,Zea,I 1],⟨Qb3 (v:=nilS) rot Less.nil,Qbu (n:=1) (m:=3) (j:=0) (i:=0) (xs:=[[I 0,I 0,I 0]]) (by kernel_rfl) (by kernel_rfl) Q6i (by decide) rfl (nle rfl) rfl,rot,tv⟩,rfl⟩ (NLt.tup _ (nlc (nld Qam _) (nlc (NLt.agg _ (nlcc (nlc nll nl0))) (nlc nll nl0))))
      ·exact wfn hc34<|Qap<|thn<|⟨(),h,(mto (n:=79) [(1,(.dat 1 (p1.map Qad))),(2,.ref 0 4 0 0),(4,nilS),(5,.ref 1 3 0 0)] [0,1] [(Qtc p0),Qy1] hφ0 (pc (rnd Qaf) (prr (pw (prr pn)))) (qb (lcc (lcc ln)) (qb (lcc (lc rwl ln)) qn)))⟩
end
end Go.Proofs.YtmbhnllcfmiajaaGreat
