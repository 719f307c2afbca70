/-
  The texts EngZ, Xo, X1, X2, X3 of the proof, one behind the other. No conditions.
-/
import Derived.Test.YtmbhnllcfmiajaaGreatG2
import Derived.Test.YtmbhnllcfmiajaaGreatRows
import Derived.ProofKit
import Derived.Deep.Slices
import Derived.Deep.Fields
import Derived.ChangeSame
import Derived.Lib.SmallJoins
import Derived.SizedLaws
namespace Go.Proofs.YtmbhnllcfmiajaaGreat
open _root_.Go.Proofs.Tryz
section
open Go.ChangeShapes Go.WideShapes Go.ChangeAt Go.RowKit Go.Deep Go.Joins
theorem Tryz.own:ownKnob prog.godebug=none:=by kernel_rfl
theorem Tryz.laidOut:laidOutB prog=true:=by kernel_rfl
def noX:Nat→Nat→Prop:=fun _ _=>False
def noφ:Nat→FSlot:=fun _=>.unused
def RelL (w:World):List AV→List Value→Prop
 |[],[]=>True
 |a::l,v::k=>RelV noX noφ w a v∧RelL w l k
 |_,_=>False
theorem RelL.get {w:World}:∀{l:List AV}{k:List Value},RelL w l k→k.length=l.length∧∀i a,l[i]? = some a→RelV noX noφ w a (k.getD i undef)
 |[],[],_=>⟨rfl,by simp⟩
 |_::_,_::_,h=>by
  obtain⟨h1,h2⟩:=RelL.get h.2
  refine⟨by simp[h1],fun i a hi=>?_⟩
  cases i with
  |zero=>simp at hi;subst hi;exact h.1
  |succ i=>simpa using h2 i a (by simpa using hi)
theorem RelL.app {w:World}:∀{l l':List AV}{k k':List Value},RelL w l k→RelL w l' k'→RelL w (l++l') (k++k')
 |[],_,[],_,_,h=>h
 |_::_,_,_::_,_,h,h'=>⟨h.1,RelL.app h.2 h'⟩
theorem Zgx {P:Program}{f:FuncId}{args:List AV}(h:Spec P f args [] (B true) []) {w:World}{vals:Array Value}(hr:RelL w args vals.toList):Calls P f vals w fun e w'=>e=.returned (.bool true)∧Below w.heap.size w w':=by
 obtain⟨h1,h2⟩:=hr.get
 refine(h.calls (X:=noX) (φ:=noφ) (by simpa using h1) (fun i a hi=>?_) (fun _=>rfl) (fun _ _ h=>h.elim)).mono ?_
 ·have:=h2 i a hi
  simpa [Array.getD_eq_getD_getElem?,List.getD_eq_getElem?_getD] using this
 ·rintro e w' ⟨v,φ',rfl,hv,hb⟩
  rw[Qc2 hv]
  exact⟨rfl,hb⟩
def Opn (P:Program) (t:TypeId) (n:Nat) {T:Type}(c:T→List AV) (G:T→Prop):Prop:=
 P.cellsOf t=n∧(∀x,(c x).length=n)∧∀(H:Type) (enc:TypeId×Value→H) (w:World) (base:Nat) (spare:Nat→Bool) (held:Bool) (fuel:Nat) (cs:List Value) (x:DataW H×List MemPlace),
  DataW.trod enc P w base spare held fuel t cs=some x→(∀q∈x.1.weights P t,q≤reachBytes)→∃v:T,G v∧RelL w (c v) cs
theorem Zgb {P:Program}{t:TypeId}{k:IntKind}(ht:P.underlying t=some (.int k)) (hc:P.cellsOf t=1):Opn P t 1 (fun x:Int=>[K k x]) (fun x=>(Lit.int k x).wf=true):=
 ⟨hc,fun _=>rfl,fun _ _ _ _ _ _ _ _ _ h _=>by
  obtain⟨n,rfl,_,hw⟩:=DataW.trod_int ht h
  exact⟨n,hw,.lit _,trivial⟩⟩
theorem Zq4 {w:World}{a:Addr}{v:Value}(h:w.cell? a=some v):a.spot=none∧a.block<w.heap.size:=by
 unfold World.cell? at h
 split at h
 ·rename_i hb
  split at h
  ·cases h
  ·rename_i hs
   exact⟨by simpa using hs,(Array.getElem?_eq_some_iff.1 hb).1⟩
 ·cases h
theorem Qp0 (b o i:Nat):(⟨b,o,none⟩:Addr).add i=⟨b,o+i,none⟩:=by
 unfold Addr.add
 split
 ·rename_i h
  subst h
  rfl
 ·rfl
theorem Q24 {T:Type}{p:Nat→T→Prop}:∀(n:Nat),(∀i,i<n→∃x,p i x)→∃l:List T,l.length=n∧∀i x,l[i]? = some x→p i x
 |0,_=>⟨[],rfl,by simp⟩
 |n+1,h=>by
  obtain⟨l,h1,h2⟩:=Q24 n fun i hi=>h i (Nat.lt_succ_of_lt hi)
  obtain⟨x,hx⟩:=h n (Nat.lt_succ_self n)
  refine⟨l++[x],by simp[h1],fun i y hi=>?_⟩
  rcases Nat.lt_or_ge i n with hlt |hge
  ·rw[List.getElem?_append_left (by omega)] at hi
   exact h2 i y hi
  ·rw[List.getElem?_append_right (by omega)] at hi
   have:i=n:=by
    have:=(List.getElem?_eq_some_iff.1 hi).1
    simp at this
    omega
   subst this
   simp[h1] at hi
   exact hi▸hx
theorem Qvw {H:Type}{P:Program}{e:TypeId}:∀{l:List (DataW H)}{d:DataW H},d∈l→∀q∈d.weights P e,q∈DataW.weightsAll P e l
 |[],_,h,_,_=>by cases h
 |x::l,d,h,q,hq=>by
  rw[DataW.weightsAll]
  rcases List.mem_cons.1 h with rfl |h
  ·exact List.mem_append_left _ hq
  ·exact List.mem_append_right _ (Qvw h q hq)
theorem Qnz {P:Program}{t e:TypeId}{n bb:Nat}{T:Type}{c:T→List AV}{G:T→Prop}(ht:P.underlying t=some (.slice e)) (hc:P.cellsOf t=1) (he:Opn P e n c G) (hn:0<n) (hbb:P.bytesOf e=bb) :
  Opn P t 1 (fun l:List T=>[.dat n (l.map c)]) (fun l=>l.length≤maxLen∧(∀x∈l,G x)∧l.length*bb≤140737488351232):=
 ⟨hc,fun _=>rfl,fun H enc w base spare held fuel cs x h hwt=>by
  obtain⟨hce,hcl,hop⟩:=he
  rcases open_slice ht h with ⟨rfl,_⟩ |⟨a,len,cap,m,fu,D,Pl,rfl,hb,hl,hm,hmm,rfl,hi⟩
  ·exact⟨[],⟨Nat.zero_le _,by simp,by simp⟩,.dat n [] none 0 0 (fun _ _=>undef) (DatOK.nil n none 0 _ (Nat.zero_le _)) (by simp),trivial⟩
  ·have hlm:len≤m:=by rw[hmm];split<;>omega
   obtain⟨l,hll,hlp⟩:=Q24 (p:=fun i (v:T)=>G v∧∃cs',cs'.length=n∧(∀j,j<n→w.cell? ((a.add (i*n)).add j)=cs'[j]?)∧RelL w (c v) cs') len fun i hil=>by
    obtain⟨cs',h1,h2⟩:=hi i (by omega)
    obtain⟨v,hG,hr⟩:=hop _ _ _ _ _ _ _ _ _ h2 fun q hq=>hwt q (by
     simp only[DataW.weights,ht]
     exact List.mem_cons_of_mem _ (List.mem_append_left _ (Qvw (List.mem_map.2 ⟨i,List.mem_range.2 hil,rfl⟩) q hq)))
    rw[hce] at h1
    obtain⟨_,h3,h4⟩:=World.cells?_some h1
    exact⟨v,hG,cs',h3,h4,hr⟩
   refine⟨l,⟨by omega,fun x hx=>?_,?_⟩,?_,trivial⟩
   ·obtain⟨i,hi'⟩:=List.getElem?_of_mem hx
    exact(hlp i x hi').1
   ·have:=hwt ((((List.range len).map D).length+((List.range (m-len)).map fun j=>D (len+j)).length)*P.bytesOf e) (by
     simp only[DataW.weights,ht]
     exact List.mem_cons_self ..)
    rw[hbb,List.length_map,List.length_range,Nat.add_mul] at this
    rw[hll]
    exact Nat.le_trans (Nat.le_add_right _ _) this
   ·have elt:∀(i:Nat) y,(l.map c)[i]? = some y→∃v cs',l[i]? = some v∧y=c v∧cs'.length=n∧(∀j,j<n→w.cell? ((a.add (i*n)).add j)=cs'[j]?)∧RelL w (c v) cs':=fun i y hy=>by
     rw[List.getElem?_map] at hy
     cases hv:l[i]? with
     |none=>rw[hv] at hy;cases hy
     |some v=>
      rw[hv] at hy
      cases hy
      obtain⟨_,cs',h1,h2,h3⟩:=hlp i v hv
      exact⟨v,cs',rfl,rfl,h1,h2,h3⟩
    have key:∀(i:Nat) y,(l.map c)[i]? = some y→∀j,j<n→∃u,w.cell? ((a.add (i*n)).add j)=some u∧∀q,y[j]? = some q→RelV noX noφ w q u:=fun i y hy j hj=>by
     obtain⟨v,cs',hv,rfl,h1,h2,h3⟩:=elt i y hy
     obtain⟨u,hu⟩:∃u,cs'[j]? = some u:=⟨_,List.getElem?_eq_getElem (by omega)⟩
     refine⟨u,(h2 j hj).trans hu,fun q hq=>?_⟩
     have:=(h3.get).2 j q hq
     rwa [List.getD_eq_getElem?_getD,hu] at this
    rw[←hll]
    refine .dat n _ (some a) l.length cap (fun i j=>(w.cell? ((a.add (i*n)).add j)).getD undef) ⟨by simp,by omega,hm,fun y hy=>?_,fun hne=>?_⟩ fun i y hy j q hq=>?_
    ·obtain⟨v,_,rfl⟩:=List.mem_map.1 hy
     exact hcl v
    ·obtain⟨y0,hy0⟩:∃y0,(l.map c)[0]? = some y0:=by
      cases l with
      |nil=>exact absurd rfl hne
      |cons v l=>exact⟨c v,rfl⟩
     obtain⟨u,hu,_⟩:=key 0 y0 hy0 0 hn
     have ha0:(a.add (0*n)).add 0=a:=by simp[Addr.add]
     rw[ha0] at hu
     obtain⟨hs,hlt⟩:=Zq4 hu
     obtain⟨b,o,sp⟩:=a
     dsimp only at hs
     subst hs
     refine⟨b,o,rfl,fun i y hy j hj=>⟨⟨hlt,fun h=>h,(fun q h=>by cases h),(fun q L h=>by cases h),(fun q Y h=>by cases h),(fun q bs k h=>by cases h)⟩,?_⟩⟩
     obtain⟨u,hu,_⟩:=key i y hy j hj
     rw[Qp0,Qp0] at hu
     rw[hu,Qp0,Qp0,hu]
     rfl
    ·have hj:j<n:=by
      have h1:=(List.getElem?_eq_some_iff.1 hq).1
      obtain⟨v,_,rfl⟩:=List.mem_map.1 (List.mem_of_getElem? hy)
      rwa [hcl v] at h1
     obtain⟨u,hu,hr⟩:=key i y hy j hj
     rw[hu]
     exact hr q hq⟩
theorem Qe1 {H:Type}{enc:TypeId×Value→H}{P:Program}{w:World}{base:Nat}{spare:Nat→Bool}{held:Bool}{fuel:Nat}{cs:List Value}{fs:Array Field}{xs:List (DataW H×List MemPlace)}(hf:∀(i:Nat) (f:Field),fs[i]? = some f→DataW.trod enc P w base spare held fuel f.type ((cs.drop f.offset).take (P.cellsOf f.type))=xs[i]?)
  (hxl:xs.length=fs.size) (hwt:∀q∈DataW.weightsEach P (fs.toList.map (·.type)) (xs.map (·.1)),q≤reachBytes) {n:Nat}{T:Type}{c:T→List AV}{G:T→Prop}(j:Nat) (f:Field) (hj:fs[j]? = some f) (hop:Opn P f.type n c G):∃v:T,G v∧RelL w (c v) ((cs.drop f.offset).take n):=by
 have hjl:j<xs.length:=by rw[hxl];exact(Array.getElem?_eq_some_iff.1 hj).1
 have h1:=hf j f hj
 rw[List.getElem?_eq_getElem hjl,hop.1] at h1
 exact hop.2.2 _ _ _ _ _ _ _ _ _ h1 fun q hq=>hwt q (DataW.weights_mem_each (j:=j) (by simp[hj]) (by rw[List.getElem?_map,List.getElem?_eq_getElem hjl];rfl) q hq)
theorem Qmh {H:Type}{P:Program}{t:TypeId}{fs:Array Field}{xs:List (DataW H×List MemPlace)}{pl:List MemPlace}(ht:P.underlying t=some (.struct fs)) (h:∀q∈(DataW.agg (xs.map (·.1)),pl).1.weights P t,q≤reachBytes):∀q∈DataW.weightsEach P (fs.toList.map (·.type)) (xs.map (·.1)),q≤reachBytes:=
 fun q hq=>h q (by simp only[DataW.weights,ht];exact hq)
theorem Ze6 {H:Type}{P:Program}{ts:List TypeId}{ds:List (DataW H)}(h:(DataW.weightsEach P ts ds).all (· ≤ reachBytes)=true) (j:Nat) {t:TypeId}{d:DataW H}(ht:ts[j]? = some t) (hd:ds[j]? = some d):∀q∈d.weights P t,q≤reachBytes:=
 fun q hq=>by simpa using List.all_eq_true.1 h q (DataW.weights_mem_each ht hd q hq)
theorem Qh8 {w:World}{A B':List AV}{cs:List Value}{k n k':Nat}(h:RelL w A (cs.take k)) (h':RelL w B' ((cs.drop k).take n)) (hk:k+n=k'):RelL w (A++B') (cs.take k'):=by
 subst hk
 rw[List.take_add]
 exact h.app h'
theorem Qpc {w:World}{A:List AV}{cs:List Value}{n:Nat}(h:RelL w A ((cs.drop 0).take n)):RelL w A (cs.take n):=h
theorem Qwa {w:World}{A:List AV}{cs:List Value}{n:Nat}(h:RelL w A (cs.take n)) (hn:cs.length=n):RelL w A cs:=by
 subst hn
 rwa [List.take_length] at h
section
variable {H : Type} {enc : TypeId × Value → H} {P : Program} {w : World} {base : Nat} {spare : Nat → Bool} {held : Bool} {r : Reach} {b0 : Nat} {v : Value} {d : DataW H} {p : List MemPlace} {t : TypeId} {n : Nat} {T : Type} {c : T → List AV} {G : T → Prop}
theorem Zre (ho:Opn P t 1 c G) (a:T→AV) (ha:∀x,c x=[a x]) (h1:v.cells = #[v]) (h:DataW.Trod enc P w base spare held t v d p) (hwt:∀q∈d.weights P t,q≤reachBytes):∃x:T,G x∧RelV noX noφ w (a x) v:=by
 obtain⟨fuel,hf⟩:=h
 obtain⟨x,hG,hr⟩:=ho.2.2 _ _ _ _ _ _ _ _ _ hf hwt
 rw[ha,h1] at hr
 exact⟨x,hG,hr.1⟩
theorem Q27 {e:TypeId}(ht:P.underlying t=some (.slice e)) (ho:Opn P t 1 c G) (a:T→AV) (ha:∀x,c x=[a x]) (hv:Value.okWide P w r b0 t v) (h:DataW.Trod enc P w base spare held t v d p) (hwt:∀q∈d.weights P t,q≤reachBytes):∃x:T,G x∧RelV noX noφ w (a x) v:=by
 obtain⟨A,len,cap,rfl⟩:=okWide_slice ht hv
 exact Zre ho a ha rfl h hwt
theorem Za9 {fs:Array Field}(ht:P.underlying t=some (.struct fs)) (ho:Opn P t n c G) (hv:Value.okWide P w r b0 t v) (h:DataW.Trod enc P w base spare held t v d p) (hwt:∀q∈d.weights P t,q≤reachBytes):∃x:T,G x∧RelV noX noφ w (.agg (c x)) v:=by
 obtain⟨cs,rfl,hsz⟩:=okWide_struct ht hv
 obtain⟨fuel,hf⟩:=h
 obtain⟨x,hG,hr⟩:=ho.2.2 _ _ _ _ _ _ _ _ _ hf hwt
 obtain⟨h1,h2⟩:=hr.get
 refine⟨x,hG,.agg _ cs (by simpa [Value.cells] using h1) fun i a hi=>?_⟩
 have:=h2 i a hi
 simpa [Value.cells,Array.getD_eq_getD_getElem?,List.getD_eq_getElem?_getD] using this
end
section
variable {H : Type} {enc : TypeId × Value → H} {P : Program}
theorem Qru (hl:laidOutB P=true) {W W':World}(hb:Below W.heap.size W W') {sp:Nat→Bool}:∀(ts:List TypeId) (vs:List Value) (ds:List (DataW H)) (ps:List MemPlace),
  ts.all (fun t=>P.readableRec t&&decide (t<P.types.size))=true→DataW.TrodAll enc P W 0 (fun _=>true) true ts vs ds ps→(∀x∈ps,x.block<W.heap.size)→(∀x∈ps,sp x.block=true) →
  DataW.TrodAll enc P W' 0 sp true ts vs ds ps
 |[],[],[],_,_,h,_,_=>h
 |[],_::_,_,_,_,h,_,_=>by simp[DataW.TrodAll] at h
 |[],[],_::_,_,_,h,_,_=>by simp[DataW.TrodAll] at h
 |_::_,[],_,_,_,h,_,_=>by simp[DataW.TrodAll] at h
 |_::_,_::_,[],_,_,h,_,_=>by simp[DataW.TrodAll] at h
 |t::ts,v::vs,d::ds,ps,hr,h,hlt,hsp=>by
  obtain⟨p,q,h1,h2,rfl⟩:=h
  rw[List.all_cons,Bool.and_eq_true,Bool.and_eq_true,decide_eq_true_eq] at hr
  refine⟨p,q,?_,Qru hl hb ts vs ds q hr.2 h2 (fun x hx=>hlt x (List.mem_append_right _ hx)) (fun x hx=>hsp x (List.mem_append_right _ hx)),rfl⟩
  exact WideElems.Trod_stays hl hr.1.1 hr.1.2 h1 (fun x hx=>hb.same (hlt x (List.mem_append_left _ hx))) (fun x hx=>hsp x (List.mem_append_left _ hx))
theorem Zkp {f:Func}{s:ChangeSpec}{W W':World}{args:Array Value}{ds:List (DataW H)}{before:List MemPlace}(tb:TypeId)
  (hW:DataW.Whole enc P f.params.toList s.vars false W args.toList ds [] before) (hl:laidOutB P=true) (hp:f.params.toList.all (fun t=>P.readableRec t&&decide (t<P.types.size))=true)
  (hrt:f.resultTypes = #[tb]) (htb:P.underlying tb=some .bool) (hv:s.vars=[]) (hs1:(s.fn H (ds++[])).results=[.lit (.bool true)]) (hs2:(s.fn H (ds++[])).args=ds) (hs3:(s.fn H (ds++[])).vars=[])
  (hb:Below W.heap.size W W'):s.post enc P f false true false false W args (.bool true) W':=by
 have hlt:∀p∈before,p.block<W.heap.size:=fun p hp=>hW.lt p hp
 have hold:∀p∈before,(fun b=>decide (b<W.heap.size)) p.block=true:=fun p hp=>by simpa using hlt p hp
 obtain⟨pa,pv,hA,hV,he,hz,hn⟩:=hW
 rw[hv] at hV
 have hpv:pv=[]:=hV
 subst hpv
 rw[List.append_nil] at he
 subst he
 have hargs:∀sp:Nat→Bool,(∀p∈before,sp p.block=true)→DataW.TrodAll enc P W' 0 sp true f.params.toList args.toList (s.fn H (ds++[])).args before:=fun sp hsp=>by
  rw[hs2]
  exact Qru hl hb _ _ _ _ hp hA hlt hsp
 have hvars:∀sp:Nat→Bool,DataW.TrodVars enc P W' sp s.vars (s.fn H (ds++[])).vars []:=fun sp=>by
  rw[hv,hs3]
  exact rfl
 have hres:∀(b:Nat) (sp:Nat→Bool) (hd:Bool),DataW.TrodAll enc P W' b sp hd f.resultTypes.toList ((Value.bool true).resultList f.resultTypes.size) (s.fn H (ds++[])).results []:=fun b sp hd=>by
  rw[hs1,hrt]
  exact trodAll_mk1 (shut_bool htb _)
 have hok:=ok_one (P:=P) (W':=W') (f:=f) (v:=.bool true) hrt rfl (okWide_bool_mk htb _)
 refine⟨ds,[],before,[],before,[],⟨before,[],hA,by rw[hv];exact rfl,by simp,hz,fun h=>by cases h⟩,hres _ _ _,hargs _ hold,hvars _,World.keptBut_mono (fun p hp=>⟨hp,Or.inr (Or.inl hp)⟩) (hb.frame (· ∈ before)),fun _=>?_⟩
 refine⟨hok,_,_,([]++before)++[],⟨[]++before,[],trodAll_append (hargs _ (fun _ _=>rfl)) (hres _ _ _),hvars _,rfl,?_,?_⟩,?_⟩
 ·intro b off hp
  have hin:MemPlace.cell b off∈before:=by simpa using hp
  rw[hb.frozen (hlt _ hin)]
  exact hz b off hin
 ·intro ha
  cases ha
 ·intro p hp _
  simpa using hp
end
end
section
set_option maxRecDepth 100000
open Go.ChangeShapes Go.WideShapes Go.ChangeAt Go.RowKit Go.Deep Go.Joins
def Qlu (x:Int):Prop:=(Lit.int .i64 x).wf=true
def Zg4 (x:GRow):Prop:=Qlu x.T∧Qlu x.P∧Qlu x.Liquid∧Qlu x.Vapour∧Qlu x.Silica
def Q85 (x:(List GRow)):Prop:=x.length≤maxLen∧(∀y∈x,Zg4 y)∧x.length*40≤140737488351232
def Zu1 (x:Int):Prop:=(Lit.int .u8 x).wf=true
def Q86 (x:Qa6):Prop:=Qlu x.Element∧Qlu x.Outlet
def Q3n (x:(List Qa6)):Prop:=x.length≤maxLen∧(∀y∈x,Q86 y)∧x.length*16≤140737488351232
def Q59 (x:(List Int)):Prop:=x.length≤maxLen∧(∀y∈x,Qlu y)∧x.length*8≤140737488351232
def Qw0 (x:Qad):Prop:=Zu1 x.Kind∧Q3n x.From∧Qlu x.Level∧Qlu x.Amount∧Qlu x.Wide∧Qlu x.Narrow∧Q59 x.Weights
def Qt7 (x:(List Qad)):Prop:=x.length≤maxLen∧(∀y∈x,Qw0 y)∧x.length*88≤140737488351232
def Zg5 (x:GNet):Prop:=Q85 x.Table∧Qt7 x.Elements
theorem opn3:Opn prog 3 1 Qav Qlu:=Zgb underlying3 (by kernel_rfl)
theorem Zuw:Opn prog 149 5 Qa7 Zg4:=⟨by kernel_rfl,fun _=>rfl,fun _ _ _ _ _ _ _ _ _ h hw=>by
  obtain⟨xs,n,_,rfl,hl,hx,hf⟩:=DataW.trod_struct underlying149 h
  have hz:=Qmh underlying149 hw
  obtain⟨v0,g0,r0⟩:=Qe1 hf hx hz 0 _ rfl opn3
  obtain⟨v1,g1,r1⟩:=Qe1 hf hx hz 1 _ rfl opn3
  obtain⟨v2,g2,r2⟩:=Qe1 hf hx hz 2 _ rfl opn3
  obtain⟨v3,g3,r3⟩:=Qe1 hf hx hz 3 _ rfl opn3
  obtain⟨v4,g4,r4⟩:=Qe1 hf hx hz 4 _ rfl opn3
  exact⟨⟨v0,v1,v2,v3,v4⟩,⟨g0,g1,g2,g3,g4⟩,Qwa (Qh8 (Qh8 (Qh8 (Qh8 (Qpc r0) r1 rfl) r2 rfl) r3 rfl) r4 rfl) (hl.trans (by kernel_rfl))⟩⟩
theorem Zwt:Opn prog 23 1 Q6j Q85:=Qnz underlying23 (by kernel_rfl) Zuw (by decide) (by kernel_rfl)
theorem opn5:Opn prog 5 1 c_u8 Zu1:=Zgb underlying5 (by kernel_rfl)
theorem Zwm:Opn prog 61 2 Qa3 Q86:=⟨by kernel_rfl,fun _=>rfl,fun _ _ _ _ _ _ _ _ _ h hw=>by
  obtain⟨xs,n,_,rfl,hl,hx,hf⟩:=DataW.trod_struct underlying61 h
  have hz:=Qmh underlying61 hw
  obtain⟨v0,g0,r0⟩:=Qe1 hf hx hz 0 _ rfl opn3
  obtain⟨v1,g1,r1⟩:=Qe1 hf hx hz 1 _ rfl opn3
  exact⟨⟨v0,v1⟩,⟨g0,g1⟩,Qwa (Qh8 (Qpc r0) r1 rfl) (hl.trans (by kernel_rfl))⟩⟩
theorem Zwo:Opn prog 57 1 Q04 Q3n:=Qnz underlying57 (by kernel_rfl) Zwm (by decide) (by kernel_rfl)
theorem Zuv:Opn prog 27 1 Q9n Q59:=Qnz underlying27 (by kernel_rfl) opn3 (by decide) (by kernel_rfl)
theorem Zwn:Opn prog 59 7 Qai Qw0:=⟨by kernel_rfl,fun _=>rfl,fun _ _ _ _ _ _ _ _ _ h hw=>by
  obtain⟨xs,n,_,rfl,hl,hx,hf⟩:=DataW.trod_struct underlying59 h
  have hz:=Qmh underlying59 hw
  obtain⟨v0,g0,r0⟩:=Qe1 hf hx hz 0 _ rfl opn5
  obtain⟨v1,g1,r1⟩:=Qe1 hf hx hz 1 _ rfl Zwo
  obtain⟨v2,g2,r2⟩:=Qe1 hf hx hz 2 _ rfl opn3
  obtain⟨v3,g3,r3⟩:=Qe1 hf hx hz 3 _ rfl opn3
  obtain⟨v4,g4,r4⟩:=Qe1 hf hx hz 4 _ rfl opn3
  obtain⟨v5,g5,r5⟩:=Qe1 hf hx hz 5 _ rfl opn3
  obtain⟨v6,g6,r6⟩:=Qe1 hf hx hz 6 _ rfl Zuv
  exact⟨⟨v0,v1,v2,v3,v4,v5,v6⟩,⟨g0,g1,g2,g3,g4,g5,g6⟩,Qwa (Qh8 (Qh8 (Qh8 (Qh8 (Qh8 (Qh8 (Qpc r0) r1 rfl) r2 rfl) r3 rfl) r4 rfl) r5 rfl) r6 rfl) (hl.trans (by kernel_rfl))⟩⟩
theorem Zws:Opn prog 24 1 Qrc Qt7:=Qnz underlying24 (by kernel_rfl) Zwn (by decide) (by kernel_rfl)
theorem Zwr:Opn prog 26 2 Qhv Zg5:=⟨by kernel_rfl,fun _=>rfl,fun _ _ _ _ _ _ _ _ _ h hw=>by
  obtain⟨xs,n,_,rfl,hl,hx,hf⟩:=DataW.trod_struct underlying26 h
  have hz:=Qmh underlying26 hw
  obtain⟨v0,g0,r0⟩:=Qe1 hf hx hz 0 _ rfl Zwt
  obtain⟨v1,g1,r1⟩:=Qe1 hf hx hz 1 _ rfl Zws
  exact⟨⟨v0,v1⟩,⟨g0,g1⟩,Qwa (Qh8 (Qpc r0) r1 rfl) (hl.trans (by kernel_rfl))⟩⟩
def Qy6 (x:Qaa):Prop:=Qlu x.Mass∧Qlu x.Heat∧Qlu x.Silica∧Qlu x.Gas
def Qwz (x:(List Qaa)):Prop:=x.length≤maxLen∧(∀y∈x,Qy6 y)∧x.length*32≤140737488351232
theorem Zwl:Opn prog 89 4 Qae Qy6:=⟨by kernel_rfl,fun _=>rfl,fun _ _ _ _ _ _ _ _ _ h hw=>by
  obtain⟨xs,n,_,rfl,hl,hx,hf⟩:=DataW.trod_struct underlying89 h
  have hz:=Qmh underlying89 hw
  obtain⟨v0,g0,r0⟩:=Qe1 hf hx hz 0 _ rfl opn3
  obtain⟨v1,g1,r1⟩:=Qe1 hf hx hz 1 _ rfl opn3
  obtain⟨v2,g2,r2⟩:=Qe1 hf hx hz 2 _ rfl opn3
  obtain⟨v3,g3,r3⟩:=Qe1 hf hx hz 3 _ rfl opn3
  exact⟨⟨v0,v1,v2,v3⟩,⟨g0,g1,g2,g3⟩,Qwa (Qh8 (Qh8 (Qh8 (Qpc r0) r1 rfl) r2 rfl) r3 rfl) (hl.trans (by kernel_rfl))⟩⟩
theorem Zwq:Opn prog 28 1 Qaf Qwz:=Qnz underlying28 (by kernel_rfl) Zwl (by decide) (by kernel_rfl)
def Qt6 (x:(List (List Qaa))):Prop:=x.length≤maxLen∧(∀y∈x,Qwz y)∧x.length*24≤140737488351232
theorem Zwp:Opn prog 49 1 Qrb Qt6:=Qnz underlying49 (by kernel_rfl) Zwq (by decide) (by kernel_rfl)
end
section
set_option maxRecDepth 100000
set_option maxHeartbeats 4000000
open Go.RowKit
def Qdv (_N:Nat) (p0:Int) (p1:Int) (p2:Int):Option Bool:=
  bif (decide (p1≤p0)) then
   some (decide (p0≤p2))
  else
   some false
theorem Qd1 (N:Nat) (p0:Int) (p1:Int) (p2:Int) (r:Bool) (h:Qdv N p0 p1 p2=some r):Spec prog 137 [(I p0),(I p1),(I p2)] [] (B r) []:=by
  refine Qal func137 rfl 0 (nle rfl) (fun X φ0 w0 hφ0 hd0=>?_)
  unfold Qdv at h
  refine wxz ?_
  refine bfe h (fun hb1 h=>?_) fun hb1 h=>?_
  ·refine wx tbk [(3,rp [(.tmp 9,(B ((decide (p1≤p0)))))] (B true))] ⟨asb hb1 (amv rfl),tv⟩<|Qah ?_
   obtain rfl:=osi h
   exact fend ⟨[(B ((decide (p0≤p2))))],⟨rot,tv⟩,rfl⟩ nll
  ·exact wx tbk [(3,rp [(.tmp 9,(B ((decide (p1≤p0)))))] (B false))] ⟨asb hb1 (amv rfl),tv⟩<|Qah<|frb h
def Qib (N:Nat) (p0:GRow):Option Bool:=
  (Qdv N p0.T 0 400).bind fun x2=>
  bif x2 then
   (Qdv N p0.P 1 10000).bind fun x5=>
   bif x5 then
    (Qdv N p0.Liquid 0 4000).bind fun x8=>
    bif x8 then
     (Qdv N p0.Silica 0 2000).bind fun x11=>
     bif x11 then
      bif (decide (p0.Liquid<p0.Vapour)) then
       some (decide (p0.Vapour≤4000))
      else
       some false
     else
      some false
    else
     some false
   else
    some false
  else
   some false
def z8_2 (p0:GRow) (x2:Bool):List (Nat×Rec):=[(2,rp [fu 137,((.tmp 4),(I (p0.T))),ci 0,ci 400] (B (x2)))]
def z8_3 (p0) (x2) (x5:Bool):=hcat (z8_2 p0 x2) [(3,rp [((.tmp 5),(B (x2)))] (B (true))),(6,rp [((.tmp 6),(B (true))),fu 137,((.tmp 8),(I (p0.P))),ci 1,ci 10000] (B (x5)))]
def z8_4 (p0) (x2) (x5) (x8:Bool):=hcat (z8_3 p0 x2 x5) [(8,rp [((.tmp 10),(B (x5)))] (B (true))),(11,rp [((.tmp 11),(B (true))),fu 137,((.tmp 13),(I (p0.Liquid))),ci 0,ci 4000] (B (x8)))]
def z8_5 (p0) (x2) (x5) (x8) (x11:Bool):=hcat (z8_4 p0 x2 x5 x8) [(13,rp [((.tmp 15),(B (x8)))] (B (true))),(16,rp [((.tmp 16),(B (true))),fu 137,((.tmp 18),(I (p0.Silica))),ci 0,ci 2000] (B (x11)))]
theorem Qqy (N:Nat) (p0:GRow) (r:Bool) (h:Qib N p0=some r):Spec prog 139 [(.agg (Qa7 p0))] [] (B r) []:=by
  refine Qal func139 rfl 0 (nle rfl) (fun X φ0 w0 hφ0 hd0=>?_)
  unfold Qib at h
  refine wxz ?_
  obtain⟨x2,hf1,h⟩:=bno h
  refine hpre (A:=(z8_2 p0 x2)) ⟨apv Qkl (Qd1 N p0.T 0 400 _ hf1) (nlcc (nlc nll nl0)) nll,tv⟩ fun q1_=>?_
  refine bfe h (fun hb3 h=>?_) fun hb3 h=>?_
  ·obtain⟨x5,hf4,h⟩:=bno h
   refine hpre (A:=(z8_3 p0 x2 x5)) (hap q1_ ⟨asb hb3 (amv rfl),ag_ (apv Qkl (Qd1 N p0.P 1 10000 _ hf4) (nlcc (nlc nll nl0)) nll),tv⟩) fun q2_=>?_
   refine bfe h (fun hb6 h=>?_) fun hb6 h=>?_
   ·obtain⟨x8,hf7,h⟩:=bno h
    refine hpre (A:=(z8_4 p0 x2 x5 x8)) (hap q2_ ⟨asb hb6 (amv rfl),ag_ (apv Qkl (Qd1 N p0.Liquid 0 4000 _ hf7) (nlcc (nlc nll nl0)) nll),tv⟩) fun q3_=>?_
    refine bfe h (fun hb9 h=>?_) fun hb9 h=>?_
    ·obtain⟨x11,hf10,h⟩:=bno h
     refine hpre (A:=(z8_5 p0 x2 x5 x8 x11)) (hap q3_ ⟨asb hb9 (amv rfl),ag_ (apv Qkl (Qd1 N p0.Silica 0 2000 _ hf10) (nlcc (nlc nll nl0)) nll),tv⟩) fun q4_=>?_
     refine bfe h (fun hb12 h=>?_) fun hb12 h=>?_
     ·refine bfe h (fun hb13 h=>?_) fun hb13 h=>?_
      ·refine wx tbk (hcat (z8_5 p0 x2 x5 x8 x11) [(18,rp [(.tmp 20,B x11)] (B true)),(25,rp [(.tmp 27,(B ((decide (p0.Liquid<p0.Vapour)))))] (B true))]) (hap q4_ ⟨asb hb12 (amv rfl),asb hb13 (amv rfl),tv⟩)<|Qah ?_
       obtain rfl:=osi h
       exact fend ⟨[(B ((decide (p0.Vapour≤4000))))],⟨rot,tv⟩,rfl⟩ nll
      ·exact wx tbk (hcat (z8_5 p0 x2 x5 x8 x11) [(18,rp [(.tmp 20,B x11)] (B true)),(25,rp [(.tmp 27,(B ((decide (p0.Liquid<p0.Vapour)))))] (B false))]) (hap q4_ ⟨asb hb12 (amv rfl),asb hb13 (amv rfl),tv⟩)<|Qah<|frb h
     ·exact wx tbk (hcat (z8_5 p0 x2 x5 x8 x11) [(18,rp [(.tmp 20,B x11)] (B false))]) (hap q4_ ⟨asb hb12 (amv rfl),tv⟩)<|Qah<|frb h
    ·exact wx tbk (hcat (z8_4 p0 x2 x5 x8) [(13,rp [(.tmp 15,B x8)] (B false))]) (hap q3_ ⟨asb hb9 (amv rfl),tv⟩)<|Qah<|frb h
   ·exact wx tbk (hcat (z8_3 p0 x2 x5) [(8,rp [(.tmp 10,B x5)] (B false))]) (hap q2_ ⟨asb hb6 (amv rfl),tv⟩)<|Qah<|frb h
  ·exact wx tbk (hcat (z8_2 p0 x2) [(3,rp [(.tmp 5,B x2)] (B false))]) (hap q1_ ⟨asb hb3 (amv rfl),tv⟩)<|Qah<|frb h
def Qfw (N:Nat) (p0:GRow):Option Bool:=
  (Qib N p0).bind fun x3=>
  some (!x3)
def z7_1 (p0:GRow):AV:=.agg [(I (p0.T)),(I (p0.P)),(I (p0.Liquid)),(I (p0.Vapour)),(I (p0.Silica))]
def z7_2:Slot:=.own 1 [[(.fn (.func 139) [] [])]]
theorem Qmj (N:Nat) (p0:GRow) (r:Bool) (h:Qfw N p0=some r):Spec prog 148 [(z7_1 p0),(.ref 0 1 (0) 0)] [z7_2] (B (r)) [z7_2]:=by
  refine Qal func148 rfl 1 (nle rfl) (fun X φ0 w0 hφ0 hd0=>?_)
  unfold Qfw at h
  refine Qbv<|wxz ?_
  obtain⟨x3,hf2,h⟩:=bno h
  refine wx tbk [(2,rp [(.tmp 4,(.fn (.func 139) [] [])),(.tmp 5,(z7_1 p0))] (B x3))] ⟨apv Zlh (Qqy N p0 _ hf2) (nlc (NLt.agg _ (nlcc (nlcc (nlc nll nl0)))) nl0) nll,tv⟩ ?_
  refine wmr (mto (n:=8) (l':=[(3,(B ((!x3))))]) (own':=[z7_2]) [(3,(B ((!x3))))] [0] [z7_2] hφ0 (pw pn) (qb (lc (.rn (Qbj rn0 rn0)) ln) qn))<|Qah ?_
  obtain rfl:=osi h
  exact⟨_,Mor.rfl,Qdh (vs:=[(B ((!x3)))]) ⟨rot,tv⟩ rfl (NLt.of0 nll) (by kernel_rfl) (Qar (Qa4 (nlc (NLt.of0 (NLt.fn _ _ _ nl0 nl0)) nl0)) Qbx)⟩
def Qbh (N:Nat) (p0:(List GRow)) (k2:Unit→Option Int):Nat→Int→Option Int
  |0,_=>none
  |n5+1,y3=>
    bif (decide (y3<(p0.length:Int))) then
     (getI p0 y3).bind fun x7=>
     (Qfw N x7).bind fun x12=>
     bif x12 then
      some y3
     else
      Qbh N p0 k2 n5 (w64 (y3+1))
    else
     k2 ()
def Qde (N:Nat) (p0:(List GRow)):Option Int:=
  Qbn (fun _=>
    some (-1)) fun k2:Unit→Option Int=>
  Qbh N p0 k2 N 0
def z6_0 (p0:(List GRow)):AV:=.dat 5 ((p0:List GRow).map Qa7)
def z6_1:AV:=.fn (.func 148) [] [(.ref 0 1 (0) 0)]
def z6_3:Slot:=.own 1 [[(.fn (.func 139) [] [])]]
def z6_8 (x7:GRow):AV:=.agg [(I (x7.T)),(I (x7.P)),(I (x7.Liquid)),(I (x7.Vapour)),(I (x7.Silica))]
theorem Qic (N:Nat) (p0:(List GRow)) (r:Int) (h:Qde N p0=some r):Spec prog 156 [(z6_0 p0),z6_1] [z6_3] (I (r)) [z6_3]:=by
  refine Qal func156 rfl 1 (nle rfl) (fun X φ0 w0 hφ0 hd0=>?_)
  unfold Qde at h
  refine Qbv<|wxz ?_
  obtain⟨k2,hk_k2,h⟩:=jko h
  refine wjn (τ:=Unit) (fun t=>k2 t=some r) (fun _=>⟨mk 19 [],[z6_3]⟩) (fun t h=>?_) ?_
  ·subst hk_k2
   refine wxz<|wmr (mto (n:=19) (l':=[(4,(I ((-1))))]) (own':=[z6_3]) [(4,(I ((-1))))] [0] [z6_3] hφ0 (pw pn) (qb (lc (.rn (Qbj rn0 rn0)) ln) qn))<|Qah ?_
   obtain rfl:=osi h
   exact⟨_,Mor.rfl,Qdh (vs:=[(I ((-1)))]) ⟨rot,tv⟩ rfl (NLt.of0 nll) (by kernel_rfl) (Qar (Qa4 (nlc (NLt.of0 (NLt.fn _ _ _ nl0 nl0)) nl0)) Qbx)⟩
  ·skip
   refine wx tbk [(1,rp [(.tmp 6,(z6_0 p0))] (I ((p0.length:Int))))] ⟨alm (c:=Qa7) (l:=p0) (aln rfl underlying38 rfl),tv⟩<|Qao ?_
   refine wmr (mto (n:=19) (l':=[(0,(z6_0 p0)),(1,z6_1),(7,(I ((p0.length:Int)))),(8,I 0)]) (own':=[z6_3]) [(0,(z6_0 p0)),(1,z6_1),(7,(I ((p0.length:Int)))),(8,I 0)] [0] [z6_3] hφ0 (pc (rnd Qan) (pc (.rn (Qbj rn0 (rnc (rqr rfl) rn0))) (pw (pw pn)))) (qb (lc (.rn (Qbj rn0 rn0)) ln) qn)) ?_
   refine Qb3 (τ:=Int) (fun n t=>Qbh N p0 k2 n t=some r) (fun y3=>⟨mk 19 [(0,(z6_0 p0)),(1,z6_1),(7,(I ((p0.length:Int)))),(8,I y3)],[z6_3]⟩) (fun t h=>by rw[Qbh] at h;cases h) (fun n5 ih y3 h=>?_) N (0) h
   rw[Qbh] at h
   skip
   refine wxz<|wsq ?_
   refine bfe h (fun hc6 h=>?_) fun hc6 h=>?_
   ·refine wft hc6<|Qap<|thn<|wsq<|Qao<|wxz ?_
    obtain⟨x7,hg8,h⟩:=bno h
    obtain⟨hi9,hj10⟩:=gsm hg8
    obtain⟨x12,hf11,h⟩:=bno h
    refine wx tbk [(3,rp [(.tmp 12,(z6_0 p0)),(.tmp 13,I y3)] (.dptr (Qa7 (x7)) 0)),(5,⟨[(.tmp 11,z6_1),(.tmp 15,(z6_8 x7))],[(0,z6_3)],B x12,[(0,z6_3)],false⟩)] ⟨aid rfl underlying38 Qxz rfl rfl hi9 (mgt Qa7 hj10) rfl,Qau (first:=[]) (cap:=[.ref 0 1 0 0]) (vs:=[(z6_8 x7)]) (σr:=[z6_3]) (σr':=[z6_3]) (res':=(B x12)) [0] rfl Zk9 (Qmj N x7 _ hf11) rfl (Qbp (rnc (.plain _ (NLt.agg _ (nlcc (nlcc (nlc nll nl0))))) (rnc (Qa0 rfl) rn0))) (slc (Qam (rnc (.plain _ (NLt.fn _ _ _ nl0 nl0)) rn0)) Qat) (slc (Qam (rnc (.plain _ (NLt.fn _ _ _ nl0 nl0)) rn0)) Qat) (.plain _ nll) rfl rfl rfl,tv⟩ ?_
    refine bfe h (fun hc13 h=>?_) fun hc13 h=>?_
    ·refine wft hc13<|wxz ?_
     refine wmr (mto (n:=19) (l':=[(4,I y3)]) (own':=[z6_3]) [(4,I y3)] [0] [z6_3] hφ0 (pw pn) (qb (lc (.rn (Qbj rn0 rn0)) ln) qn))<|Qah<|Qaq<|Qac<|Qac<|Qaq<|Qac ?_
     obtain rfl:=osi h
     exact⟨_,Mor.rfl,Qdh (vs:=[I y3]) ⟨rot,tv⟩ rfl (NLt.of0 nll) (by kernel_rfl) (Qar (Qa4 (nlc (NLt.of0 (NLt.fn _ _ _ nl0 nl0)) nl0)) Qbx)⟩
    ·exact wfn hc13<|Qap<|bln<|thn<|wxz1<|thn<|arm (mto (n:=19) [(0,(z6_0 p0)),(1,z6_1),(7,(I ((p0.length:Int)))),(8,(I (w64 (y3+1))))] [0] [z6_3] hφ0 (pc (rnd Qan) (pc (.rn (Qbj rn0 (rnc (rqr rfl) rn0))) (pw (pw pn)))) (qb (lc (.rn (Qbj rn0 rn0)) ln) qn)) (ih (w64 (y3+1)) h)
   ·exact wfn hc6<|Qbl<|Qax<|Qax<|Qbk rfl<|thn<|⟨(),h,(mto (n:=19) [] [0] [z6_3] hφ0 pn (qb (lc (.rn (Qbj rn0 rn0)) ln) qn))⟩
def Qc0 (N:Nat) (p0:(List GRow)):Option Bool:=
  (Qde N p0).bind fun x3=>
  some (decide (x3≥0))
def z5_0 (p0:(List GRow)):AV:=.dat 5 ((p0:List GRow).map Qa7)
def z5_1:AV:=.fn (.func 148) [] [(.ref 0 1 (0) 0)]
def z5_2:Slot:=.own 1 [[(.fn (.func 139) [] [])]]
theorem Qhm (N:Nat) (p0:(List GRow)) (r:Bool) (h:Qc0 N p0=some r):Spec prog 147 [(z5_0 p0),z5_1] [z5_2] (B (r)) [z5_2]:=by
  refine Qal func147 rfl 1 (nle rfl) (fun X φ0 w0 hφ0 hd0=>?_)
  unfold Qc0 at h
  refine Qbv<|wxz ?_
  obtain⟨x3,hf2,h⟩:=bno h
  refine wx tbk [(2,⟨[fu 156,(.tmp 5,(z5_0 p0)),(.tmp 6,z5_1)],[(0,z5_2)],I x3,[(0,z5_2)],false⟩)] ⟨Qau (first:=[]) (cap:=[]) (vs:=[(z5_0 p0),z5_1]) (σr:=[z5_2]) (σr':=[z5_2]) (res':=(I x3)) [0] rfl Zk2 (Qic N p0 _ hf2) rfl (Qbp (rnc (pld Qan) (rnc (Qbj rn0 (rnc (Qa0 rfl) rn0)) rn0))) (slc (Qam (rnc (.plain _ (NLt.fn _ _ _ nl0 nl0)) rn0)) Qat) (slc (Qam (rnc (.plain _ (NLt.fn _ _ _ nl0 nl0)) rn0)) Qat) (.plain _ nll) rfl rfl rfl,tv⟩ ?_
  refine wmr (mto (n:=9) (l':=[(4,(B ((decide (x3≥0)))))]) (own':=[z5_2]) [(4,(B ((decide (x3≥0)))))] [0] [z5_2] hφ0 (pw pn) (qb (lc (.rn (Qbj rn0 rn0)) ln) qn))<|Qah ?_
  obtain rfl:=osi h
  exact⟨_,Mor.rfl,Qdh (vs:=[(B ((decide (x3≥0))))]) ⟨rot,tv⟩ rfl (NLt.of0 nll) (by kernel_rfl) (Qar (Qa4 (nlc (NLt.of0 (NLt.fn _ _ _ nl0 nl0)) nl0)) Qbx)⟩
def Qfn (N:Nat) (p0:(List GRow)):Option Bool:=
  (Qc0 N p0).bind fun x2=>
  some (!x2)
def z4_1 (p0:(List GRow)):AV:=.dat 5 ((p0:List GRow).map Qa7)
def z4_2:AV:=.fn (.func 148) [] [(.ref 0 1 (0) 0)]
def z4_0:Slot:=.own 1 [[(.fn (.func 139) [] [])]]
theorem Qna (N:Nat) (p0:(List GRow)) (r:Bool) (h:Qfn N p0=some r):Spec prog 138 [(z4_1 p0),(.fn (.func 139) [] [])] [] (B (r)) []:=by
  refine Qal func138 rfl 0 (nle rfl) (fun X φ0 w0 hφ0 hd0=>?_)
  unfold Qfn at h
  refine wxz ?_
  obtain⟨x2,hf1,h⟩:=bno h
  refine wx tbk [(1,rp [(.tmp 3,.ref 0 1 0 0)] z4_2),(2,⟨[fu 147,(.tmp 5,(z4_1 p0)),(.tmp 6,z4_2)],[(0,z4_0)],B x2,[(0,z4_0)],false⟩)] ⟨Qe2 (fs:=[]) (cs:=[.ref 0 1 0 0]) rfl rfl rfl rfl,Qau (first:=[]) (cap:=[]) (vs:=[(z4_1 p0),z4_2]) (σr:=[z4_0]) (σr':=[z4_0]) (res':=(B x2)) [0] rfl Zla (Qhm N p0 _ hf1) rfl (Qbp (rnc (pld Qan) (rnc (Qbj rn0 (rnc (Qa0 rfl) rn0)) rn0))) (slc (Qam (rnc (.plain _ (NLt.fn _ _ _ nl0 nl0)) rn0)) Qat) (slc (Qam (rnc (.plain _ (NLt.fn _ _ _ nl0 nl0)) rn0)) Qat) (.plain _ nll) rfl rfl rfl,tv⟩<|Qah ?_
  obtain rfl:=osi h
  exact fend ⟨[(B ((!x2)))],⟨rot,tv⟩,rfl⟩ nll
def Qdo (N:Nat) (p0:(List GRow)) (k2:Unit→Option Bool):Nat→Int→Option Bool
  |0,_=>none
  |n6+1,y4=>
    bif (decide (y4<((p0.drop (1:Int).toNat).length:Int))) then
     (getI (p0.drop (1:Int).toNat) y4).bind fun x8=>
     (getI p0 y4).bind fun x12=>
     bif (decide (x8.T≤x12.T)) then
      some false
     else
      bif (decide (x8.P≤x12.P)) then
       some false
      else
       bif (decide (x8.Liquid≤x12.Liquid)) then
        some false
       else
        bif (decide (x8.Silica<x12.Silica)) then
         some false
        else
         Qdo N p0 k2 n6 (w64 (y4+1))
    else
     k2 ()
def Qfx (N:Nat) (p0:(List GRow)):Option Bool:=
  Qbn (fun _=>
    Qbn (fun _=>
      some true) fun k2:Unit→Option Bool=>
    chk (decide (0≤1)&&decide (1≤(p0.length:Int))&&decide ((p0.length:Int)≤(p0.length:Int)))<|
    Qdo N p0 k2 N 0) fun k1:Unit→Option Bool=>
  (Qdv N (p0.length:Int) 2 20).bind fun x21=>
  bif (!x21) then
   some false
  else
   (Qfn N p0).bind fun x24=>
   bif (!x24) then
    some false
   else
    k1 ()
def z2_0 (p0:(List GRow)):AV:=.dat 5 ((p0:List GRow).map Qa7)
def z2_1 (p0:(List GRow)):AV:=.dat 5 ((p0.drop (1:Int).toNat:List GRow).map Qa7)
def Zjc (x8:GRow) (x12:GRow):List (Nat×Rec):=[(5,rp [((.tmp 31),(B ((decide (x8.T≤x12.T)))))] (B (false)))]
def Zp4 (p0:(List GRow)) (x21:Bool):List (Nat×Rec):=[(1,rp [((.tmp 6),(z2_0 p0))] (I ((p0.length:Int)))),(2,rp [fu 137,((.tmp 7),(I ((p0.length:Int)))),ci 2,ci 20] (B (x21)))]
theorem Qk8 (N:Nat) (p0:(List GRow)) (r:Bool) (h:Qfx N p0=some r):Spec prog 122 [(.dat 5 (p0.map Qa7))] [] (B r) []:=by
  refine Qal func122 rfl 0 (nle rfl) (fun X φ0 w0 hφ0 hd0=>?_)
  unfold Qfx at h
  refine wxz ?_
  obtain⟨k1,hk_k1,h⟩:=jko h
  refine wjn (τ:=Unit) (fun t=>k1 t=some r) (fun _=>⟨mk 54 [(0,(z2_0 p0))],[]⟩) (fun t h=>?_) ?_
  ·subst hk_k1
   obtain⟨k2,hk_k2,h⟩:=jko h
   refine wjn (τ:=Unit) (fun t=>k2 t=some r) (fun _=>⟨mk 54 [],[]⟩) (fun t h=>?_) ?_
   ·subst hk_k2
    exact wxz<|Qah<|frb h
   ·skip
    obtain⟨hs3,h⟩:=cko h
    refine wx tbk [(1,rp [(.tmp 15,(z2_0 p0)),ci 1] (z2_1 p0)),(2,rp [(.tmp 16,(z2_1 p0))] (I (((p0.drop (1:Int).toNat).length:Int))))] ⟨Qjx (k:=.i64) (k':=.i64) (lo:=some (.const (.int .i64 1))) (hi:=none) (l:=1) (hh:=((p0.length:Nat):Int)) rfl underlying39 Qxz rfl (fun e=>nomatch e) (fun _=>by simp) (Qx7 hs3) (Qx6 hs3) (Zb3 (Qa7) hs3) (Zfr Qa7),alm (c:=Qa7) (l:=p0.drop (1:Int).toNat) (aln rfl underlying39 rfl),tv⟩<|Qao ?_
    refine wmr (mto (n:=54) (l':=[(0,(z2_0 p0)),(16,(z2_1 p0)),(17,(I (((p0.drop (1:Int).toNat).length:Int)))),(18,I 0)]) (own':=[]) [(0,(z2_0 p0)),(16,(z2_1 p0)),(17,(I (((p0.drop (1:Int).toNat).length:Int)))),(18,I 0)] [] [] hφ0 (pc (rnd Qan) (pc (rnd Qan) (pw (pw pn)))) qn) ?_
    refine Qb3 (τ:=Int) (fun n t=>Qdo N p0 k2 n t=some r) (fun y4=>⟨mk 54 [(0,(z2_0 p0)),(16,(z2_1 p0)),(17,(I (((p0.drop (1:Int).toNat).length:Int)))),(18,I y4)],[]⟩) (fun t h=>by rw[Qdo] at h;cases h) (fun n6 ih y4 h=>?_) N (0) h
    rw[Qdo] at h
    skip
    refine wxz<|wsq ?_
    refine bfe h (fun hc7 h=>?_) fun hc7 h=>?_
    ·refine wft hc7<|Qap<|thn<|wsq<|Qao ?_
     obtain⟨x8,hg9,h⟩:=bno h
     obtain⟨hi10,hj11⟩:=gsm hg9
     refine wx tbk [(1,rp [(.tmp 16,(z2_1 p0)),(.tmp 18,I y4)] (.dptr (Qa7 (x8)) 0))] ⟨aid rfl underlying39 Qxz rfl rfl hi10 (mgt Qa7 hj11) rfl,tv⟩ ?_
     obtain⟨x12,hg13,h⟩:=bno h
     obtain⟨hi14,hj15⟩:=gsm hg13
     refine wx tbk [(2,rp [(.tmp 23,(z2_0 p0)),(.tmp 24,I y4)] (.dptr (Qa7 (x12)) 0))] ⟨aid rfl underlying39 Qxz rfl rfl hi14 (mgt Qa7 hj15) rfl,tv⟩ ?_
     refine bfe h (fun hb16 h=>?_) fun hb16 h=>?_
     ·exact wx tbk [(5,rp [(.tmp 31,(B ((decide (x8.T≤x12.T)))))] (B true))] ⟨asb hb16 (amv rfl),tv⟩<|wtr<|wxz<|Qah<|Qaq<|Qac<|Qac<|Qaq<|Qac<|frb h
     ·refine hpre (A:=(Zjc x8 x12)) ⟨asb hb16 (amv rfl),tv⟩ fun q1_=>?_
      refine bfe h (fun hb17 h=>?_) fun hb17 h=>?_
      ·exact wx tbk (hcat (Zjc x8 x12) [(12,rp [(.tmp 38,(B ((decide (x8.P≤x12.P)))))] (B true))]) (hap q1_ ⟨asb hb17 (amv rfl),tv⟩)<|wtr<|wxz<|Qah<|Qaq<|Qac<|Qac<|Qaq<|Qac<|frb h
      ·refine bfe h (fun hb18 h=>?_) fun hb18 h=>?_
       ·exact wx tbk (hcat (Zjc x8 x12) [(12,rp [(.tmp 38,(B ((decide (x8.P≤x12.P)))))] (B false)),(19,rp [(.tmp 45,(B ((decide (x8.Liquid≤x12.Liquid)))))] (B true))]) (hap q1_ ⟨asb hb17 (amv rfl),asb hb18 (amv rfl),tv⟩)<|wtr<|wxz<|Qah<|Qaq<|Qac<|Qac<|Qaq<|Qac<|frb h
       ·refine wx tbk (hcat (Zjc x8 x12) [(12,rp [(.tmp 38,(B ((decide (x8.P≤x12.P)))))] (B false)),(19,rp [(.tmp 45,(B ((decide (x8.Liquid≤x12.Liquid)))))] (B false))]) (hap q1_ ⟨asb hb17 (amv rfl),asb hb18 (amv rfl),tv⟩) ?_
        refine bfe h (fun hc19 h=>?_) fun hc19 h=>?_
        ·exact wft hc19<|wxz<|Qah<|Qaq<|Qac<|Qac<|Qaq<|Qac<|frb h
        ·exact wfn hc19<|Qap<|bln<|thn<|wxz1<|thn<|arm (mto (n:=54) [(0,(z2_0 p0)),(16,(z2_1 p0)),(17,(I (((p0.drop (1:Int).toNat).length:Int)))),(18,(I (w64 (y4+1))))] [] [] hφ0 (pc (rnd Qan) (pc (rnd Qan) (pw (pw pn)))) qn) (ih (w64 (y4+1)) h)
    ·exact wfn hc7<|Qbl<|Qax<|Qax<|Qbk rfl<|thn<|⟨(),h,(mto (n:=54) [] [] [] hφ0 pn qn)⟩
  ·skip
   obtain⟨x21,hf20,h⟩:=bno h
   refine hpre (A:=(Zp4 p0 x21)) ⟨alm (c:=Qa7) (l:=p0) (aln rfl underlying39 rfl),apv Qkl (Qd1 N (p0.length:Int) 2 20 _ hf20) (nlcc (nlc nll nl0)) nll,tv⟩ fun q2_=>?_
   refine bfe h (fun hb22 h=>?_) fun hb22 h=>?_
   ·exact wx tbk (hcat (Zp4 p0 x21) [(4,rp [(.tmp 9,(B ((!x21))))] (B true))]) (hap q2_ ⟨asb hb22 (amv rfl),tv⟩)<|wtr<|wxz<|Qah<|Qac<|frb h
   ·obtain⟨x24,hf23,h⟩:=bno h
    refine wx tbk (hcat (Zp4 p0 x21) [(4,rp [(.tmp 9,(B ((!x21))))] (B false)),(6,rp [(.tmp 10,B false),fu 138,(.tmp 11,(z2_0 p0)),fu 139] (B x24))]) (hap q2_ ⟨asb hb22 (amv rfl),ag_ (Qau (first:=[]) (cap:=[]) (vs:=[(z2_0 p0),(.fn (.func 139) [] [])]) (σr:=[]) (σr':=[]) (res':=(B x24)) [] rfl Zli (Qna N p0 _ hf23) rfl (Qbp (rnc (pld Qan) (rnc (.plain _ (NLt.fn _ _ _ nl0 nl0)) rn0))) Qat Qat (.plain _ nll) rfl rfl rfl),tv⟩) ?_
    refine bfe h (fun hc25 h=>?_) fun hc25 h=>?_
    ·exact wft hc25<|wxz<|Qah<|Qac<|frb h
    ·exact wfn hc25<|Qap<|thn<|⟨(),h,(mto (n:=54) [(0,(z2_0 p0))] [] [] hφ0 (pc (rnd Qan) pn) qn)⟩
def Qi1 (N:Nat) (p0:(List GRow)):Option Int:=
  (Qfx N p0).bind fun x2=>
  bif (!x2) then
   some 1
  else
   some 0
theorem Qp6 (N:Nat) (p0:(List GRow)) (r:Int) (h:Qi1 N p0=some r):Spec prog 100 [(.dat 5 (p0.map Qa7))] [] (I r) []:=by
  refine Qal func100 rfl 0 (nle rfl) (fun X φ0 w0 hφ0 hd0=>?_)
  unfold Qi1 at h
  refine wxz<|wsq ?_
  obtain⟨x2,hf1,h⟩:=bno h
  refine wx tbk [(1,rp [fu 122,(.tmp 3,(.dat 5 ((p0:List GRow).map Qa7)))] (B x2))] ⟨apv Q9i (Qk8 N p0 _ hf1) (nlc (nld Qan _) nl0) nll,tv⟩ ?_
  refine bfe h (fun hc3 h=>?_) fun hc3 h=>?_
  ·refine wft hc3<|wxz<|Qah<|Qac ?_
   obtain rfl:=osi h
   exact fend ⟨[I 1],⟨rot,tv⟩,rfl⟩ nll
  ·refine wfn hc3<|Qap<|thn<|wxz<|Qah ?_
   obtain rfl:=osi h
   exact fend ⟨[I 0],⟨rot,tv⟩,rfl⟩ nll
def Qc7 (_N:Nat) (p0:Int) (p1:Int) (p2:Int):Option Bool:=
  bif (decide (p1≤p0)) then
   some (decide (p0≤p2))
  else
   some false
theorem Qd2 (N:Nat) (p0:Int) (p1:Int) (p2:Int) (r:Bool) (h:Qc7 N p0 p1 p2=some r):Spec prog 65 [(I p0),(I p1),(I p2)] [] (B r) []:=by
  refine Qal func65 rfl 0 (nle rfl) (fun X φ0 w0 hφ0 hd0=>?_)
  unfold Qc7 at h
  refine wxz ?_
  refine bfe h (fun hb1 h=>?_) fun hb1 h=>?_
  ·refine wx tbk [(3,rp [(.tmp 9,(B ((decide (p1≤p0)))))] (B true))] ⟨asb hb1 (amv rfl),tv⟩<|Qah ?_
   obtain rfl:=osi h
   exact fend ⟨[(B ((decide (p0≤p2))))],⟨rot,tv⟩,rfl⟩ nll
  ·exact wx tbk [(3,rp [(.tmp 9,(B ((decide (p1≤p0)))))] (B false))] ⟨asb hb1 (amv rfl),tv⟩<|Qah<|frb h
def Qg5 (N:Nat) (p0:Int):Option Bool:=
  (Qc7 N p0 0 1000).bind fun x2=>
  some x2
theorem Qnx (N:Nat) (p0:Int) (r:Bool) (h:Qg5 N p0=some r):Spec prog 125 [(I p0)] [] (B r) []:=by
  refine Qal func125 rfl 0 (nle rfl) (fun X φ0 w0 hφ0 hd0=>?_)
  unfold Qg5 at h
  refine wxz ?_
  obtain⟨x2,hf1,h⟩:=bno h
  exact wx tbk [(1,rp [fu 65,(.tmp 3,I p0),ci 0,ci 1000] (B x2))] ⟨apv Ql1 (Qd2 N p0 0 1000 _ hf1) (nlcc (nlc nll nl0)) nll,tv⟩<|Qah<|frb h
def Qhr (N:Nat) (p0:Int):Option Bool:=
  (Qg5 N p0).bind fun x3=>
  some (!x3)
def Zjh:Slot:=.own 1 [[(.fn (.func 125) [] [])]]
theorem Qqd (N:Nat) (p0:Int) (r:Bool) (h:Qhr N p0=some r):Spec prog 128 [(I (p0)),(.ref 0 1 (0) 0)] [Zjh] (B (r)) [Zjh]:=by
  refine Qal func128 rfl 1 (nle rfl) (fun X φ0 w0 hφ0 hd0=>?_)
  unfold Qhr at h
  refine Qbv<|wxz ?_
  obtain⟨x3,hf2,h⟩:=bno h
  refine wx tbk [(2,rp [(.tmp 4,(.fn (.func 125) [] [])),(.tmp 5,I p0)] (B x3))] ⟨apv Zlp (Qnx N p0 _ hf2) (nlc nll nl0) nll,tv⟩ ?_
  refine wmr (mto (n:=8) (l':=[(3,(B ((!x3))))]) (own':=[Zjh]) [(3,(B ((!x3))))] [0] [Zjh] hφ0 (pw pn) (qb (lc (.rn (Qbj rn0 rn0)) ln) qn))<|Qah ?_
  obtain rfl:=osi h
  exact⟨_,Mor.rfl,Qdh (vs:=[(B ((!x3)))]) ⟨rot,tv⟩ rfl (NLt.of0 nll) (by kernel_rfl) (Qar (Qa4 (nlc (NLt.of0 (NLt.fn _ _ _ nl0 nl0)) nl0)) Qbx)⟩
def Qcl (N:Nat) (p0:(List Int)) (k2:Unit→Option Int):Nat→Int→Option Int
  |0,_=>none
  |n5+1,y3=>
    bif (decide (y3<(p0.length:Int))) then
     (getI p0 y3).bind fun x7=>
     (Qhr N x7).bind fun x12=>
     bif x12 then
      some y3
     else
      Qcl N p0 k2 n5 (w64 (y3+1))
    else
     k2 ()
def Qfa (N:Nat) (p0:(List Int)):Option Int:=
  Qbn (fun _=>
    some (-1)) fun k2:Unit→Option Int=>
  Qcl N p0 k2 N 0
def Q42 (p0:(List Int)):AV:=.dat 1 ((p0:List Int).map Qav)
def Zam:AV:=.fn (.func 128) [] [(.ref 0 1 (0) 0)]
def Qp4:Slot:=.own 1 [[(.fn (.func 125) [] [])]]
theorem Qlg (N:Nat) (p0:(List Int)) (r:Int) (h:Qfa N p0=some r):Spec prog 141 [(Q42 p0),Zam] [Qp4] (I (r)) [Qp4]:=by
  refine Qal func141 rfl 1 (nle rfl) (fun X φ0 w0 hφ0 hd0=>?_)
  unfold Qfa at h
  refine Qbv<|wxz ?_
  obtain⟨k2,hk_k2,h⟩:=jko h
  refine wjn (τ:=Unit) (fun t=>k2 t=some r) (fun _=>⟨mk 19 [],[Qp4]⟩) (fun t h=>?_) ?_
  ·subst hk_k2
   refine wxz<|wmr (mto (n:=19) (l':=[(4,(I ((-1))))]) (own':=[Qp4]) [(4,(I ((-1))))] [0] [Qp4] hφ0 (pw pn) (qb (lc (.rn (Qbj rn0 rn0)) ln) qn))<|Qah ?_
   obtain rfl:=osi h
   exact⟨_,Mor.rfl,Qdh (vs:=[(I ((-1)))]) ⟨rot,tv⟩ rfl (NLt.of0 nll) (by kernel_rfl) (Qar (Qa4 (nlc (NLt.of0 (NLt.fn _ _ _ nl0 nl0)) nl0)) Qbx)⟩
  ·skip
   refine wx tbk [(1,rp [(.tmp 6,(Q42 p0))] (I ((p0.length:Int))))] ⟨alm (c:=Qav) (l:=p0) (aln rfl underlying27 rfl),tv⟩<|Qao ?_
   refine wmr (mto (n:=19) (l':=[(0,(Q42 p0)),(1,Zam),(7,(I ((p0.length:Int)))),(8,I 0)]) (own':=[Qp4]) [(0,(Q42 p0)),(1,Zam),(7,(I ((p0.length:Int)))),(8,I 0)] [0] [Qp4] hφ0 (pc (rnd Qaj) (pc (.rn (Qbj rn0 (rnc (rqr rfl) rn0))) (pw (pw pn)))) (qb (lc (.rn (Qbj rn0 rn0)) ln) qn)) ?_
   refine Qb3 (τ:=Int) (fun n t=>Qcl N p0 k2 n t=some r) (fun y3=>⟨mk 19 [(0,(Q42 p0)),(1,Zam),(7,(I ((p0.length:Int)))),(8,I y3)],[Qp4]⟩) (fun t h=>by rw[Qcl] at h;cases h) (fun n5 ih y3 h=>?_) N (0) h
   rw[Qcl] at h
   skip
   refine wxz<|wsq ?_
   refine bfe h (fun hc6 h=>?_) fun hc6 h=>?_
   ·refine wft hc6<|Qap<|thn<|wsq<|Qao<|wxz ?_
    obtain⟨x7,hg8,h⟩:=bno h
    obtain⟨hi9,hj10⟩:=gsm hg8
    obtain⟨x12,hf11,h⟩:=bno h
    refine wx tbk [(3,rp [(.tmp 12,(Q42 p0)),(.tmp 13,I y3)] (.dptr (Qav (x7)) 0)),(5,⟨[(.tmp 11,Zam),(.tmp 15,I x7)],[(0,Qp4)],B x12,[(0,Qp4)],false⟩)] ⟨aid rfl underlying27 ti3 rfl rfl hi9 (mgt Qav hj10) rfl,Qau (first:=[]) (cap:=[.ref 0 1 0 0]) (vs:=[I x7]) (σr:=[Qp4]) (σr':=[Qp4]) (res':=(B x12)) [0] rfl Q9h (Qqd N x7 _ hf11) rfl (Qbp (rnc (.plain _ nll) (rnc (Qa0 rfl) rn0))) (slc (Qam (rnc (.plain _ (NLt.fn _ _ _ nl0 nl0)) rn0)) Qat) (slc (Qam (rnc (.plain _ (NLt.fn _ _ _ nl0 nl0)) rn0)) Qat) (.plain _ nll) rfl rfl rfl,tv⟩ ?_
    refine bfe h (fun hc13 h=>?_) fun hc13 h=>?_
    ·refine wft hc13<|wxz ?_
     refine wmr (mto (n:=19) (l':=[(4,I y3)]) (own':=[Qp4]) [(4,I y3)] [0] [Qp4] hφ0 (pw pn) (qb (lc (.rn (Qbj rn0 rn0)) ln) qn))<|Qah<|Qaq<|Qac<|Qac<|Qaq<|Qac ?_
     obtain rfl:=osi h
     exact⟨_,Mor.rfl,Qdh (vs:=[I y3]) ⟨rot,tv⟩ rfl (NLt.of0 nll) (by kernel_rfl) (Qar (Qa4 (nlc (NLt.of0 (NLt.fn _ _ _ nl0 nl0)) nl0)) Qbx)⟩
    ·exact wfn hc13<|Qap<|bln<|thn<|wxz1<|thn<|arm (mto (n:=19) [(0,(Q42 p0)),(1,Zam),(7,(I ((p0.length:Int)))),(8,(I (w64 (y3+1))))] [0] [Qp4] hφ0 (pc (rnd Qaj) (pc (.rn (Qbj rn0 (rnc (rqr rfl) rn0))) (pw (pw pn)))) (qb (lc (.rn (Qbj rn0 rn0)) ln) qn)) (ih (w64 (y3+1)) h)
   ·exact wfn hc6<|Qbl<|Qax<|Qax<|Qbk rfl<|thn<|⟨(),h,(mto (n:=19) [] [0] [Qp4] hφ0 pn (qb (lc (.rn (Qbj rn0 rn0)) ln) qn))⟩
def Qds (N:Nat) (p0:(List Int)):Option Bool:=
  (Qfa N p0).bind fun x3=>
  some (decide (x3≥0))
def Zqd (p0:(List Int)):AV:=.dat 1 ((p0:List Int).map Qav)
def Zqc:AV:=.fn (.func 128) [] [(.ref 0 1 (0) 0)]
def Q1t:Slot:=.own 1 [[(.fn (.func 125) [] [])]]
theorem Qj6 (N:Nat) (p0:(List Int)) (r:Bool) (h:Qds N p0=some r):Spec prog 126 [(Zqd p0),Zqc] [Q1t] (B (r)) [Q1t]:=by
  refine Qal func126 rfl 1 (nle rfl) (fun X φ0 w0 hφ0 hd0=>?_)
  unfold Qds at h
  refine Qbv<|wxz ?_
  obtain⟨x3,hf2,h⟩:=bno h
  refine wx tbk [(2,⟨[fu 141,(.tmp 5,(Zqd p0)),(.tmp 6,Zqc)],[(0,Q1t)],I x3,[(0,Q1t)],false⟩)] ⟨Qau (first:=[]) (cap:=[]) (vs:=[(Zqd p0),Zqc]) (σr:=[Q1t]) (σr':=[Q1t]) (res':=(I x3)) [0] rfl Qsi (Qlg N p0 _ hf2) rfl (Qbp (rnc (pld Qaj) (rnc (Qbj rn0 (rnc (Qa0 rfl) rn0)) rn0))) (slc (Qam (rnc (.plain _ (NLt.fn _ _ _ nl0 nl0)) rn0)) Qat) (slc (Qam (rnc (.plain _ (NLt.fn _ _ _ nl0 nl0)) rn0)) Qat) (.plain _ nll) rfl rfl rfl,tv⟩ ?_
  refine wmr (mto (n:=9) (l':=[(4,(B ((decide (x3≥0)))))]) (own':=[Q1t]) [(4,(B ((decide (x3≥0)))))] [0] [Q1t] hφ0 (pw pn) (qb (lc (.rn (Qbj rn0 rn0)) ln) qn))<|Qah ?_
  obtain rfl:=osi h
  exact⟨_,Mor.rfl,Qdh (vs:=[(B ((decide (x3≥0))))]) ⟨rot,tv⟩ rfl (NLt.of0 nll) (by kernel_rfl) (Qar (Qa4 (nlc (NLt.of0 (NLt.fn _ _ _ nl0 nl0)) nl0)) Qbx)⟩
def Qhs (N:Nat) (p0:(List Int)):Option Bool:=
  (Qds N p0).bind fun x2=>
  some (!x2)
def Zqf (p0:(List Int)):AV:=.dat 1 ((p0:List Int).map Qav)
def Zqe:AV:=.fn (.func 128) [] [(.ref 0 1 (0) 0)]
def Zji:Slot:=.own 1 [[(.fn (.func 125) [] [])]]
theorem Qr5 (N:Nat) (p0:(List Int)) (r:Bool) (h:Qhs N p0=some r):Spec prog 108 [(Zqf p0),(.fn (.func 125) [] [])] [] (B (r)) []:=by
  refine Qal func108 rfl 0 (nle rfl) (fun X φ0 w0 hφ0 hd0=>?_)
  unfold Qhs at h
  refine wxz ?_
  obtain⟨x2,hf1,h⟩:=bno h
  refine wx tbk [(1,rp [(.tmp 3,.ref 0 1 0 0)] Zqe),(2,⟨[fu 126,(.tmp 5,(Zqf p0)),(.tmp 6,Zqe)],[(0,Zji)],B x2,[(0,Zji)],false⟩)] ⟨Qe2 (fs:=[]) (cs:=[.ref 0 1 0 0]) rfl rfl rfl rfl,Qau (first:=[]) (cap:=[]) (vs:=[(Zqf p0),Zqe]) (σr:=[Zji]) (σr':=[Zji]) (res':=(B x2)) [0] rfl Qsj (Qj6 N p0 _ hf1) rfl (Qbp (rnc (pld Qaj) (rnc (Qbj rn0 (rnc (Qa0 rfl) rn0)) rn0))) (slc (Qam (rnc (.plain _ (NLt.fn _ _ _ nl0 nl0)) rn0)) Qat) (slc (Qam (rnc (.plain _ (NLt.fn _ _ _ nl0 nl0)) rn0)) Qat) (.plain _ nll) rfl rfl rfl,tv⟩<|Qah ?_
  obtain rfl:=osi h
  exact fend ⟨[(B ((!x2)))],⟨rot,tv⟩,rfl⟩ nll
def Qg4 (_N:Nat) (p0:Int):Option Bool:=
  some (decide (p0>0))
theorem Qnw (N:Nat) (p0:Int) (r:Bool) (h:Qg4 N p0=some r):Spec prog 127 [(I p0)] [] (B r) []:=by
  refine Qal func127 rfl 0 (nle rfl) (fun X φ0 w0 hφ0 hd0=>?_)
  unfold Qg4 at h
  refine wxz<|wxz<|Qah ?_
  obtain rfl:=osi h
  exact fend ⟨[(B ((decide (p0>0))))],⟨rot,tv⟩,rfl⟩ nll
def Qck (N:Nat) (p0:(List Int)) (k1:Unit→Option Int):Nat→Int→Option Int
  |0,_=>none
  |n4+1,y2=>
    bif (decide (y2<(p0.length:Int))) then
     (getI p0 y2).bind fun x6=>
     (Qg4 N x6).bind fun x11=>
     bif x11 then
      some y2
     else
      Qck N p0 k1 n4 (w64 (y2+1))
    else
     k1 ()
def Qe9 (N:Nat) (p0:(List Int)):Option Int:=
  Qbn (fun _=>
    some (-1)) fun k1:Unit→Option Int=>
  Qck N p0 k1 N 0
def Q41 (p0:(List Int)):AV:=.dat 1 ((p0:List Int).map Qav)
theorem Qlf (N:Nat) (p0:(List Int)) (r:Int) (h:Qe9 N p0=some r):Spec prog 141 [(Q41 p0),(.fn (.func 127) [] [])] [] (I (r)) []:=by
  refine Qal func141 rfl 0 (nle rfl) (fun X φ0 w0 hφ0 hd0=>?_)
  unfold Qe9 at h
  refine wxz ?_
  obtain⟨k1,hk_k1,h⟩:=jko h
  refine wjn (τ:=Unit) (fun t=>k1 t=some r) (fun _=>⟨mk 19 [],[]⟩) (fun t h=>?_) ?_
  ·subst hk_k1
   refine wxz<|Qah ?_
   obtain rfl:=osi h
   exact fend ⟨[(I ((-1)))],⟨rot,tv⟩,rfl⟩ nll
  ·skip
   refine wx tbk [(1,rp [(.tmp 6,(Q41 p0))] (I ((p0.length:Int))))] ⟨alm (c:=Qav) (l:=p0) (aln rfl underlying27 rfl),tv⟩<|Qao ?_
   refine wmr (mto (n:=19) (l':=[(0,(Q41 p0)),(1,(.fn (.func 127) [] [])),(7,(I ((p0.length:Int)))),(8,I 0)]) (own':=[]) [(0,(Q41 p0)),(1,(.fn (.func 127) [] [])),(7,(I ((p0.length:Int)))),(8,I 0)] [] [] hφ0 (pc (rnd Qaj) (pc (.rn (Qbj rn0 rn0)) (pw (pw pn)))) qn) ?_
   refine Qb3 (τ:=Int) (fun n t=>Qck N p0 k1 n t=some r) (fun y2=>⟨mk 19 [(0,(Q41 p0)),(1,(.fn (.func 127) [] [])),(7,(I ((p0.length:Int)))),(8,I y2)],[]⟩) (fun t h=>by rw[Qck] at h;cases h) (fun n4 ih y2 h=>?_) N (0) h
   rw[Qck] at h
   skip
   refine wxz<|wsq ?_
   refine bfe h (fun hc5 h=>?_) fun hc5 h=>?_
   ·refine wft hc5<|Qap<|thn<|wsq<|Qao<|wxz ?_
    obtain⟨x6,hg7,h⟩:=bno h
    obtain⟨hi8,hj9⟩:=gsm hg7
    obtain⟨x11,hf10,h⟩:=bno h
    refine wx tbk [(3,rp [(.tmp 12,(Q41 p0)),(.tmp 13,I y2)] (.dptr (Qav (x6)) 0)),(5,rp [(.tmp 11,(.fn (.func 127) [] [])),(.tmp 15,I x6)] (B x11))] ⟨aid rfl underlying27 ti3 rfl rfl hi8 (mgt Qav hj9) rfl,apv Zlo (Qnw N x6 _ hf10) (nlc nll nl0) nll,tv⟩ ?_
    refine bfe h (fun hc12 h=>?_) fun hc12 h=>?_
    ·refine wft hc12<|wxz<|Qah<|Qaq<|Qac<|Qac<|Qaq<|Qac ?_
     obtain rfl:=osi h
     exact fend ⟨[I y2],⟨rot,tv⟩,rfl⟩ nll
    ·exact wfn hc12<|Qap<|bln<|thn<|wxz1<|thn<|arm (mto (n:=19) [(0,(Q41 p0)),(1,(.fn (.func 127) [] [])),(7,(I ((p0.length:Int)))),(8,(I (w64 (y2+1))))] [] [] hφ0 (pc (rnd Qaj) (pc (.rn (Qbj rn0 rn0)) (pw (pw pn)))) qn) (ih (w64 (y2+1)) h)
   ·exact wfn hc5<|Qbl<|Qax<|Qax<|Qbk rfl<|thn<|⟨(),h,(mto (n:=19) [] [] [] hφ0 pn qn)⟩
def Qc6 (N:Nat) (p0:(List Int)):Option Bool:=
  (Qe9 N p0).bind fun x2=>
  some (decide (x2≥0))
def Zqb (p0:(List Int)):AV:=.dat 1 ((p0:List Int).map Qav)
theorem Qj5 (N:Nat) (p0:(List Int)) (r:Bool) (h:Qc6 N p0=some r):Spec prog 126 [(Zqb p0),(.fn (.func 127) [] [])] [] (B (r)) []:=by
  refine Qal func126 rfl 0 (nle rfl) (fun X φ0 w0 hφ0 hd0=>?_)
  unfold Qc6 at h
  refine wxz ?_
  obtain⟨x2,hf1,h⟩:=bno h
  refine wx tbk [(2,rp [fu 141,(.tmp 5,(Zqb p0)),(.tmp 6,(.fn (.func 127) [] []))] (I x2))] ⟨Qau (first:=[]) (cap:=[]) (vs:=[(Zqb p0),(.fn (.func 127) [] [])]) (σr:=[]) (σr':=[]) (res':=(I x2)) [] rfl Qsi (Qlf N p0 _ hf1) rfl (Qbp (rnc (pld Qaj) (rnc (.plain _ (NLt.fn _ _ _ nl0 nl0)) rn0))) Qat Qat (.plain _ nll) rfl rfl rfl,tv⟩<|Qah ?_
  obtain rfl:=osi h
  exact fend ⟨[(B ((decide (x2≥0))))],⟨rot,tv⟩,rfl⟩ nll
def Qgm (N:Nat) (p0:Qad):Option Bool:=
  Qbn (fun ⟨y1,y2⟩=>
    Qbn (fun _=>
      bif (p0.Kind != 5) then
       some ((p0.Weights.length:Int)==0)
      else
       (Qc7 N (p0.Weights.length:Int) 1 20).bind fun x7=>
       bif x7 then
        (Qhs N p0.Weights).bind fun x10=>
        bif x10 then
         (Qc6 N p0.Weights).bind fun x13=>
         some x13
        else
         some false
       else
        some false) fun k4:Unit→Option Bool=>
    bif ((p0.From.length:Int) != y1) then
     some false
    else
     (Qc7 N p0.Amount 0 y2).bind fun x16=>
     bif (!x16) then
      some false
     else
      (Qc7 N p0.Wide 0 1000000).bind fun x19=>
      bif (!x19) then
       some false
      else
       (Qc7 N p0.Narrow 1 1000000000).bind fun x22=>
       bif (!x22) then
        some false
       else
        k4 ()) fun k3:Int×Int→Option Bool=>
  bif (p0.Kind==1) then
   k3 (0,0)
  else
   bif (p0.Kind==2) then
    (some (if 6<(p0.From.length:Int) then 6 else(p0.From.length:Int))).bind fun x26=>
    (some (if x26>1 then x26 else 1)).bind fun x28=>
    k3 (x28,0)
   else
    bif (p0.Kind==3) then
     k3 (1,1000000000)
    else
     bif (p0.Kind==4) then
      k3 (1,1000)
     else
      bif (p0.Kind==5) then
       k3 (1,0)
      else
       bif (p0.Kind==6) then
        k3 (1,0)
       else
        some false
def Zql (p0:Qad):AV:=.dat 2 ((p0.From:List Qa6).map Qa3)
def Q43 (p0:Qad):AV:=.dat 1 ((p0.Weights:List Int).map Qav)
def Qzu (p0:Qad):Slot:=.own 7 [[(K .u8 (p0.Kind)),(Zql p0),(I (p0.Level)),(I (p0.Amount)),(I (p0.Wide)),(I (p0.Narrow)),(Q43 p0)]]
def Zqk (p0:Qad) (x7:Bool):List (Nat×Rec):=[(2,rp [((.tmp 55),(Q43 p0))] (I ((p0.Weights.length:Int)))),(3,rp [fu 65,((.tmp 56),(I ((p0.Weights.length:Int)))),ci 1,ci 20] (B (x7)))]
def Zqj (p0) (x7) (x10:Bool):=hcat (Zqk p0 x7) [(4,rp [((.tmp 57),(B (x7)))] (B (true))),(7,rp [((.tmp 58),(B (true))),fu 108,((.tmp 60),(Q43 p0)),fu 125] (B (x10)))]
def Zqi (p0:Qad):List (Nat×Rec):=[(2,rp [((.tmp 24),(Zql p0))] (I ((p0.From.length:Int))))]
def Zqh (p0) (y1:Int) (y2:Int) (x16:Bool):=hcat (Zqi p0) [(5,rp [((.tmp 27),(B (((p0.From.length:Int) != y1))))] (B (false))),(9,rp [((.tmp 28),(B (false))),fu 65,((.tmp 30),(I (p0.Amount))),ci 0,((.tmp 31),(I (y2)))] (B (x16)))]
def Zqg (p0) (y1) (y2) (x16) (x19:Bool):=hcat (Zqh p0 y1 y2 x16) [(12,rp [((.tmp 34),(B ((!x16))))] (B (false))),(15,rp [((.tmp 35),(B (false))),fu 65,((.tmp 37),(I (p0.Wide))),ci 0,ci 1000000] (B (x19)))]
theorem Qox (N:Nat) (p0:Qad) (r:Bool) (h:Qgm N p0=some r):Spec prog 102 [(.agg (Qai p0))] [] (B r) []:=by
  refine Qal func102 rfl 0 (nle rfl) (fun X φ0 w0 hφ0 hd0=>?_)
  unfold Qgm at h
  refine wxz<|wxz ?_
  obtain⟨k3,hk_k3,h⟩:=jko h
  refine wjn (τ:=Int×Int) (fun t=>k3 t=some r) (fun ⟨y1,y2⟩=>⟨mk 68 [(1,.ref 0 7 0 0),(3,I y1),(4,I y2)],[(Qzu p0)]⟩) (fun t h=>?_) ?_
  ·subst hk_k3
   obtain⟨y1,y2⟩:=t
   obtain⟨k4,hk_k4,h⟩:=jko h
   refine wjn (τ:=Unit) (fun t=>k4 t=some r) (fun _=>⟨mk 68 [(1,.ref 0 7 0 0)],[(Qzu p0)]⟩) (fun t h=>?_) ?_
   ·subst hk_k4
    refine wsq<|wxz ?_
    refine bfe h (fun hc5 h=>?_) fun hc5 h=>?_
    ·refine wft hc5<|wx tbk [(2,rp [(.tmp 51,(Q43 p0))] (I ((p0.Weights.length:Int))))] ⟨alm (c:=Qav) (l:=p0.Weights) (aln rfl underlying27 rfl),tv⟩<|Qah<|Qac ?_
     obtain rfl:=osi h
     exact fend ⟨[(B (((p0.Weights.length:Int)==0)))],⟨rot,tv⟩,rfl⟩ nll
    ·refine wfn hc5<|Qap<|thn ?_
     obtain⟨x7,hf6,h⟩:=bno h
     refine hpre (A:=(Zqk p0 x7)) ⟨alm (c:=Qav) (l:=p0.Weights) (aln rfl underlying27 rfl),apv Ql1 (Qd2 N (p0.Weights.length:Int) 1 20 _ hf6) (nlcc (nlc nll nl0)) nll,tv⟩ fun q1_=>?_
     refine bfe h (fun hb8 h=>?_) fun hb8 h=>?_
     ·obtain⟨x10,hf9,h⟩:=bno h
      refine hpre (A:=(Zqj p0 x7 x10)) (hap q1_ ⟨asb hb8 (amv rfl),ag_ (Qau (first:=[]) (cap:=[]) (vs:=[(Q43 p0),(.fn (.func 125) [] [])]) (σr:=[]) (σr':=[]) (res':=(B x10)) [] rfl Q9k (Qr5 N p0.Weights _ hf9) rfl (Qbp (rnc (pld Qaj) (rnc (.plain _ (NLt.fn _ _ _ nl0 nl0)) rn0))) Qat Qat (.plain _ nll) rfl rfl rfl),tv⟩) fun q2_=>?_
      refine bfe h (fun hb11 h=>?_) fun hb11 h=>?_
      ·obtain⟨x13,hf12,h⟩:=bno h
       refine wx tbk (hcat (Zqj p0 x7 x10) [(9,rp [(.tmp 62,B x10)] (B true)),(12,rp [(.tmp 63,B true),fu 126,(.tmp 65,(Q43 p0)),fu 127] (B x13))]) (hap q2_ ⟨asb hb11 (amv rfl),ag_ (Qau (first:=[]) (cap:=[]) (vs:=[(Q43 p0),(.fn (.func 127) [] [])]) (σr:=[]) (σr':=[]) (res':=(B x13)) [] rfl Qsj (Qj5 N p0.Weights _ hf12) rfl (Qbp (rnc (pld Qaj) (rnc (.plain _ (NLt.fn _ _ _ nl0 nl0)) rn0))) Qat Qat (.plain _ nll) rfl rfl rfl),tv⟩)<|Qah ?_
       exact frb h
      ·exact wx tbk (hcat (Zqj p0 x7 x10) [(9,rp [(.tmp 62,B x10)] (B false))]) (hap q2_ ⟨asb hb11 (amv rfl),tv⟩)<|Qah<|frb h
     ·exact wx tbk (hcat (Zqk p0 x7) [(4,rp [(.tmp 57,B x7)] (B false))]) (hap q1_ ⟨asb hb8 (amv rfl),tv⟩)<|Qah<|frb h
   ·skip
    refine hpre (A:=(Zqi p0)) ⟨alm (c:=Qa3) (l:=p0.From) (aln rfl underlying116 rfl),tv⟩ fun q3_=>?_
    refine bfe h (fun hb14 h=>?_) fun hb14 h=>?_
    ·exact wx tbk (hcat (Zqi p0) [(5,rp [(.tmp 27,(B (((p0.From.length:Int) != y1))))] (B true))]) (hap q3_ ⟨asb hb14 (amv rfl),tv⟩)<|wtr<|wxz<|Qah<|Qac<|frb h
    ·obtain⟨x16,hf15,h⟩:=bno h
     refine hpre (A:=(Zqh p0 y1 y2 x16)) (hap q3_ ⟨asb hb14 (amv rfl),ag_ (apv Ql1 (Qd2 N p0.Amount 0 y2 _ hf15) (nlcc (nlc nll nl0)) nll),tv⟩) fun q4_=>?_
     refine bfe h (fun hb17 h=>?_) fun hb17 h=>?_
     ·exact wx tbk (hcat (Zqh p0 y1 y2 x16) [(12,rp [(.tmp 34,(B ((!x16))))] (B true))]) (hap q4_ ⟨asb hb17 (amv rfl),tv⟩)<|wtr<|wxz<|Qah<|Qac<|frb h
     ·obtain⟨x19,hf18,h⟩:=bno h
      refine hpre (A:=(Zqg p0 y1 y2 x16 x19)) (hap q4_ ⟨asb hb17 (amv rfl),ag_ (apv Ql1 (Qd2 N p0.Wide 0 1000000 _ hf18) (nlcc (nlc nll nl0)) nll),tv⟩) fun q5_=>?_
      refine bfe h (fun hb20 h=>?_) fun hb20 h=>?_
      ·exact wx tbk (hcat (Zqg p0 y1 y2 x16 x19) [(18,rp [(.tmp 40,(B ((!x19))))] (B true))]) (hap q5_ ⟨asb hb20 (amv rfl),tv⟩)<|wtr<|wxz<|Qah<|Qac<|frb h
      ·obtain⟨x22,hf21,h⟩:=bno h
       refine wx tbk (hcat (Zqg p0 y1 y2 x16 x19) [(18,rp [(.tmp 40,(B ((!x19))))] (B false)),(21,rp [(.tmp 41,B false),fu 65,(.tmp 43,I p0.Narrow),ci 1,ci 1000000000] (B x22))]) (hap q5_ ⟨asb hb20 (amv rfl),ag_ (apv Ql1 (Qd2 N p0.Narrow 1 1000000000 _ hf21) (nlcc (nlc nll nl0)) nll),tv⟩) ?_
       refine bfe h (fun hc23 h=>?_) fun hc23 h=>?_
       ·exact wft hc23<|wxz<|Qah<|Qac<|frb h
       ·exact wfn hc23<|Qap<|thn<|⟨(),h,(mto (n:=68) [(1,.ref 0 7 0 0)] [0] [(Qzu p0)] hφ0 (prr pn) (qb (lc rwl (lc (rnd Qaz) (lcc (lcc (lc (rnd Qaj) ln))))) qn))⟩
  ·skip
   refine wxz<|Qao<|wxz ?_
   refine bfe h (fun hc24 h=>?_) fun hc24 h=>?_
   ·exact wft hc24<|wxz1<|bln<|thn<|⟨(0,0),h,(mto (n:=68) [(1,.ref 0 7 0 0),(3,I 0),(4,I 0)] [0] [(Qzu p0)] hφ0 (prr (pw (pw pn))) (qb (lc rwl (lc (rnd Qaz) (lcc (lcc (lc (rnd Qaj) ln))))) qn))⟩
   ·refine wfn hc24<|wxz ?_
    refine bfe h (fun hc25 h=>?_) fun hc25 h=>?_
    ·refine wft hc25 ?_
     obtain⟨x26,hl27,h⟩:=bno h
     obtain⟨x28,hl29,h⟩:=bno h
     refine wx1 tbk [(2,rp [(.tmp 12,(Zql p0))] (I ((p0.From.length:Int)))),(3,rp [(.tmp 13,(I ((p0.From.length:Int)))),ci 6] (I x26)),(4,rp [ci 1,(.tmp 14,I x26)] (I ((if x26>1 then x26 else 1)))),(5,rp [(.tmp 15,(I ((if x26>1 then x26 else 1))))] (I x28))] ⟨alm (c:=Qa3) (l:=p0.From) (aln rfl underlying116 rfl),Qmv hl27 (Qmu rfl),Qlw rfl,Qmv hl29 (aas rfl),tv⟩<|bln<|thn ?_
     exact⟨(x28,0),h,(mto (n:=68) [(1,.ref 0 7 0 0),(3,I x28),(4,I 0)] [0] [(Qzu p0)] hφ0 (prr (pw (pw pn))) (qb (lc rwl (lc (rnd Qaz) (lcc (lcc (lc (rnd Qaj) ln))))) qn))⟩
    ·refine wfn hc25<|wxz ?_
     refine bfe h (fun hc30 h=>?_) fun hc30 h=>?_
     ·exact wft hc30<|wxz1<|bln<|thn<|⟨(1,1000000000),h,(mto (n:=68) [(1,.ref 0 7 0 0),(3,I 1),(4,I 1000000000)] [0] [(Qzu p0)] hφ0 (prr (pw (pw pn))) (qb (lc rwl (lc (rnd Qaz) (lcc (lcc (lc (rnd Qaj) ln))))) qn))⟩
     ·refine wfn hc30<|wxz ?_
      refine bfe h (fun hc31 h=>?_) fun hc31 h=>?_
      ·exact wft hc31<|wxz1<|bln<|thn<|⟨(1,1000),h,(mto (n:=68) [(1,.ref 0 7 0 0),(3,I 1),(4,I 1000)] [0] [(Qzu p0)] hφ0 (prr (pw (pw pn))) (qb (lc rwl (lc (rnd Qaz) (lcc (lcc (lc (rnd Qaj) ln))))) qn))⟩
      ·refine wfn hc31<|wsq<|wxz ?_
       refine bfe h (fun hc32 h=>?_) fun hc32 h=>?_
       ·exact wft hc32<|Qap<|thn<|wft hc32<|Qap<|bln<|thn<|⟨(1,0),h,(mto (n:=68) [(1,.ref 0 7 0 0),(3,I 1),(4,I 0)] [0] [(Qzu p0)] hφ0 (prr (pw (pw pn))) (qb (lc rwl (lc (rnd Qaz) (lcc (lcc (lc (rnd Qaj) ln))))) qn))⟩
       ·refine wfn hc32<|wxz1<|thn ?_
        refine bfe h (fun hc33 h=>?_) fun hc33 h=>?_
        ·exact wft hc33<|Qap<|bln<|thn<|⟨(1,0),h,(mto (n:=68) [(1,.ref 0 7 0 0),(3,I 1),(4,I 0)] [0] [(Qzu p0)] hφ0 (prr (pw (pw pn))) (qb (lc rwl (lc (rnd Qaz) (lcc (lcc (lc (rnd Qaj) ln))))) qn))⟩
        ·exact wfn hc33<|wxz<|Qah<|Qaq<|Qac<|frb h
def Qfm (N:Nat) (p0:Qad):Option Bool:=
  (Qgm N p0).bind fun x3=>
  some (!x3)
def Zt8 (p0:Qad):AV:=.agg [(K .u8 (p0.Kind)),(.dat 2 ((p0.From:List Qa6).map Qa3)),(I (p0.Level)),(I (p0.Amount)),(I (p0.Wide)),(I (p0.Narrow)),(.dat 1 ((p0.Weights:List Int).map Qav))]
def Zjj:Slot:=.own 1 [[(.fn (.func 102) [] [])]]
theorem Ql0 (N:Nat) (p0:Qad) (r:Bool) (h:Qfm N p0=some r):Spec prog 124 [(Zt8 p0),(.ref 0 1 (0) 0)] [Zjj] (B (r)) [Zjj]:=by
  refine Qal func124 rfl 1 (nle rfl) (fun X φ0 w0 hφ0 hd0=>?_)
  unfold Qfm at h
  refine Qbv<|wxz ?_
  obtain⟨x3,hf2,h⟩:=bno h
  refine wx tbk [(2,rp [(.tmp 4,(.fn (.func 102) [] [])),(.tmp 5,(Zt8 p0))] (B x3))] ⟨apv Zl4 (Qox N p0 _ hf2) (nlc (NLt.agg _ (nlc nll (nlc (nld Qaz _) (nlcc (nlcc (nlc (nld Qaj _) nl0)))))) nl0) nll,tv⟩ ?_
  refine wmr (mto (n:=8) (l':=[(3,(B ((!x3))))]) (own':=[Zjj]) [(3,(B ((!x3))))] [0] [Zjj] hφ0 (pw pn) (qb (lc (.rn (Qbj rn0 rn0)) ln) qn))<|Qah ?_
  obtain rfl:=osi h
  exact⟨_,Mor.rfl,Qdh (vs:=[(B ((!x3)))]) ⟨rot,tv⟩ rfl (NLt.of0 nll) (by kernel_rfl) (Qar (Qa4 (nlc (NLt.of0 (NLt.fn _ _ _ nl0 nl0)) nl0)) Qbx)⟩
def Qba (N:Nat) (p0:(List Qad)) (k2:Unit→Option Int):Nat→Int→Option Int
  |0,_=>none
  |n5+1,y3=>
    bif (decide (y3<(p0.length:Int))) then
     (getI p0 y3).bind fun x7=>
     (Qfm N x7).bind fun x12=>
     bif x12 then
      some y3
     else
      Qba N p0 k2 n5 (w64 (y3+1))
    else
     k2 ()
def Qcg (N:Nat) (p0:(List Qad)):Option Int:=
  Qbn (fun _=>
    some (-1)) fun k2:Unit→Option Int=>
  Qba N p0 k2 N 0
def Q5a (p0:(List Qad)):AV:=.dat 7 ((p0:List Qad).map Qai)
def Zan:AV:=.fn (.func 124) [] [(.ref 0 1 (0) 0)]
def Qp5:Slot:=.own 1 [[(.fn (.func 102) [] [])]]
def Znw (x7:Qad):AV:=.agg [(K .u8 (x7.Kind)),(.dat 2 ((x7.From:List Qa6).map Qa3)),(I (x7.Level)),(I (x7.Amount)),(I (x7.Wide)),(I (x7.Narrow)),(.dat 1 ((x7.Weights:List Int).map Qav))]
theorem Qg1 (N:Nat) (p0:(List Qad)) (r:Int) (h:Qcg N p0=some r):Spec prog 140 [(Q5a p0),Zan] [Qp5] (I (r)) [Qp5]:=by
  refine Qal func140 rfl 1 (nle rfl) (fun X φ0 w0 hφ0 hd0=>?_)
  unfold Qcg at h
  refine Qbv<|wxz ?_
  obtain⟨k2,hk_k2,h⟩:=jko h
  refine wjn (τ:=Unit) (fun t=>k2 t=some r) (fun _=>⟨mk 19 [],[Qp5]⟩) (fun t h=>?_) ?_
  ·subst hk_k2
   refine wxz<|wmr (mto (n:=19) (l':=[(4,(I ((-1))))]) (own':=[Qp5]) [(4,(I ((-1))))] [0] [Qp5] hφ0 (pw pn) (qb (lc (.rn (Qbj rn0 rn0)) ln) qn))<|Qah ?_
   obtain rfl:=osi h
   exact⟨_,Mor.rfl,Qdh (vs:=[(I ((-1)))]) ⟨rot,tv⟩ rfl (NLt.of0 nll) (by kernel_rfl) (Qar (Qa4 (nlc (NLt.of0 (NLt.fn _ _ _ nl0 nl0)) nl0)) Qbx)⟩
  ·skip
   refine wx tbk [(1,rp [(.tmp 6,(Q5a p0))] (I ((p0.length:Int))))] ⟨alm (c:=Qai) (l:=p0) (aln rfl underlying40 rfl),tv⟩<|Qao ?_
   refine wmr (mto (n:=19) (l':=[(0,(Q5a p0)),(1,Zan),(7,(I ((p0.length:Int)))),(8,I 0)]) (own':=[Qp5]) [(0,(Q5a p0)),(1,Zan),(7,(I ((p0.length:Int)))),(8,I 0)] [0] [Qp5] hφ0 (pc (rnd Qab) (pc (.rn (Qbj rn0 (rnc (rqr rfl) rn0))) (pw (pw pn)))) (qb (lc (.rn (Qbj rn0 rn0)) ln) qn)) ?_
   refine Qb3 (τ:=Int) (fun n t=>Qba N p0 k2 n t=some r) (fun y3=>⟨mk 19 [(0,(Q5a p0)),(1,Zan),(7,(I ((p0.length:Int)))),(8,I y3)],[Qp5]⟩) (fun t h=>by rw[Qba] at h;cases h) (fun n5 ih y3 h=>?_) N (0) h
   rw[Qba] at h
   skip
   refine wxz<|wsq ?_
   refine bfe h (fun hc6 h=>?_) fun hc6 h=>?_
   ·refine wft hc6<|Qap<|thn<|wsq<|Qao<|wxz ?_
    obtain⟨x7,hg8,h⟩:=bno h
    obtain⟨hi9,hj10⟩:=gsm hg8
    obtain⟨x12,hf11,h⟩:=bno h
    refine wx tbk [(3,rp [(.tmp 12,(Q5a p0)),(.tmp 13,I y3)] (.dptr (Qai (x7)) 0)),(5,⟨[(.tmp 11,Zan),(.tmp 15,(Znw x7))],[(0,Qp5)],B x12,[(0,Qp5)],false⟩)] ⟨aid rfl underlying40 Qmi rfl rfl hi9 (mgt Qai hj10) rfl,Qau (first:=[]) (cap:=[.ref 0 1 0 0]) (vs:=[(Znw x7)]) (σr:=[Qp5]) (σr':=[Qp5]) (res':=(B x12)) [0] rfl Zlq (Ql0 N x7 _ hf11) rfl (Qbp (rnc (.plain _ (NLt.agg _ (nlc nll (nlc (nld Qaz _) (nlcc (nlcc (nlc (nld Qaj _) nl0))))))) (rnc (Qa0 rfl) rn0))) (slc (Qam (rnc (.plain _ (NLt.fn _ _ _ nl0 nl0)) rn0)) Qat) (slc (Qam (rnc (.plain _ (NLt.fn _ _ _ nl0 nl0)) rn0)) Qat) (.plain _ nll) rfl rfl rfl,tv⟩ ?_
    refine bfe h (fun hc13 h=>?_) fun hc13 h=>?_
    ·refine wft hc13<|wxz ?_
     refine wmr (mto (n:=19) (l':=[(4,I y3)]) (own':=[Qp5]) [(4,I y3)] [0] [Qp5] hφ0 (pw pn) (qb (lc (.rn (Qbj rn0 rn0)) ln) qn))<|Qah<|Qaq<|Qac<|Qac<|Qaq<|Qac ?_
     obtain rfl:=osi h
     exact⟨_,Mor.rfl,Qdh (vs:=[I y3]) ⟨rot,tv⟩ rfl (NLt.of0 nll) (by kernel_rfl) (Qar (Qa4 (nlc (NLt.of0 (NLt.fn _ _ _ nl0 nl0)) nl0)) Qbx)⟩
    ·exact wfn hc13<|Qap<|bln<|thn<|wxz1<|thn<|arm (mto (n:=19) [(0,(Q5a p0)),(1,Zan),(7,(I ((p0.length:Int)))),(8,(I (w64 (y3+1))))] [0] [Qp5] hφ0 (pc (rnd Qab) (pc (.rn (Qbj rn0 (rnc (rqr rfl) rn0))) (pw (pw pn)))) (qb (lc (.rn (Qbj rn0 rn0)) ln) qn)) (ih (w64 (y3+1)) h)
   ·exact wfn hc6<|Qbl<|Qax<|Qax<|Qbk rfl<|thn<|⟨(),h,(mto (n:=19) [] [0] [Qp5] hφ0 pn (qb (lc (.rn (Qbj rn0 rn0)) ln) qn))⟩
def Qb0 (N:Nat) (p0:(List Qad)):Option Bool:=
  (Qcg N p0).bind fun x3=>
  some (decide (x3≥0))
def Zqn (p0:(List Qad)):AV:=.dat 7 ((p0:List Qad).map Qai)
def Zqm:AV:=.fn (.func 124) [] [(.ref 0 1 (0) 0)]
def Q2b:Slot:=.own 1 [[(.fn (.func 102) [] [])]]
theorem Qgi (N:Nat) (p0:(List Qad)) (r:Bool) (h:Qb0 N p0=some r):Spec prog 123 [(Zqn p0),Zqm] [Q2b] (B (r)) [Q2b]:=by
  refine Qal func123 rfl 1 (nle rfl) (fun X φ0 w0 hφ0 hd0=>?_)
  unfold Qb0 at h
  refine Qbv<|wxz ?_
  obtain⟨x3,hf2,h⟩:=bno h
  refine wx tbk [(2,⟨[fu 140,(.tmp 5,(Zqn p0)),(.tmp 6,Zqm)],[(0,Q2b)],I x3,[(0,Q2b)],false⟩)] ⟨Qau (first:=[]) (cap:=[]) (vs:=[(Zqn p0),Zqm]) (σr:=[Q2b]) (σr':=[Q2b]) (res':=(I x3)) [0] rfl Zlg (Qg1 N p0 _ hf2) rfl (Qbp (rnc (pld Qab) (rnc (Qbj rn0 (rnc (Qa0 rfl) rn0)) rn0))) (slc (Qam (rnc (.plain _ (NLt.fn _ _ _ nl0 nl0)) rn0)) Qat) (slc (Qam (rnc (.plain _ (NLt.fn _ _ _ nl0 nl0)) rn0)) Qat) (.plain _ nll) rfl rfl rfl,tv⟩ ?_
  refine wmr (mto (n:=9) (l':=[(4,(B ((decide (x3≥0)))))]) (own':=[Q2b]) [(4,(B ((decide (x3≥0)))))] [0] [Q2b] hφ0 (pw pn) (qb (lc (.rn (Qbj rn0 rn0)) ln) qn))<|Qah ?_
  obtain rfl:=osi h
  exact⟨_,Mor.rfl,Qdh (vs:=[(B ((decide (x3≥0))))]) ⟨rot,tv⟩ rfl (NLt.of0 nll) (by kernel_rfl) (Qar (Qa4 (nlc (NLt.of0 (NLt.fn _ _ _ nl0 nl0)) nl0)) Qbx)⟩
def Qez (N:Nat) (p0:(List Qad)):Option Bool:=
  (Qb0 N p0).bind fun x2=>
  some (!x2)
def Zqp (p0:(List Qad)):AV:=.dat 7 ((p0:List Qad).map Qai)
def Zqo:AV:=.fn (.func 124) [] [(.ref 0 1 (0) 0)]
def Zjk:Slot:=.own 1 [[(.fn (.func 102) [] [])]]
theorem Qmn (N:Nat) (p0:(List Qad)) (r:Bool) (h:Qez N p0=some r):Spec prog 101 [(Zqp p0),(.fn (.func 102) [] [])] [] (B (r)) []:=by
  refine Qal func101 rfl 0 (nle rfl) (fun X φ0 w0 hφ0 hd0=>?_)
  unfold Qez at h
  refine wxz ?_
  obtain⟨x2,hf1,h⟩:=bno h
  refine wx tbk [(1,rp [(.tmp 3,.ref 0 1 0 0)] Zqo),(2,⟨[fu 123,(.tmp 5,(Zqp p0)),(.tmp 6,Zqo)],[(0,Zjk)],B x2,[(0,Zjk)],false⟩)] ⟨Qe2 (fs:=[]) (cs:=[.ref 0 1 0 0]) rfl rfl rfl rfl,Qau (first:=[]) (cap:=[]) (vs:=[(Zqp p0),Zqo]) (σr:=[Zjk]) (σr':=[Zjk]) (res':=(B x2)) [0] rfl Zlr (Qgi N p0 _ hf1) rfl (Qbp (rnc (pld Qab) (rnc (Qbj rn0 (rnc (Qa0 rfl) rn0)) rn0))) (slc (Qam (rnc (.plain _ (NLt.fn _ _ _ nl0 nl0)) rn0)) Qat) (slc (Qam (rnc (.plain _ (NLt.fn _ _ _ nl0 nl0)) rn0)) Qat) (.plain _ nll) rfl rfl rfl,tv⟩<|Qah ?_
  obtain rfl:=osi h
  exact fend ⟨[(B ((!x2)))],⟨rot,tv⟩,rfl⟩ nll
def Qe0 (_N:Nat) (p0:Qad):Option Int:=
  bif (p0.Kind==4) then
   some 2
  else
   bif (p0.Kind==5) then
    (some (p0.Weights.length:Int)).bind fun x3=>
    some x3
   else
    some 1
def Zvn (p0:Qad):AV:=.dat 1 ((p0.Weights:List Int).map Qav)
theorem Qju (N:Nat) (p0:Qad) (r:Int) (h:Qe0 N p0=some r):Spec prog 103 [(.agg (Qai p0))] [] (I r) []:=by
  refine Qal func103 rfl 0 (nle rfl) (fun X φ0 w0 hφ0 hd0=>?_)
  unfold Qe0 at h
  refine wxz<|wsq<|wxz<|Qao<|wxz ?_
  refine bfe h (fun hc1 h=>?_) fun hc1 h=>?_
  ·refine wft hc1<|wxz<|Qah<|Qaq<|Qac ?_
   obtain rfl:=osi h
   exact fend ⟨[I 2],⟨rot,tv⟩,rfl⟩ nll
  ·refine wfn hc1<|wxz ?_
   refine bfe h (fun hc2 h=>?_) fun hc2 h=>?_
   ·refine wft hc2 ?_
    obtain⟨x3,hl4,h⟩:=bno h
    refine wx tbk [(2,rp [(.tmp 10,(Zvn p0))] (I ((p0.Weights.length:Int)))),(3,rp [(.tmp 11,(I ((p0.Weights.length:Int))))] (I x3))] ⟨alm (c:=Qav) (l:=p0.Weights) (aln rfl underlying27 rfl),Qmv hl4 (aas rfl),tv⟩<|Qah<|Qaq<|Qac ?_
    obtain rfl:=osi h
    exact fend ⟨[I x3],⟨rot,tv⟩,rfl⟩ nll
   ·refine wfn hc2<|Qap<|bln<|thn<|wxz<|Qah ?_
    obtain rfl:=osi h
    exact fend ⟨[I 1],⟨rot,tv⟩,rfl⟩ nll
def Qeb (N:Nat) (p0:GNet) (y3:Int) (k10:(List (Int×Int))→Option Bool) (x11:Qad):Nat→Int→(List (Int×Int))→Option Bool
  |0,_,_=>none
  |n22+1,y18,y19=>
    bif (decide (y18<(x11.From.length:Int))) then
     (getI x11.From y18).bind fun x24=>
     (Qc7 N x24.Element 0 (w64 (y3-1))).bind fun x29=>
     bif (!x29) then
      some false
     else
      (getI p0.Elements x24.Element).bind fun x31=>
      (Qe0 N x31).bind fun x36=>
      (Qc7 N x24.Outlet 0 (w64 (x36-1))).bind fun x38=>
      bif (!x38) then
       some false
      else
       bif y19.contains (x24.Element,x24.Outlet) then
        some false
       else
        bif (decide (x11.Level>x31.Level)) then
         some false
        else
         Qeb N p0 y3 k10 x11 n22 (w64 (y18+1)) (addQ y19 (x24.Element,x24.Outlet))
    else
     k10 (y19)
def Qdu (N:Nat) (p0:GNet) (k2:Unit→Option Bool):Nat→Int→(List (Int×Int))→Option Bool
  |0,_,_=>none
  |n7+1,y3,y4=>
    bif (decide (y3<(p0.Elements.length:Int))) then
     Qbn (fun y9=>
       Qdu N p0 k2 n7 (w64 (y3+1)) y9) fun k10:(List (Int×Int))→Option Bool=>
     (getI p0.Elements y3).bind fun x11=>
     (Qc7 N x11.Level 0 (w64 ((p0.Table.length:Int)-1))).bind fun x16=>
     bif (!x16) then
      some false
     else
      Qeb N p0 y3 k10 x11 N 0 y4
    else
     k2 ()
def Qht (N:Nat) (p0:GNet):Option Bool:=
  Qbn (fun _=>
    Qbn (fun _=>
      some true) fun k2:Unit→Option Bool=>
    Qdu N p0 k2 N 0 ([]:List (Int×Int))) fun k1:Unit→Option Bool=>
  (Qi1 N p0.Table).bind fun x43=>
  bif (x43 != 0) then
   some false
  else
   (Qc7 N (p0.Elements.length:Int) 1 16).bind fun x46=>
   bif (!x46) then
    some false
   else
    (Qez N p0.Elements).bind fun x49=>
    bif (!x49) then
     some false
    else
     k1 ()
def z9_0 (p0:GNet):AV:=.dat 5 ((p0.Table:List GRow).map Qa7)
def z9_1 (p0:GNet):AV:=.dat 7 ((p0.Elements:List Qad).map Qai)
def z9_2 (p0:GNet):Slot:=.own 2 [[(z9_0 p0),(z9_1 p0)]]
def Quw (x11:Qad):AV:=.dat 2 ((x11.From:List Qa6).map Qa3)
def Q61 (x11:Qad):Slot:=.own 7 [[(K .u8 (x11.Kind)),(Quw x11),(I (x11.Level)),(I (x11.Amount)),(I (x11.Wide)),(I (x11.Narrow)),(.dat 1 ((x11.Weights:List Int).map Qav))]]
def Zca (x24:Qa6) (y3:Int) (x29:Bool):List (Nat×Rec):=[(4,rp [fu 65,((.tmp 50),(I (x24.Element))),ci 0,((.tmp 52),(I (w64 (y3-1))))] (B (x29)))]
def Zs6 (x31:Qad):AV:=.agg [(K .u8 (x31.Kind)),(.dat 2 ((x31.From:List Qa6).map Qa3)),(I (x31.Level)),(I (x31.Amount)),(I (x31.Wide)),(I (x31.Narrow)),(.dat 1 ((x31.Weights:List Int).map Qav))]
def Zb9 (x24) (y3) (x29) (p0:GNet) (x31:Qad) (x36:Int) (x38:Bool):=hcat (Zca x24 y3 x29) [(6,rp [((.tmp 54),(B ((!x29))))] (B (false))),(13,rp [((.tmp 55),(B (false))),((.tmp 59),(z9_1 p0)),((.tmp 61),(I (x24.Element)))] (.dptr (Qai (x31)) 0)),(15,rp [((.tmp 55),(B (false))),fu 103,((.tmp 63),(Zs6 x31))] (I (x36))),(17,rp [((.tmp 55),(B (false))),fu 65,((.tmp 57),(I (x24.Outlet))),ci 0,((.tmp 65),(I (w64 (x36-1))))] (B (x38)))]
def Zb8 (x24) (y3) (x29) (p0) (x31) (x36) (x38) (y19:(List (Int×Int))):=hcat (Zb9 x24 y3 x29 p0 x31 x36 x38) [(20,rp [((.tmp 68),(B ((!x38))))] (B (false))),(23,rb [((.tmp 69),(B (false))),((.tmp 70),(.mp 1)),((.tmp 71),(.agg [(I (x24.Element)),(I (x24.Outlet))]))] [(1,(Qea y19))] (B (y19.contains (x24.Element,x24.Outlet))))]
def Zb7 (p0:GNet) (x43:Int):List (Nat×Rec):=[(2,rp [fu 100,((.tmp 9),(z9_0 p0))] (I (x43)))]
def Zb6 (p0) (x43) (x46:Bool):=hcat (Zb7 p0 x43) [(4,rp [((.tmp 11),(B ((x43 != 0))))] (B (false))),(7,rp [((.tmp 12),(B (false))),((.tmp 14),(z9_1 p0))] (I ((p0.Elements.length:Int)))),(8,rp [((.tmp 12),(B (false))),fu 65,((.tmp 15),(I ((p0.Elements.length:Int)))),ci 1,ci 16] (B (x46)))]
theorem Qm3 (N:Nat) (p0:GNet) (r:Bool) (h:Qht N p0=some r):Spec prog 66 [(.agg (Qhv p0))] [] (B r) []:=by
  refine Qal func66 rfl 0 (nle rfl) (fun X φ0 w0 hφ0 hd0=>?_)
  unfold Qht at h
  refine wxz ?_
  obtain⟨k1,hk_k1,h⟩:=jko h
  refine wjn (τ:=Unit) (fun t=>k1 t=some r) (fun _=>⟨mk 90 [(1,.ref 0 2 0 0)],[(z9_2 p0)]⟩) (fun t h=>?_) ?_
  ·subst hk_k1
   refine wx tbk [(0,⟨[],[(1,.unused)],(.mp 1),[(1,(Qea ([]:List (Int×Int))))],false⟩)] ⟨Qub rfl,tv⟩ ?_
   obtain⟨k2,hk_k2,h⟩:=jko h
   refine wjn (τ:=Unit) (fun t=>k2 t=some r) (fun _=>⟨mk 90 [],[]⟩) (fun t h=>?_) ?_
   ·subst hk_k2
    exact wxz<|Qah<|frb h
   ·skip
    refine wx tbk [(2,rp [(.tmp 27,(z9_1 p0))] (I ((p0.Elements.length:Int))))] ⟨alm (c:=Qai) (l:=p0.Elements) (aln rfl underlying40 rfl),tv⟩<|Qao ?_
    refine wmr (mto (n:=90) (l':=[(1,.ref 0 2 0 0),(3,(.mp 1)),(27,(z9_1 p0)),(28,(I ((p0.Elements.length:Int)))),(29,I 0)]) (own':=[(z9_2 p0),(Qea ([]:List (Int×Int)))]) [(1,.ref 0 2 0 0),(3,(.mp 1)),(27,(z9_1 p0)),(28,(I ((p0.Elements.length:Int)))),(29,I 0)] [0,1] [(z9_2 p0),(Qea ([]:List (Int×Int)))] hφ0 (prr (pc (.rn (Qjr rfl)) (pc (rnd Qab) (pw (pw pn))))) (qb (lc (rnd Qan) (lc (rnd Qab) ln)) (qc Qfy qn))) ?_
    refine Qb3 (τ:=Int×(List (Int×Int))) (fun n t=>Qdu N p0 k2 n t.1 t.2=some r) (fun ⟨y3,y4⟩=>⟨mk 90 [(1,.ref 0 2 0 0),(3,(.mp 1)),(27,(z9_1 p0)),(28,(I ((p0.Elements.length:Int)))),(29,I y3)],[(z9_2 p0),(Qea y4)]⟩) (fun t h=>by rw[Qdu] at h;cases h) (fun n7 ih t h=>?_) N (0,([]:List (Int×Int))) h
    obtain⟨y3,y4⟩:=t
    rw[Qdu] at h
    skip
    refine wxz<|wsq ?_
    refine bfe h (fun hc8 h=>?_) fun hc8 h=>?_
    ·refine wft hc8<|Qap<|thn ?_
     obtain⟨k10,hk_k10,h⟩:=jko h
     refine wjn (τ:=(List (Int×Int))) (fun t=>k10 t=some r) (fun y9=>⟨mk 90 [(1,.ref 0 2 0 0),(3,(.mp 1)),(27,(z9_1 p0)),(28,(I ((p0.Elements.length:Int)))),(29,I y3)],[(z9_2 p0),(Qea y9)]⟩) (fun y9 h=>?_) ?_
     ·subst hk_k10
      exact wxz1<|thn<|arm (mto (n:=90) [(1,.ref 0 2 0 0),(3,(.mp 1)),(27,(z9_1 p0)),(28,(I ((p0.Elements.length:Int)))),(29,(I (w64 (y3+1))))] [0,1] [(z9_2 p0),(Qea y9)] hφ0 (prr (pc (.rn (Qjr rfl)) (pc (rnd Qab) (pw (pw pn))))) (qb (lc (rnd Qan) (lc (rnd Qab) ln)) (qc Qfy qn))) (ih (w64 (y3+1),y9) h)
     ·skip
      refine Qao ?_
      obtain⟨x11,hg12,h⟩:=bno h
      obtain⟨hi13,hj14⟩:=gsm hg12
      refine wx tbk [(1,rp [(.tmp 27,(z9_1 p0)),(.tmp 29,I y3)] (.dptr (Qai (x11)) 0))] ⟨aid rfl underlying40 Qmi rfl rfl hi13 (mgt Qai hj14) rfl,tv⟩<|wsq ?_
      obtain⟨x16,hf15,h⟩:=bno h
      refine wx tbk [(4,rp [(.tmp 37,(z9_0 p0))] (I ((p0.Table.length:Int)))),(6,rp [fu 65,(.tmp 35,I x11.Level),ci 0,(.tmp 39,(I (w64 ((p0.Table.length:Int)-1))))] (B x16))] ⟨alm (c:=Qa7) (l:=p0.Table) (aln rfl underlying39 rfl),apv Ql1 (Qd2 N x11.Level 0 (w64 ((p0.Table.length:Int)-1)) _ hf15) (nlcc (nlc nll nl0)) nll,tv⟩ ?_
      refine bfe h (fun hc17 h=>?_) fun hc17 h=>?_
      ·exact wft hc17<|wxz<|Qah<|Qac<|Qaq<|Qac<|Qac<|Qaq<|Qac<|frb h
      ·refine wfn hc17<|Qap<|thn ?_
       refine wx tbk [(2,rp [(.tmp 43,(Quw x11))] (I ((x11.From.length:Int))))] ⟨alm (c:=Qa3) (l:=x11.From) (aln rfl underlying116 rfl),tv⟩<|Qao ?_
       refine wmr (mto (n:=90) (l':=[(1,.ref 0 2 0 0),(3,(.mp 1)),(4,I y3),(5,.ref 2 7 0 0),(27,(z9_1 p0)),(28,(I ((p0.Elements.length:Int)))),(29,I y3),(43,(Quw x11)),(44,(I ((x11.From.length:Int)))),(45,I 0)]) (own':=[(z9_2 p0),(Qea y4),(Q61 x11)]) [(1,.ref 0 2 0 0),(3,(.mp 1)),(4,I y3),(5,.ref 2 7 0 0),(27,(z9_1 p0)),(28,(I ((p0.Elements.length:Int)))),(29,I y3),(43,(Quw x11)),(44,(I ((x11.From.length:Int)))),(45,I 0)] [0,1,2] [(z9_2 p0),(Qea y4),(Q61 x11)] hφ0 (prr (pc (.rn (Qjr rfl)) (pw (prr (pc (rnd Qab) (pw (pw (pc (rnd Qaz) (pw (pw pn)))))))))) (qb (lc (rnd Qan) (lc (rnd Qab) ln)) (qc Qfy (qb (lc rwl (lc (rnd Qaz) (lcc (lcc (lc (rnd Qaj) ln))))) qn)))) ?_
       refine Qb3 (τ:=Int×(List (Int×Int))) (fun n t=>Qeb N p0 y3 k10 x11 n t.1 t.2=some r) (fun ⟨y18,y19⟩=>⟨mk 90 [(1,.ref 0 2 0 0),(3,(.mp 1)),(4,I y3),(5,.ref 2 7 0 0),(27,(z9_1 p0)),(28,(I ((p0.Elements.length:Int)))),(29,I y3),(43,(Quw x11)),(44,(I ((x11.From.length:Int)))),(45,I y18)],[(z9_2 p0),(Qea y19),(Q61 x11)]⟩) (fun t h=>by rw[Qeb] at h;cases h) (fun n22 ih t h=>?_) N (0,y4) h
       obtain⟨y18,y19⟩:=t
       rw[Qeb] at h
       skip
       refine wxz<|wsq ?_
       refine bfe h (fun hc23 h=>?_) fun hc23 h=>?_
       ·refine wft hc23<|Qap<|thn<|wsq<|Qao ?_
        obtain⟨x24,hg25,h⟩:=bno h
        obtain⟨hi26,hj27⟩:=gsm hg25
        refine wx tbk [(0,rp [(.tmp 43,(Quw x11)),(.tmp 45,I y18)] (.dptr (Qa3 (x24)) 0))] ⟨aid rfl underlying116 Qry rfl rfl hi26 (mgt Qa3 hj27) rfl,tv⟩<|wsq ?_
        obtain⟨x29,hf28,h⟩:=bno h
        refine hpre (A:=(Zca x24 y3 x29)) ⟨apv Ql1 (Qd2 N x24.Element 0 (w64 (y3-1)) _ hf28) (nlcc (nlc nll nl0)) nll,tv⟩ fun q1_=>?_
        refine bfe h (fun hb30 h=>?_) fun hb30 h=>?_
        ·refine wxd tbk (hcat (Zca x24 y3 x29) [(6,rp [(.tmp 54,(B ((!x29))))] (B true))]) (hap q1_ ⟨asb hb30 (amv rfl),tv⟩)<|wtr<|wxz<|Qah<|Qac<|Qaq<|Qac<|Qac<|Qaq<|Qaq ?_
         exact Qac<|Qac<|Qaq<|Qac<|frb h
        ·obtain⟨x31,hg32,h⟩:=bno h
         obtain⟨hi33,hj34⟩:=gsm hg32
         obtain⟨x36,hf35,h⟩:=bno h
         obtain⟨x38,hf37,h⟩:=bno h
         refine hpre (A:=(Zb9 x24 y3 x29 p0 x31 x36 x38)) (hap q1_ ⟨asb hb30 (amv rfl),ag_ (aid rfl underlying40 Qmi rfl rfl hi33 (mgt Qai hj34) rfl),ag_ (apv Q9l (Qju N x31 _ hf35) (nlc (NLt.agg _ (nlc nll (nlc (nld Qaz _) (nlcc (nlcc (nlc (nld Qaj _) nl0)))))) nl0) nll),ag_ (apv Ql1 (Qd2 N x24.Outlet 0 (w64 (x36-1)) _ hf37) (nlcc (nlc nll nl0)) nll),tv⟩) fun q2_=>?_
         refine bfe h (fun hb39 h=>?_) fun hb39 h=>?_
         ·refine wxd tbk (hcat (Zb9 x24 y3 x29 p0 x31 x36 x38) [(20,rp [(.tmp 68,(B ((!x38))))] (B true))]) (hap q2_ ⟨asb hb39 (amv rfl),tv⟩)<|wtr<|wxz<|Qah<|Qac<|Qaq<|Qac<|Qac<|Qaq<|Qaq ?_
          exact Qac<|Qac<|Qaq<|Qac<|frb h
         ·refine hpre (A:=(Zb8 x24 y3 x29 p0 x31 x36 x38 y19)) (hap q2_ ⟨asb hb39 (amv rfl),ag_ (Qoh rfl underlying190 underlying120 zb4 Qy9 Qw5),tv⟩) fun q3_=>?_
          refine bfe h (fun hb40 h=>?_) fun hb40 h=>?_
          ·refine wxd tbk (hcat (Zb8 x24 y3 x29 p0 x31 x36 x38 y19) [(25,rp [(.tmp 73,(B (y19.contains (x24.Element,x24.Outlet))))] (B true))]) (hap q3_ ⟨asb hb40 (amv rfl),tv⟩)<|wtr<|wxz<|Qah<|Qac<|Qaq<|Qac<|Qac<|Qaq<|Qaq ?_
           exact Qac<|Qac<|Qaq<|Qac<|frb h
          ·refine wxd tbk (hcat (Zb8 x24 y3 x29 p0 x31 x36 x38 y19) [(25,rp [(.tmp 73,(B (y19.contains (x24.Element,x24.Outlet))))] (B false)),(32,rp [(.tmp 74,B false),(.tmp 78,(z9_1 p0)),(.tmp 80,I x24.Element)] (.dptr (Qai (x31)) 0))]) (hap q3_ ⟨asb hb40 (amv rfl),ag_ (aid rfl underlying40 Qmi rfl rfl hi33 (mgt Qai hj34) rfl),tv⟩) ?_
           refine bfe h (fun hc41 h=>?_) fun hc41 h=>?_
           ·refine wft hc41<|wxz<|Qah<|Qac<|Qaq<|Qac<|Qac<|Qaq<|Qaq<|Qac ?_
            exact Qac<|Qaq<|Qac<|frb h
           ·refine wfn hc41<|Qap<|thn ?_
            exact wx1 tbk [(2,⟨[(.tmp 86,(.mp 1)),(.tmp 87,(.agg [I x24.Element,I x24.Outlet])),cb true],[(1,(Qea y19))],.any,[(1,(Qea (addQ y19 (x24.Element,x24.Outlet))))],false⟩)] ⟨Qxm rfl underlying190 underlying120 Qy9 Qw5,tv⟩<|bln<|thn<|wxz1<|thn<|arm (mto (n:=90) [(1,.ref 0 2 0 0),(3,(.mp 1)),(4,I y3),(5,.ref 2 7 0 0),(27,(z9_1 p0)),(28,(I ((p0.Elements.length:Int)))),(29,I y3),(43,(Quw x11)),(44,(I ((x11.From.length:Int)))),(45,(I (w64 (y18+1))))] [0,1,2] [(z9_2 p0),(Qea (addQ y19 (x24.Element,x24.Outlet))),(Q61 x11)] hφ0 (prr (pc (.rn (Qjr rfl)) (pw (prr (pc (rnd Qab) (pw (pw (pc (rnd Qaz) (pw (pw pn)))))))))) (qb (lc (rnd Qan) (lc (rnd Qab) ln)) (qc Qfy (qb (lc rwl (lc (rnd Qaz) (lcc (lcc (lc (rnd Qaj) ln))))) qn)))) (ih (w64 (y18+1),addQ y19 (x24.Element,x24.Outlet)) h)
       ·exact wfn hc23<|Qbl<|Qax<|Qax<|Qbk rfl<|bln<|thn<|⟨(y19),h,(mto (n:=90) [(1,.ref 0 2 0 0),(3,(.mp 1)),(27,(z9_1 p0)),(28,(I ((p0.Elements.length:Int)))),(29,I y3)] [0,1] [(z9_2 p0),(Qea y19)] hφ0 (prr (pc (.rn (Qjr rfl)) (pc (rnd Qab) (pw (pw pn))))) (qb (lc (rnd Qan) (lc (rnd Qab) ln)) (qc Qfy qn)))⟩
    ·exact wfn hc8<|Qbl<|Qax<|Qax<|Qbk rfl<|thn<|⟨(),h,(mto (n:=90) [] [] [] hφ0 pn qn)⟩
  ·skip
   obtain⟨x43,hf42,h⟩:=bno h
   refine hpre (A:=(Zb7 p0 x43)) ⟨apv Zl6 (Qp6 N p0.Table _ hf42) (nlc (nld Qan _) nl0) nll,tv⟩ fun q4_=>?_
   refine bfe h (fun hb44 h=>?_) fun hb44 h=>?_
   ·exact wx tbk (hcat (Zb7 p0 x43) [(4,rp [(.tmp 11,(B ((x43 != 0))))] (B true))]) (hap q4_ ⟨asb hb44 (amv rfl),tv⟩)<|wtr<|wxz<|Qah<|Qac<|frb h
   ·obtain⟨x46,hf45,h⟩:=bno h
    refine hpre (A:=(Zb6 p0 x43 x46)) (hap q4_ ⟨asb hb44 (amv rfl),ag_ (alm (c:=Qai) (l:=p0.Elements) (aln rfl underlying40 rfl)),ag_ (apv Ql1 (Qd2 N (p0.Elements.length:Int) 1 16 _ hf45) (nlcc (nlc nll nl0)) nll),tv⟩) fun q5_=>?_
    refine bfe h (fun hb47 h=>?_) fun hb47 h=>?_
    ·exact wx tbk (hcat (Zb6 p0 x43 x46) [(11,rp [(.tmp 18,(B ((!x46))))] (B true))]) (hap q5_ ⟨asb hb47 (amv rfl),tv⟩)<|wtr<|wxz<|Qah<|Qac<|frb h
    ·obtain⟨x49,hf48,h⟩:=bno h
     refine wx tbk (hcat (Zb6 p0 x43 x46) [(11,rp [(.tmp 18,(B ((!x46))))] (B false)),(14,rp [(.tmp 19,B false),fu 101,(.tmp 21,(z9_1 p0)),fu 102] (B x49))]) (hap q5_ ⟨asb hb47 (amv rfl),ag_ (Qau (first:=[]) (cap:=[]) (vs:=[(z9_1 p0),(.fn (.func 102) [] [])]) (σr:=[]) (σr':=[]) (res':=(B x49)) [] rfl Zl5 (Qmn N p0.Elements _ hf48) rfl (Qbp (rnc (pld Qab) (rnc (.plain _ (NLt.fn _ _ _ nl0 nl0)) rn0))) Qat Qat (.plain _ nll) rfl rfl rfl),tv⟩) ?_
     refine bfe h (fun hc50 h=>?_) fun hc50 h=>?_
     ·exact wft hc50<|wxz<|Qah<|Qac<|frb h
     ·exact wfn hc50<|Qap<|thn<|⟨(),h,(mto (n:=90) [(1,.ref 0 2 0 0)] [0] [(z9_2 p0)] hφ0 (prr pn) (qb (lc (rnd Qan) (lc (rnd Qab) ln)) qn))⟩
end
section
set_option maxRecDepth 100000
set_option maxHeartbeats 4000000
open Go.RowKit
def Qd5 (N:Nat) (k11:(List (Int×Int))→Option (List (Int×Int))) (x12:Qad):Nat→Int→(List (Int×Int))→Option (List (Int×Int))
  |0,_,_=>none
  |n20+1,y16,y17=>
    bif (decide (y16<(x12.From.length:Int))) then
     (getI x12.From y16).bind fun x22=>
     Qd5 N k11 x12 n20 (w64 (y16+1)) (addQ y17 (x22.Element,x22.Outlet))
    else
     k11 (y17)
def Qd6 (N:Nat) (p0:GNet) (k3:(List (Int×Int))→Option (List (Int×Int))):Nat→Int→(List (Int×Int))→Option (List (Int×Int))
  |0,_,_=>none
  |n8+1,y4,y5=>
    bif (decide (y4<(p0.Elements.length:Int))) then
     Qbn (fun y10=>
       Qd6 N p0 k3 n8 (w64 (y4+1)) y10) fun k11:(List (Int×Int))→Option (List (Int×Int))=>
     (getI p0.Elements y4).bind fun x12=>
     Qd5 N k11 x12 N 0 y5
    else
     k3 (y5)
def Qgv (N:Nat) (p0:GNet):Option (List (Int×Int)):=
  Qbn (fun y2=>
    some y2) fun k3:(List (Int×Int))→Option (List (Int×Int))=>
  Qd6 N p0 k3 N 0 ([]:List (Int×Int))
def Qrj (p0:GNet):AV:=.dat 7 ((p0.Elements:List Qad).map Qai)
def Q1s:AV:=.fn (.func 110) [] [(.ref 0 2 (0) 0),(.ref 1 1 (0) 0)]
def Qqt (p0:GNet):Slot:=.own 2 [[(.dat 5 ((p0.Table:List GRow).map Qa7)),(Qrj p0)]]
def Qyd (x12:Qad):AV:=.dat 2 ((x12.From:List Qa6).map Qa3)
theorem Qmq (N:Nat) (p0:GNet) (r:(List (Int×Int))) (h:Qgv N p0=some r):Spec prog 75 [(.agg [(.dat 5 ((p0.Table:List GRow).map Qa7)),(Qrj p0)])] [] Q1s [(Qqt p0),(.own 1 [[(.mp 2)]]),(Qea r)]:=by
  refine Qal func75 rfl 3 (nle rfl) (fun X φ0 w0 hφ0 hd0=>?_)
  unfold Qgv at h
  refine Qbv<|wxz ?_
  refine wx tbk [(0,⟨[],[(1,.unused)],(.mp 1),[(1,(Qea ([]:List (Int×Int))))],false⟩)] ⟨Qub rfl,tv⟩ ?_
  obtain⟨k3,hk_k3,h⟩:=jko h
  refine wjn (τ:=(List (Int×Int))) (fun t=>k3 t=some r) (fun y2=>⟨mk 28 [(1,.ref 0 2 0 0),(3,.ref 1 1 0 0)],[(Qqt p0),(.own 1 [[(.mp 2)]]),(Qea y2)]⟩) (fun y2 h=>?_) ?_
  ·subst hk_k3
   refine wx tbk [(0,rp [(.tmp 1,.ref 0 2 0 0),(.tmp 3,.ref 1 1 0 0)] Q1s)] ⟨Qe2 (fs:=[]) (cs:=[.ref 0 2 0 0,.ref 1 1 0 0]) rfl rfl rfl rfl,tv⟩ ?_
   refine wmr (mto (n:=28) (l':=[(2,Q1s)]) (own':=[(Qqt p0),(.own 1 [[(.mp 2)]]),(Qea y2)]) [(2,Q1s)] [0,1,2] [(Qqt p0),(.own 1 [[(.mp 2)]]),(Qea y2)] hφ0 (pc (.rn (Qbj rn0 (rnc (rqr rfl) (rnc (rqr rfl) rn0)))) pn) (qb (lc (rnd Qan) (lc (rnd Qab) ln)) (qb (lc (.rn (Qjr rfl)) ln) (qc Qfy qn))))<|Qah ?_
   obtain rfl:=osi h
   exact⟨_,Mor.rfl,Qdh (vs:=[Q1s]) ⟨rot,tv⟩ rfl (NLt.fn _ _ _ nl0 (nlc (NLt.ref _ _ _ _ (by decide)) (nlc (NLt.ref _ _ _ _ (by decide)) nl0))) (by kernel_rfl) (Qar (Qa4 (nlc (NLt.of0 (nld Qan _)) (nlc (NLt.of0 (nld Qab _)) nl0))) (Qar (Qa4 (nlc (NLt.mp _ (by decide)) nl0)) (Qar Zj2 Qbx)))⟩
  ·skip
   refine wx tbk [(2,rp [(.tmp 10,(Qrj p0))] (I ((p0.Elements.length:Int))))] ⟨alm (c:=Qai) (l:=p0.Elements) (aln rfl underlying40 rfl),tv⟩<|Qao ?_
   refine wmr (mto (n:=28) (l':=[(1,.ref 0 2 0 0),(3,.ref 1 1 0 0),(10,(Qrj p0)),(11,(I ((p0.Elements.length:Int)))),(12,I 0)]) (own':=[(Qqt p0),(.own 1 [[(.mp 2)]]),(Qea ([]:List (Int×Int)))]) [(1,.ref 0 2 0 0),(3,.ref 2 1 0 0),(10,(Qrj p0)),(11,(I ((p0.Elements.length:Int)))),(12,I 0)] [0,2,1] [(Qqt p0),(.own 1 [[(.mp 1)]]),(Qea ([]:List (Int×Int)))] hφ0 (prr (prr (pc (rnd Qab) (pw (pw pn))))) (qb (lc (rnd Qan) (lc (rnd Qab) ln)) (qb (lc (.rn (Qjr rfl)) ln) (qc Qfy qn)))) ?_
   refine Qb3 (τ:=Int×(List (Int×Int))) (fun n t=>Qd6 N p0 k3 n t.1 t.2=some r) (fun ⟨y4,y5⟩=>⟨mk 28 [(1,.ref 0 2 0 0),(3,.ref 1 1 0 0),(10,(Qrj p0)),(11,(I ((p0.Elements.length:Int)))),(12,I y4)],[(Qqt p0),(.own 1 [[(.mp 2)]]),(Qea y5)]⟩) (fun t h=>by rw[Qd6] at h;cases h) (fun n8 ih t h=>?_) N (0,([]:List (Int×Int))) h
   obtain⟨y4,y5⟩:=t
   rw[Qd6] at h
   skip
   refine wxz<|wsq ?_
   refine bfe h (fun hc9 h=>?_) fun hc9 h=>?_
   ·refine wft hc9<|Qap<|thn ?_
    obtain⟨k11,hk_k11,h⟩:=jko h
    refine wjn (τ:=(List (Int×Int))) (fun t=>k11 t=some r) (fun y10=>⟨mk 28 [(1,.ref 0 2 0 0),(3,.ref 1 1 0 0),(10,(Qrj p0)),(11,(I ((p0.Elements.length:Int)))),(12,I y4)],[(Qqt p0),(.own 1 [[(.mp 2)]]),(Qea y10)]⟩) (fun y10 h=>?_) ?_
    ·subst hk_k11
     exact wxz1<|thn<|arm (mto (n:=28) [(1,.ref 0 2 0 0),(3,.ref 1 1 0 0),(10,(Qrj p0)),(11,(I ((p0.Elements.length:Int)))),(12,(I (w64 (y4+1))))] [0,1,2] [(Qqt p0),(.own 1 [[(.mp 2)]]),(Qea y10)] hφ0 (prr (prr (pc (rnd Qab) (pw (pw pn))))) (qb (lc (rnd Qan) (lc (rnd Qab) ln)) (qb (lc (.rn (Qjr rfl)) ln) (qc Qfy qn)))) (ih (w64 (y4+1),y10) h)
    ·skip
     refine Qao ?_
     obtain⟨x12,hg13,h⟩:=bno h
     obtain⟨hi14,hj15⟩:=gsm hg13
     refine wx tbk [(0,rp [(.tmp 10,(Qrj p0)),(.tmp 12,I y4)] (.dptr (Qai (x12)) 0))] ⟨aid rfl underlying40 Qmi rfl rfl hi14 (mgt Qai hj15) rfl,tv⟩ ?_
     refine wx tbk [(2,rp [(.tmp 17,(Qyd x12))] (I ((x12.From.length:Int))))] ⟨alm (c:=Qa3) (l:=x12.From) (aln rfl underlying116 rfl),tv⟩<|Qao ?_
     refine wmr (mto (n:=28) (l':=[(1,.ref 0 2 0 0),(3,.ref 1 1 0 0),(10,(Qrj p0)),(11,(I ((p0.Elements.length:Int)))),(12,I y4),(17,(Qyd x12)),(18,(I ((x12.From.length:Int)))),(19,I 0)]) (own':=[(Qqt p0),(.own 1 [[(.mp 2)]]),(Qea y5)]) [(1,.ref 0 2 0 0),(3,.ref 1 1 0 0),(10,(Qrj p0)),(11,(I ((p0.Elements.length:Int)))),(12,I y4),(17,(Qyd x12)),(18,(I ((x12.From.length:Int)))),(19,I 0)] [0,1,2] [(Qqt p0),(.own 1 [[(.mp 2)]]),(Qea y5)] hφ0 (prr (prr (pc (rnd Qab) (pw (pw (pc (rnd Qaz) (pw (pw pn)))))))) (qb (lc (rnd Qan) (lc (rnd Qab) ln)) (qb (lc (.rn (Qjr rfl)) ln) (qc Qfy qn)))) ?_
     refine Qb3 (τ:=Int×(List (Int×Int))) (fun n t=>Qd5 N k11 x12 n t.1 t.2=some r) (fun ⟨y16,y17⟩=>⟨mk 28 [(1,.ref 0 2 0 0),(3,.ref 1 1 0 0),(10,(Qrj p0)),(11,(I ((p0.Elements.length:Int)))),(12,I y4),(17,(Qyd x12)),(18,(I ((x12.From.length:Int)))),(19,I y16)],[(Qqt p0),(.own 1 [[(.mp 2)]]),(Qea y17)]⟩) (fun t h=>by rw[Qd5] at h;cases h) (fun n20 ih t h=>?_) N (0,y5) h
     obtain⟨y16,y17⟩:=t
     rw[Qd5] at h
     skip
     refine wxz<|wsq ?_
     refine bfe h (fun hc21 h=>?_) fun hc21 h=>?_
     ·refine wft hc21<|Qap<|thn<|wsq<|Qao ?_
      obtain⟨x22,hg23,h⟩:=bno h
      obtain⟨hi24,hj25⟩:=gsm hg23
      refine wx tbk [(0,rp [(.tmp 17,(Qyd x12)),(.tmp 19,I y16)] (.dptr (Qa3 (x22)) 0))] ⟨aid rfl underlying116 Qry rfl rfl hi24 (mgt Qa3 hj25) rfl,tv⟩ ?_
      exact wx1 tbk [(2,⟨[(.tmp 23,(.mp 2)),(.tmp 24,(.agg [I x22.Element,I x22.Outlet])),cb true],[(2,(Qea y17))],.any,[(2,(Qea (addQ y17 (x22.Element,x22.Outlet))))],false⟩)] ⟨Qxm rfl underlying190 underlying120 Qy9 Qw5,tv⟩<|bln<|thn<|wxz1<|thn<|arm (mto (n:=28) [(1,.ref 0 2 0 0),(3,.ref 1 1 0 0),(10,(Qrj p0)),(11,(I ((p0.Elements.length:Int)))),(12,I y4),(17,(Qyd x12)),(18,(I ((x12.From.length:Int)))),(19,(I (w64 (y16+1))))] [0,1,2] [(Qqt p0),(.own 1 [[(.mp 2)]]),(Qea (addQ y17 (x22.Element,x22.Outlet)))] hφ0 (prr (prr (pc (rnd Qab) (pw (pw (pc (rnd Qaz) (pw (pw pn)))))))) (qb (lc (rnd Qan) (lc (rnd Qab) ln)) (qb (lc (.rn (Qjr rfl)) ln) (qc Qfy qn)))) (ih (w64 (y16+1),addQ y17 (x22.Element,x22.Outlet)) h)
     ·exact wfn hc21<|Qbl<|Qax<|Qax<|Qbk rfl<|bln<|thn<|⟨(y17),h,(mto (n:=28) [(1,.ref 0 2 0 0),(3,.ref 1 1 0 0),(10,(Qrj p0)),(11,(I ((p0.Elements.length:Int)))),(12,I y4)] [0,1,2] [(Qqt p0),(.own 1 [[(.mp 2)]]),(Qea y17)] hφ0 (prr (prr (pc (rnd Qab) (pw (pw pn))))) (qb (lc (rnd Qan) (lc (rnd Qab) ln)) (qb (lc (.rn (Qjr rfl)) ln) (qc Qfy qn))))⟩
   ·exact wfn hc9<|Qbl<|Qax<|Qax<|Qbk rfl<|thn<|⟨(y5),h,(mto (n:=28) [(1,.ref 0 2 0 0),(3,.ref 1 1 0 0)] [0,1,2] [(Qqt p0),(.own 1 [[(.mp 2)]]),(Qea y5)] hφ0 (prr (prr pn)) (qb (lc (rnd Qan) (lc (rnd Qab) ln)) (qb (lc (.rn (Qjr rfl)) ln) (qc Qfy qn))))⟩
def Qdl (N:Nat) (y1:Int) (p2:(List (Int×Int))) (k8:Unit→Option (List Qa6)) (x14:Int):Nat→Int→Option (List Qa6)
  |0,_=>none
  |n19+1,y15=>
    bif (decide (y15<x14)) then
     bif (!(p2.contains (y1,y15))) then
      yld (⟨y1,y15⟩:Qa6)<|
      Qdl N y1 p2 k8 x14 n19 (w64 (y15+1))
     else
      Qdl N y1 p2 k8 x14 n19 (w64 (y15+1))
    else
     k8 ()
def Qc3 (N:Nat) (p1:(List Qad)) (p2:(List (Int×Int))):Nat→Int→Option (List Qa6)
  |0,_=>none
  |n5+1,y1=>
    bif (decide (y1<(p1.length:Int))) then
     Qbn (fun _=>
       Qc3 N p1 p2 n5 (w64 (y1+1))) fun k8:Unit→Option (List Qa6)=>
     (getI p1 y1).bind fun x9=>
     (Qe0 N x9).bind fun x14=>
     Qdl N y1 p2 k8 x14 N 0
    else
     some ([])
def Qf6 (N:Nat) (_p0:(List GRow)) (p1:(List Qad)) (p2:(List (Int×Int))):Option (List Qa6):=
  Qc3 N p1 p2 N 0
def Qri (p1:(List Qad)):AV:=.dat 7 ((p1:List Qad).map Qai)
def Quj (p0:(List GRow)) (p1:(List Qad)):Slot:=.own 2 [[(.dat 5 ((p0:List GRow).map Qa7)),(Qri p1)]]
def Zt0 (x9:Qad):AV:=.agg [(K .u8 (x9.Kind)),(.dat 2 ((x9.From:List Qa6).map Qa3)),(I (x9.Level)),(I (x9.Amount)),(I (x9.Wide)),(I (x9.Narrow)),(.dat 1 ((x9.Weights:List Int).map Qav))]
def Qqg (y1:Int) (y15:Int):AV:=.agg [(I (y1)),(I (y15))]
theorem Qmp (N:Nat) (p0:(List GRow)) (p1:(List Qad)) (p2:(List (Int×Int))) (r:(List Qa6)) (h:Qf6 N p0 p1 p2=some r):Qxv prog 110 [(.ref 0 2 (0) 0),(.ref 1 1 (0) 0)] [(Quj p0 p1),(.own 1 [[(.mp 2)]]),(Qea p2)] (fun x=>[(.agg #[(.int .i64 (x.Element)),(.int .i64 (x.Outlet))])]) r:=by
  refine Qyw func110 rfl rfl (fun X φ0 w0 l J hφ0 hy=>?_)
  unfold Qf6 at h
  refine wx tbk [(2,rp [(.tmp 9,(Qri p1))] (I ((p1.length:Int))))] ⟨alm (c:=Qai) (l:=p1) (aln rfl underlying40 rfl),tv⟩<|Qao ?_
  refine wmr (mto (n:=36) (l':=[(0,(.lit (.func (.yield l) #[] #[]))),(2,.ref 1 1 0 0),(9,(Qri p1)),(10,(I ((p1.length:Int)))),(11,I 0)]) (own':=[(Quj p0 p1),(.own 1 [[(.mp 2)]]),(Qea p2),(.far (J (some (r))))]) [(0,(.lit (.func (.yield l) #[] #[]))),(2,.ref 1 1 0 0),(9,(Qri p1)),(10,(I ((p1.length:Int)))),(11,I 0)] [0,1,2,3] [(Quj p0 p1),(.own 1 [[(.mp 2)]]),(Qea p2),(.far (J (some (r))))] hφ0 (pw (prr (pc (rnd Qab) (pw (pw pn))))) (qb (lc (rnd Qan) (lc (rnd Qab) ln)) (qb (lc (.rn (Qjr rfl)) ln) (qc Qfy (qc (.far _) qn))))) ?_
  refine Qb3 (τ:=(Int)×List Qa6) (fun n t=>Qc3 N p1 p2 n t.1=some t.2) (fun ⟨y1,q2⟩=>⟨mk 36 [(0,(.lit (.func (.yield l) #[] #[]))),(2,.ref 1 1 0 0),(9,(Qri p1)),(10,(I ((p1.length:Int)))),(11,I y1)],[(Quj p0 p1),(.own 1 [[(.mp 2)]]),(Qea p2),(.far (J (some (q2))))]⟩) (fun t h=>by rw[Qc3] at h;cases h) (fun n5 ih t h=>?_) N ((0),r) h
  obtain⟨y1,q2⟩:=t
  rw[Qc3] at h
  try dsimp only at h
  refine wxz<|wsq ?_
  refine bfe h (fun hc6 h=>?_) fun hc6 h=>?_
  ·refine wft hc6<|Qap<|thn ?_
   obtain⟨k8,hk_k8,h⟩:=jko h
   refine wjn (τ:=(Unit)×List Qa6) (fun t=>k8 t.1=some t.2) (fun ⟨_,q7⟩=>⟨mk 36 [(0,(.lit (.func (.yield l) #[] #[]))),(2,.ref 1 1 0 0),(9,(Qri p1)),(10,(I ((p1.length:Int)))),(11,I y1)],[(Quj p0 p1),(.own 1 [[(.mp 2)]]),(Qea p2),(.far (J (some (q7))))]⟩) (fun t h=>?_) ?_
   ·subst hk_k8
    obtain⟨_,q7⟩:=t
    exact wxz1<|thn<|arm (mto (n:=36) [(0,(.lit (.func (.yield l) #[] #[]))),(2,.ref 1 1 0 0),(9,(Qri p1)),(10,(I ((p1.length:Int)))),(11,(I (w64 (y1+1))))] [0,1,2,3] [(Quj p0 p1),(.own 1 [[(.mp 2)]]),(Qea p2),(.far (J (some (q7))))] hφ0 (pw (prr (pc (rnd Qab) (pw (pw pn))))) (qb (lc (rnd Qan) (lc (rnd Qab) ln)) (qb (lc (.rn (Qjr rfl)) ln) (qc Qfy (qc (.far _) qn))))) (ih ((w64 (y1+1)),q7) h)
   ·skip
    refine Qao ?_
    obtain⟨x9,hg10,h⟩:=bno h
    obtain⟨hi11,hj12⟩:=gsm hg10
    refine wx tbk [(1,rp [(.tmp 9,(Qri p1)),(.tmp 11,I y1)] (.dptr (Qai (x9)) 0))] ⟨aid rfl underlying40 Qmi rfl rfl hi11 (mgt Qai hj12) rfl,tv⟩ ?_
    obtain⟨x14,hf13,h⟩:=bno h
    refine wx tbk [(1,rp [fu 103,(.tmp 16,(Zt0 x9))] (I x14))] ⟨apv Q9l (Qju N x9 _ hf13) (nlc (NLt.agg _ (nlc nll (nlc (nld Qaz _) (nlcc (nlcc (nlc (nld Qaj _) nl0)))))) nl0) nll,tv⟩<|Qao ?_
    refine wmr (mto (n:=36) (l':=[(0,(.lit (.func (.yield l) #[] #[]))),(2,.ref 1 1 0 0),(4,I y1),(9,(Qri p1)),(10,(I ((p1.length:Int)))),(11,I y1),(17,I x14),(18,I 0)]) (own':=[(Quj p0 p1),(.own 1 [[(.mp 2)]]),(Qea p2),(.far (J (some (q2))))]) [(0,(.lit (.func (.yield l) #[] #[]))),(2,.ref 1 1 0 0),(4,I y1),(9,(Qri p1)),(10,(I ((p1.length:Int)))),(11,I y1),(17,I x14),(18,I 0)] [0,1,2,3] [(Quj p0 p1),(.own 1 [[(.mp 2)]]),(Qea p2),(.far (J (some (q2))))] hφ0 (pw (prr (pw (pc (rnd Qab) (pw (pw (pw (pw pn)))))))) (qb (lc (rnd Qan) (lc (rnd Qab) ln)) (qb (lc (.rn (Qjr rfl)) ln) (qc Qfy (qc (.far _) qn))))) ?_
    refine Qb3 (τ:=(Int)×List Qa6) (fun n t=>Qdl N y1 p2 k8 x14 n t.1=some t.2) (fun ⟨y15,q16⟩=>⟨mk 36 [(0,(.lit (.func (.yield l) #[] #[]))),(2,.ref 1 1 0 0),(4,I y1),(9,(Qri p1)),(10,(I ((p1.length:Int)))),(11,I y1),(17,I x14),(18,I y15)],[(Quj p0 p1),(.own 1 [[(.mp 2)]]),(Qea p2),(.far (J (some (q16))))]⟩) (fun t h=>by rw[Qdl] at h;cases h) (fun n19 ih t h=>?_) N ((0),q2) h
    obtain⟨y15,q16⟩:=t
    rw[Qdl] at h
    try dsimp only at h
    refine wxz<|wsq ?_
    refine bfe h (fun hc20 h=>?_) fun hc20 h=>?_
    ·refine wft hc20<|Qap<|thn<|wsq<|Qao<|wxz ?_
     refine wx tbk [(2,rp [(.tmp 21,I y1),(.tmp 22,I y15)] (Qqg y1 y15))] ⟨Qa8 (vs:=[I y1,I y15]) rfl Zfh Qxx rfl (by rfl) rfl,tv⟩ ?_
     refine bfe h (fun hb21 h=>?_) fun hb21 h=>?_
     ·obtain⟨q22,hy_,hq_⟩:=Q5d h
      clear h
      subst hq_
      have h:=hy_
      clear hy_
      refine Zmf 7 [rb [(.tmp 2,.ref 1 1 0 0)] [(1,(.own 1 [[(.mp 2)]]))] (.mp 2),rb [(.tmp 7,.ref 4 2 0 0)] [(4,.own 2 [[I y1,I y15]])] (Qqg y1 y15),rb [(.tmp 24,(.mp 2)),(.tmp 25,(Qqg y1 y15))] [(2,(Qea p2))] (B (p2.contains (y1,y15))),rp [(.tmp 26,(B (p2.contains (y1,y15))))] (B ((!(p2.contains (y1,y15))))),rp [(.tmp 27,(B ((!(p2.contains (y1,y15))))))] (B true),rp [(.tmp 28,B true),(.tmp 0,(.lit (.func (.yield l) #[] #[])))] (.lit (.func (.yield l) #[] #[])),rb [(.tmp 28,B true),(.tmp 7,.ref 4 2 0 0)] [(4,.own 2 [[I y1,I y15]])] (Qqg y1 y15),⟨[(.tmp 28,B true),(.tmp 29,(.lit (.func (.yield l) #[] #[]))),(.tmp 30,(Qqg y1 y15))],[(3,(.far (J (some ((⟨y1,y15⟩:Qa6)::q22)))))],B true,[(3,(.far (J (some (q22)))))],false⟩,rp [(.tmp 28,B true),(.tmp 31,B true)] (B false),rp [(.tmp 28,B true),(.tmp 32,B false),cb false] (B false)] [rb [(.tmp 2,.ref 1 1 0 0)] [(1,(.own 1 [[(.mp 2)]]))] (.mp 2),rb [(.tmp 7,.ref 4 2 0 0)] [(4,.own 2 [[I y1,I y15]])] (Qqg y1 y15),rb [(.tmp 24,(.mp 2)),(.tmp 25,(Qqg y1 y15))] [(2,(Qea p2))] (B (p2.contains (y1,y15))),rp [(.tmp 26,(B (p2.contains (y1,y15))))] (B ((!(p2.contains (y1,y15))))),rp [(.tmp 27,(B ((!(p2.contains (y1,y15))))))] (B true),rp [(.tmp 28,B true),(.tmp 0,(.lit (.func (.yield l) #[] #[])))] (.lit (.func (.yield l) #[] #[])),rb [(.tmp 28,B true),(.tmp 7,.ref 4 2 0 0)] [(4,.own 2 [[I y1,I y15]])] (Qqg y1 y15),⟨[(.tmp 28,B true),(.tmp 29,(.lit (.func (.yield l) #[] #[]))),(.tmp 30,(Qqg y1 y15))],[(3,(.far (J (some ((⟨y1,y15⟩:Qa6)::q22)))))],B false,[(3,(.far (J none)))],false⟩,rp [(.tmp 28,B true),(.tmp 31,B false)] (B true),rp [(.tmp 28,B true),(.tmp 32,B true),cb false] (B true)] (by exact⟨by kernel_rfl,by kernel_rfl⟩) (by exact⟨by kernel_rfl,by kernel_rfl⟩) rfl rfl rfl rfl (Q4b (Qrd (rd':=(.tmp 29,.lit (.func (.yield l) #[] #[]))::[(.tmp 30,.lit (.agg #[(.int .i64 ((⟨y1,y15⟩:Qa6).Element)),(.int .i64 ((⟨y1,y15⟩:Qa6).Outlet))]))]) ⟨rfl,lrf,rfl,(Less.lits [(.int .i64 (y1)),(.int .i64 (y15))]),tv⟩ (Qpo (x:=(⟨y1,y15⟩:Qa6)) (rest:=q22) rfl rfl hy rfl))) (⟨fun _ _=>ald rfl Zqx (by decide) rfl (nle rfl) rfl,fun _ _=>ald rfl Qry (by decide) rfl (nle rfl) rfl,fun _ _=>Qoh rfl underlying190 underlying120 zb4 Qy9 Qw5,fun _ _=>Qmt rfl,fun _ _=>asb hb21 (amv rfl),fun _ _=>ag_ (amv rfl),fun _ _=>ag_ (ald rfl Qry (by decide) rfl (nle rfl) rfl),fun _ h=>absurd rfl h,fun _ _=>ag_ (Qmt rfl),fun _ _=>apk rfl rfl,tv⟩) (⟨fun _ _=>ald rfl Zqx (by decide) rfl (nle rfl) rfl,fun _ _=>ald rfl Qry (by decide) rfl (nle rfl) rfl,fun _ _=>Qoh rfl underlying190 underlying120 zb4 Qy9 Qw5,fun _ _=>Qmt rfl,fun _ _=>asb hb21 (amv rfl),fun _ _=>ag_ (amv rfl),fun _ _=>ag_ (ald rfl Qry (by decide) rfl (nle rfl) rfl),fun _ h=>absurd rfl h,fun _ _=>ag_ (Qmt rfl),fun _ _=>apk rfl rfl,tv⟩) ?_ ?_
      ·skip
       exact wfa<|Qap<|bln<|thn<|wxz1<|thn<|arm (mto (n:=36) [(0,(.lit (.func (.yield l) #[] #[]))),(2,.ref 1 1 0 0),(4,I y1),(9,(Qri p1)),(10,(I ((p1.length:Int)))),(11,I y1),(17,I x14),(18,(I (w64 (y15+1))))] [0,1,2,3] [(Quj p0 p1),(.own 1 [[(.mp 2)]]),(Qea p2),(.far (J (some (q22))))] hφ0 (pw (prr (pw (pc (rnd Qab) (pw (pw (pw (pw pn)))))))) (qb (lc (rnd Qan) (lc (rnd Qab) ln)) (qb (lc (.rn (Qjr rfl)) ln) (qc Qfy (qc (.far _) qn))))) (ih ((w64 (y15+1)),q22) h)
      ·clear h
       refine wtr<|Qah<|Qaq<|Qac<|Qac<|Qaq<|Qaq<|Qac<|Qac<|Qaq ?_
       exact Or.inr (by kernel_rfl)
     ·exact wx tbk [(2,rb [(.tmp 24,(.mp 2)),(.tmp 25,(Qqg y1 y15))] [(2,(Qea p2))] (B (p2.contains (y1,y15)))),(4,rp [(.tmp 27,(B ((!(p2.contains (y1,y15))))))] (B false))] ⟨Qoh rfl underlying190 underlying120 zb4 Qy9 Qw5,asb hb21 (amv rfl),tv⟩<|wfa<|Qap<|bln<|thn<|wxz1<|thn<|arm (mto (n:=36) [(0,(.lit (.func (.yield l) #[] #[]))),(2,.ref 1 1 0 0),(4,I y1),(9,(Qri p1)),(10,(I ((p1.length:Int)))),(11,I y1),(17,I x14),(18,(I (w64 (y15+1))))] [0,1,2,3] [(Quj p0 p1),(.own 1 [[(.mp 2)]]),(Qea p2),(.far (J (some (q16))))] hφ0 (pw (prr (pw (pc (rnd Qab) (pw (pw (pw (pw pn)))))))) (qb (lc (rnd Qan) (lc (rnd Qab) ln)) (qb (lc (.rn (Qjr rfl)) ln) (qc Qfy (qc (.far _) qn))))) (ih ((w64 (y15+1)),q16) h)
    ·exact wfn hc20<|Qbl<|Qax<|Qax<|Qbk rfl<|bln<|thn<|⟨((),q16),h,(mto (n:=36) [(0,(.lit (.func (.yield l) #[] #[]))),(2,.ref 1 1 0 0),(9,(Qri p1)),(10,(I ((p1.length:Int)))),(11,I y1)] [0,1,2,3] [(Quj p0 p1),(.own 1 [[(.mp 2)]]),(Qea p2),(.far (J (some (q16))))] hφ0 (pw (prr (pc (rnd Qab) (pw (pw pn))))) (qb (lc (rnd Qan) (lc (rnd Qab) ln)) (qb (lc (.rn (Qjr rfl)) ln) (qc Qfy (qc (.far _) qn)))))⟩
  ·refine wfn hc6<|Qbl<|Qax<|Qax<|Qbk rfl ?_
   obtain rfl:=osi h
   exact Or.inl rfl
def Qa9 (N:Nat) (k3:(List Qa6)→Option (List Qa6)):(List Qa6)→(List Qa6)→Option (List Qa6)
  |[],y6=>
    k3 (y6)
  |x9::q10,y6=>
    chk (decide ((y6.length+([x9]).length)*16≤140737488355328))<|
    Qa9 N k3 q10 (y6++([x9]))
def Qdf (N:Nat) (p0:(List GRow)) (p1:(List Qad)) (p2:(List (Int×Int))):Option (List Qa6):=
  Qbn (fun y2=>
    some y2) fun k3:(List Qa6)→Option (List Qa6)=>
  (Qf6 N p0 p1 p2).bind fun q4=>
  Qa9 N k3 q4 ([])
def Zp5:AV:=.fn (.func 110) [] [(.ref 0 2 (0) 0),(.ref 1 1 (0) 0)]
def Zje (p0:(List GRow)):AV:=.dat 5 ((p0:List GRow).map Qa7)
def Zjd (p1:(List Qad)):AV:=.dat 7 ((p1:List Qad).map Qai)
def Zd7 (y6:(List Qa6)):AV:=.acc 4 120 2 ((y6:List Qa6).map Qa3)
theorem Qid (N:Nat) (p0:(List GRow)) (p1:(List Qad)) (p2:(List (Int×Int))) (r:(List Qa6)) (h:Qdf N p0 p1 p2=some r):Spec prog 111 [nilS,Zp5] [(.own 2 [[(Zje p0),(Zjd p1)]]),(.own 1 [[(.mp 2)]]),(Qea p2)] (.dat 2 ((r:List Qa6).map Qa3)) [.dead,.dead,.dead]:=by
  refine Qal func111 rfl 3 (nle rfl) (fun X φ0 w0 hφ0 hd0=>?_)
  unfold Qdf at h
  refine Qbv<|wxz ?_
  obtain⟨k3,hk_k3,h⟩:=jko h
  refine wjn (τ:=(List Qa6)) (fun t=>k3 t=some r) (fun y2=>⟨mk 13 [(2,.ref 3 1 0 0)],[.dead,.dead,.dead,(.own 1 [[(.acc 4 120 2 ((y2:List Qa6).map Qa3))]]),.tok]⟩) (fun y2 h=>?_) ?_
  ·subst hk_k3
   refine wxz<|wmr (mto (n:=13) (l':=[(4,(.dat 2 ((y2:List Qa6).map Qa3)))]) (own':=[.dead,.dead,.dead]) [(4,(.acc 4 120 2 ((y2:List Qa6).map Qa3)))] [0,1,2] [.dead,.dead,.dead] hφ0 (pc (.dat _ _ _ _ (Qcb Qaz _)) pn) (qc .dead (qc .dead (qc .dead qn))))<|Qah ?_
   obtain rfl:=osi h
   exact⟨_,Mor.rfl,Qdh (vs:=[(.dat 2 ((y2:List Qa6).map Qa3))]) ⟨rot,tv⟩ rfl (NLt.of0 (nld Qaz _)) (by kernel_rfl) (Qar .dead (Qar .dead (Qar .dead Qbx)))⟩
  ·skip
   refine wxz<|Qao ?_
   obtain⟨q4,hL5,h⟩:=bno h
   refine wmr (mto (n:=13) (l':=[(2,.ref 3 1 0 0),(6,Zp5)]) (own':=[(.own 2 [[(Zje p0),(Zjd p1)]]),(.own 1 [[(.mp 2)]]),(Qea p2),(.own 1 [[nilS]])]) [(2,.ref 3 1 0 0),(6,Zp5)] [0,1,2,3] [(.own 2 [[(Zje p0),(Zjd p1)]]),(.own 1 [[(.mp 2)]]),(Qea p2),(.own 1 [[nilS]])] hφ0 (prr (pc (.rn (Qbj rn0 (rnc (rqr rfl) (rnc (rqr rfl) rn0)))) pn)) (qb (lc (rnd Qan) (lc (rnd Qab) ln)) (qb (lc (.rn (Qjr rfl)) ln) (qc Qfy (qb (lc rwl ln) qn))))) ?_
   refine wmr (Qsa (n:=4) (ty:=120) (m:=2) (q:=3) (mq:=1) (c:=[nilS]) 0 (by kernel_rfl) (by kernel_rfl) (by kernel_rfl) (by decide)) ?_
   refine Qtt (τ:=((List Qa6))) (kb:=4) (caps:=[.ref 0 2 0 0,.ref 1 1 0 0]) (σr:=[(.own 2 [[(Zje p0),(Zjd p1)]]),(.own 1 [[(.mp 2)]]),(Qea p2)]) (encs:=fun x=>[(.agg #[(.int .i64 (x.Element)),(.int .i64 (x.Outlet))])]) (fun x=>[(.agg [I x.Element,I x.Outlet])]) [0,1,2] (fun n hn=>hφ0 n (Nat.le_trans (nle rfl) hn)) hd0 (Qmp N p0 p1 p2 _ hL5) Q9j (by kernel_rfl) (by kernel_rfl) (Qbp (rnc (Qby rfl) (rnc (Qby rfl) rn0))) (slc (Qam (rnc (pld Qan) (rnc (pld Qab) rn0))) (slc (Qam (rnc (Q8m rfl) rn0)) (slc Qps Qat))) (by kernel_rfl) (fun _=>rfl) (fun x=>⟨(Less.unlits [(.int .i64 (x.Element)),(.int .i64 (x.Outlet))]),tv⟩) (Zgg (Qob (NLt.ref _ _ _ _ (by decide)) (Qob (NLt.fn _ _ _ nl0 (nlc (NLt.ref _ _ _ _ (by decide)) (nlc (NLt.ref _ _ _ _ (by decide)) nl0))) Q5y))) (fun y6=>[.dead,.dead,.dead,(.own 1 [[(Zd7 y6)]]),.tok]) (fun _=>rfl) (fun _=>rfl) (fun l t=>Qa9 N k3 l t=some r) ([]) h (by kernel_rfl) ?_ ?_
   ·intro l11 o12 X15 φ16 w17 hφ14 x9 q10 y6 h
    rw[Qa9] at h
    refine wxz1 ?_
    refine⟨by kernel_rfl,fun o13=>?_⟩
    refine Qao ?_
    obtain⟨ha18,h⟩:=cko h
    refine wx1 tbk [(2,rp [(.tmp 9,(.agg [I x9.Element,I x9.Outlet]))] (.dat 2 (([x9]:List Qa6).map Qa3))),(3,⟨[(.tmp 8,(Zd7 y6)),(.tmp 10,(.dat 2 (([x9]:List Qa6).map Qa3)))],[(4,.tok),(7,.unused)],(.acc 7 120 2 ((y6++([x9]):List Qa6).map Qa3)),[(4,.dead),(7,.tok)],false⟩)] ⟨Qb7 (vs:=[(.agg [I x9.Element,I x9.Outlet])]) rfl underlying116 Qry Qxx rfl (by decide) rfl (by decide) (by rfl) (by rfl) (by rfl) rfl,Qhc rfl underlying116 Zup (Base.acc _ _) rfl rfl (by rfl) (Qko Qa3 ha18) (Qkn Qa3 ha18 (by decide)) (Qkm Qa3) rfl rfl,tv⟩<|bln ?_
    exact⟨(y6++([x9])),h,Zf4 (own':=[.dead,.dead,.dead,(.own 1 [[(.acc 4 120 2 (((y6++([x9])):List Qa6).map Qa3))]]),.tok,(.far (farL l11 o13))]) [0,1,2,3,7,5] [.dead,.dead,.dead,(.own 1 [[(.acc 7 120 2 ((y6++([x9]):List Qa6).map Qa3))]]),.tok,(.far (farL l11 o13))] (by kernel_rfl) (by kernel_rfl) ⟨.dead,.dead,.dead,(spb (lc (.rn (Qdb rfl (Qcb Qaz _))) ln)),.tok,.far _,tv⟩⟩
   ·intro y6 h
    rw[Qa9] at h
    exact bln<|thn<|⟨(y6),h,(mto (n:=13) [(2,.ref 3 1 0 0)] [0,1,2,3,4] [.dead,.dead,.dead,(.own 1 [[(Zd7 y6)]]),.tok] hφ0 (prr pn) (qc .dead (qc .dead (qc .dead (qb (lc (.rn (Qdb rfl (Qcb Qaz _))) ln) (qc .tok qn))))))⟩
def Qfb (N:Nat) (p0:(List GRow)) (p1:(List Qad)) (p2:(List (Int×Int))):Option (List Qa6):=
  (Qdf N p0 p1 p2).bind fun x3=>
  some x3
def Zp8:AV:=.fn (.func 110) [] [(.ref 0 2 (0) 0),(.ref 1 1 (0) 0)]
def Zp7 (p0:(List GRow)):AV:=.dat 5 ((p0:List GRow).map Qa7)
def Zp6 (p1:(List Qad)):AV:=.dat 7 ((p1:List Qad).map Qai)
def Zd8 (x3:(List Qa6)):AV:=.dat 2 ((x3:List Qa6).map Qa3)
theorem Qlh (N:Nat) (p0:(List GRow)) (p1:(List Qad)) (p2:(List (Int×Int))) (r:(List Qa6)) (h:Qfb N p0 p1 p2=some r):Spec prog 89 [Zp8] [(.own 2 [[(Zp7 p0),(Zp6 p1)]]),(.own 1 [[(.mp 2)]]),(Qea p2)] (.dat 2 ((r:List Qa6).map Qa3)) [.dead,.dead,.dead]:=by
  refine Qal func89 rfl 3 (nle rfl) (fun X φ0 w0 hφ0 hd0=>?_)
  unfold Qfb at h
  refine Qbv<|wxz ?_
  obtain⟨x3,hf2,h⟩:=bno h
  refine wx tbk [(1,⟨[fu 111,((.const (.slice none 0 0)),nilS),(.tmp 3,Zp8)],[(0,(.own 2 [[(Zp7 p0),(Zp6 p1)]])),(1,(.own 1 [[(.mp 2)]])),(2,(Qea p2))],(Zd8 x3),[(0,.dead),(1,.dead),(2,.dead)],false⟩)] ⟨Qau (first:=[]) (cap:=[]) (vs:=[nilS,Zp8]) (σr:=[(.own 2 [[(Zp7 p0),(Zp6 p1)]]),(.own 1 [[(.mp 2)]]),(Qea p2)]) (σr':=[.dead,.dead,.dead]) (res':=(Zd8 x3)) [0,1,2] rfl Zl1 (Qid N p0 p1 p2 _ hf2) rfl (Qbp (rnc (.plain _ nll) (rnc (Qbj rn0 (rnc (Qa0 rfl) (rnc (Qa0 rfl) rn0))) rn0))) (slc (Qam (rnc (pld Qan) (rnc (pld Qab) rn0))) (slc (Qam (rnc (Zn3 rfl) rn0)) (slc Qps Qat))) (slc .dead (slc .dead (slc .dead Qat))) (pld Qaz) rfl rfl rfl,tv⟩ ?_
  refine wmr (mto (n:=5) (l':=[(2,(Zd8 x3))]) (own':=[.dead,.dead,.dead]) [(2,(Zd8 x3))] [0,1,2] [.dead,.dead,.dead] hφ0 (pc (rnd Qaz) pn) (qc .dead (qc .dead (qc .dead qn))))<|Qah ?_
  obtain rfl:=osi h
  exact⟨_,Mor.rfl,Qdh (vs:=[(Zd8 x3)]) ⟨rot,tv⟩ rfl (NLt.of0 (nld Qaz _)) (by kernel_rfl) (Qar .dead (Qar .dead (Qar .dead Qbx)))⟩
def Qkv (N:Nat) (p0:GNet):Option ((List Qa6)×Int):=
  (Qht N p0).bind fun x2=>
  bif (!x2) then
   some ([],1)
  else
   (Qgv N p0).bind fun x5=>
   (Qfb N p0.Table p0.Elements x5).bind fun x7=>
   some (x7,0)
def Zt1 (p0:GNet):AV:=.dat 7 ((p0.Elements:List Qad).map Qai)
def Zqa (p0:GNet):AV:=.agg [(.dat 5 ((p0.Table:List GRow).map Qa7)),(Zt1 p0)]
def Zjf:AV:=.fn (.func 110) [] [(.ref 1 2 (0) 0),(.ref 2 1 (0) 0)]
def Zjg (p0:GNet):Slot:=.own 2 [[(.dat 5 ((p0.Table:List GRow).map Qa7)),(Zt1 p0)]]
def Zp9 (x7:(List Qa6)):AV:=.dat 2 ((x7:List Qa6).map Qa3)
theorem Qr8 (N:Nat) (p0:GNet) (r:((List Qa6)×Int)) (h:Qkv N p0=some r):Spec prog 47 [(.agg (Qhv p0))] [] (.tup [(.dat 2 (r.1.map Qa3)),(I r.2)]) []:=by
  refine Qal func47 rfl 0 (nle rfl) (fun X φ0 w0 hφ0 hd0=>?_)
  unfold Qkv at h
  refine wxz<|wsq ?_
  obtain⟨x2,hf1,h⟩:=bno h
  refine wx tbk [(1,rp [fu 66,(.tmp 4,(Zqa p0))] (B x2))] ⟨apv Zhk (Qm3 N p0 _ hf1) (nlc (NLt.agg _ (nlc (nld Qan _) (nlc (nld Qab _) nl0))) nl0) nll,tv⟩ ?_
  refine bfe h (fun hc3 h=>?_) fun hc3 h=>?_
  ·refine wft hc3<|wxz<|Qah<|Qac ?_
   obtain rfl:=osi h
   exact fend ⟨[(.dat 2 (([]:List Qa6).map Qa3)),I 1],⟨Qep (v:=nilS) (rot) Less.nil,rot,tv⟩,rfl⟩ (NLt.tup _ (nlc (nld Qaz _) (nlc nll nl0)))
  ·refine wfn hc3<|Qap<|thn ?_
   obtain⟨x5,hf4,h⟩:=bno h
   obtain⟨x7,hf6,h⟩:=bno h
   refine wx tbk [(1,⟨[fu 75,(.tmp 7,(Zqa p0))],[(1,.unused),(2,.unused),(3,.unused)],Zjf,[(1,(Zjg p0)),(2,(.own 1 [[(.mp 3)]])),(3,(Qea x5))],false⟩),(2,⟨[fu 89,(.tmp 8,Zjf)],[(1,(Zjg p0)),(2,(.own 1 [[(.mp 3)]])),(3,(Qea x5))],(Zp9 x7),[(1,.dead),(2,.dead),(3,.dead)],false⟩)] ⟨Qau (first:=[]) (cap:=[]) (vs:=[(Zqa p0)]) (σr:=[]) (σr':=[(Zjg p0),(.own 1 [[(.mp 3)]]),(Qea x5)]) (res':=Zjf) [1,2,3] rfl Zhh (Qmq N p0 _ hf4) rfl (Qbp (rnc (.plain _ (NLt.agg _ (nlc (nld Qan _) (nlc (nld Qab _) nl0)))) rn0)) Qat (slc (Qam (rnc (pld Qan) (rnc (pld Qab) rn0))) (slc (Qam (rnc (Q8m rfl) rn0)) (slc Qps Qat))) (Qbj rn0 (rnc (Qby rfl) (rnc (Qby rfl) rn0))) rfl rfl rfl,Qau (first:=[]) (cap:=[]) (vs:=[Zjf]) (σr:=[(Zjg p0),(.own 1 [[(.mp 3)]]),(Qea x5)]) (σr':=[.dead,.dead,.dead]) (res':=(Zp9 x7)) [1,2,3] rfl Zry (Qlh N p0.Table p0.Elements x5 _ hf6) rfl (Qbp (rnc (Qbj rn0 (rnc (Qa0 rfl) (rnc (Qa0 rfl) rn0))) rn0)) (slc (Qam (rnc (pld Qan) (rnc (pld Qab) rn0))) (slc (Qam (rnc (Zn3 rfl) rn0)) (slc Qps Qat))) (slc .dead (slc .dead (slc .dead Qat))) (pld Qaz) rfl rfl rfl,tv⟩<|Qah ?_
   obtain rfl:=osi h
   exact fend ⟨[(Zp9 x7),I 0],⟨rot,rot,tv⟩,rfl⟩ (NLt.tup _ (nlc (nld Qaz _) (nlc nll nl0)))
end
section
set_option maxRecDepth 100000
set_option maxHeartbeats 4000000
open Go.RowKit
def Qk3 (N:Nat) (p0:Int):Option Bool:=
  (Qc7 N p0 0 1000000000000).bind fun x2=>
  some x2
theorem Qtf (N:Nat) (p0:Int) (r:Bool) (h:Qk3 N p0=some r):Spec prog 109 [(I p0)] [] (B r) []:=by
  refine Qal func109 rfl 0 (nle rfl) (fun X φ0 w0 hφ0 hd0=>?_)
  unfold Qk3 at h
  refine wxz ?_
  obtain⟨x2,hf1,h⟩:=bno h
  exact wx tbk [(1,rp [fu 65,(.tmp 3,I p0),ci 0,ci 1000000000000] (B x2))] ⟨apv Ql1 (Qd2 N p0 0 1000000000000 _ hf1) (nlcc (nlc nll nl0)) nll,tv⟩<|Qah<|frb h
def Qhq (N:Nat) (p0:Int):Option Bool:=
  (Qk3 N p0).bind fun x3=>
  some (!x3)
def Zja:Slot:=.own 1 [[(.fn (.func 109) [] [])]]
theorem Qqc (N:Nat) (p0:Int) (r:Bool) (h:Qhq N p0=some r):Spec prog 128 [(I (p0)),(.ref 0 1 (0) 0)] [Zja] (B (r)) [Zja]:=by
  refine Qal func128 rfl 1 (nle rfl) (fun X φ0 w0 hφ0 hd0=>?_)
  unfold Qhq at h
  refine Qbv<|wxz ?_
  obtain⟨x3,hf2,h⟩:=bno h
  refine wx tbk [(2,rp [(.tmp 4,(.fn (.func 109) [] [])),(.tmp 5,I p0)] (B x3))] ⟨apv Zl2 (Qtf N p0 _ hf2) (nlc nll nl0) nll,tv⟩ ?_
  refine wmr (mto (n:=8) (l':=[(3,(B ((!x3))))]) (own':=[Zja]) [(3,(B ((!x3))))] [0] [Zja] hφ0 (pw pn) (qb (lc (.rn (Qbj rn0 rn0)) ln) qn))<|Qah ?_
  obtain rfl:=osi h
  exact⟨_,Mor.rfl,Qdh (vs:=[(B ((!x3)))]) ⟨rot,tv⟩ rfl (NLt.of0 nll) (by kernel_rfl) (Qar (Qa4 (nlc (NLt.of0 (NLt.fn _ _ _ nl0 nl0)) nl0)) Qbx)⟩
def Qcj (N:Nat) (p0:(List Int)) (k2:Unit→Option Int):Nat→Int→Option Int
  |0,_=>none
  |n5+1,y3=>
    bif (decide (y3<(p0.length:Int))) then
     (getI p0 y3).bind fun x7=>
     (Qhq N x7).bind fun x12=>
     bif x12 then
      some y3
     else
      Qcj N p0 k2 n5 (w64 (y3+1))
    else
     k2 ()
def Qe8 (N:Nat) (p0:(List Int)):Option Int:=
  Qbn (fun _=>
    some (-1)) fun k2:Unit→Option Int=>
  Qcj N p0 k2 N 0
def Q40 (p0:(List Int)):AV:=.dat 1 ((p0:List Int).map Qav)
def Zal:AV:=.fn (.func 128) [] [(.ref 0 1 (0) 0)]
def Qp3:Slot:=.own 1 [[(.fn (.func 109) [] [])]]
theorem Qle (N:Nat) (p0:(List Int)) (r:Int) (h:Qe8 N p0=some r):Spec prog 141 [(Q40 p0),Zal] [Qp3] (I (r)) [Qp3]:=by
  refine Qal func141 rfl 1 (nle rfl) (fun X φ0 w0 hφ0 hd0=>?_)
  unfold Qe8 at h
  refine Qbv<|wxz ?_
  obtain⟨k2,hk_k2,h⟩:=jko h
  refine wjn (τ:=Unit) (fun t=>k2 t=some r) (fun _=>⟨mk 19 [],[Qp3]⟩) (fun t h=>?_) ?_
  ·subst hk_k2
   refine wxz<|wmr (mto (n:=19) (l':=[(4,(I ((-1))))]) (own':=[Qp3]) [(4,(I ((-1))))] [0] [Qp3] hφ0 (pw pn) (qb (lc (.rn (Qbj rn0 rn0)) ln) qn))<|Qah ?_
   obtain rfl:=osi h
   exact⟨_,Mor.rfl,Qdh (vs:=[(I ((-1)))]) ⟨rot,tv⟩ rfl (NLt.of0 nll) (by kernel_rfl) (Qar (Qa4 (nlc (NLt.of0 (NLt.fn _ _ _ nl0 nl0)) nl0)) Qbx)⟩
  ·skip
   refine wx tbk [(1,rp [(.tmp 6,(Q40 p0))] (I ((p0.length:Int))))] ⟨alm (c:=Qav) (l:=p0) (aln rfl underlying27 rfl),tv⟩<|Qao ?_
   refine wmr (mto (n:=19) (l':=[(0,(Q40 p0)),(1,Zal),(7,(I ((p0.length:Int)))),(8,I 0)]) (own':=[Qp3]) [(0,(Q40 p0)),(1,Zal),(7,(I ((p0.length:Int)))),(8,I 0)] [0] [Qp3] hφ0 (pc (rnd Qaj) (pc (.rn (Qbj rn0 (rnc (rqr rfl) rn0))) (pw (pw pn)))) (qb (lc (.rn (Qbj rn0 rn0)) ln) qn)) ?_
   refine Qb3 (τ:=Int) (fun n t=>Qcj N p0 k2 n t=some r) (fun y3=>⟨mk 19 [(0,(Q40 p0)),(1,Zal),(7,(I ((p0.length:Int)))),(8,I y3)],[Qp3]⟩) (fun t h=>by rw[Qcj] at h;cases h) (fun n5 ih y3 h=>?_) N (0) h
   rw[Qcj] at h
   skip
   refine wxz<|wsq ?_
   refine bfe h (fun hc6 h=>?_) fun hc6 h=>?_
   ·refine wft hc6<|Qap<|thn<|wsq<|Qao<|wxz ?_
    obtain⟨x7,hg8,h⟩:=bno h
    obtain⟨hi9,hj10⟩:=gsm hg8
    obtain⟨x12,hf11,h⟩:=bno h
    refine wx tbk [(3,rp [(.tmp 12,(Q40 p0)),(.tmp 13,I y3)] (.dptr (Qav (x7)) 0)),(5,⟨[(.tmp 11,Zal),(.tmp 15,I x7)],[(0,Qp3)],B x12,[(0,Qp3)],false⟩)] ⟨aid rfl underlying27 ti3 rfl rfl hi9 (mgt Qav hj10) rfl,Qau (first:=[]) (cap:=[.ref 0 1 0 0]) (vs:=[I x7]) (σr:=[Qp3]) (σr':=[Qp3]) (res':=(B x12)) [0] rfl Q9h (Qqc N x7 _ hf11) rfl (Qbp (rnc (.plain _ nll) (rnc (Qa0 rfl) rn0))) (slc (Qam (rnc (.plain _ (NLt.fn _ _ _ nl0 nl0)) rn0)) Qat) (slc (Qam (rnc (.plain _ (NLt.fn _ _ _ nl0 nl0)) rn0)) Qat) (.plain _ nll) rfl rfl rfl,tv⟩ ?_
    refine bfe h (fun hc13 h=>?_) fun hc13 h=>?_
    ·refine wft hc13<|wxz ?_
     refine wmr (mto (n:=19) (l':=[(4,I y3)]) (own':=[Qp3]) [(4,I y3)] [0] [Qp3] hφ0 (pw pn) (qb (lc (.rn (Qbj rn0 rn0)) ln) qn))<|Qah<|Qaq<|Qac<|Qac<|Qaq<|Qac ?_
     obtain rfl:=osi h
     exact⟨_,Mor.rfl,Qdh (vs:=[I y3]) ⟨rot,tv⟩ rfl (NLt.of0 nll) (by kernel_rfl) (Qar (Qa4 (nlc (NLt.of0 (NLt.fn _ _ _ nl0 nl0)) nl0)) Qbx)⟩
    ·exact wfn hc13<|Qap<|bln<|thn<|wxz1<|thn<|arm (mto (n:=19) [(0,(Q40 p0)),(1,Zal),(7,(I ((p0.length:Int)))),(8,(I (w64 (y3+1))))] [0] [Qp3] hφ0 (pc (rnd Qaj) (pc (.rn (Qbj rn0 (rnc (rqr rfl) rn0))) (pw (pw pn)))) (qb (lc (.rn (Qbj rn0 rn0)) ln) qn)) (ih (w64 (y3+1)) h)
   ·exact wfn hc6<|Qbl<|Qax<|Qax<|Qbk rfl<|thn<|⟨(),h,(mto (n:=19) [] [0] [Qp3] hφ0 pn (qb (lc (.rn (Qbj rn0 rn0)) ln) qn))⟩
def Qdr (N:Nat) (p0:(List Int)):Option Bool:=
  (Qe8 N p0).bind fun x3=>
  some (decide (x3≥0))
def Zpy (p0:(List Int)):AV:=.dat 1 ((p0:List Int).map Qav)
def Zpx:AV:=.fn (.func 128) [] [(.ref 0 1 (0) 0)]
def Q1r:Slot:=.own 1 [[(.fn (.func 109) [] [])]]
theorem Qj4 (N:Nat) (p0:(List Int)) (r:Bool) (h:Qdr N p0=some r):Spec prog 126 [(Zpy p0),Zpx] [Q1r] (B (r)) [Q1r]:=by
  refine Qal func126 rfl 1 (nle rfl) (fun X φ0 w0 hφ0 hd0=>?_)
  unfold Qdr at h
  refine Qbv<|wxz ?_
  obtain⟨x3,hf2,h⟩:=bno h
  refine wx tbk [(2,⟨[fu 141,(.tmp 5,(Zpy p0)),(.tmp 6,Zpx)],[(0,Q1r)],I x3,[(0,Q1r)],false⟩)] ⟨Qau (first:=[]) (cap:=[]) (vs:=[(Zpy p0),Zpx]) (σr:=[Q1r]) (σr':=[Q1r]) (res':=(I x3)) [0] rfl Qsi (Qle N p0 _ hf2) rfl (Qbp (rnc (pld Qaj) (rnc (Qbj rn0 (rnc (Qa0 rfl) rn0)) rn0))) (slc (Qam (rnc (.plain _ (NLt.fn _ _ _ nl0 nl0)) rn0)) Qat) (slc (Qam (rnc (.plain _ (NLt.fn _ _ _ nl0 nl0)) rn0)) Qat) (.plain _ nll) rfl rfl rfl,tv⟩ ?_
  refine wmr (mto (n:=9) (l':=[(4,(B ((decide (x3≥0)))))]) (own':=[Q1r]) [(4,(B ((decide (x3≥0)))))] [0] [Q1r] hφ0 (pw pn) (qb (lc (.rn (Qbj rn0 rn0)) ln) qn))<|Qah ?_
  obtain rfl:=osi h
  exact⟨_,Mor.rfl,Qdh (vs:=[(B ((decide (x3≥0))))]) ⟨rot,tv⟩ rfl (NLt.of0 nll) (by kernel_rfl) (Qar (Qa4 (nlc (NLt.of0 (NLt.fn _ _ _ nl0 nl0)) nl0)) Qbx)⟩
def Qka (N:Nat) (p0:(List Int)):Option Bool:=
  (Qdr N p0).bind fun x2=>
  some (!x2)
def Zp0 (p0:(List Int)):AV:=.dat 1 ((p0:List Int).map Qav)
def Zpz:AV:=.fn (.func 128) [] [(.ref 0 1 (0) 0)]
def Zjb:Slot:=.own 1 [[(.fn (.func 109) [] [])]]
theorem Qr4 (N:Nat) (p0:(List Int)) (r:Bool) (h:Qka N p0=some r):Spec prog 108 [(Zp0 p0),(.fn (.func 109) [] [])] [] (B (r)) []:=by
  refine Qal func108 rfl 0 (nle rfl) (fun X φ0 w0 hφ0 hd0=>?_)
  unfold Qka at h
  refine wxz ?_
  obtain⟨x2,hf1,h⟩:=bno h
  refine wx tbk [(1,rp [(.tmp 3,.ref 0 1 0 0)] Zpz),(2,⟨[fu 126,(.tmp 5,(Zp0 p0)),(.tmp 6,Zpz)],[(0,Zjb)],B x2,[(0,Zjb)],false⟩)] ⟨Qe2 (fs:=[]) (cs:=[.ref 0 1 0 0]) rfl rfl rfl rfl,Qau (first:=[]) (cap:=[]) (vs:=[(Zp0 p0),Zpz]) (σr:=[Zjb]) (σr':=[Zjb]) (res':=(B x2)) [0] rfl Qsj (Qj4 N p0 _ hf1) rfl (Qbp (rnc (pld Qaj) (rnc (Qbj rn0 (rnc (Qa0 rfl) rn0)) rn0))) (slc (Qam (rnc (.plain _ (NLt.fn _ _ _ nl0 nl0)) rn0)) Qat) (slc (Qam (rnc (.plain _ (NLt.fn _ _ _ nl0 nl0)) rn0)) Qat) (.plain _ nll) rfl rfl rfl,tv⟩<|Qah ?_
  obtain rfl:=osi h
  exact fend ⟨[(B ((!x2)))],⟨rot,tv⟩,rfl⟩ nll
def Qjs (N:Nat) (p0:GNet) (p1:(List Int)):Option Int:=
  (Qht N p0).bind fun x2=>
  bif (!x2) then
   some 1
  else
   bif ((p1.length:Int) != (p0.Elements.length:Int)) then
    some 1
   else
    (Qka N p1).bind fun x6=>
    bif (!x6) then
     some 1
    else
     some 0
def Zvl (p0:GNet):AV:=.dat 5 ((p0.Table:List GRow).map Qa7)
def Zty (p0:GNet):AV:=.dat 7 ((p0.Elements:List Qad).map Qai)
def Zp2 (p0:GNet) (x2:Bool):List (Nat×Rec):=[(1,rp [fu 66,((.tmp 5),(.agg [(Zvl p0),(Zty p0)]))] (B (x2)))]
def Zp3 (p1:(List Int)):AV:=.dat 1 ((p1:List Int).map Qav)
def Zp1 (p0) (x2) (p1:(List Int)):=hcat (Zp2 p0 x2) [(3,rp [((.tmp 7),(B ((!x2))))] (B (false))),(5,rp [((.tmp 8),(B (false))),((.tmp 9),(Zp3 p1))] (I ((p1.length:Int)))),(8,rp [((.tmp 8),(B (false))),((.tmp 12),(Zty p0))] (I ((p0.Elements.length:Int))))]
theorem Qpg (N:Nat) (p0:GNet) (p1:(List Int)) (r:Int) (h:Qjs N p0 p1=some r):Spec prog 73 [(.agg (Qhv p0)),(.dat 1 (p1.map Qav))] [] (I r) []:=by
  refine Qal func73 rfl 0 (nle rfl) (fun X φ0 w0 hφ0 hd0=>?_)
  unfold Qjs at h
  refine wxz<|wsq ?_
  obtain⟨x2,hf1,h⟩:=bno h
  refine hpre (A:=(Zp2 p0 x2)) ⟨apv Zhk (Qm3 N p0 _ hf1) (nlc (NLt.agg _ (nlc (nld Qan _) (nlc (nld Qab _) nl0))) nl0) nll,tv⟩ fun q1_=>?_
  refine bfe h (fun hb3 h=>?_) fun hb3 h=>?_
  ·refine wx tbk (hcat (Zp2 p0 x2) [(3,rp [(.tmp 7,(B ((!x2))))] (B true))]) (hap q1_ ⟨asb hb3 (amv rfl),tv⟩)<|wtr<|wxz<|Qah<|Qac ?_
   obtain rfl:=osi h
   exact fend ⟨[I 1],⟨rot,tv⟩,rfl⟩ nll
  ·refine hpre (A:=(Zp1 p0 x2 p1)) (hap q1_ ⟨asb hb3 (amv rfl),ag_ (alm (c:=Qav) (l:=p1) (aln rfl underlying27 rfl)),ag_ (alm (c:=Qai) (l:=p0.Elements) (aln rfl underlying40 rfl)),tv⟩) fun q2_=>?_
   refine bfe h (fun hb4 h=>?_) fun hb4 h=>?_
   ·refine wx tbk (hcat (Zp1 p0 x2 p1) [(11,rp [(.tmp 15,(B (((p1.length:Int) != (p0.Elements.length:Int)))))] (B true))]) (hap q2_ ⟨asb hb4 (amv rfl),tv⟩)<|wtr<|wxz<|Qah<|Qac ?_
    obtain rfl:=osi h
    exact fend ⟨[I 1],⟨rot,tv⟩,rfl⟩ nll
   ·obtain⟨x6,hf5,h⟩:=bno h
    refine wx tbk (hcat (Zp1 p0 x2 p1) [(11,rp [(.tmp 15,(B (((p1.length:Int) != (p0.Elements.length:Int)))))] (B false)),(13,rp [(.tmp 16,B false),fu 108,(.tmp 17,(Zp3 p1)),fu 109] (B x6))]) (hap q2_ ⟨asb hb4 (amv rfl),ag_ (Qau (first:=[]) (cap:=[]) (vs:=[(Zp3 p1),(.fn (.func 109) [] [])]) (σr:=[]) (σr':=[]) (res':=(B x6)) [] rfl Q9k (Qr4 N p1 _ hf5) rfl (Qbp (rnc (pld Qaj) (rnc (.plain _ (NLt.fn _ _ _ nl0 nl0)) rn0))) Qat Qat (.plain _ nll) rfl rfl rfl),tv⟩) ?_
    refine bfe h (fun hc7 h=>?_) fun hc7 h=>?_
    ·refine wft hc7<|wxz<|Qah<|Qac ?_
     obtain rfl:=osi h
     exact fend ⟨[I 1],⟨rot,tv⟩,rfl⟩ nll
    ·refine wfn hc7<|Qap<|thn<|wxz<|Qah ?_
     obtain rfl:=osi h
     exact fend ⟨[I 0],⟨rot,tv⟩,rfl⟩ nll
def Qek (N:Nat) (p0:GNet) (p1:Int) (k2:(List Int)→Option (List Int)):Nat→(List Int)→Int→Option (List Int)
  |0,_,_=>none
  |n7+1,y3,y4=>
    bif (decide (y4<(p0.Elements.length:Int))) then
     (getI p0.Elements y4).bind fun x9=>
     bif (x9.Kind==p1) then
      chk (decide ((y3.length+([y4]).length)*8≤140737488355328))<|
      Qek N p0 p1 k2 n7 (y3++([y4])) (w64 (y4+1))
     else
      Qek N p0 p1 k2 n7 y3 (w64 (y4+1))
    else
     k2 (y3)
def Qjt (N:Nat) (p0:GNet) (p1:Int):Option (List Int):=
  Qbn (fun y1=>
    some y1) fun k2:(List Int)→Option (List Int)=>
  Qek N p0 p1 k2 N ([]) 0
def Q4z (p0:GNet):AV:=.dat 7 ((p0.Elements:List Qad).map Qai)
def Q7z (y3:(List Int)):AV:=.acc 0 3 1 ((y3:List Int).map Qav)
theorem Qmo (N:Nat) (p0:GNet) (p1:Int) (r:(List Int)) (h:Qjt N p0 p1=some r):Spec prog 67 [(.agg (Qhv p0)),(K .u8 p1)] [] (.dat 1 (r.map Qav)) []:=by
  refine Qal func67 rfl 0 (nle rfl) (fun X φ0 w0 hφ0 hd0=>?_)
  unfold Qjt at h
  refine wxz ?_
  obtain⟨k2,hk_k2,h⟩:=jko h
  refine wjn (τ:=(List Int)) (fun t=>k2 t=some r) (fun y1=>⟨mk 25 [(4,(.acc 0 3 1 ((y1:List Int).map Qav)))],[.tok]⟩) (fun y1 h=>?_) ?_
  ·subst hk_k2
   refine wxz<|Qah ?_
   obtain rfl:=osi h
   exact fend ⟨[(.dat 1 ((y1:List Int).map Qav))],⟨Qep (v:=(.acc 0 3 1 ((y1:List Int).map Qav))) (rot) Less.acc,tv⟩,rfl⟩ (nld Qaj _)
  ·skip
   refine wx tbk [(2,rp [(.tmp 8,(Q4z p0))] (I ((p0.Elements.length:Int))))] ⟨alm (c:=Qai) (l:=p0.Elements) (aln rfl underlying40 rfl),tv⟩<|Qao ?_
   refine wmr (Mor.trans (Qq8 1 3 1 4 (by kernel_rfl) (by kernel_rfl)) (mto (n:=25) (l':=[(1,(K .u8 (p1))),(4,(.acc 0 3 1 ((([]):List Int).map Qav))),(8,(Q4z p0)),(9,(I ((p0.Elements.length:Int)))),(10,I 0)]) (own':=[.tok]) [(1,(K .u8 (p1))),(4,(.acc 1 3 1 (([]:List Int).map Qav))),(8,(Q4z p0)),(9,(I ((p0.Elements.length:Int)))),(10,I 0)] [1] [.tok] hφ0 (pw (pc (.rn (Qdb rfl (Qcb Qaj _))) (pc (rnd Qab) (pw (pw pn))))) (qc .tok qn))) ?_
   refine Qb3 (τ:=(List Int)×Int) (fun n t=>Qek N p0 p1 k2 n t.1 t.2=some r) (fun ⟨y3,y4⟩=>⟨mk 25 [(1,(K .u8 (p1))),(4,(Q7z y3)),(8,(Q4z p0)),(9,(I ((p0.Elements.length:Int)))),(10,I y4)],[.tok]⟩) (fun t h=>by rw[Qek] at h;cases h) (fun n7 ih t h=>?_) N ([],0) h
   obtain⟨y3,y4⟩:=t
   rw[Qek] at h
   skip
   refine wxz<|wsq ?_
   refine bfe h (fun hc8 h=>?_) fun hc8 h=>?_
   ·refine wft hc8<|Qap<|thn<|wsq<|Qao ?_
    obtain⟨x9,hg10,h⟩:=bno h
    obtain⟨hi11,hj12⟩:=gsm hg10
    refine wx tbk [(1,rp [(.tmp 8,(Q4z p0)),(.tmp 10,I y4)] (.dptr (Qai (x9)) 0))] ⟨aid rfl underlying40 Qmi rfl rfl hi11 (mgt Qai hj12) rfl,tv⟩<|wxz ?_
    refine bfe h (fun hc13 h=>?_) fun hc13 h=>?_
    ·refine wft hc13 ?_
     obtain⟨ha14,h⟩:=cko h
     refine wx1 tbk [(2,rp [(.tmp 20,I y4)] (.dat 1 (([y4]:List Int).map Qav))),(3,⟨[(.tmp 19,(Q7z y3)),(.tmp 21,(.dat 1 (([y4]:List Int).map Qav)))],[(0,.tok),(2,.unused)],(.acc 2 3 1 ((y3++([y4]):List Int).map Qav)),[(0,.dead),(2,.tok)],false⟩)] ⟨Qb7 (vs:=[I y4]) rfl underlying27 ti3 tz3 rfl (by decide) rfl (by decide) (by rfl) (by rfl) (by rfl) rfl,Qhc rfl underlying27 te3 (Base.acc _ _) rfl rfl (by rfl) (Qko Qav ha14) (Qkn Qav ha14 (by decide)) (Qkm Qav) rfl rfl,tv⟩<|bln<|thn<|wxz1<|thn ?_
     exact arm (mto (n:=25) [(1,(K .u8 (p1))),(4,(.acc 2 3 1 ((y3++([y4]):List Int).map Qav))),(8,(Q4z p0)),(9,(I ((p0.Elements.length:Int)))),(10,(I (w64 (y4+1))))] [2] [.tok] hφ0 (pw (pc (.rn (Qdb rfl (Qcb Qaj _))) (pc (rnd Qab) (pw (pw pn))))) (qc .tok qn)) (ih (y3++([y4]),w64 (y4+1)) h)
    ·exact wfn hc13<|Qap<|bln<|thn<|wxz1<|thn<|arm (mto (n:=25) [(1,(K .u8 (p1))),(4,(Q7z y3)),(8,(Q4z p0)),(9,(I ((p0.Elements.length:Int)))),(10,(I (w64 (y4+1))))] [0] [.tok] hφ0 (pw (pc (.rn (Qdb rfl (Qcb Qaj _))) (pc (rnd Qab) (pw (pw pn))))) (qc .tok qn)) (ih (y3,w64 (y4+1)) h)
   ·exact wfn hc8<|Qbl<|Qax<|Qax<|Qbk rfl<|thn<|⟨(y3),h,(mto (n:=25) [(4,(Q7z y3))] [0] [.tok] hφ0 (pc (.rn (Qdb rfl (Qcb Qaj _))) pn) (qc .tok qn))⟩
def Qex (N:Nat) (p0:Qaa):Option Bool:=
  (Qdv N p0.Mass 0 1000000).bind fun x2=>
  bif x2 then
   (Qdv N p0.Heat 0 (w64 (4000*p0.Mass))).bind fun x5=>
   bif x5 then
    (Qdv N p0.Silica 0 (w64 (10000*p0.Mass))).bind fun x8=>
    bif x8 then
     (Qdv N p0.Gas 0 1000000000).bind fun x11=>
     some x11
    else
     some false
   else
    some false
  else
   some false
def Zps (p0:Qaa) (x2:Bool):List (Nat×Rec):=[(2,rp [fu 137,((.tmp 4),(I (p0.Mass))),ci 0,ci 1000000] (B (x2)))]
def Zpr (p0) (x2) (x5:Bool):=hcat (Zps p0 x2) [(3,rp [((.tmp 5),(B (x2)))] (B (true))),(9,rp [((.tmp 6),(B (true))),fu 137,((.tmp 8),(I (p0.Heat))),ci 0,((.tmp 11),(I (w64 (4000*p0.Mass))))] (B (x5)))]
def Zpq (p0) (x2) (x5) (x8:Bool):=hcat (Zpr p0 x2 x5) [(11,rp [((.tmp 13),(B (x5)))] (B (true))),(17,rp [((.tmp 14),(B (true))),fu 137,((.tmp 16),(I (p0.Silica))),ci 0,((.tmp 19),(I (w64 (10000*p0.Mass))))] (B (x8)))]
theorem Qim (N:Nat) (p0:Qaa) (r:Bool) (h:Qex N p0=some r):Spec prog 131 [(.agg (Qae p0))] [] (B r) []:=by
  refine Qal func131 rfl 0 (nle rfl) (fun X φ0 w0 hφ0 hd0=>?_)
  unfold Qex at h
  refine wxz ?_
  obtain⟨x2,hf1,h⟩:=bno h
  refine hpre (A:=(Zps p0 x2)) ⟨apv Qkl (Qd1 N p0.Mass 0 1000000 _ hf1) (nlcc (nlc nll nl0)) nll,tv⟩ fun q1_=>?_
  refine bfe h (fun hb3 h=>?_) fun hb3 h=>?_
  ·obtain⟨x5,hf4,h⟩:=bno h
   refine hpre (A:=(Zpr p0 x2 x5)) (hap q1_ ⟨asb hb3 (amv rfl),ag_ (apv Qkl (Qd1 N p0.Heat 0 (w64 (4000*p0.Mass)) _ hf4) (nlcc (nlc nll nl0)) nll),tv⟩) fun q2_=>?_
   refine bfe h (fun hb6 h=>?_) fun hb6 h=>?_
   ·obtain⟨x8,hf7,h⟩:=bno h
    refine hpre (A:=(Zpq p0 x2 x5 x8)) (hap q2_ ⟨asb hb6 (amv rfl),ag_ (apv Qkl (Qd1 N p0.Silica 0 (w64 (10000*p0.Mass)) _ hf7) (nlcc (nlc nll nl0)) nll),tv⟩) fun q3_=>?_
    refine bfe h (fun hb9 h=>?_) fun hb9 h=>?_
    ·obtain⟨x11,hf10,h⟩:=bno h
     exact wx tbk (hcat (Zpq p0 x2 x5 x8) [(19,rp [(.tmp 21,B x8)] (B true)),(22,rp [(.tmp 22,B true),fu 137,(.tmp 24,I p0.Gas),ci 0,ci 1000000000] (B x11))]) (hap q3_ ⟨asb hb9 (amv rfl),ag_ (apv Qkl (Qd1 N p0.Gas 0 1000000000 _ hf10) (nlcc (nlc nll nl0)) nll),tv⟩)<|Qah<|frb h
    ·exact wx tbk (hcat (Zpq p0 x2 x5 x8) [(19,rp [(.tmp 21,B x8)] (B false))]) (hap q3_ ⟨asb hb9 (amv rfl),tv⟩)<|Qah<|frb h
   ·exact wx tbk (hcat (Zpr p0 x2 x5) [(11,rp [(.tmp 13,B x5)] (B false))]) (hap q2_ ⟨asb hb6 (amv rfl),tv⟩)<|Qah<|frb h
  ·exact wx tbk (hcat (Zps p0 x2) [(3,rp [(.tmp 5,B x2)] (B false))]) (hap q1_ ⟨asb hb3 (amv rfl),tv⟩)<|Qah<|frb h
def Qgz (N:Nat) (p0:Qaa):Option Int:=
  (Qex N p0).bind fun x2=>
  bif (!x2) then
   some 1
  else
   some 0
def Zvh (p0:Qaa):AV:=.agg [(I (p0.Mass)),(I (p0.Heat)),(I (p0.Silica)),(I (p0.Gas))]
theorem Qpa (N:Nat) (p0:Qaa) (r:Int) (h:Qgz N p0=some r):Spec prog 114 [(.agg (Qae p0))] [] (I r) []:=by
  refine Qal func114 rfl 0 (nle rfl) (fun X φ0 w0 hφ0 hd0=>?_)
  unfold Qgz at h
  refine wxz<|wsq ?_
  obtain⟨x2,hf1,h⟩:=bno h
  refine wx tbk [(1,rp [fu 131,(.tmp 3,(Zvh p0))] (B x2))] ⟨apv Q01 (Qim N p0 _ hf1) (nlc (NLt.agg _ (nlcc (nlcc nl0))) nl0) nll,tv⟩ ?_
  refine bfe h (fun hc3 h=>?_) fun hc3 h=>?_
  ·refine wft hc3<|wxz<|Qah<|Qac ?_
   obtain rfl:=osi h
   exact fend ⟨[I 1],⟨rot,tv⟩,rfl⟩ nll
  ·refine wfn hc3<|Qap<|thn<|wxz<|Qah ?_
   obtain rfl:=osi h
   exact fend ⟨[I 0],⟨rot,tv⟩,rfl⟩ nll
def Qkb (N:Nat) (p0:Qaa):Option Bool:=
  (Qgz N p0).bind fun x2=>
  some (x2==0)
def Zvi (p0:Qaa):AV:=.agg [(I (p0.Mass)),(I (p0.Heat)),(I (p0.Silica)),(I (p0.Gas))]
theorem Qr6 (N:Nat) (p0:Qaa) (r:Bool) (h:Qkb N p0=some r):Spec prog 113 [(.agg (Qae p0))] [] (B r) []:=by
  refine Qal func113 rfl 0 (nle rfl) (fun X φ0 w0 hφ0 hd0=>?_)
  unfold Qkb at h
  refine wxz ?_
  obtain⟨x2,hf1,h⟩:=bno h
  refine wx tbk [(1,rp [fu 114,(.tmp 3,(Zvi p0))] (I x2))] ⟨apv Zly (Qpa N p0 _ hf1) (nlc (NLt.agg _ (nlcc (nlcc nl0))) nl0) nll,tv⟩<|Qah ?_
  obtain rfl:=osi h
  exact fend ⟨[(B ((x2==0)))],⟨rot,tv⟩,rfl⟩ nll
def Qed (N:Nat) (p0:Qaa):Option Bool:=
  (Qkb N p0).bind fun x3=>
  some (!x3)
def Ztw (p0:Qaa):AV:=.agg [(I (p0.Mass)),(I (p0.Heat)),(I (p0.Silica)),(I (p0.Gas))]
def Zi8:Slot:=.own 1 [[(.fn (.func 113) [] [])]]
theorem Qlz (N:Nat) (p0:Qaa) (r:Bool) (h:Qed N p0=some r):Spec prog 130 [(Ztw p0),(.ref 0 1 (0) 0)] [Zi8] (B (r)) [Zi8]:=by
  refine Qal func130 rfl 1 (nle rfl) (fun X φ0 w0 hφ0 hd0=>?_)
  unfold Qed at h
  refine Qbv<|wxz ?_
  obtain⟨x3,hf2,h⟩:=bno h
  refine wx tbk [(2,rp [(.tmp 4,(.fn (.func 113) [] [])),(.tmp 5,(Ztw p0))] (B x3))] ⟨apv Zlz (Qr6 N p0 _ hf2) (nlc (NLt.agg _ (nlcc (nlcc nl0))) nl0) nll,tv⟩ ?_
  refine wmr (mto (n:=8) (l':=[(3,(B ((!x3))))]) (own':=[Zi8]) [(3,(B ((!x3))))] [0] [Zi8] hφ0 (pw pn) (qb (lc (.rn (Qbj rn0 rn0)) ln) qn))<|Qah ?_
  obtain rfl:=osi h
  exact⟨_,Mor.rfl,Qdh (vs:=[(B ((!x3)))]) ⟨rot,tv⟩ rfl (NLt.of0 nll) (by kernel_rfl) (Qar (Qa4 (nlc (NLt.of0 (NLt.fn _ _ _ nl0 nl0)) nl0)) Qbx)⟩
def Qbg (N:Nat) (p0:(List Qaa)) (k2:Unit→Option Int):Nat→Int→Option Int
  |0,_=>none
  |n5+1,y3=>
    bif (decide (y3<(p0.length:Int))) then
     (getI p0 y3).bind fun x7=>
     (Qed N x7).bind fun x12=>
     bif x12 then
      some y3
     else
      Qbg N p0 k2 n5 (w64 (y3+1))
    else
     k2 ()
def Qcf (N:Nat) (p0:(List Qaa)):Option Int:=
  Qbn (fun _=>
    some (-1)) fun k2:Unit→Option Int=>
  Qbg N p0 k2 N 0
def Q4y (p0:(List Qaa)):AV:=.dat 4 ((p0:List Qaa).map Qae)
def Zaj:AV:=.fn (.func 130) [] [(.ref 0 1 (0) 0)]
def Qp2:Slot:=.own 1 [[(.fn (.func 113) [] [])]]
def Ztx (x7:Qaa):AV:=.agg [(I (x7.Mass)),(I (x7.Heat)),(I (x7.Silica)),(I (x7.Gas))]
theorem Qg0 (N:Nat) (p0:(List Qaa)) (r:Int) (h:Qcf N p0=some r):Spec prog 142 [(Q4y p0),Zaj] [Qp2] (I (r)) [Qp2]:=by
  refine Qal func142 rfl 1 (nle rfl) (fun X φ0 w0 hφ0 hd0=>?_)
  unfold Qcf at h
  refine Qbv<|wxz ?_
  obtain⟨k2,hk_k2,h⟩:=jko h
  refine wjn (τ:=Unit) (fun t=>k2 t=some r) (fun _=>⟨mk 19 [],[Qp2]⟩) (fun t h=>?_) ?_
  ·subst hk_k2
   refine wxz<|wmr (mto (n:=19) (l':=[(4,(I ((-1))))]) (own':=[Qp2]) [(4,(I ((-1))))] [0] [Qp2] hφ0 (pw pn) (qb (lc (.rn (Qbj rn0 rn0)) ln) qn))<|Qah ?_
   obtain rfl:=osi h
   exact⟨_,Mor.rfl,Qdh (vs:=[(I ((-1)))]) ⟨rot,tv⟩ rfl (NLt.of0 nll) (by kernel_rfl) (Qar (Qa4 (nlc (NLt.of0 (NLt.fn _ _ _ nl0 nl0)) nl0)) Qbx)⟩
  ·skip
   refine wx tbk [(1,rp [(.tmp 6,(Q4y p0))] (I ((p0.length:Int))))] ⟨alm (c:=Qae) (l:=p0) (aln rfl underlying45 rfl),tv⟩<|Qao ?_
   refine wmr (mto (n:=19) (l':=[(0,(Q4y p0)),(1,Zaj),(7,(I ((p0.length:Int)))),(8,I 0)]) (own':=[Qp2]) [(0,(Q4y p0)),(1,Zaj),(7,(I ((p0.length:Int)))),(8,I 0)] [0] [Qp2] hφ0 (pc (rnd Qak) (pc (.rn (Qbj rn0 (rnc (rqr rfl) rn0))) (pw (pw pn)))) (qb (lc (.rn (Qbj rn0 rn0)) ln) qn)) ?_
   refine Qb3 (τ:=Int) (fun n t=>Qbg N p0 k2 n t=some r) (fun y3=>⟨mk 19 [(0,(Q4y p0)),(1,Zaj),(7,(I ((p0.length:Int)))),(8,I y3)],[Qp2]⟩) (fun t h=>by rw[Qbg] at h;cases h) (fun n5 ih y3 h=>?_) N (0) h
   rw[Qbg] at h
   skip
   refine wxz<|wsq ?_
   refine bfe h (fun hc6 h=>?_) fun hc6 h=>?_
   ·refine wft hc6<|Qap<|thn<|wsq<|Qao<|wxz ?_
    obtain⟨x7,hg8,h⟩:=bno h
    obtain⟨hi9,hj10⟩:=gsm hg8
    obtain⟨x12,hf11,h⟩:=bno h
    refine wx tbk [(3,rp [(.tmp 12,(Q4y p0)),(.tmp 13,I y3)] (.dptr (Qae (x7)) 0)),(5,⟨[(.tmp 11,Zaj),(.tmp 15,(Ztx x7))],[(0,Qp2)],B x12,[(0,Qp2)],false⟩)] ⟨aid rfl underlying45 ti63 rfl rfl hi9 (mgt Qae hj10) rfl,Qau (first:=[]) (cap:=[.ref 0 1 0 0]) (vs:=[(Ztx x7)]) (σr:=[Qp2]) (σr':=[Qp2]) (res':=(B x12)) [0] rfl Zlm (Qlz N x7 _ hf11) rfl (Qbp (rnc (.plain _ (NLt.agg _ (nlcc (nlcc nl0)))) (rnc (Qa0 rfl) rn0))) (slc (Qam (rnc (.plain _ (NLt.fn _ _ _ nl0 nl0)) rn0)) Qat) (slc (Qam (rnc (.plain _ (NLt.fn _ _ _ nl0 nl0)) rn0)) Qat) (.plain _ nll) rfl rfl rfl,tv⟩ ?_
    refine bfe h (fun hc13 h=>?_) fun hc13 h=>?_
    ·refine wft hc13<|wxz ?_
     refine wmr (mto (n:=19) (l':=[(4,I y3)]) (own':=[Qp2]) [(4,I y3)] [0] [Qp2] hφ0 (pw pn) (qb (lc (.rn (Qbj rn0 rn0)) ln) qn))<|Qah<|Qaq<|Qac<|Qac<|Qaq<|Qac ?_
     obtain rfl:=osi h
     exact⟨_,Mor.rfl,Qdh (vs:=[I y3]) ⟨rot,tv⟩ rfl (NLt.of0 nll) (by kernel_rfl) (Qar (Qa4 (nlc (NLt.of0 (NLt.fn _ _ _ nl0 nl0)) nl0)) Qbx)⟩
    ·exact wfn hc13<|Qap<|bln<|thn<|wxz1<|thn<|arm (mto (n:=19) [(0,(Q4y p0)),(1,Zaj),(7,(I ((p0.length:Int)))),(8,(I (w64 (y3+1))))] [0] [Qp2] hφ0 (pc (rnd Qak) (pc (.rn (Qbj rn0 (rnc (rqr rfl) rn0))) (pw (pw pn)))) (qb (lc (.rn (Qbj rn0 rn0)) ln) qn)) (ih (w64 (y3+1)) h)
   ·exact wfn hc6<|Qbl<|Qax<|Qax<|Qbk rfl<|thn<|⟨(),h,(mto (n:=19) [] [0] [Qp2] hφ0 pn (qb (lc (.rn (Qbj rn0 rn0)) ln) qn))⟩
def Qbz (N:Nat) (p0:(List Qaa)):Option Bool:=
  (Qcf N p0).bind fun x3=>
  some (decide (x3≥0))
def Zpu (p0:(List Qaa)):AV:=.dat 4 ((p0:List Qaa).map Qae)
def Zpt:AV:=.fn (.func 130) [] [(.ref 0 1 (0) 0)]
def Q1q:Slot:=.own 1 [[(.fn (.func 113) [] [])]]
theorem Qgh (N:Nat) (p0:(List Qaa)) (r:Bool) (h:Qbz N p0=some r):Spec prog 129 [(Zpu p0),Zpt] [Q1q] (B (r)) [Q1q]:=by
  refine Qal func129 rfl 1 (nle rfl) (fun X φ0 w0 hφ0 hd0=>?_)
  unfold Qbz at h
  refine Qbv<|wxz ?_
  obtain⟨x3,hf2,h⟩:=bno h
  refine wx tbk [(2,⟨[fu 142,(.tmp 5,(Zpu p0)),(.tmp 6,Zpt)],[(0,Q1q)],I x3,[(0,Q1q)],false⟩)] ⟨Qau (first:=[]) (cap:=[]) (vs:=[(Zpu p0),Zpt]) (σr:=[Q1q]) (σr':=[Q1q]) (res':=(I x3)) [0] rfl Zlf (Qg0 N p0 _ hf2) rfl (Qbp (rnc (pld Qak) (rnc (Qbj rn0 (rnc (Qa0 rfl) rn0)) rn0))) (slc (Qam (rnc (.plain _ (NLt.fn _ _ _ nl0 nl0)) rn0)) Qat) (slc (Qam (rnc (.plain _ (NLt.fn _ _ _ nl0 nl0)) rn0)) Qat) (.plain _ nll) rfl rfl rfl,tv⟩ ?_
  refine wmr (mto (n:=9) (l':=[(4,(B ((decide (x3≥0)))))]) (own':=[Q1q]) [(4,(B ((decide (x3≥0)))))] [0] [Q1q] hφ0 (pw pn) (qb (lc (.rn (Qbj rn0 rn0)) ln) qn))<|Qah ?_
  obtain rfl:=osi h
  exact⟨_,Mor.rfl,Qdh (vs:=[(B ((decide (x3≥0))))]) ⟨rot,tv⟩ rfl (NLt.of0 nll) (by kernel_rfl) (Qar (Qa4 (nlc (NLt.of0 (NLt.fn _ _ _ nl0 nl0)) nl0)) Qbx)⟩
def Qf0 (N:Nat) (p0:(List Qaa)):Option Bool:=
  (Qbz N p0).bind fun x2=>
  some (!x2)
def Zpw (p0:(List Qaa)):AV:=.dat 4 ((p0:List Qaa).map Qae)
def Zpv:AV:=.fn (.func 130) [] [(.ref 0 1 (0) 0)]
def Zi9:Slot:=.own 1 [[(.fn (.func 113) [] [])]]
theorem Qmm (N:Nat) (p0:(List Qaa)) (r:Bool) (h:Qf0 N p0=some r):Spec prog 112 [(Zpw p0),(.fn (.func 113) [] [])] [] (B (r)) []:=by
  refine Qal func112 rfl 0 (nle rfl) (fun X φ0 w0 hφ0 hd0=>?_)
  unfold Qf0 at h
  refine wxz ?_
  obtain⟨x2,hf1,h⟩:=bno h
  refine wx tbk [(1,rp [(.tmp 3,.ref 0 1 0 0)] Zpv),(2,⟨[fu 129,(.tmp 5,(Zpw p0)),(.tmp 6,Zpv)],[(0,Zi9)],B x2,[(0,Zi9)],false⟩)] ⟨Qe2 (fs:=[]) (cs:=[.ref 0 1 0 0]) rfl rfl rfl rfl,Qau (first:=[]) (cap:=[]) (vs:=[(Zpw p0),Zpv]) (σr:=[Zi9]) (σr':=[Zi9]) (res':=(B x2)) [0] rfl Zln (Qgh N p0 _ hf1) rfl (Qbp (rnc (pld Qak) (rnc (Qbj rn0 (rnc (Qa0 rfl) rn0)) rn0))) (slc (Qam (rnc (.plain _ (NLt.fn _ _ _ nl0 nl0)) rn0)) Qat) (slc (Qam (rnc (.plain _ (NLt.fn _ _ _ nl0 nl0)) rn0)) Qat) (.plain _ nll) rfl rfl rfl,tv⟩<|Qah ?_
  obtain rfl:=osi h
  exact fend ⟨[(B ((!x2)))],⟨rot,tv⟩,rfl⟩ nll
def Qfo (N:Nat) (p0:(List Qaa)) (k5:Int×Int×Int×Int→Option Qaa):Nat→Int→Int→Int→Int→Int→Option Qaa
  |0,_,_,_,_,_=>none
  |n16+1,y6,y7,y8,y9,y10=>
    bif (decide (y6<(p0.length:Int))) then
     (getI p0 y6).bind fun x18=>
     Qfo N p0 k5 n16 (w64 (y6+1)) (w64 (y7+x18.Mass)) (w64 (y8+x18.Heat)) (w64 (y9+x18.Silica)) (w64 (y10+x18.Gas))
    else
     k5 (y7,y8,y9,y10)
def Qgk (N:Nat) (p0:(List Qaa)):Option Qaa:=
  Qbn (fun ⟨y1,y2,y3,y4⟩=>
    some (⟨y1,y2,y3,y4⟩:Qaa)) fun k5:Int×Int×Int×Int→Option Qaa=>
  Qfo N p0 k5 N 0 0 0 0 0
def Zai (p0:(List Qaa)):AV:=.dat 4 ((p0:List Qaa).map Qae)
def Ztv:Slot:=.own 4 [[(I (0)),(I (0)),(I (0)),(I (0))]]
theorem Qnb (N:Nat) (p0:(List Qaa)) (r:Qaa) (h:Qgk N p0=some r):Spec prog 76 [(.dat 4 (p0.map Qae))] [] (.agg (Qae r)) []:=by
  refine Qal func76 rfl 0 (nle rfl) (fun X φ0 w0 hφ0 hd0=>?_)
  unfold Qgk at h
  refine wxz ?_
  obtain⟨k5,hk_k5,h⟩:=jko h
  refine wjn (τ:=Int×Int×Int×Int) (fun t=>k5 t=some r) (fun ⟨y1,y2,y3,y4⟩=>⟨mk 34 [(2,.ref 0 4 0 0)],[(.own 4 [[I y1,I y2,I y3,I y4]])]⟩) (fun t h=>?_) ?_
  ·subst hk_k5
   obtain⟨y1,y2,y3,y4⟩:=t
   refine wxz<|Qah ?_
   obtain rfl:=osi h
   exact fend ⟨[(.agg [I y1,I y2,I y3,I y4])],⟨Qb2 (n:=0) (m:=4) (j:=0) (i:=0) (xs:=[[I y1,I y2,I y3,I y4]]) (by kernel_rfl) (by kernel_rfl) ti63 (by decide) rfl (nle rfl) rfl,tv⟩,rfl⟩ (NLt.agg _ (nlcc (nlcc nl0)))
  ·skip
   refine wx tbk [(1,rp [(.tmp 5,(Zai p0))] (I ((p0.length:Int))))] ⟨alm (c:=Qae) (l:=p0) (aln rfl underlying45 rfl),tv⟩<|Qao ?_
   refine wmr (mto (n:=34) (l':=[(2,.ref 0 4 0 0),(5,(Zai p0)),(6,(I ((p0.length:Int)))),(7,I 0)]) (own':=[Ztv]) [(2,.ref 0 4 0 0),(5,(Zai p0)),(6,(I ((p0.length:Int)))),(7,I 0)] [0] [Ztv] hφ0 (prr (pc (rnd Qak) (pw (pw pn)))) (qb (lcc (lcc ln)) qn)) ?_
   refine Qb3 (τ:=Int×Int×Int×Int×Int) (fun n t=>Qfo N p0 k5 n t.1 t.2.1 t.2.2.1 t.2.2.2.1 t.2.2.2.2=some r) (fun ⟨y6,y7,y8,y9,y10⟩=>⟨mk 34 [(2,.ref 0 4 0 0),(5,(Zai p0)),(6,(I ((p0.length:Int)))),(7,I y6)],[(.own 4 [[I y7,I y8,I y9,I y10]])]⟩) (fun t h=>by rw[Qfo] at h;cases h) (fun n16 ih t h=>?_) N (0,0,0,0,0) h
   obtain⟨y6,y7,y8,y9,y10⟩:=t
   rw[Qfo] at h
   skip
   refine wxz<|wsq ?_
   refine bfe h (fun hc17 h=>?_) fun hc17 h=>?_
   ·refine wft hc17<|Qap<|thn<|wsq<|Qao ?_
    obtain⟨x18,hg19,h⟩:=bno h
    obtain⟨hi20,hj21⟩:=gsm hg19
    refine wx tbk [(0,rp [(.tmp 5,(Zai p0)),(.tmp 7,I y6)] (.dptr (Qae (x18)) 0))] ⟨aid rfl underlying45 ti63 rfl rfl hi20 (mgt Qae hj21) rfl,tv⟩ ?_
    refine wx1 tbk [(20,rp [(.tmp 15,(I (w64 (y7+x18.Mass)))),(.tmp 20,(I (w64 (y8+x18.Heat)))),(.tmp 25,(I (w64 (y9+x18.Silica)))),(.tmp 30,(I (w64 (y10+x18.Gas))))] (.agg [(I (w64 (y7+x18.Mass))),(I (w64 (y8+x18.Heat))),(I (w64 (y9+x18.Silica))),(I (w64 (y10+x18.Gas)))]))] ⟨Qa8 (vs:=[(I (w64 (y7+x18.Mass))),(I (w64 (y8+x18.Heat))),(I (w64 (y9+x18.Silica))),(I (w64 (y10+x18.Gas)))]) rfl ts63 tz63 rfl (by rfl) rfl,tv⟩<|bln<|thn<|wxz1<|thn ?_
    exact arm (mto (n:=34) [(2,.ref 0 4 0 0),(5,(Zai p0)),(6,(I ((p0.length:Int)))),(7,(I (w64 (y6+1))))] [0] [(.own 4 [[(I (w64 (y7+x18.Mass))),(I (w64 (y8+x18.Heat))),(I (w64 (y9+x18.Silica))),(I (w64 (y10+x18.Gas)))]])] hφ0 (prr (pc (rnd Qak) (pw (pw pn)))) (qb (lcc (lcc ln)) qn)) (ih (w64 (y6+1),w64 (y7+x18.Mass),w64 (y8+x18.Heat),w64 (y9+x18.Silica),w64 (y10+x18.Gas)) h)
   ·exact wfn hc17<|Qbl<|Qax<|Qax<|Qbk rfl<|thn<|⟨(y7,y8,y9,y10),h,(mto (n:=34) [(2,.ref 0 4 0 0)] [0] [(.own 4 [[I y7,I y8,I y9,I y10]])] hφ0 (prr pn) (qb (lcc (lcc ln)) qn))⟩
def Qi4 (N:Nat) (p0:GNet) (p1:(List Qaa)):Option Int:=
  Qbn (fun _=>
    (Qgk N p1).bind fun x3=>
    bif (decide (x3.Mass>1000000)) then
     some 3
    else
     bif (decide (x3.Gas>1000000000)) then
      some 3
     else
      some 0) fun k1:Unit→Option Int=>
  (Qjt N p0 1).bind fun x7=>
  bif ((p1.length:Int) != (x7.length:Int)) then
   some 1
  else
   (Qf0 N p1).bind fun x10=>
   bif (!x10) then
    some 1
   else
    k1 ()
def Zak (p1:(List Qaa)):AV:=.dat 4 ((p1:List Qaa).map Qae)
def Zvk (p0:GNet):AV:=.dat 5 ((p0.Table:List GRow).map Qa7)
def Zvj (p0:GNet):AV:=.dat 7 ((p0.Elements:List Qad).map Qai)
def Zd6 (p1:(List Qaa)) (p0:GNet) (x7:(List Int)):List (Nat×Rec):=[(1,rp [((.tmp 6),(Zak p1))] (I ((p1.length:Int)))),(3,rp [fu 67,((.tmp 8),(.agg [(Zvk p0),(Zvj p0)])),((.const (.int .u8 1)),(K .u8 (1)))] (.dat 1 ((x7:List Int).map Qav))),(4,rp [((.tmp 9),(.dat 1 ((x7:List Int).map Qav)))] (I ((x7.length:Int))))]
theorem Qor (N:Nat) (p0:GNet) (p1:(List Qaa)) (r:Int) (h:Qi4 N p0 p1=some r):Spec prog 94 [(.agg (Qhv p0)),(.dat 4 (p1.map Qae))] [] (I r) []:=by
  refine Qal func94 rfl 0 (nle rfl) (fun X φ0 w0 hφ0 hd0=>?_)
  unfold Qi4 at h
  refine wxz ?_
  obtain⟨k1,hk_k1,h⟩:=jko h
  refine wjn (τ:=Unit) (fun t=>k1 t=some r) (fun _=>⟨mk 27 [(1,(Zak p1))],[]⟩) (fun t h=>?_) ?_
  ·subst hk_k1
   refine wsq ?_
   obtain⟨x3,hf2,h⟩:=bno h
   refine wx tbk [(1,rp [fu 76,(.tmp 17,(Zak p1))] (.agg [I x3.Mass,I x3.Heat,I x3.Silica,I x3.Gas]))] ⟨apv Q6b (Qnb N p1 _ hf2) (nlc (nld Qak _) nl0) (NLt.agg _ (nlcc (nlcc nl0))),tv⟩ ?_
   refine bfe h (fun hb4 h=>?_) fun hb4 h=>?_
   ·refine wx tbk [(3,rp [(.tmp 21,(B ((decide (x3.Mass>1000000)))))] (B true))] ⟨asb hb4 (amv rfl),tv⟩<|wtr<|wxz<|Qah<|Qac ?_
    obtain rfl:=osi h
    exact fend ⟨[I 3],⟨rot,tv⟩,rfl⟩ nll
   ·refine wx tbk [(3,rp [(.tmp 21,(B ((decide (x3.Mass>1000000)))))] (B false))] ⟨asb hb4 (amv rfl),tv⟩ ?_
    refine bfe h (fun hc5 h=>?_) fun hc5 h=>?_
    ·refine wft hc5<|wxz<|Qah<|Qac ?_
     obtain rfl:=osi h
     exact fend ⟨[I 3],⟨rot,tv⟩,rfl⟩ nll
    ·refine wfn hc5<|Qap<|thn<|wxz<|Qah ?_
     obtain rfl:=osi h
     exact fend ⟨[I 0],⟨rot,tv⟩,rfl⟩ nll
  ·skip
   obtain⟨x7,hf6,h⟩:=bno h
   refine hpre (A:=(Zd6 p1 p0 x7)) ⟨alm (c:=Qae) (l:=p1) (aln rfl underlying45 rfl),apv Q6c (Qmo N p0 1 _ hf6) (nlc (NLt.agg _ (nlc (nld Qan _) (nlc (nld Qab _) nl0))) (nlc nll nl0)) (nld Qaj _),alm (c:=Qav) (l:=x7) (aln rfl underlying27 rfl),tv⟩ fun q1_=>?_
   refine bfe h (fun hb8 h=>?_) fun hb8 h=>?_
   ·refine wx tbk (hcat (Zd6 p1 p0 x7) [(6,rp [(.tmp 11,(B (((p1.length:Int) != (x7.length:Int)))))] (B true))]) (hap q1_ ⟨asb hb8 (amv rfl),tv⟩)<|wtr<|wxz<|Qah<|Qac ?_
    obtain rfl:=osi h
    exact fend ⟨[I 1],⟨rot,tv⟩,rfl⟩ nll
   ·obtain⟨x10,hf9,h⟩:=bno h
    refine wx tbk (hcat (Zd6 p1 p0 x7) [(6,rp [(.tmp 11,(B (((p1.length:Int) != (x7.length:Int)))))] (B false)),(8,rp [(.tmp 12,B false),fu 112,(.tmp 13,(Zak p1)),fu 113] (B x10))]) (hap q1_ ⟨asb hb8 (amv rfl),ag_ (Qau (first:=[]) (cap:=[]) (vs:=[(Zak p1),(.fn (.func 113) [] [])]) (σr:=[]) (σr':=[]) (res':=(B x10)) [] rfl Zl0 (Qmm N p1 _ hf9) rfl (Qbp (rnc (pld Qak) (rnc (.plain _ (NLt.fn _ _ _ nl0 nl0)) rn0))) Qat Qat (.plain _ nll) rfl rfl rfl),tv⟩) ?_
    refine bfe h (fun hc11 h=>?_) fun hc11 h=>?_
    ·refine wft hc11<|wxz<|Qah<|Qac ?_
     obtain rfl:=osi h
     exact fend ⟨[I 1],⟨rot,tv⟩,rfl⟩ nll
    ·exact wfn hc11<|Qap<|thn<|⟨(),h,(mto (n:=27) [(1,(Zak p1))] [] [] hφ0 (pc (rnd Qak) pn) qn)⟩
def Qkt (N:Nat) (p0:GNet) (p1:(List Int)) (p2:(List Qaa)):Option Int:=
  (Qjs N p0 p1).bind fun x2=>
  bif (x2 != 0) then
   some x2
  else
   (Qi4 N p0 p2).bind fun x5=>
   some x5
def Zvm (p0:GNet):AV:=.dat 7 ((p0.Elements:List Qad).map Qai)
def Ztz (p0:GNet):AV:=.agg [(.dat 5 ((p0.Table:List GRow).map Qa7)),(Zvm p0)]
theorem Qqk (N:Nat) (p0:GNet) (p1:(List Int)) (p2:(List Qaa)) (r:Int) (h:Qkt N p0 p1 p2=some r):Spec prog 57 [(.agg (Qhv p0)),(.dat 1 (p1.map Qav)),(.dat 4 (p2.map Qae))] [] (I r) []:=by
  refine Qal func57 rfl 0 (nle rfl) (fun X φ0 w0 hφ0 hd0=>?_)
  unfold Qkt at h
  refine wxz<|wsq ?_
  obtain⟨x2,hf1,h⟩:=bno h
  refine wx tbk [(2,rp [fu 73,(.tmp 8,(Ztz p0)),(.tmp 9,(.dat 1 ((p1:List Int).map Qav)))] (I x2))] ⟨apv Zhj (Qpg N p0 p1 _ hf1) (nlc (NLt.agg _ (nlc (nld Qan _) (nlc (nld Qab _) nl0))) (nlc (nld Qaj _) nl0)) nll,tv⟩<|wxz ?_
  refine bfe h (fun hc3 h=>?_) fun hc3 h=>?_
  ·refine wft hc3<|wxz<|Qah<|Qac ?_
   obtain rfl:=osi h
   exact fend ⟨[I x2],⟨rot,tv⟩,rfl⟩ nll
  ·refine wfn hc3<|Qap<|thn ?_
   obtain⟨x5,hf4,h⟩:=bno h
   refine wx tbk [(2,rp [fu 94,(.tmp 14,(Ztz p0)),(.tmp 15,(.dat 4 ((p2:List Qaa).map Qae)))] (I x5))] ⟨apv Zhe (Qor N p0 p2 _ hf4) (nlc (NLt.agg _ (nlc (nld Qan _) (nlc (nld Qab _) nl0))) (nlc (nld Qak _) nl0)) nll,tv⟩<|Qah ?_
   obtain rfl:=osi h
   exact fend ⟨[I x5],⟨rot,tv⟩,rfl⟩ nll
def Qk2 (N:Nat) (p0:Int):Option Bool:=
  (Qdv N p0 0 1000).bind fun x2=>
  some x2
theorem Qs8 (N:Nat) (p0:Int) (r:Bool) (h:Qk2 N p0=some r):Spec prog 150 [(I p0)] [] (B r) []:=by
  refine Qal func150 rfl 0 (nle rfl) (fun X φ0 w0 hφ0 hd0=>?_)
  unfold Qk2 at h
  refine wxz ?_
  obtain⟨x2,hf1,h⟩:=bno h
  exact wx tbk [(1,rp [fu 137,(.tmp 3,I p0),ci 0,ci 1000] (B x2))] ⟨apv Qkl (Qd1 N p0 0 1000 _ hf1) (nlcc (nlc nll nl0)) nll,tv⟩<|Qah<|frb h
def Qgy (N:Nat) (p0:Int):Option Bool:=
  (Qk2 N p0).bind fun x3=>
  some (!x3)
def Zi6:Slot:=.own 1 [[(.fn (.func 150) [] [])]]
theorem Qo9 (N:Nat) (p0:Int) (r:Bool) (h:Qgy N p0=some r):Spec prog 157 [(I (p0)),(.ref 0 1 (0) 0)] [Zi6] (B (r)) [Zi6]:=by
  refine Qal func157 rfl 1 (nle rfl) (fun X φ0 w0 hφ0 hd0=>?_)
  unfold Qgy at h
  refine Qbv<|wxz ?_
  obtain⟨x3,hf2,h⟩:=bno h
  refine wx tbk [(2,rp [(.tmp 4,(.fn (.func 150) [] [])),(.tmp 5,I p0)] (B x3))] ⟨apv Zk7 (Qs8 N p0 _ hf2) (nlc nll nl0) nll,tv⟩ ?_
  refine wmr (mto (n:=8) (l':=[(3,(B ((!x3))))]) (own':=[Zi6]) [(3,(B ((!x3))))] [0] [Zi6] hφ0 (pw pn) (qb (lc (.rn (Qbj rn0 rn0)) ln) qn))<|Qah ?_
  obtain rfl:=osi h
  exact⟨_,Mor.rfl,Qdh (vs:=[(B ((!x3)))]) ⟨rot,tv⟩ rfl (NLt.of0 nll) (by kernel_rfl) (Qar (Qa4 (nlc (NLt.of0 (NLt.fn _ _ _ nl0 nl0)) nl0)) Qbx)⟩
def Qci (N:Nat) (p0:(List Int)) (k2:Unit→Option Int):Nat→Int→Option Int
  |0,_=>none
  |n5+1,y3=>
    bif (decide (y3<(p0.length:Int))) then
     (getI p0 y3).bind fun x7=>
     (Qgy N x7).bind fun x12=>
     bif x12 then
      some y3
     else
      Qci N p0 k2 n5 (w64 (y3+1))
    else
     k2 ()
def Qe7 (N:Nat) (p0:(List Int)):Option Int:=
  Qbn (fun _=>
    some (-1)) fun k2:Unit→Option Int=>
  Qci N p0 k2 N 0
def Q4x (p0:(List Int)):AV:=.dat 1 ((p0:List Int).map Qav)
def Zah:AV:=.fn (.func 157) [] [(.ref 0 1 (0) 0)]
def Qp1:Slot:=.own 1 [[(.fn (.func 150) [] [])]]
theorem Qld (N:Nat) (p0:(List Int)) (r:Int) (h:Qe7 N p0=some r):Spec prog 141 [(Q4x p0),Zah] [Qp1] (I (r)) [Qp1]:=by
  refine Qal func141 rfl 1 (nle rfl) (fun X φ0 w0 hφ0 hd0=>?_)
  unfold Qe7 at h
  refine Qbv<|wxz ?_
  obtain⟨k2,hk_k2,h⟩:=jko h
  refine wjn (τ:=Unit) (fun t=>k2 t=some r) (fun _=>⟨mk 19 [],[Qp1]⟩) (fun t h=>?_) ?_
  ·subst hk_k2
   refine wxz<|wmr (mto (n:=19) (l':=[(4,(I ((-1))))]) (own':=[Qp1]) [(4,(I ((-1))))] [0] [Qp1] hφ0 (pw pn) (qb (lc (.rn (Qbj rn0 rn0)) ln) qn))<|Qah ?_
   obtain rfl:=osi h
   exact⟨_,Mor.rfl,Qdh (vs:=[(I ((-1)))]) ⟨rot,tv⟩ rfl (NLt.of0 nll) (by kernel_rfl) (Qar (Qa4 (nlc (NLt.of0 (NLt.fn _ _ _ nl0 nl0)) nl0)) Qbx)⟩
  ·skip
   refine wx tbk [(1,rp [(.tmp 6,(Q4x p0))] (I ((p0.length:Int))))] ⟨alm (c:=Qav) (l:=p0) (aln rfl underlying27 rfl),tv⟩<|Qao ?_
   refine wmr (mto (n:=19) (l':=[(0,(Q4x p0)),(1,Zah),(7,(I ((p0.length:Int)))),(8,I 0)]) (own':=[Qp1]) [(0,(Q4x p0)),(1,Zah),(7,(I ((p0.length:Int)))),(8,I 0)] [0] [Qp1] hφ0 (pc (rnd Qaj) (pc (.rn (Qbj rn0 (rnc (rqr rfl) rn0))) (pw (pw pn)))) (qb (lc (.rn (Qbj rn0 rn0)) ln) qn)) ?_
   refine Qb3 (τ:=Int) (fun n t=>Qci N p0 k2 n t=some r) (fun y3=>⟨mk 19 [(0,(Q4x p0)),(1,Zah),(7,(I ((p0.length:Int)))),(8,I y3)],[Qp1]⟩) (fun t h=>by rw[Qci] at h;cases h) (fun n5 ih y3 h=>?_) N (0) h
   rw[Qci] at h
   skip
   refine wxz<|wsq ?_
   refine bfe h (fun hc6 h=>?_) fun hc6 h=>?_
   ·refine wft hc6<|Qap<|thn<|wsq<|Qao<|wxz ?_
    obtain⟨x7,hg8,h⟩:=bno h
    obtain⟨hi9,hj10⟩:=gsm hg8
    obtain⟨x12,hf11,h⟩:=bno h
    refine wx tbk [(3,rp [(.tmp 12,(Q4x p0)),(.tmp 13,I y3)] (.dptr (Qav (x7)) 0)),(5,⟨[(.tmp 11,Zah),(.tmp 15,I x7)],[(0,Qp1)],B x12,[(0,Qp1)],false⟩)] ⟨aid rfl underlying27 ti3 rfl rfl hi9 (mgt Qav hj10) rfl,Qau (first:=[]) (cap:=[.ref 0 1 0 0]) (vs:=[I x7]) (σr:=[Qp1]) (σr':=[Qp1]) (res':=(B x12)) [0] rfl Zk1 (Qo9 N x7 _ hf11) rfl (Qbp (rnc (.plain _ nll) (rnc (Qa0 rfl) rn0))) (slc (Qam (rnc (.plain _ (NLt.fn _ _ _ nl0 nl0)) rn0)) Qat) (slc (Qam (rnc (.plain _ (NLt.fn _ _ _ nl0 nl0)) rn0)) Qat) (.plain _ nll) rfl rfl rfl,tv⟩ ?_
    refine bfe h (fun hc13 h=>?_) fun hc13 h=>?_
    ·refine wft hc13<|wxz ?_
     refine wmr (mto (n:=19) (l':=[(4,I y3)]) (own':=[Qp1]) [(4,I y3)] [0] [Qp1] hφ0 (pw pn) (qb (lc (.rn (Qbj rn0 rn0)) ln) qn))<|Qah<|Qaq<|Qac<|Qac<|Qaq<|Qac ?_
     obtain rfl:=osi h
     exact⟨_,Mor.rfl,Qdh (vs:=[I y3]) ⟨rot,tv⟩ rfl (NLt.of0 nll) (by kernel_rfl) (Qar (Qa4 (nlc (NLt.of0 (NLt.fn _ _ _ nl0 nl0)) nl0)) Qbx)⟩
    ·exact wfn hc13<|Qap<|bln<|thn<|wxz1<|thn<|arm (mto (n:=19) [(0,(Q4x p0)),(1,Zah),(7,(I ((p0.length:Int)))),(8,(I (w64 (y3+1))))] [0] [Qp1] hφ0 (pc (rnd Qaj) (pc (.rn (Qbj rn0 (rnc (rqr rfl) rn0))) (pw (pw pn)))) (qb (lc (.rn (Qbj rn0 rn0)) ln) qn)) (ih (w64 (y3+1)) h)
   ·exact wfn hc6<|Qbl<|Qax<|Qax<|Qbk rfl<|thn<|⟨(),h,(mto (n:=19) [] [0] [Qp1] hφ0 pn (qb (lc (.rn (Qbj rn0 rn0)) ln) qn))⟩
def Qdq (N:Nat) (p0:(List Int)):Option Bool:=
  (Qe7 N p0).bind fun x3=>
  some (decide (x3≥0))
def Zpn (p0:(List Int)):AV:=.dat 1 ((p0:List Int).map Qav)
def Zpm:AV:=.fn (.func 157) [] [(.ref 0 1 (0) 0)]
def Q1m:Slot:=.own 1 [[(.fn (.func 150) [] [])]]
theorem Qj3 (N:Nat) (p0:(List Int)) (r:Bool) (h:Qdq N p0=some r):Spec prog 126 [(Zpn p0),Zpm] [Q1m] (B (r)) [Q1m]:=by
  refine Qal func126 rfl 1 (nle rfl) (fun X φ0 w0 hφ0 hd0=>?_)
  unfold Qdq at h
  refine Qbv<|wxz ?_
  obtain⟨x3,hf2,h⟩:=bno h
  refine wx tbk [(2,⟨[fu 141,(.tmp 5,(Zpn p0)),(.tmp 6,Zpm)],[(0,Q1m)],I x3,[(0,Q1m)],false⟩)] ⟨Qau (first:=[]) (cap:=[]) (vs:=[(Zpn p0),Zpm]) (σr:=[Q1m]) (σr':=[Q1m]) (res':=(I x3)) [0] rfl Qsi (Qld N p0 _ hf2) rfl (Qbp (rnc (pld Qaj) (rnc (Qbj rn0 (rnc (Qa0 rfl) rn0)) rn0))) (slc (Qam (rnc (.plain _ (NLt.fn _ _ _ nl0 nl0)) rn0)) Qat) (slc (Qam (rnc (.plain _ (NLt.fn _ _ _ nl0 nl0)) rn0)) Qat) (.plain _ nll) rfl rfl rfl,tv⟩ ?_
  refine wmr (mto (n:=9) (l':=[(4,(B ((decide (x3≥0)))))]) (own':=[Q1m]) [(4,(B ((decide (x3≥0)))))] [0] [Q1m] hφ0 (pw pn) (qb (lc (.rn (Qbj rn0 rn0)) ln) qn))<|Qah ?_
  obtain rfl:=osi h
  exact⟨_,Mor.rfl,Qdh (vs:=[(B ((decide (x3≥0))))]) ⟨rot,tv⟩ rfl (NLt.of0 nll) (by kernel_rfl) (Qar (Qa4 (nlc (NLt.of0 (NLt.fn _ _ _ nl0 nl0)) nl0)) Qbx)⟩
def Qia (N:Nat) (p0:(List Int)):Option Bool:=
  (Qdq N p0).bind fun x2=>
  some (!x2)
def Zpp (p0:(List Int)):AV:=.dat 1 ((p0:List Int).map Qav)
def Zpo:AV:=.fn (.func 157) [] [(.ref 0 1 (0) 0)]
def Zi7:Slot:=.own 1 [[(.fn (.func 150) [] [])]]
theorem Qqw (N:Nat) (p0:(List Int)) (r:Bool) (h:Qia N p0=some r):Spec prog 151 [(Zpp p0),(.fn (.func 150) [] [])] [] (B (r)) []:=by
  refine Qal func151 rfl 0 (nle rfl) (fun X φ0 w0 hφ0 hd0=>?_)
  unfold Qia at h
  refine wxz ?_
  obtain⟨x2,hf1,h⟩:=bno h
  refine wx tbk [(1,rp [(.tmp 3,.ref 0 1 0 0)] Zpo),(2,⟨[fu 126,(.tmp 5,(Zpp p0)),(.tmp 6,Zpo)],[(0,Zi7)],B x2,[(0,Zi7)],false⟩)] ⟨Qe2 (fs:=[]) (cs:=[.ref 0 1 0 0]) rfl rfl rfl rfl,Qau (first:=[]) (cap:=[]) (vs:=[(Zpp p0),Zpo]) (σr:=[Zi7]) (σr':=[Zi7]) (res':=(B x2)) [0] rfl Qsj (Qj3 N p0 _ hf1) rfl (Qbp (rnc (pld Qaj) (rnc (Qbj rn0 (rnc (Qa0 rfl) rn0)) rn0))) (slc (Qam (rnc (.plain _ (NLt.fn _ _ _ nl0 nl0)) rn0)) Qat) (slc (Qam (rnc (.plain _ (NLt.fn _ _ _ nl0 nl0)) rn0)) Qat) (.plain _ nll) rfl rfl rfl,tv⟩<|Qah ?_
  obtain rfl:=osi h
  exact fend ⟨[(B ((!x2)))],⟨rot,tv⟩,rfl⟩ nll
def Qk1 (_N:Nat) (p0:Int):Option Bool:=
  some (decide (p0>0))
theorem Qs7 (N:Nat) (p0:Int) (r:Bool) (h:Qk1 N p0=some r):Spec prog 152 [(I p0)] [] (B r) []:=by
  refine Qal func152 rfl 0 (nle rfl) (fun X φ0 w0 hφ0 hd0=>?_)
  unfold Qk1 at h
  refine wxz<|wxz<|Qah ?_
  obtain rfl:=osi h
  exact fend ⟨[(B ((decide (p0>0))))],⟨rot,tv⟩,rfl⟩ nll
def Qch (N:Nat) (p0:(List Int)) (k1:Unit→Option Int):Nat→Int→Option Int
  |0,_=>none
  |n4+1,y2=>
    bif (decide (y2<(p0.length:Int))) then
     (getI p0 y2).bind fun x6=>
     (Qk1 N x6).bind fun x11=>
     bif x11 then
      some y2
     else
      Qch N p0 k1 n4 (w64 (y2+1))
    else
     k1 ()
def Qe6 (N:Nat) (p0:(List Int)):Option Int:=
  Qbn (fun _=>
    some (-1)) fun k1:Unit→Option Int=>
  Qch N p0 k1 N 0
def Q4w (p0:(List Int)):AV:=.dat 1 ((p0:List Int).map Qav)
theorem Qlc (N:Nat) (p0:(List Int)) (r:Int) (h:Qe6 N p0=some r):Spec prog 141 [(Q4w p0),(.fn (.func 152) [] [])] [] (I (r)) []:=by
  refine Qal func141 rfl 0 (nle rfl) (fun X φ0 w0 hφ0 hd0=>?_)
  unfold Qe6 at h
  refine wxz ?_
  obtain⟨k1,hk_k1,h⟩:=jko h
  refine wjn (τ:=Unit) (fun t=>k1 t=some r) (fun _=>⟨mk 19 [],[]⟩) (fun t h=>?_) ?_
  ·subst hk_k1
   refine wxz<|Qah ?_
   obtain rfl:=osi h
   exact fend ⟨[(I ((-1)))],⟨rot,tv⟩,rfl⟩ nll
  ·skip
   refine wx tbk [(1,rp [(.tmp 6,(Q4w p0))] (I ((p0.length:Int))))] ⟨alm (c:=Qav) (l:=p0) (aln rfl underlying27 rfl),tv⟩<|Qao ?_
   refine wmr (mto (n:=19) (l':=[(0,(Q4w p0)),(1,(.fn (.func 152) [] [])),(7,(I ((p0.length:Int)))),(8,I 0)]) (own':=[]) [(0,(Q4w p0)),(1,(.fn (.func 152) [] [])),(7,(I ((p0.length:Int)))),(8,I 0)] [] [] hφ0 (pc (rnd Qaj) (pc (.rn (Qbj rn0 rn0)) (pw (pw pn)))) qn) ?_
   refine Qb3 (τ:=Int) (fun n t=>Qch N p0 k1 n t=some r) (fun y2=>⟨mk 19 [(0,(Q4w p0)),(1,(.fn (.func 152) [] [])),(7,(I ((p0.length:Int)))),(8,I y2)],[]⟩) (fun t h=>by rw[Qch] at h;cases h) (fun n4 ih y2 h=>?_) N (0) h
   rw[Qch] at h
   skip
   refine wxz<|wsq ?_
   refine bfe h (fun hc5 h=>?_) fun hc5 h=>?_
   ·refine wft hc5<|Qap<|thn<|wsq<|Qao<|wxz ?_
    obtain⟨x6,hg7,h⟩:=bno h
    obtain⟨hi8,hj9⟩:=gsm hg7
    obtain⟨x11,hf10,h⟩:=bno h
    refine wx tbk [(3,rp [(.tmp 12,(Q4w p0)),(.tmp 13,I y2)] (.dptr (Qav (x6)) 0)),(5,rp [(.tmp 11,(.fn (.func 152) [] [])),(.tmp 15,I x6)] (B x11))] ⟨aid rfl underlying27 ti3 rfl rfl hi8 (mgt Qav hj9) rfl,apv Zk5 (Qs7 N x6 _ hf10) (nlc nll nl0) nll,tv⟩ ?_
    refine bfe h (fun hc12 h=>?_) fun hc12 h=>?_
    ·refine wft hc12<|wxz<|Qah<|Qaq<|Qac<|Qac<|Qaq<|Qac ?_
     obtain rfl:=osi h
     exact fend ⟨[I y2],⟨rot,tv⟩,rfl⟩ nll
    ·exact wfn hc12<|Qap<|bln<|thn<|wxz1<|thn<|arm (mto (n:=19) [(0,(Q4w p0)),(1,(.fn (.func 152) [] [])),(7,(I ((p0.length:Int)))),(8,(I (w64 (y2+1))))] [] [] hφ0 (pc (rnd Qaj) (pc (.rn (Qbj rn0 rn0)) (pw (pw pn)))) qn) (ih (w64 (y2+1)) h)
   ·exact wfn hc5<|Qbl<|Qax<|Qax<|Qbk rfl<|thn<|⟨(),h,(mto (n:=19) [] [] [] hφ0 pn qn)⟩
def Qc5 (N:Nat) (p0:(List Int)):Option Bool:=
  (Qe6 N p0).bind fun x2=>
  some (decide (x2≥0))
def Zpl (p0:(List Int)):AV:=.dat 1 ((p0:List Int).map Qav)
theorem Qj2 (N:Nat) (p0:(List Int)) (r:Bool) (h:Qc5 N p0=some r):Spec prog 126 [(Zpl p0),(.fn (.func 152) [] [])] [] (B (r)) []:=by
  refine Qal func126 rfl 0 (nle rfl) (fun X φ0 w0 hφ0 hd0=>?_)
  unfold Qc5 at h
  refine wxz ?_
  obtain⟨x2,hf1,h⟩:=bno h
  refine wx tbk [(2,rp [fu 141,(.tmp 5,(Zpl p0)),(.tmp 6,(.fn (.func 152) [] []))] (I x2))] ⟨Qau (first:=[]) (cap:=[]) (vs:=[(Zpl p0),(.fn (.func 152) [] [])]) (σr:=[]) (σr':=[]) (res':=(I x2)) [] rfl Qsi (Qlc N p0 _ hf1) rfl (Qbp (rnc (pld Qaj) (rnc (.plain _ (NLt.fn _ _ _ nl0 nl0)) rn0))) Qat Qat (.plain _ nll) rfl rfl rfl,tv⟩<|Qah ?_
  obtain rfl:=osi h
  exact fend ⟨[(B ((decide (x2≥0))))],⟨rot,tv⟩,rfl⟩ nll
def Qge (_N:Nat) (p0:Int) (p1:Int) (p2:Int):Option Int:=
  chk (p2 != 0)<|
  some ((w64 (p1*p0)).tmod p2)
theorem Ql4 (N:Nat) (p0:Int) (p1:Int) (p2:Int) (r:Int) (h:Qge N p0 p1 p2=some r):Spec prog 159 [(I (p0)),(.ref 0 1 (0) 0),(.ref 1 1 (0) 0)] [(.own 1 [[(I (p1))]]),(.own 1 [[(I (p2))]])] (I (r)) [(.own 1 [[(I (p1))]]),(.own 1 [[(I (p2))]])]:=by
  refine Qal func159 rfl 2 (nle rfl) (fun X φ0 w0 hφ0 hd0=>?_)
  unfold Qge at h
  refine Qbv<|wxz ?_
  obtain⟨hz2,h⟩:=cko h
  refine wx tbk [(4,rp [(.tmp 7,(I (w64 (p1*p0)))),(.tmp 8,I p2)] (I ((w64 (p1*p0)).tmod p2)))] ⟨Zia rfl (Qxg hz2),tv⟩ ?_
  refine wmr (mto (n:=10) (l':=[(4,(I ((w64 (p1*p0)).tmod p2)))]) (own':=[(.own 1 [[I p1]]),(.own 1 [[I p2]])]) [(4,(I ((w64 (p1*p0)).tmod p2)))] [0,1] [(.own 1 [[I p1]]),(.own 1 [[I p2]])] hφ0 (pw pn) (qb (lc rwl ln) (qb (lc rwl ln) qn)))<|Qah ?_
  obtain rfl:=osi h
  exact⟨_,Mor.rfl,Qdh (vs:=[(I ((w64 (p1*p0)).tmod p2))]) ⟨rot,tv⟩ rfl (NLt.of0 nll) (by kernel_rfl) (Qar (Qa4 (nlc (NLt.of0 nll) nl0)) (Qar (Qa4 (nlc (NLt.of0 nll) nl0)) Qbx))⟩
def Qft (N:Nat) (p0:Int) (p1:Int) (p2:(List Int)) (p3:Int) (p4:Int):Option Int:=
  (getI p2 p1).bind fun x2=>
  (Qge N x2 p3 p4).bind fun x7=>
  (getI p2 p0).bind fun x8=>
  (Qge N x8 p3 p4).bind fun x13=>
  some (w64 (x7-x13))
def Zag:AV:=.fn (.func 159) [] [(.ref 2 1 (0) 0),(.ref 3 1 (0) 0)]
def Zaf (p2:(List Int)):AV:=.dat 1 ((p2:List Int).map Qav)
theorem Qno (N:Nat) (p0:Int) (p1:Int) (p2:(List Int)) (p3:Int) (p4:Int) (r:Int) (h:Qft N p0 p1 p2 p3 p4=some r):Spec prog 163 [(I (p0)),(I (p1)),(.ref 0 1 (0) 0),(.ref 1 1 (0) 0)] [(.own 1 [[Zag]]),(.own 1 [[(Zaf p2)]]),(.own 1 [[(I (p3))]]),(.own 1 [[(I (p4))]])] (I (r)) [(.own 1 [[Zag]]),(.own 1 [[(Zaf p2)]]),(.own 1 [[(I (p3))]]),(.own 1 [[(I (p4))]])]:=by
  refine Qal func163 rfl 4 (nle rfl) (fun X φ0 w0 hφ0 hd0=>?_)
  unfold Qft at h
  refine Qbv<|wxz ?_
  obtain⟨x2,hg3,h⟩:=bno h
  obtain⟨hi4,hj5⟩:=gsm hg3
  obtain⟨x7,hf6,h⟩:=bno h
  obtain⟨x8,hg9,h⟩:=bno h
  obtain⟨hi10,hj11⟩:=gsm hg9
  obtain⟨x13,hf12,h⟩:=bno h
  refine wxd tbk [(3,rp [(.tmp 8,(Zaf p2)),(.tmp 9,I p1)] (.dptr (Qav (x2)) 0)),(5,⟨[(.tmp 7,Zag),(.tmp 11,I x2)],[(2,.own 1 [[I p3]]),(3,.own 1 [[I p4]])],I x7,[(2,.own 1 [[I p3]]),(3,.own 1 [[I p4]])],false⟩),(9,rp [(.tmp 14,(Zaf p2)),(.tmp 15,I p0)] (.dptr (Qav (x8)) 0)),(11,⟨[(.tmp 13,Zag),(.tmp 17,I x8)],[(2,.own 1 [[I p3]]),(3,.own 1 [[I p4]])],I x13,[(2,.own 1 [[I p3]]),(3,.own 1 [[I p4]])],false⟩)] ⟨aid rfl underlying27 ti3 rfl rfl hi4 (mgt Qav hj5) rfl,Qau (first:=[]) (cap:=[.ref 2 1 0 0,.ref 3 1 0 0]) (vs:=[I x2]) (σr:=[(.own 1 [[I p3]]),(.own 1 [[I p4]])]) (σr':=[(.own 1 [[I p3]]),(.own 1 [[I p4]])]) (res':=(I x7)) [2,3] rfl Q9e (Ql4 N x2 p3 p4 _ hf6) rfl (Qbp (rnc (.plain _ nll) (rnc (Qa0 rfl) (rnc (Qa0 rfl) rn0)))) (slc (Qam (rnc (.plain _ nll) rn0)) (slc (Qam (rnc (.plain _ nll) rn0)) Qat)) (slc (Qam (rnc (.plain _ nll) rn0)) (slc (Qam (rnc (.plain _ nll) rn0)) Qat)) (.plain _ nll) rfl rfl rfl,aid rfl underlying27 ti3 rfl rfl hi10 (mgt Qav hj11) rfl,Qau (first:=[]) (cap:=[.ref 2 1 0 0,.ref 3 1 0 0]) (vs:=[I x8]) (σr:=[(.own 1 [[I p3]]),(.own 1 [[I p4]])]) (σr':=[(.own 1 [[I p3]]),(.own 1 [[I p4]])]) (res':=(I x13)) [2,3] rfl Q9e (Ql4 N x8 p3 p4 _ hf12) rfl (Qbp (rnc (.plain _ nll) (rnc (Qa0 rfl) (rnc (Qa0 rfl) rn0)))) (slc (Qam (rnc (.plain _ nll) rn0)) (slc (Qam (rnc (.plain _ nll) rn0)) Qat)) (slc (Qam (rnc (.plain _ nll) rn0)) (slc (Qam (rnc (.plain _ nll) rn0)) Qat)) (.plain _ nll) rfl rfl rfl,tv⟩ ?_
  refine wmr (mto (n:=20) (l':=[(6,(I (w64 (x7-x13))))]) (own':=[(.own 1 [[Zag]]),(.own 1 [[(Zaf p2)]]),(.own 1 [[I p3]]),(.own 1 [[I p4]])]) [(6,(I (w64 (x7-x13))))] [0,1,2,3] [(.own 1 [[Zag]]),(.own 1 [[(Zaf p2)]]),(.own 1 [[I p3]]),(.own 1 [[I p4]])] hφ0 (pw pn) (qb (lc (.rn (Qbj rn0 (rnc (rqr rfl) (rnc (rqr rfl) rn0)))) ln) (qb (lc (rnd Qaj) ln) (qb (lc rwl ln) (qb (lc rwl ln) qn)))))<|Qah ?_
  obtain rfl:=osi h
  exact⟨_,Mor.rfl,Qdh (vs:=[(I (w64 (x7-x13)))]) ⟨rot,tv⟩ rfl (NLt.of0 nll) (by kernel_rfl) (Qar (Qa4 (nlc (NLt.fn _ _ _ nl0 (nlc (NLt.ref _ _ _ _ (by decide)) (nlc (NLt.ref _ _ _ _ (by decide)) nl0))) nl0)) (Qar (Qa4 (nlc (NLt.of0 (nld Qaj _)) nl0)) (Qar (Qa4 (nlc (NLt.of0 nll) nl0)) (Qar (Qa4 (nlc (NLt.of0 nll) nl0)) Qbx))))⟩
def Qbr (N:Nat) (p0:Nat) (p1:Int) (p4:(List Int)) (p5:Int) (p6:Int) (k9:(List Int)→Option (List Int)):Nat→Int→(List Int)→Option (List Int)
  |0,_,_=>none
  |n14+1,y10,y11=>
    Qbn (fun _=>
      chk (decide (0≤w64 (y10-1))&&decide ((w64 (y10-1)).toNat<p0))<|
      (y11[(w64 (y10-1)).toNat]?).bind fun x17=>
      chk (decide (0≤y10)&&decide (y10.toNat<p0))<|
      (y11[y10.toNat]?).bind fun x20=>
      chk (decide (0≤y10)&&decide (y10.toNat<p0))<|
      (y11[y10.toNat]?).bind fun _=>
      chk (decide (0≤w64 (y10-1))&&decide ((w64 (y10-1)).toNat<p0))<|
      ((y11.set y10.toNat x17)[(w64 (y10-1)).toNat]?).bind fun _=>
      Qbr N p0 p1 p4 p5 p6 k9 n14 (w64 (y10-1)) ((y11.set y10.toNat x17).set ((w64 (y10-1)).toNat) x20)) fun k15:Unit→Option (List Int)=>
    bif (decide (y10>p1)) then
     chk (decide (0≤y10)&&decide (y10.toNat<p0))<|
     (y11[y10.toNat]?).bind fun x30=>
     chk (decide (0≤w64 (y10-1))&&decide ((w64 (y10-1)).toNat<p0))<|
     (y11[(w64 (y10-1)).toNat]?).bind fun x33=>
     (Qft N x30 x33 p4 p5 p6).bind fun x36=>
     bif (decide (x36<0)) then
      k15 ()
     else
      k9 (y11)
    else
     k9 (y11)
def Qbb (N:Nat) (p0:Nat) (p1:Int) (p2:Int) (p4:(List Int)) (p5:Int) (p6:Int):Nat→Int→(List Int)→Option (List Int)
  |0,_,_=>none
  |n6+1,y2,y3=>
    bif (decide (y2<p2)) then
     Qbn (fun y8=>
       Qbb N p0 p1 p2 p4 p5 p6 n6 (w64 (y2+1)) y8) fun k9:(List Int)→Option (List Int)=>
     Qbr N p0 p1 p4 p5 p6 k9 N y2 y3
    else
     some y3
def Qbu (N:Nat) (p0:Nat) (p1:Int) (p2:Int) (p3:(List Int)) (p4:(List Int)) (p5:Int) (p6:Int):Option (List Int):=
  Qbb N p0 p1 p2 p4 p5 p6 N (w64 (p1+1)) p3
def Qqs:AV:=.fn (.func 163) [] [(.ref 1 1 (0) 0),(.ref 2 1 (0) 0)]
def Zpg (p3:(List Int)):Slot:=.own 1 ((p3:List Int).map Qav)
def Qm9:AV:=.fn (.func 159) [] [(.ref 3 1 (0) 0),(.ref 4 1 (0) 0)]
def Qm8 (p4:(List Int)):AV:=.dat 1 ((p4:List Int).map Qav)
def Zdw (y3:(List Int)):Slot:=.own 1 ((y3:List Int).map Qav)
def Qme (y11:(List Int)):Slot:=.own 1 ((y11:List Int).map Qav)
theorem Qgb (N:Nat) (p0:Nat) (p1:Int) (p2:Int) (p3:(List Int)) (p4:(List Int)) (p5:Int) (p6:Int) (r:(List Int)) (h:Qbu N p0 p1 p2 p3 p4 p5 p6=some r):Spec prog 165 [(.own 0 1 (0) (p0)),(I (p1)),(I (p2)),Qqs] [(Zpg p3),(.own 1 [[Qm9]]),(.own 1 [[(Qm8 p4)]]),(.own 1 [[(I (p5))]]),(.own 1 [[(I (p6))]])] (.tup []) [(.own 1 ((r:List Int).map Qav)),(.own 1 [[Qm9]]),(.own 1 [[(Qm8 p4)]]),(.own 1 [[(I (p5))]]),(.own 1 [[(I (p6))]])]:=by
  refine Qal func165 rfl 5 (nle rfl) (fun X φ0 w0 hφ0 hd0=>?_)
  unfold Qbu at h
  refine Qbv<|wxz<|Qao ?_
  refine wmr (mto (n:=53) (l':=[(0,(.own 0 1 (0) (p0))),(1,I p1),(2,I p2),(3,Qqs),(8,(I ((w64 (p1+1)))))]) (own':=[(Zpg p3),(.own 1 [[Qm9]]),(.own 1 [[(Qm8 p4)]]),(.own 1 [[I p5]]),(.own 1 [[I p6]])]) [(0,(.own 0 1 (0) (p0))),(1,I p1),(2,I p2),(3,Qqs),(8,(I (w64 (p1+1))))] [0,1,2,3,4] [(Zpg p3),(.own 1 [[Qm9]]),(.own 1 [[(Qm8 p4)]]),(.own 1 [[I p5]]),(.own 1 [[I p6]])] hφ0 (pc (.rn (Qa5 rfl)) (pw (pw (pc (.rn (Qbj rn0 (rnc (rqr rfl) (rnc (rqr rfl) rn0)))) (pw pn))))) (qc (spr Qaj) (qb (lc (.rn (Qbj rn0 (rnc (rqr rfl) (rnc (rqr rfl) rn0)))) ln) (qb (lc (rnd Qaj) ln) (qb (lc rwl ln) (qb (lc rwl ln) qn)))))) ?_
  refine Qb3 (τ:=Int×(List Int)) (fun n t=>Qbb N p0 p1 p2 p4 p5 p6 n t.1 t.2=some r) (fun ⟨y2,y3⟩=>⟨mk 53 [(0,(.own 0 1 (0) (p0))),(1,I p1),(2,I p2),(3,Qqs),(8,I y2)],[(Zdw y3),(.own 1 [[Qm9]]),(.own 1 [[(Qm8 p4)]]),(.own 1 [[I p5]]),(.own 1 [[I p6]])]⟩) (fun t h=>by rw[Qbb] at h;cases h) (fun n6 ih t h=>?_) N (w64 (p1+1),p3) h
  obtain⟨y2,y3⟩:=t
  rw[Qbb] at h
  skip
  refine wsq<|wxz ?_
  refine bfe h (fun hc7 h=>?_) fun hc7 h=>?_
  ·refine wft hc7<|Qap<|thn ?_
   obtain⟨k9,hk_k9,h⟩:=jko h
   refine wjn (τ:=(List Int)) (fun t=>k9 t=some r) (fun y8=>⟨mk 53 [(0,(.own 0 1 (0) (p0))),(1,I p1),(2,I p2),(3,Qqs),(8,I y2)],[(.own 1 ((y8:List Int).map Qav)),(.own 1 [[Qm9]]),(.own 1 [[(Qm8 p4)]]),(.own 1 [[I p5]]),(.own 1 [[I p6]])]⟩) (fun y8 h=>?_) ?_
   ·subst hk_k9
    exact wxz1<|thn<|arm (mto (n:=53) [(0,(.own 0 1 (0) (p0))),(1,I p1),(2,I p2),(3,Qqs),(8,(I (w64 (y2+1))))] [0,1,2,3,4] [(.own 1 ((y8:List Int).map Qav)),(.own 1 [[Qm9]]),(.own 1 [[(Qm8 p4)]]),(.own 1 [[I p5]]),(.own 1 [[I p6]])] hφ0 (pc (.rn (Qa5 rfl)) (pw (pw (pc (.rn (Qbj rn0 (rnc (rqr rfl) (rnc (rqr rfl) rn0)))) (pw pn))))) (qc (spr Qaj) (qb (lc (.rn (Qbj rn0 (rnc (rqr rfl) (rnc (rqr rfl) rn0)))) ln) (qb (lc (rnd Qaj) ln) (qb (lc rwl ln) (qb (lc rwl ln) qn)))))) (ih (w64 (y2+1),y8) h)
   ·skip
    refine Qao<|wxz<|Qao ?_
    refine wmr (mto (n:=53) (l':=[(0,(.own 0 1 (0) (p0))),(1,I p1),(2,I p2),(3,Qqs),(8,I y2),(9,I y2)]) (own':=[(Zdw y3),(.own 1 [[Qm9]]),(.own 1 [[(Qm8 p4)]]),(.own 1 [[I p5]]),(.own 1 [[I p6]])]) [(0,(.own 0 1 (0) (p0))),(1,I p1),(2,I p2),(3,Qqs),(8,I y2),(9,I y2)] [0,1,2,3,4] [(Zdw y3),(.own 1 [[Qm9]]),(.own 1 [[(Qm8 p4)]]),(.own 1 [[I p5]]),(.own 1 [[I p6]])] hφ0 (pc (.rn (Qa5 rfl)) (pw (pw (pc (.rn (Qbj rn0 (rnc (rqr rfl) (rnc (rqr rfl) rn0)))) (pw (pw pn)))))) (qc (spr Qaj) (qb (lc (.rn (Qbj rn0 (rnc (rqr rfl) (rnc (rqr rfl) rn0)))) ln) (qb (lc (rnd Qaj) ln) (qb (lc rwl ln) (qb (lc rwl ln) qn)))))) ?_
    refine Qb3 (τ:=Int×(List Int)) (fun n t=>Qbr N p0 p1 p4 p5 p6 k9 n t.1 t.2=some r) (fun ⟨y10,y11⟩=>⟨mk 53 [(0,(.own 0 1 (0) (p0))),(1,I p1),(2,I p2),(3,Qqs),(8,I y2),(9,I y10)],[(Qme y11),(.own 1 [[Qm9]]),(.own 1 [[(Qm8 p4)]]),(.own 1 [[I p5]]),(.own 1 [[I p6]])]⟩) (fun t h=>by rw[Qbr] at h;cases h) (fun n14 ih t h=>?_) N (y2,y3) h
    obtain⟨y10,y11⟩:=t
    rw[Qbr] at h
    skip
    obtain⟨k15,hk_k15,h⟩:=jko h
    refine wjn (τ:=Unit) (fun t=>k15 t=some r) (fun _=>⟨mk 53 [(0,(.own 0 1 (0) (p0))),(1,I p1),(2,I p2),(3,Qqs),(8,I y2),(9,I y10)],[(Qme y11),(.own 1 [[Qm9]]),(.own 1 [[(Qm8 p4)]]),(.own 1 [[I p5]]),(.own 1 [[I p6]])]⟩) (fun t h=>?_) ?_
    ·subst hk_k15
     refine wsq<|Qao ?_
     obtain⟨hi16,h⟩:=cko h
     obtain⟨hi16a,hi16b⟩:=Qcy hi16
     obtain⟨x17,hg18,h⟩:=bno h
     obtain⟨hi19,h⟩:=cko h
     obtain⟨hi19a,hi19b⟩:=Qcy hi19
     obtain⟨x20,hg21,h⟩:=bno h
     obtain⟨hi22,h⟩:=cko h
     obtain⟨hi22a,hi22b⟩:=Qcy hi22
     obtain⟨x23,hg24,h⟩:=bno h
     obtain⟨hi25,h⟩:=cko h
     obtain⟨hi25a,hi25b⟩:=Qcy hi25
     obtain⟨x26,hg27,h⟩:=bno h
     refine wy1 tbk [(8,rb [(.tmp 42,(.own 0 1 (0) (p0))),(.tmp 44,(I (w64 (y10-1))))] [(0,(Qme y11))] (.ref 0 1 ((w64 (y10-1)).toNat) 0)),(9,rb [(.tmp 45,(.ref 0 1 ((w64 (y10-1)).toNat) 0))] [(0,(Qme y11))] (I x17)),(12,rb [(.tmp 47,(.own 0 1 (0) (p0))),(.tmp 48,I y10)] [(0,(Qme y11))] (.ref 0 1 (y10.toNat) 0)),(13,rb [(.tmp 49,(.ref 0 1 (y10.toNat) 0))] [(0,(Qme y11))] (I x20)),(14,rb [(.tmp 37,(.own 0 1 (0) (p0))),(.tmp 38,I y10)] [(0,(Qme y11))] (.ref 0 1 (y10.toNat) 0)),(15,⟨[(.tmp 51,(.ref 0 1 (y10.toNat) 0)),(.tmp 46,I x17)],[(0,(Qme y11))],.any,[(0,(.own 1 ((y11.set y10.toNat x17:List Int).map Qav)))],false⟩),(16,rb [(.tmp 39,(.own 0 1 (0) (p0))),(.tmp 41,(I (w64 (y10-1))))] [(0,(.own 1 ((y11.set y10.toNat x17:List Int).map Qav)))] (.ref 0 1 ((w64 (y10-1)).toNat) 0)),(17,⟨[(.tmp 52,(.ref 0 1 ((w64 (y10-1)).toNat) 0)),(.tmp 50,I x20)],[(0,(.own 1 ((y11.set y10.toNat x17:List Int).map Qav)))],.any,[(0,(.own 1 (((y11.set y10.toNat x17).set ((w64 (y10-1)).toNat) x20:List Int).map Qav)))],false⟩)] ⟨aio rfl underlying27 ti3 (odt hi16a) (odt hi16b) (Nat.zero_add _),ald rfl ti3 (by decide) (mgt Qav hg18) (nle rfl) rfl,aio rfl underlying27 ti3 (odt hi19a) (odt hi19b) (Nat.zero_add _),ald rfl ti3 (by decide) (mgt Qav hg21) (nle rfl) rfl,aio rfl underlying27 ti3 (odt hi22a) (odt hi22b) (Nat.zero_add _),ast rfl ti3 (by rfl) (mgt Qav hg24) (nle rfl) (Qeq Qav rfl),aio rfl underlying27 ti3 (odt hi25a) (odt hi25b) (Nat.zero_add _),ast rfl ti3 (by rfl) (mgt Qav hg27) (nle rfl) (Qeq Qav rfl),tv⟩<|bln<|thn<|wxz1<|thn ?_
     exact arm (mto (n:=53) [(0,(.own 0 1 (0) (p0))),(1,I p1),(2,I p2),(3,Qqs),(8,I y2),(9,(I (w64 (y10-1))))] [0,1,2,3,4] [(.own 1 (((y11.set y10.toNat x17).set ((w64 (y10-1)).toNat) x20:List Int).map Qav)),(.own 1 [[Qm9]]),(.own 1 [[(Qm8 p4)]]),(.own 1 [[I p5]]),(.own 1 [[I p6]])] hφ0 (pc (.rn (Qa5 rfl)) (pw (pw (pc (.rn (Qbj rn0 (rnc (rqr rfl) (rnc (rqr rfl) rn0)))) (pw (pw pn)))))) (qc (spr Qaj) (qb (lc (.rn (Qbj rn0 (rnc (rqr rfl) (rnc (rqr rfl) rn0)))) ln) (qb (lc (rnd Qaj) ln) (qb (lc rwl ln) (qb (lc rwl ln) qn)))))) (ih (w64 (y10-1),(y11.set y10.toNat x17).set ((w64 (y10-1)).toNat) x20) h)
    ·skip
     refine bfe h (fun hb28 h=>?_) fun hb28 h=>?_
     ·obtain⟨hi29,h⟩:=cko h
      obtain⟨hi29a,hi29b⟩:=Qcy hi29
      obtain⟨x30,hg31,h⟩:=bno h
      obtain⟨hi32,h⟩:=cko h
      obtain⟨hi32a,hi32b⟩:=Qcy hi32
      obtain⟨x33,hg34,h⟩:=bno h
      obtain⟨x36,hf35,h⟩:=bno h
      refine wxd tbk [(3,rp [(.tmp 20,(B ((decide (y10>p1)))))] (B true)),(7,rb [(.tmp 21,B true),(.tmp 23,(.own 0 1 (0) (p0))),(.tmp 24,I y10)] [(0,(Qme y11))] (.ref 0 1 (y10.toNat) 0)),(8,rb [(.tmp 21,B true),(.tmp 25,(.ref 0 1 (y10.toNat) 0))] [(0,(Qme y11))] (I x30)),(12,rb [(.tmp 21,B true),(.tmp 27,(.own 0 1 (0) (p0))),(.tmp 29,(I (w64 (y10-1))))] [(0,(Qme y11))] (.ref 0 1 ((w64 (y10-1)).toNat) 0)),(13,rb [(.tmp 21,B true),(.tmp 30,(.ref 0 1 ((w64 (y10-1)).toNat) 0))] [(0,(Qme y11))] (I x33)),(14,⟨[(.tmp 21,B true),(.tmp 22,Qqs),(.tmp 26,I x30),(.tmp 31,I x33)],[(1,.own 1 [[Qm9]]),(2,(.own 1 [[(Qm8 p4)]])),(3,.own 1 [[I p5]]),(4,.own 1 [[I p6]])],I x36,[(1,.own 1 [[Qm9]]),(2,(.own 1 [[(Qm8 p4)]])),(3,.own 1 [[I p5]]),(4,.own 1 [[I p6]])],false⟩)] ⟨asb hb28 (amv rfl),ag_ (aio rfl underlying27 ti3 (odt hi29a) (odt hi29b) (Nat.zero_add _)),ag_ (ald rfl ti3 (by decide) (mgt Qav hg31) (nle rfl) rfl),ag_ (aio rfl underlying27 ti3 (odt hi32a) (odt hi32b) (Nat.zero_add _)),ag_ (ald rfl ti3 (by decide) (mgt Qav hg34) (nle rfl) rfl),ag_ (Qau (first:=[]) (cap:=[.ref 1 1 0 0,.ref 2 1 0 0]) (vs:=[I x30,I x33]) (σr:=[(.own 1 [[Qm9]]),(.own 1 [[(Qm8 p4)]]),(.own 1 [[I p5]]),(.own 1 [[I p6]])]) (σr':=[(.own 1 [[Qm9]]),(.own 1 [[(Qm8 p4)]]),(.own 1 [[I p5]]),(.own 1 [[I p6]])]) (res':=(I x36)) [1,2,3,4] rfl Zkx (Qno N x30 x33 p4 p5 p6 _ hf35) rfl (Qbp (rncc (rnc (Qa0 rfl) (rnc (Qa0 rfl) rn0)))) (slc (Qam (rnc (Qbj rn0 (rnc (Qa0 rfl) (rnc (Qa0 rfl) rn0))) rn0)) (slc (Qam (rnc (pld Qaj) rn0)) (slc (Qam (rnc (.plain _ nll) rn0)) (slc (Qam (rnc (.plain _ nll) rn0)) Qat)))) (slc (Qam (rnc (Qbj rn0 (rnc (Qby rfl) (rnc (Qby rfl) rn0))) rn0)) (slc (Qam (rnc (pld Qaj) rn0)) (slc (Qam (rnc (.plain _ nll) rn0)) (slc (Qam (rnc (.plain _ nll) rn0)) Qat)))) (.plain _ nll) rfl rfl rfl),tv⟩ ?_
      refine bfe h (fun hc37 h=>?_) fun hc37 h=>?_
      ·exact wft hc37<|Qap<|thn<|⟨(),h,(mto (n:=53) [(0,(.own 0 1 (0) (p0))),(1,I p1),(2,I p2),(3,Qqs),(8,I y2),(9,I y10)] [0,1,2,3,4] [(Qme y11),(.own 1 [[Qm9]]),(.own 1 [[(Qm8 p4)]]),(.own 1 [[I p5]]),(.own 1 [[I p6]])] hφ0 (pc (.rn (Qa5 rfl)) (pw (pw (pc (.rn (Qbj rn0 (rnc (rqr rfl) (rnc (rqr rfl) rn0)))) (pw (pw pn)))))) (qc (spr Qaj) (qb (lc (.rn (Qbj rn0 (rnc (rqr rfl) (rnc (rqr rfl) rn0)))) ln) (qb (lc (rnd Qaj) ln) (qb (lc rwl ln) (qb (lc rwl ln) qn))))))⟩
      ·exact wfn hc37<|Qbl<|Qax<|Qax<|Qbk rfl<|bln<|thn<|⟨(y11),h,(mto (n:=53) [(0,(.own 0 1 (0) (p0))),(1,I p1),(2,I p2),(3,Qqs),(8,I y2)] [0,1,2,3,4] [(Qme y11),(.own 1 [[Qm9]]),(.own 1 [[(Qm8 p4)]]),(.own 1 [[I p5]]),(.own 1 [[I p6]])] hφ0 (pc (.rn (Qa5 rfl)) (pw (pw (pc (.rn (Qbj rn0 (rnc (rqr rfl) (rnc (rqr rfl) rn0)))) (pw pn))))) (qc (spr Qaj) (qb (lc (.rn (Qbj rn0 (rnc (rqr rfl) (rnc (rqr rfl) rn0)))) ln) (qb (lc (rnd Qaj) ln) (qb (lc rwl ln) (qb (lc rwl ln) qn))))))⟩
     ·exact wxd tbk [(3,rp [(.tmp 20,(B ((decide (y10>p1)))))] (B false))] ⟨asb hb28 (amv rfl),tv⟩<|wfa<|Qbl<|Qax<|Qax<|Qbk rfl<|bln<|thn<|⟨(y11),h,(mto (n:=53) [(0,(.own 0 1 (0) (p0))),(1,I p1),(2,I p2),(3,Qqs),(8,I y2)] [0,1,2,3,4] [(Qme y11),(.own 1 [[Qm9]]),(.own 1 [[(Qm8 p4)]]),(.own 1 [[I p5]]),(.own 1 [[I p6]])] hφ0 (pc (.rn (Qa5 rfl)) (pw (pw (pc (.rn (Qbj rn0 (rnc (rqr rfl) (rnc (rqr rfl) rn0)))) (pw pn))))) (qc (spr Qaj) (qb (lc (.rn (Qbj rn0 (rnc (rqr rfl) (rnc (rqr rfl) rn0)))) ln) (qb (lc (rnd Qaj) ln) (qb (lc rwl ln) (qb (lc rwl ln) qn))))))⟩
  ·refine wfn hc7<|Qbl<|Qax<|Qax<|Qbk rfl ?_
   obtain rfl:=osi h
   exact⟨_,(mto (n:=53) (l':=[]) (own':=[(Zdw y3),(.own 1 [[Qm9]]),(.own 1 [[(Qm8 p4)]]),(.own 1 [[I p5]]),(.own 1 [[I p6]])]) [] [0,1,2,3,4] [(Zdw y3),(.own 1 [[Qm9]]),(.own 1 [[(Qm8 p4)]]),(.own 1 [[I p5]]),(.own 1 [[I p6]])] hφ0 pn (qc (spr Qaj) (qb (lc (.rn (Qbj rn0 (rnc (rqr rfl) (rnc (rqr rfl) rn0)))) ln) (qb (lc (rnd Qaj) ln) (qb (lc rwl ln) (qb (lc rwl ln) qn)))))),Qdh (vs:=[]) tv rfl (NLt.tup _ nl0) (by kernel_rfl) (Qar (Qda Qaj _) (Qar (Qa4 (nlc (NLt.fn _ _ _ nl0 (nlc (NLt.ref _ _ _ _ (by decide)) (nlc (NLt.ref _ _ _ _ (by decide)) nl0))) nl0)) (Qar (Qa4 (nlc (NLt.of0 (nld Qaj _)) nl0)) (Qar (Qa4 (nlc (NLt.of0 nll) nl0)) (Qar (Qa4 (nlc (NLt.of0 nll) nl0)) Qbx)))))⟩
def Qd8 (N:Nat) (p1:Int) (k9:Unit→Option (List Int)):Nat→Option (List Int)
  |0=>none
  |n10+1=>
    bif (decide (40≤p1)) then
     none
    else
     k9 ()
def Qce (N:Nat) (p1:Int) (x6:(List Int)):Nat→Option (List Int)
  |0=>none
  |n7+1=>
    bif (decide (20<p1)) then
     Qbn (fun _=>
       none) fun k9:Unit→Option (List Int)=>
     Qd8 N p1 k9 N
    else
     some x6
def Qb5 (N:Nat) (p0:Nat) (p1:Int) (p3:(List Int)) (k4:Int×(List Int)→Option (List Int)) (p4:Int) (p5:Int):Nat→Int→Int→(List Int)→Option (List Int)
  |0,_,_,_=>none
  |n18+1,y12,y13,y14=>
    bif (decide (y13≤p1)) then
     (Qbu N p0 y12 y13 y14 p3 p4 p5).bind fun x21=>
     Qb5 N p0 p1 p3 k4 p4 p5 n18 y13 (w64 (y13+20)) x21
    else
     k4 (y12,y14)
def Qe5 (N:Nat) (p0:Nat) (p1:Int) (p2:(List Int)) (p3:(List Int)) (p4:Int) (p5:Int):Option (List Int):=
  Qbn (fun ⟨y2,y3⟩=>
    (Qbu N p0 y2 p1 y3 p3 p4 p5).bind fun x6=>
    Qce N p1 x6 N) fun k4:Int×(List Int)→Option (List Int)=>
  Qb5 N p0 p1 p3 k4 p4 p5 N 0 20 p2
def Qn4:AV:=.fn (.func 163) [] [(.ref 1 1 (0) 0),(.ref 2 1 (0) 0)]
def Zpi (p2:(List Int)):Slot:=.own 1 ((p2:List Int).map Qav)
def Qk7:AV:=.fn (.func 159) [] [(.ref 3 1 (0) 0),(.ref 4 1 (0) 0)]
def Qk6 (p3:(List Int)):AV:=.dat 1 ((p3:List Int).map Qav)
def Zph (y3:(List Int)):Slot:=.own 1 ((y3:List Int).map Qav)
def Quh (x6:(List Int)):Slot:=.own 1 ((x6:List Int).map Qav)
def Q7r (y14:(List Int)):Slot:=.own 1 ((y14:List Int).map Qav)
theorem Qlb (N:Nat) (p0:Nat) (p1:Int) (p2:(List Int)) (p3:(List Int)) (p4:Int) (p5:Int) (r:(List Int)) (h:Qe5 N p0 p1 p2 p3 p4 p5=some r):Spec prog 164 [(.own 0 1 (0) (p0)),(I (p1)),Qn4] [(Zpi p2),(.own 1 [[Qk7]]),(.own 1 [[(Qk6 p3)]]),(.own 1 [[(I (p4))]]),(.own 1 [[(I (p5))]])] (.tup []) [(.own 1 ((r:List Int).map Qav)),(.own 1 [[Qk7]]),(.own 1 [[(Qk6 p3)]]),(.own 1 [[(I (p4))]]),(.own 1 [[(I (p5))]])]:=by
  refine Qal func164 rfl 5 (nle rfl) (fun X φ0 w0 hφ0 hd0=>?_)
  unfold Qe5 at h
  refine Qbv<|wxz<|wxz ?_
  obtain⟨k4,hk_k4,h⟩:=jko h
  refine wjn (τ:=Int×(List Int)) (fun t=>k4 t=some r) (fun ⟨y2,y3⟩=>⟨mk 63 [(0,(.own 0 1 (0) (p0))),(1,I p1),(2,Qn4),(6,I 20),(7,I y2)],[(Zph y3),(.own 1 [[Qk7]]),(.own 1 [[(Qk6 p3)]]),(.own 1 [[I p4]]),(.own 1 [[I p5]])]⟩) (fun t h=>?_) ?_
  ·subst hk_k4
   obtain⟨y2,y3⟩:=t
   obtain⟨x6,hf5,h⟩:=bno h
   refine wx tbk [(4,⟨[fu 165,(.tmp 23,(.own 0 1 (0) (p0))),(.tmp 24,I y2),(.tmp 25,I p1),(.tmp 26,Qn4)],[(0,(Zph y3)),(1,.own 1 [[Qk7]]),(2,(.own 1 [[(Qk6 p3)]])),(3,.own 1 [[I p4]]),(4,.own 1 [[I p5]])],(.tup []),[(0,(Quh x6)),(1,.own 1 [[Qk7]]),(2,(.own 1 [[(Qk6 p3)]])),(3,.own 1 [[I p4]]),(4,.own 1 [[I p5]])],false⟩)] ⟨Qau (first:=[]) (cap:=[]) (vs:=[(.own 0 1 (0) (p0)),I y2,I p1,Qn4]) (σr:=[(Zph y3),(.own 1 [[Qk7]]),(.own 1 [[(Qk6 p3)]]),(.own 1 [[I p4]]),(.own 1 [[I p5]])]) (σr':=[(Quh x6),(.own 1 [[Qk7]]),(.own 1 [[(Qk6 p3)]]),(.own 1 [[I p4]]),(.own 1 [[I p5]])]) (res':=(.tup [])) [0,1,2,3,4] rfl Q9d (Qgb N p0 y2 p1 y3 p3 p4 p5 _ hf5) rfl (Qbp (rnc (Qd4 rfl) (rncc (rnc (Qbj rn0 (rnc (Qa0 rfl) (rnc (Qa0 rfl) rn0))) rn0)))) (slc (Qbi Qaj) (slc (Qam (rnc (Qbj rn0 (rnc (Qa0 rfl) (rnc (Qa0 rfl) rn0))) rn0)) (slc (Qam (rnc (pld Qaj) rn0)) (slc (Qam (rnc (.plain _ nll) rn0)) (slc (Qam (rnc (.plain _ nll) rn0)) Qat))))) (slc (Qbi Qaj) (slc (Qam (rnc (Qbj rn0 (rnc (Qby rfl) (rnc (Qby rfl) rn0))) rn0)) (slc (Qam (rnc (pld Qaj) rn0)) (slc (Qam (rnc (.plain _ nll) rn0)) (slc (Qam (rnc (.plain _ nll) rn0)) Qat))))) (.plain _ (NLt.tup _ nl0)) rfl rfl rfl,tv⟩<|Qao ?_
   refine wmr (mto (n:=63) (l':=[(0,(.own 0 1 (0) (p0))),(1,I p1),(2,Qn4),(6,I 20)]) (own':=[(Quh x6),(.own 1 [[Qk7]]),(.own 1 [[(Qk6 p3)]]),(.own 1 [[I p4]]),(.own 1 [[I p5]])]) [(0,(.own 0 1 (0) (p0))),(1,I p1),(2,Qn4),(6,I 20)] [0,1,2,3,4] [(Quh x6),(.own 1 [[Qk7]]),(.own 1 [[(Qk6 p3)]]),(.own 1 [[I p4]]),(.own 1 [[I p5]])] hφ0 (pc (.rn (Qa5 rfl)) (pw (pc (.rn (Qbj rn0 (rnc (rqr rfl) (rnc (rqr rfl) rn0)))) (pw pn)))) (qc (spr Qaj) (qb (lc (.rn (Qbj rn0 (rnc (rqr rfl) (rnc (rqr rfl) rn0)))) ln) (qb (lc (rnd Qaj) ln) (qb (lc rwl ln) (qb (lc rwl ln) qn)))))) ?_
   refine Qb3 (τ:=Unit) (fun n t=>Qce N p1 x6 n=some r) (fun _=>⟨mk 63 [(0,(.own 0 1 (0) (p0))),(1,I p1),(2,Qn4),(6,I 20)],[(Quh x6),(.own 1 [[Qk7]]),(.own 1 [[(Qk6 p3)]]),(.own 1 [[I p4]]),(.own 1 [[I p5]])]⟩) (fun t h=>by rw[Qce] at h;cases h) (fun n7 ih t h=>?_) N () h
   rw[Qce] at h
   skip
   refine wsq<|wxz ?_
   refine bfe h (fun hc8 h=>?_) fun hc8 h=>?_
   ·refine wft hc8<|Qap<|thn<|Qao<|wxz ?_
    obtain⟨k9,hk_k9,h⟩:=jko h
    refine wjn (τ:=Unit) (fun t=>k9 t=some r) (fun _=>⟨mk 63 [(0,(.own 0 1 (0) (p0))),(1,I p1),(2,Qn4),(6,I 20),(7,I 0)],[(Quh x6),(.own 1 [[Qk7]]),(.own 1 [[(Qk6 p3)]]),(.own 1 [[I p4]]),(.own 1 [[I p5]])]⟩) (fun t h=>?_) ?_
    ·subst hk_k9
     refine wsq<|wxz<|wxz<|wft hc8 ?_
     cases h
    ·skip
     refine Qao<|wmr (mto (n:=63) (l':=[(0,(.own 0 1 (0) (p0))),(1,I p1),(2,Qn4),(6,I 20),(7,I 0),(8,I 40)]) (own':=[(Quh x6),(.own 1 [[Qk7]]),(.own 1 [[(Qk6 p3)]]),(.own 1 [[I p4]]),(.own 1 [[I p5]])]) [(0,(.own 0 1 (0) (p0))),(1,I p1),(2,Qn4),(6,I 20),(7,I 0),(8,I 40)] [0,1,2,3,4] [(Quh x6),(.own 1 [[Qk7]]),(.own 1 [[(Qk6 p3)]]),(.own 1 [[I p4]]),(.own 1 [[I p5]])] hφ0 (pc (.rn (Qa5 rfl)) (pw (pc (.rn (Qbj rn0 (rnc (rqr rfl) (rnc (rqr rfl) rn0)))) (pw (pw (pw pn)))))) (qc (spr Qaj) (qb (lc (.rn (Qbj rn0 (rnc (rqr rfl) (rnc (rqr rfl) rn0)))) ln) (qb (lc (rnd Qaj) ln) (qb (lc rwl ln) (qb (lc rwl ln) qn)))))) ?_
     refine Qb3 (τ:=Unit) (fun n t=>Qd8 N p1 k9 n=some r) (fun _=>⟨mk 63 [(0,(.own 0 1 (0) (p0))),(1,I p1),(2,Qn4),(6,I 20),(7,I 0),(8,I 40)],[(Quh x6),(.own 1 [[Qk7]]),(.own 1 [[(Qk6 p3)]]),(.own 1 [[I p4]]),(.own 1 [[I p5]])]⟩) (fun t h=>by rw[Qd8] at h;cases h) (fun n10 ih t h=>?_) N () h
     rw[Qd8] at h
     skip
     refine wsq<|wxz ?_
     refine bfe h (fun hc11 h=>?_) fun hc11 h=>?_
     ·refine wft hc11<|Qap<|thn<|Qao ?_
      cases h
     ·exact wfn hc11<|Qbl<|Qax<|Qax<|Qbk rfl<|thn<|⟨(),h,(mto (n:=63) [(0,(.own 0 1 (0) (p0))),(1,I p1),(2,Qn4),(6,I 20),(7,I 0)] [0,1,2,3,4] [(Quh x6),(.own 1 [[Qk7]]),(.own 1 [[(Qk6 p3)]]),(.own 1 [[I p4]]),(.own 1 [[I p5]])] hφ0 (pc (.rn (Qa5 rfl)) (pw (pc (.rn (Qbj rn0 (rnc (rqr rfl) (rnc (rqr rfl) rn0)))) (pw (pw pn))))) (qc (spr Qaj) (qb (lc (.rn (Qbj rn0 (rnc (rqr rfl) (rnc (rqr rfl) rn0)))) ln) (qb (lc (rnd Qaj) ln) (qb (lc rwl ln) (qb (lc rwl ln) qn))))))⟩
   ·refine wfn hc8<|Qbl<|Qax<|Qax<|Qbk rfl ?_
    obtain rfl:=osi h
    exact⟨_,(mto (n:=63) (l':=[]) (own':=[(Quh x6),(.own 1 [[Qk7]]),(.own 1 [[(Qk6 p3)]]),(.own 1 [[I p4]]),(.own 1 [[I p5]])]) [] [0,1,2,3,4] [(Quh x6),(.own 1 [[Qk7]]),(.own 1 [[(Qk6 p3)]]),(.own 1 [[I p4]]),(.own 1 [[I p5]])] hφ0 pn (qc (spr Qaj) (qb (lc (.rn (Qbj rn0 (rnc (rqr rfl) (rnc (rqr rfl) rn0)))) ln) (qb (lc (rnd Qaj) ln) (qb (lc rwl ln) (qb (lc rwl ln) qn)))))),Qdh (vs:=[]) tv rfl (NLt.tup _ nl0) (by kernel_rfl) (Qar (Qda Qaj _) (Qar (Qa4 (nlc (NLt.fn _ _ _ nl0 (nlc (NLt.ref _ _ _ _ (by decide)) (nlc (NLt.ref _ _ _ _ (by decide)) nl0))) nl0)) (Qar (Qa4 (nlc (NLt.of0 (nld Qaj _)) nl0)) (Qar (Qa4 (nlc (NLt.of0 nll) nl0)) (Qar (Qa4 (nlc (NLt.of0 nll) nl0)) Qbx)))))⟩
  ·skip
   refine Qao<|wmr (mto (n:=63) (l':=[(0,(.own 0 1 (0) (p0))),(1,I p1),(2,Qn4),(6,I 20),(7,I 0),(8,I 20)]) (own':=[(Zpi p2),(.own 1 [[Qk7]]),(.own 1 [[(Qk6 p3)]]),(.own 1 [[I p4]]),(.own 1 [[I p5]])]) [(0,(.own 0 1 (0) (p0))),(1,I p1),(2,Qn4),(6,I 20),(7,I 0),(8,I 20)] [0,1,2,3,4] [(Zpi p2),(.own 1 [[Qk7]]),(.own 1 [[(Qk6 p3)]]),(.own 1 [[I p4]]),(.own 1 [[I p5]])] hφ0 (pc (.rn (Qa5 rfl)) (pw (pc (.rn (Qbj rn0 (rnc (rqr rfl) (rnc (rqr rfl) rn0)))) (pw (pw (pw pn)))))) (qc (spr Qaj) (qb (lc (.rn (Qbj rn0 (rnc (rqr rfl) (rnc (rqr rfl) rn0)))) ln) (qb (lc (rnd Qaj) ln) (qb (lc rwl ln) (qb (lc rwl ln) qn)))))) ?_
   refine Qb3 (τ:=Int×Int×(List Int)) (fun n t=>Qb5 N p0 p1 p3 k4 p4 p5 n t.1 t.2.1 t.2.2=some r) (fun ⟨y12,y13,y14⟩=>⟨mk 63 [(0,(.own 0 1 (0) (p0))),(1,I p1),(2,Qn4),(6,I 20),(7,I y12),(8,I y13)],[(Q7r y14),(.own 1 [[Qk7]]),(.own 1 [[(Qk6 p3)]]),(.own 1 [[I p4]]),(.own 1 [[I p5]])]⟩) (fun t h=>by rw[Qb5] at h;cases h) (fun n18 ih t h=>?_) N (0,20,p2) h
   obtain⟨y12,y13,y14⟩:=t
   rw[Qb5] at h
   skip
   refine wsq<|wxz ?_
   refine bfe h (fun hc19 h=>?_) fun hc19 h=>?_
   ·refine wft hc19<|Qap<|thn<|Qao ?_
    obtain⟨x21,hf20,h⟩:=bno h
    refine wx tbk [(4,⟨[fu 165,(.tmp 14,(.own 0 1 (0) (p0))),(.tmp 15,I y12),(.tmp 16,I y13),(.tmp 17,Qn4)],[(0,(Q7r y14)),(1,.own 1 [[Qk7]]),(2,(.own 1 [[(Qk6 p3)]])),(3,.own 1 [[I p4]]),(4,.own 1 [[I p5]])],(.tup []),[(0,(.own 1 ((x21:List Int).map Qav))),(1,.own 1 [[Qk7]]),(2,(.own 1 [[(Qk6 p3)]])),(3,.own 1 [[I p4]]),(4,.own 1 [[I p5]])],false⟩)] ⟨Qau (first:=[]) (cap:=[]) (vs:=[(.own 0 1 (0) (p0)),I y12,I y13,Qn4]) (σr:=[(Q7r y14),(.own 1 [[Qk7]]),(.own 1 [[(Qk6 p3)]]),(.own 1 [[I p4]]),(.own 1 [[I p5]])]) (σr':=[(.own 1 ((x21:List Int).map Qav)),(.own 1 [[Qk7]]),(.own 1 [[(Qk6 p3)]]),(.own 1 [[I p4]]),(.own 1 [[I p5]])]) (res':=(.tup [])) [0,1,2,3,4] rfl Q9d (Qgb N p0 y12 y13 y14 p3 p4 p5 _ hf20) rfl (Qbp (rnc (Qd4 rfl) (rncc (rnc (Qbj rn0 (rnc (Qa0 rfl) (rnc (Qa0 rfl) rn0))) rn0)))) (slc (Qbi Qaj) (slc (Qam (rnc (Qbj rn0 (rnc (Qa0 rfl) (rnc (Qa0 rfl) rn0))) rn0)) (slc (Qam (rnc (pld Qaj) rn0)) (slc (Qam (rnc (.plain _ nll) rn0)) (slc (Qam (rnc (.plain _ nll) rn0)) Qat))))) (slc (Qbi Qaj) (slc (Qam (rnc (Qbj rn0 (rnc (Qby rfl) (rnc (Qby rfl) rn0))) rn0)) (slc (Qam (rnc (pld Qaj) rn0)) (slc (Qam (rnc (.plain _ nll) rn0)) (slc (Qam (rnc (.plain _ nll) rn0)) Qat))))) (.plain _ (NLt.tup _ nl0)) rfl rfl rfl,tv⟩<|wxz<|wxz1<|bln<|thn ?_
    exact arm (mto (n:=63) [(0,(.own 0 1 (0) (p0))),(1,I p1),(2,Qn4),(6,I 20),(7,I y13),(8,(I (w64 (y13+20))))] [0,1,2,3,4] [(.own 1 ((x21:List Int).map Qav)),(.own 1 [[Qk7]]),(.own 1 [[(Qk6 p3)]]),(.own 1 [[I p4]]),(.own 1 [[I p5]])] hφ0 (pc (.rn (Qa5 rfl)) (pw (pc (.rn (Qbj rn0 (rnc (rqr rfl) (rnc (rqr rfl) rn0)))) (pw (pw (pw pn)))))) (qc (spr Qaj) (qb (lc (.rn (Qbj rn0 (rnc (rqr rfl) (rnc (rqr rfl) rn0)))) ln) (qb (lc (rnd Qaj) ln) (qb (lc rwl ln) (qb (lc rwl ln) qn)))))) (ih (y13,w64 (y13+20),x21) h)
   ·exact wfn hc19<|Qbl<|Qax<|Qax<|Qbk rfl<|thn<|⟨(y12,y14),h,(mto (n:=63) [(0,(.own 0 1 (0) (p0))),(1,I p1),(2,Qn4),(6,I 20),(7,I y12)] [0,1,2,3,4] [(Q7r y14),(.own 1 [[Qk7]]),(.own 1 [[(Qk6 p3)]]),(.own 1 [[I p4]]),(.own 1 [[I p5]])] hφ0 (pc (.rn (Qa5 rfl)) (pw (pc (.rn (Qbj rn0 (rnc (rqr rfl) (rnc (rqr rfl) rn0)))) (pw (pw pn))))) (qc (spr Qaj) (qb (lc (.rn (Qbj rn0 (rnc (rqr rfl) (rnc (rqr rfl) rn0)))) ln) (qb (lc (rnd Qaj) ln) (qb (lc rwl ln) (qb (lc rwl ln) qn))))))⟩
def Qcr (N:Nat) (p0:Nat) (p1:(List Int)) (p2:(List Int)) (p3:Int) (p4:Int):Option (List Int):=
  (Qe5 N p0 ((p0:Nat):Int) p1 p2 p3 p4).bind fun x3=>
  some x3
def Zpk:AV:=.fn (.func 163) [] [(.ref 1 1 (0) 0),(.ref 2 1 (0) 0)]
def Zpj (p1:(List Int)):Slot:=.own 1 ((p1:List Int).map Qav)
def Q1l:AV:=.fn (.func 159) [] [(.ref 3 1 (0) 0),(.ref 4 1 (0) 0)]
def Q1k (p2:(List Int)):AV:=.dat 1 ((p2:List Int).map Qav)
def Zi5 (x3:(List Int)):Slot:=.own 1 ((x3:List Int).map Qav)
theorem Qjm (N:Nat) (p0:Nat) (p1:(List Int)) (p2:(List Int)) (p3:Int) (p4:Int) (r:(List Int)) (h:Qcr N p0 p1 p2 p3 p4=some r):Spec prog 162 [(.own 0 1 (0) (p0)),Zpk] [(Zpj p1),(.own 1 [[Q1l]]),(.own 1 [[(Q1k p2)]]),(.own 1 [[(I (p3))]]),(.own 1 [[(I (p4))]])] (.tup []) [(.own 1 ((r:List Int).map Qav)),(.own 1 [[Q1l]]),(.own 1 [[(Q1k p2)]]),(.own 1 [[(I (p3))]]),(.own 1 [[(I (p4))]])]:=by
  refine Qal func162 rfl 5 (nle rfl) (fun X φ0 w0 hφ0 hd0=>?_)
  unfold Qcr at h
  refine Qbv ?_
  obtain⟨x3,hf2,h⟩:=bno h
  refine wx1 tbk [(2,rp [(.tmp 5,(.own 0 1 (0) (p0)))] (I (((p0:Nat):Int)))),(4,⟨[fu 164,(.tmp 4,(.own 0 1 (0) (p0))),(.tmp 6,(I (((p0:Nat):Int)))),(.tmp 7,Zpk)],[(0,(Zpj p1)),(1,.own 1 [[Q1l]]),(2,(.own 1 [[(Q1k p2)]])),(3,.own 1 [[I p3]]),(4,.own 1 [[I p4]])],(.tup []),[(0,(Zi5 x3)),(1,.own 1 [[Q1l]]),(2,(.own 1 [[(Q1k p2)]])),(3,.own 1 [[I p3]]),(4,.own 1 [[I p4]])],false⟩)] ⟨aln rfl underlying27 rfl,Qau (first:=[]) (cap:=[]) (vs:=[(.own 0 1 (0) (p0)),(I (((p0:Nat):Int))),Zpk]) (σr:=[(Zpj p1),(.own 1 [[Q1l]]),(.own 1 [[(Q1k p2)]]),(.own 1 [[I p3]]),(.own 1 [[I p4]])]) (σr':=[(Zi5 x3),(.own 1 [[Q1l]]),(.own 1 [[(Q1k p2)]]),(.own 1 [[I p3]]),(.own 1 [[I p4]])]) (res':=(.tup [])) [0,1,2,3,4] rfl Zkw (Qlb N p0 ((p0:Nat):Int) p1 p2 p3 p4 _ hf2) rfl (Qbp (rnc (Qd4 rfl) (rnc (.plain _ nll) (rnc (Qbj rn0 (rnc (Qa0 rfl) (rnc (Qa0 rfl) rn0))) rn0)))) (slc (Qbi Qaj) (slc (Qam (rnc (Qbj rn0 (rnc (Qa0 rfl) (rnc (Qa0 rfl) rn0))) rn0)) (slc (Qam (rnc (pld Qaj) rn0)) (slc (Qam (rnc (.plain _ nll) rn0)) (slc (Qam (rnc (.plain _ nll) rn0)) Qat))))) (slc (Qbi Qaj) (slc (Qam (rnc (Qbj rn0 (rnc (Qby rfl) (rnc (Qby rfl) rn0))) rn0)) (slc (Qam (rnc (pld Qaj) rn0)) (slc (Qam (rnc (.plain _ nll) rn0)) (slc (Qam (rnc (.plain _ nll) rn0)) Qat))))) (.plain _ (NLt.tup _ nl0)) rfl rfl rfl,tv⟩ ?_
  obtain rfl:=osi h
  exact⟨_,(mto (n:=9) (l':=[]) (own':=[(Zi5 x3),(.own 1 [[Q1l]]),(.own 1 [[(Q1k p2)]]),(.own 1 [[I p3]]),(.own 1 [[I p4]])]) [] [0,1,2,3,4] [(Zi5 x3),(.own 1 [[Q1l]]),(.own 1 [[(Q1k p2)]]),(.own 1 [[I p3]]),(.own 1 [[I p4]])] hφ0 pn (qc (spr Qaj) (qb (lc (.rn (Qbj rn0 (rnc (rqr rfl) (rnc (rqr rfl) rn0)))) ln) (qb (lc (rnd Qaj) ln) (qb (lc rwl ln) (qb (lc rwl ln) qn)))))),Qdh (vs:=[]) tv rfl (NLt.tup _ nl0) (by kernel_rfl) (Qar (Qda Qaj _) (Qar (Qa4 (nlc (NLt.fn _ _ _ nl0 (nlc (NLt.ref _ _ _ _ (by decide)) (nlc (NLt.ref _ _ _ _ (by decide)) nl0))) nl0)) (Qar (Qa4 (nlc (NLt.of0 (nld Qaj _)) nl0)) (Qar (Qa4 (nlc (NLt.of0 nll) nl0)) (Qar (Qa4 (nlc (NLt.of0 nll) nl0)) Qbx)))))⟩
def Qdi (N:Nat) (p0:(List Int)) (k4:(List Int)→Option (List Int)):Nat→Int→(List Int)→Option (List Int)
  |0,_,_=>none
  |n13+1,y9,y10=>
    bif (decide (y9<(p0.length:Int))) then
     chk (decide ((y10.length+([y9]).length)*8≤140737488355328))<|
     Qdi N p0 k4 n13 (w64 (y9+1)) (y10++([y9]))
    else
     k4 (y10)
def Qgg (N:Nat) (p0:(List Int)) (p1:Int) (p2:Int):Option (List Int):=
  Qbn (fun y3=>
    chk (!y3.isEmpty)<|
    (Qcr N y3.length y3 p0 p1 p2).bind fun x7=>
    chk (decide (y3.length≤x7.length))<|
    some (x7.take y3.length)) fun k4:(List Int)→Option (List Int)=>
  Qdi N p0 k4 N 0 ([]:List Int)
def Qs2 (p0:(List Int)):AV:=.dat 1 ((p0:List Int).map Qav)
def Qui:AV:=.fn (.func 159) [] [(.ref 0 1 (0) 0),(.ref 1 1 (0) 0)]
def Q7t:AV:=.fn (.func 163) [] [(.ref 3 1 (0) 0),(.ref 2 1 (0) 0)]
def Q7s (x7:(List Int)) (y3:(List Int)):AV:=.dat 1 ((x7.take y3.length:List Int).map Qav)
def Ztt:Slot:=.gro 1 ((([]:List Int):List Int).map Qav)
theorem Qov (N:Nat) (p0:(List Int)) (p1:Int) (p2:Int) (r:(List Int)) (h:Qgg N p0 p1 p2=some r):Spec prog 158 [(Qs2 p0),Qui] [(.own 1 [[(I (p1))]]),(.own 1 [[(I (p2))]])] (.dat 1 ((r:List Int).map Qav)) [(.own 1 [[(I (p1))]]),(.own 1 [[(I (p2))]])]:=by
  refine Qal func158 rfl 2 (nle rfl) (fun X φ0 w0 hφ0 hd0=>?_)
  unfold Qgg at h
  refine Qbv<|wxz<|wxz ?_
  obtain⟨k4,hk_k4,h⟩:=jko h
  refine wjn (τ:=(List Int)) (fun t=>k4 t=some r) (fun y3=>⟨mk 21 [(2,.ref 2 1 0 0),(3,.ref 3 1 0 0),(5,(.gro 4 3 1 (y3.length)))],[(.own 1 [[I p1]]),(.own 1 [[I p2]]),(.own 1 [[(Qs2 p0)]]),(.own 1 [[Qui]]),(.gro 1 ((y3:List Int).map Qav))]⟩) (fun y3 h=>?_) ?_
  ·subst hk_k4
   obtain⟨hz5,h⟩:=cko h
   obtain⟨x7,hf6,h⟩:=bno h
   refine wx tbk [(1,rp [(.tmp 3,.ref 3 1 0 0),(.tmp 2,.ref 2 1 0 0)] Q7t),(2,⟨[fu 162,(.tmp 17,(.gro 4 3 1 (y3.length))),(.tmp 18,Q7t)],[(4,(.gro 1 ((y3:List Int).map Qav))),(3,.own 1 [[Qui]]),(2,(.own 1 [[(Qs2 p0)]])),(0,.own 1 [[I p1]]),(1,.own 1 [[I p2]])],(.tup []),[(4,(.own 1 ((x7:List Int).map Qav))),(3,.own 1 [[Qui]]),(2,(.own 1 [[(Qs2 p0)]])),(0,.own 1 [[I p1]]),(1,.own 1 [[I p2]])],false⟩)] ⟨Qe2 (fs:=[]) (cs:=[.ref 3 1 0 0,.ref 2 1 0 0]) rfl rfl rfl rfl,Q6p (bl':=[(4,(.own 1 ((y3:List Int).map Qav))),(3,.own 1 [[Qui]]),(2,(.own 1 [[(Qs2 p0)]])),(0,.own 1 [[I p1]]),(1,.own 1 [[I p2]])]) ⟨rfl,SLess.gro (Qoc hz5),rfl,SLess.rfl,rfl,SLess.rfl,rfl,SLess.rfl,rfl,SLess.rfl,tv⟩ (awk (rd':=[fu 162,(.tmp 17,(.own 4 1 (0) (y3.length))),(.tmp 18,Q7t)]) ⟨rfl,lrf,rfl,Less.gro,rfl,lrf,tv⟩ (Qau (first:=[]) (cap:=[]) (vs:=[(.own 4 1 (0) (y3.length)),Q7t]) (σr:=[(.own 1 ((y3:List Int).map Qav)),(.own 1 [[Qui]]),(.own 1 [[(Qs2 p0)]]),(.own 1 [[I p1]]),(.own 1 [[I p2]])]) (σr':=[(.own 1 ((x7:List Int).map Qav)),(.own 1 [[Qui]]),(.own 1 [[(Qs2 p0)]]),(.own 1 [[I p1]]),(.own 1 [[I p2]])]) (res':=(.tup [])) [4,3,2,0,1] rfl Zky (Qjm N y3.length y3 p0 p1 p2 _ hf6) rfl (Qbp (rnc (Qd4 rfl) (rnc (Qbj rn0 (rnc (Qa0 rfl) (rnc (Qa0 rfl) rn0))) rn0))) (slc (Qbi Qaj) (slc (Qam (rnc (Qbj rn0 (rnc (Qa0 rfl) (rnc (Qa0 rfl) rn0))) rn0)) (slc (Qam (rnc (pld Qaj) rn0)) (slc (Qam (rnc (.plain _ nll) rn0)) (slc (Qam (rnc (.plain _ nll) rn0)) Qat))))) (slc (Qbi Qaj) (slc (Qam (rnc (Qbj rn0 (rnc (Qby rfl) (rnc (Qby rfl) rn0))) rn0)) (slc (Qam (rnc (pld Qaj) rn0)) (slc (Qam (rnc (.plain _ nll) rn0)) (slc (Qam (rnc (.plain _ nll) rn0)) Qat))))) (.plain _ (NLt.tup _ nl0)) rfl rfl rfl)),tv⟩<|wxz ?_
   obtain⟨hz8,h⟩:=cko h
   refine wmr (Zkj (n:=21) (l':=[(4,(.own 4 1 (0) (y3.length)))]) [(4,(.gro 4 3 1 (y3.length)))] (by kernel_rfl) (by kernel_rfl) ⟨rfl,Less.gro,tv⟩) ?_
   refine wmr (Zgn (n:=21) (l':=[(4,(Q7s x7 y3))]) 4 [(4,(.own 4 1 (0) (y3.length)))] (by kernel_rfl) (by kernel_rfl) (by kernel_rfl) ⟨rfl,(Qof hz8),tv⟩ rfl) ?_
   refine wmr (mto (n:=21) (l':=[(4,(Q7s x7 y3))]) (own':=[(.own 1 [[I p1]]),(.own 1 [[I p2]])]) [(4,(Q7s x7 y3))] [0,1] [(.own 1 [[I p1]]),(.own 1 [[I p2]])] hφ0 (pc (rnd Qaj) pn) (qb (lc rwl ln) (qb (lc rwl ln) qn)))<|Qah ?_
   obtain rfl:=osi h
   exact⟨_,Mor.rfl,Qdh (vs:=[(Q7s x7 y3)]) ⟨rot,tv⟩ rfl (NLt.of0 (nld Qaj _)) (by kernel_rfl) (Qar (Qa4 (nlc (NLt.of0 nll) nl0)) (Qar (Qa4 (nlc (NLt.of0 nll) nl0)) Qbx))⟩
  ·skip
   refine wx tbk [(1,rp [(.tmp 7,(Qs2 p0))] (I ((p0.length:Int))))] ⟨alm (c:=Qav) (l:=p0) (aln rfl underlying27 rfl),tv⟩<|Qao ?_
   refine wmr (Mor.trans (Zki 4 3 1 5 (by kernel_rfl) (by kernel_rfl)) (mto (n:=21) (l':=[(2,.ref 2 1 0 0),(3,.ref 3 1 0 0),(5,(.gro 4 3 1 (([]:List Int).length))),(8,(I ((p0.length:Int)))),(9,I 0)]) (own':=[(.own 1 [[I p1]]),(.own 1 [[I p2]]),(.own 1 [[(Qs2 p0)]]),(.own 1 [[Qui]]),Ztt]) [(2,.ref 2 1 0 0),(3,.ref 3 1 0 0),(5,(.gro 4 3 1 (([]:List Int).length))),(8,(I ((p0.length:Int)))),(9,I 0)] [0,1,2,3,4] [(.own 1 [[I p1]]),(.own 1 [[I p2]]),(.own 1 [[(Qs2 p0)]]),(.own 1 [[Qui]]),Ztt] hφ0 (prr (prr (pc (.rn (Q5n rfl)) (pw (pw pn))))) (qb (lc rwl ln) (qb (lc rwl ln) (qb (lc (rnd Qaj) ln) (qb (lc (.rn (Qbj rn0 (rnc (rqr rfl) (rnc (rqr rfl) rn0)))) ln) (qc (Qz6 Qaj) qn))))))) ?_
   refine Qb3 (τ:=Int×(List Int)) (fun n t=>Qdi N p0 k4 n t.1 t.2=some r) (fun ⟨y9,y10⟩=>⟨mk 21 [(2,.ref 2 1 0 0),(3,.ref 3 1 0 0),(5,(.gro 4 3 1 (y10.length))),(8,(I ((p0.length:Int)))),(9,I y9)],[(.own 1 [[I p1]]),(.own 1 [[I p2]]),(.own 1 [[(Qs2 p0)]]),(.own 1 [[Qui]]),(.gro 1 ((y10:List Int).map Qav))]⟩) (fun t h=>by rw[Qdi] at h;cases h) (fun n13 ih t h=>?_) N (0,([]:List Int)) h
   obtain⟨y9,y10⟩:=t
   rw[Qdi] at h
   skip
   refine wxz<|wsq ?_
   refine bfe h (fun hc14 h=>?_) fun hc14 h=>?_
   ·refine wft hc14<|Qap<|thn<|wsq<|Qao<|wxz ?_
    obtain⟨ha15,h⟩:=cko h
    refine wx1 tbk [(2,rp [(.tmp 13,I y9)] (.dat 1 (([y9]:List Int).map Qav))),(3,⟨[(.tmp 12,(.gro 4 3 1 (y10.length))),(.tmp 14,(.dat 1 (([y9]:List Int).map Qav)))],[(4,(.gro 1 ((y10:List Int).map Qav))),(5,.unused)],(.gro 5 3 1 ((y10++([y9])).length)),[(4,.dead),(5,(.gro 1 ((y10++([y9]):List Int).map Qav)))],false⟩)] ?_ ?_
    ·exact⟨Qb7 (vs:=[I y9]) rfl underlying27 ti3 tz3 rfl (by decide) rfl (by decide) (by rfl) (by rfl) (by rfl) rfl,Q6w (c:=Qav) (a:=y10) (b:=[y9]) rfl underlying27 te3 rfl (Qoc rfl) (by rfl) ha15 (by decide),tv⟩
    exact bln<|thn<|wxz1<|thn<|arm (mto (n:=21) [(2,.ref 2 1 0 0),(3,.ref 3 1 0 0),(5,(.gro 5 3 1 ((y10++([y9])).length))),(8,(I ((p0.length:Int)))),(9,(I (w64 (y9+1))))] [0,1,2,3,5] [(.own 1 [[I p1]]),(.own 1 [[I p2]]),(.own 1 [[(Qs2 p0)]]),(.own 1 [[Qui]]),(.gro 1 ((y10++([y9]):List Int).map Qav))] hφ0 (prr (prr (pc (.rn (Q5n rfl)) (pw (pw pn))))) (qb (lc rwl ln) (qb (lc rwl ln) (qb (lc (rnd Qaj) ln) (qb (lc (.rn (Qbj rn0 (rnc (rqr rfl) (rnc (rqr rfl) rn0)))) ln) (qc (Qz6 Qaj) qn)))))) (ih (w64 (y9+1),y10++([y9])) h)
   ·exact wfn hc14<|Qbl<|Qax<|Qax<|Qbk rfl<|thn<|⟨(y10),h,(mto (n:=21) [(2,.ref 2 1 0 0),(3,.ref 3 1 0 0),(5,(.gro 4 3 1 (y10.length)))] [0,1,2,3,4] [(.own 1 [[I p1]]),(.own 1 [[I p2]]),(.own 1 [[(Qs2 p0)]]),(.own 1 [[Qui]]),(.gro 1 ((y10:List Int).map Qav))] hφ0 (prr (prr (pc (.rn (Q5n rfl)) pn))) (qb (lc rwl ln) (qb (lc rwl ln) (qb (lc (rnd Qaj) ln) (qb (lc (.rn (Qbj rn0 (rnc (rqr rfl) (rnc (rqr rfl) rn0)))) ln) (qc (Qz6 Qaj) qn))))))⟩
def Qew (N:Nat) (p1:(List Int)) (y6:Int) (k10:(List Int)→Option (List Int)) (x13:(List Int)):Nat→Int→(List Int)→Option (List Int)
  |0,_,_=>none
  |n19+1,y15,y16=>
    bif (decide (y15<(((x13).take (y6.toNat-0)).length:Int))) then
     (getI ((x13).take (y6.toNat-0)) y15).bind fun x21=>
     chk (decide (0≤x21)&&decide (x21.toNat<(p1.length:Int).toNat))<|
     (y16[x21.toNat]?).bind fun x26=>
     chk (decide (0≤x21)&&decide (x21.toNat<(p1.length:Int).toNat))<|
     (y16[x21.toNat]?).bind fun _=>
     Qew N p1 y6 k10 x13 n19 (w64 (y15+1)) (y16.set x21.toNat (w64 (x26+1)))
    else
     k10 (y16)
def Qev (N:Nat) (p0:Int) (p1:(List Int)) (y3:Int) (k8:Int×(List Int)→Option (List Int)):Nat→Int→Int→(List Int)→Option (List Int)
  |0,_,_,_=>none
  |n37+1,y31,y32,y33=>
    bif (decide (y32<(p1.length:Int))) then
     (getI p1 y32).bind fun x39=>
     chk (y3 != 0)<|
     chk (decide (0≤y32)&&decide (y32.toNat<(p1.length:Int).toNat))<|
     (y33[y32.toNat]?).bind fun _=>
     chk (decide (0≤y32)&&decide (y32.toNat<(p1.length:Int).toNat))<|
     ((y33.set y32.toNat (w64 ((w64 (p0*x39)).tdiv y3)))[y32.toNat]?).bind fun x48=>
     Qev N p0 p1 y3 k8 n37 (w64 (y31-x48)) (w64 (y32+1)) (y33.set y32.toNat (w64 ((w64 (p0*x39)).tdiv y3)))
    else
     k8 (y31,y33)
def Qeu (N:Nat) (p1:(List Int)) (k4:Int→Option (List Int)):Nat→Int→Int→Option (List Int)
  |0,_,_=>none
  |n54+1,y50,y51=>
    bif (decide (y50<(p1.length:Int))) then
     (getI p1 y50).bind fun x56=>
     Qeu N p1 k4 n54 (w64 (y50+1)) (w64 (y51+x56))
    else
     k4 (y51)
def Qj0 (N:Nat) (p0:Int) (p1:(List Int)):Option (List Int):=
  Qbn (fun y3=>
    chk (decide (0≤(p1.length:Int))&&decide (8*(p1.length:Int)≤281474976710656)&&decide ((p1.length:Int)≤9223372036854775807))<|
    Qbn (fun ⟨y6,y7⟩=>
      Qbn (fun y9=>
        chk (decide ((p1.length:Int).toNat≤y9.length))<|
        some (y9.take ((p1.length:Int).toNat))) fun k10:(List Int)→Option (List Int)=>
      (Qgg N p1 p0 y3).bind fun x13=>
      chk (decide (0≤0)&&decide (0≤y6)&&decide (y6≤(x13.length:Int)))<|
      Qew N p1 y6 k10 x13 N 0 y7) fun k8:Int×(List Int)→Option (List Int)=>
    Qev N p0 p1 y3 k8 N p0 0 (List.replicate (p1.length:Int).toNat 0)) fun k4:Int→Option (List Int)=>
  Qeu N p1 k4 N 0 0
def Qkr (p1:(List Int)):AV:=.dat 1 ((p1:List Int).map Qav)
def Ztu (p1:(List Int)):Slot:=.own 1 ((List.replicate (p1.length:Int).toNat 0:List Int).map Qav)
def Zdy (y7:(List Int)):Slot:=.own 1 ((y7:List Int).map Qav)
def Q7w (y9:(List Int)) (p1:(List Int)):AV:=.dat 1 ((y9.take ((p1.length:Int).toNat):List Int).map Qav)
def Zdz:AV:=.fn (.func 159) [] [(.ref 0 1 (0) 0),(.ref 1 1 (0) 0)]
def Zdx (x13:(List Int)):AV:=.dat 1 ((x13:List Int).map Qav)
def Qu2 (x13:(List Int)) (y6:Int):AV:=.dat 1 (((x13).take (y6.toNat-0):List Int).map Qav)
def Qyc (y16:(List Int)):Slot:=.own 1 ((y16:List Int).map Qav)
def Q7v (y33:(List Int)):Slot:=.own 1 ((y33:List Int).map Qav)
def Q7u (y33:(List Int)) (y32:Int) (p0:Int) (x39:Int) (y3:Int):Slot:=.own 1 ((y33.set y32.toNat (w64 ((w64 (p0*x39)).tdiv y3)):List Int).map Qav)
theorem Quk (N:Nat) (p0:Int) (p1:(List Int)) (r:(List Int)) (h:Qj0 N p0 p1=some r):Spec prog 153 [(I p0),(.dat 1 (p1.map Qav))] [] (.dat 1 ((r:List Int).map Qav)) []:=by
  refine Qal func153 rfl 0 (nle rfl) (fun X φ0 w0 hφ0 hd0=>?_)
  unfold Qj0 at h
  refine Qbv<|wxz<|wxz ?_
  obtain⟨k4,hk_k4,h⟩:=jko h
  refine wjn (τ:=Int) (fun t=>k4 t=some r) (fun y3=>⟨mk 68 [(1,(Qkr p1)),(2,.ref 0 1 0 0),(5,.ref 1 1 0 0)],[(.own 1 [[I p0]]),(.own 1 [[I y3]])]⟩) (fun y3 h=>?_) ?_
  ·subst hk_k4
   obtain⟨hm5,h⟩:=cko h
   refine wxd tbk [(1,rp [(.tmp 24,(Qkr p1))] (I ((p1.length:Int)))),(2,⟨[(.tmp 25,(I ((p1.length:Int)))),(.tmp 25,(I ((p1.length:Int))))],[(2,.unused)],(.own 2 1 (0) ((p1.length:Int).toNat)),[(2,(Ztu p1))],false⟩)] ⟨alm (c:=Qav) (l:=p1) (aln rfl underlying27 rfl),Qpz rfl underlying27 te3 tz3 rfl (Qx7 hm5) rfl (Qx6 hm5) (Q9x hm5) (Q5q Qav rfl),tv⟩ ?_
   obtain⟨k8,hk_k8,h⟩:=jko h
   refine wjn (τ:=Int×(List Int)) (fun t=>k8 t=some r) (fun ⟨y6,y7⟩=>⟨mk 68 [(1,(Qkr p1)),(2,.ref 0 1 0 0),(5,.ref 1 1 0 0),(8,(.own 2 1 (0) ((p1.length:Int).toNat))),(9,I y6)],[(.own 1 [[I p0]]),(.own 1 [[I y3]]),(Zdy y7)]⟩) (fun t h=>?_) ?_
   ·subst hk_k8
    obtain⟨y6,y7⟩:=t
    obtain⟨k10,hk_k10,h⟩:=jko h
    refine wjn (τ:=(List Int)) (fun t=>k10 t=some r) (fun y9=>⟨mk 68 [(8,(.own 0 1 (0) ((p1.length:Int).toNat)))],[(.own 1 ((y9:List Int).map Qav))]⟩) (fun y9 h=>?_) ?_
    ·subst hk_k10
     refine wxz ?_
     obtain⟨hz11,h⟩:=cko h
     refine wmr (Zgn (n:=68) (l':=[(4,(Q7w y9 p1))]) 0 [(4,(.own 0 1 (0) ((p1.length:Int).toNat)))] (by kernel_rfl) (by kernel_rfl) (by kernel_rfl) ⟨rfl,(Qof hz11),tv⟩ rfl) ?_
     refine wmr (mto (n:=68) (l':=[(4,(Q7w y9 p1))]) (own':=[]) [(4,(Q7w y9 p1))] [] [] hφ0 (pc (rnd Qaj) pn) qn)<|Qah ?_
     obtain rfl:=osi h
     exact⟨_,Mor.rfl,Qdh (vs:=[(Q7w y9 p1)]) ⟨rot,tv⟩ rfl (nld Qaj _) (by kernel_rfl) Qbx⟩
    ·skip
     obtain⟨x13,hf12,h⟩:=bno h
     obtain⟨hs14,h⟩:=cko h
     refine wx tbk [(1,rp [(.tmp 2,.ref 0 1 0 0),(.tmp 5,.ref 1 1 0 0)] Zdz),(2,⟨[fu 158,(.tmp 50,(Qkr p1)),(.tmp 51,Zdz)],[(0,.own 1 [[I p0]]),(1,.own 1 [[I y3]])],(Zdx x13),[(0,.own 1 [[I p0]]),(1,.own 1 [[I y3]])],false⟩),(4,rp [(.tmp 52,(Zdx x13)),(.tmp 53,I y6)] (Qu2 x13 y6)),(5,rp [(.tmp 54,(Qu2 x13 y6))] (I ((((x13).take (y6.toNat-0)).length:Int))))] ⟨Qe2 (fs:=[]) (cs:=[.ref 0 1 0 0,.ref 1 1 0 0]) rfl rfl rfl rfl,Qau (first:=[]) (cap:=[]) (vs:=[(Qkr p1),Zdz]) (σr:=[(.own 1 [[I p0]]),(.own 1 [[I y3]])]) (σr':=[(.own 1 [[I p0]]),(.own 1 [[I y3]])]) (res':=(Zdx x13)) [0,1] rfl Zk0 (Qov N p1 p0 y3 _ hf12) rfl (Qbp (rnc (pld Qaj) (rnc (Qbj rn0 (rnc (Qa0 rfl) (rnc (Qa0 rfl) rn0))) rn0))) (slc (Qam (rnc (.plain _ nll) rn0)) (slc (Qam (rnc (.plain _ nll) rn0)) Qat)) (slc (Qam (rnc (.plain _ nll) rn0)) (slc (Qam (rnc (.plain _ nll) rn0)) Qat)) (pld Qaj) rfl rfl rfl,Qjx (k:=.i64) (k':=.i64) (lo:=none) (hi:=some (.tmp 53)) (l:=0) (hh:=y6) rfl underlying27 ti3 rfl (fun _=>rfl) (fun e=>nomatch e) (Qx7 hs14) (Qx6 hs14) (Zb3 (Qav) hs14) (Zwj Qav),alm (c:=Qav) (l:=(x13).take (y6.toNat-0)) (aln rfl underlying27 rfl),tv⟩<|Qao ?_
     refine wmr (mto (n:=68) (l':=[(8,(.own 0 1 (0) ((p1.length:Int).toNat))),(54,(Qu2 x13 y6)),(55,(I ((((x13).take (y6.toNat-0)).length:Int)))),(56,I 0)]) (own':=[(Zdy y7)]) [(8,(.own 2 1 (0) ((p1.length:Int).toNat))),(54,(Qu2 x13 y6)),(55,(I ((((x13).take (y6.toNat-0)).length:Int)))),(56,I 0)] [2] [(Zdy y7)] hφ0 (pc (.rn (Qa5 rfl)) (pc (rnd Qaj) (pw (pw pn)))) (qc (spr Qaj) qn)) ?_
     refine Qb3 (τ:=Int×(List Int)) (fun n t=>Qew N p1 y6 k10 x13 n t.1 t.2=some r) (fun ⟨y15,y16⟩=>⟨mk 68 [(8,(.own 0 1 (0) ((p1.length:Int).toNat))),(54,(Qu2 x13 y6)),(55,(I ((((x13).take (y6.toNat-0)).length:Int)))),(56,I y15)],[(Qyc y16)]⟩) (fun t h=>by rw[Qew] at h;cases h) (fun n19 ih t h=>?_) N (0,y7) h
     obtain⟨y15,y16⟩:=t
     rw[Qew] at h
     skip
     refine wxz<|wsq ?_
     refine bfe h (fun hc20 h=>?_) fun hc20 h=>?_
     ·refine wft hc20<|Qap<|thn<|wsq<|Qao ?_
      obtain⟨x21,hg22,h⟩:=bno h
      obtain⟨hi23,hj24⟩:=gsm hg22
      refine wx tbk [(0,rp [(.tmp 54,(Qu2 x13 y6)),(.tmp 56,I y15)] (.dptr (Qav (x21)) 0))] ⟨aid rfl underlying27 ti3 rfl rfl hi23 (mgt Qav hj24) rfl,tv⟩ ?_
      obtain⟨hi25,h⟩:=cko h
      obtain⟨hi25a,hi25b⟩:=Qcy hi25
      obtain⟨x26,hg27,h⟩:=bno h
      obtain⟨hi28,h⟩:=cko h
      obtain⟨hi28a,hi28b⟩:=Qcy hi28
      obtain⟨x29,hg30,h⟩:=bno h
      refine wx1 tbk [(2,rb [(.tmp 60,(.own 0 1 (0) ((p1.length:Int).toNat))),(.tmp 61,I x21)] [(0,(Qyc y16))] (.ref 0 1 (x21.toNat) 0)),(3,rb [(.tmp 62,(.ref 0 1 (x21.toNat) 0))] [(0,(Qyc y16))] (I x26)),(5,rb [(.tmp 60,(.own 0 1 (0) ((p1.length:Int).toNat))),(.tmp 61,I x21)] [(0,(Qyc y16))] (.ref 0 1 (x21.toNat) 0)),(6,⟨[(.tmp 65,(.ref 0 1 (x21.toNat) 0)),(.tmp 64,(I (w64 (x26+1))))],[(0,(Qyc y16))],.any,[(0,(.own 1 ((y16.set x21.toNat (w64 (x26+1)):List Int).map Qav)))],false⟩)] ⟨aio rfl underlying27 ti3 (odt hi25a) (odt hi25b) (Nat.zero_add _),ald rfl ti3 (by decide) (mgt Qav hg27) (nle rfl) rfl,aio rfl underlying27 ti3 (odt hi28a) (odt hi28b) (Nat.zero_add _),ast rfl ti3 (by rfl) (mgt Qav hg30) (nle rfl) (Qeq Qav rfl),tv⟩<|bln<|thn<|wxz1<|thn ?_
      exact arm (mto (n:=68) [(8,(.own 0 1 (0) ((p1.length:Int).toNat))),(54,(Qu2 x13 y6)),(55,(I ((((x13).take (y6.toNat-0)).length:Int)))),(56,(I (w64 (y15+1))))] [0] [(.own 1 ((y16.set x21.toNat (w64 (x26+1)):List Int).map Qav))] hφ0 (pc (.rn (Qa5 rfl)) (pc (rnd Qaj) (pw (pw pn)))) (qc (spr Qaj) qn)) (ih (w64 (y15+1),y16.set x21.toNat (w64 (x26+1))) h)
     ·exact wfn hc20<|Qbl<|Qax<|Qax<|Qbk rfl<|thn<|⟨(y16),h,(mto (n:=68) [(8,(.own 0 1 (0) ((p1.length:Int).toNat)))] [0] [(Qyc y16)] hφ0 (pc (.rn (Qa5 rfl)) pn) (qc (spr Qaj) qn))⟩
   ·skip
    refine wx tbk [(1,rp [(.tmp 28,(Qkr p1))] (I ((p1.length:Int))))] ⟨alm (c:=Qav) (l:=p1) (aln rfl underlying27 rfl),tv⟩<|Qao ?_
    refine wmr (mto (n:=68) (l':=[(1,(Qkr p1)),(2,.ref 0 1 0 0),(5,.ref 1 1 0 0),(8,(.own 2 1 (0) ((p1.length:Int).toNat))),(9,I p0),(28,(Qkr p1)),(29,(I ((p1.length:Int)))),(30,I 0)]) (own':=[(.own 1 [[I p0]]),(.own 1 [[I y3]]),(.own 1 (((List.replicate (p1.length:Int).toNat 0):List Int).map Qav))]) [(1,(Qkr p1)),(2,.ref 0 1 0 0),(5,.ref 1 1 0 0),(8,(.own 2 1 (0) ((p1.length:Int).toNat))),(9,I p0),(28,(Qkr p1)),(29,(I ((p1.length:Int)))),(30,I 0)] [0,1,2] [(.own 1 [[I p0]]),(.own 1 [[I y3]]),(Ztu p1)] hφ0 (pc (rnd Qaj) (prr (prr (pc (.rn (Qa5 rfl)) (pw (pc (rnd Qaj) (pw (pw pn)))))))) (qb (lc rwl ln) (qb (lc rwl ln) (qc (spr Qaj) qn)))) ?_
    refine Qb3 (τ:=Int×Int×(List Int)) (fun n t=>Qev N p0 p1 y3 k8 n t.1 t.2.1 t.2.2=some r) (fun ⟨y31,y32,y33⟩=>⟨mk 68 [(1,(Qkr p1)),(2,.ref 0 1 0 0),(5,.ref 1 1 0 0),(8,(.own 2 1 (0) ((p1.length:Int).toNat))),(9,I y31),(28,(Qkr p1)),(29,(I ((p1.length:Int)))),(30,I y32)],[(.own 1 [[I p0]]),(.own 1 [[I y3]]),(Q7v y33)]⟩) (fun t h=>by rw[Qev] at h;cases h) (fun n37 ih t h=>?_) N (p0,0,List.replicate (p1.length:Int).toNat 0) h
    obtain⟨y31,y32,y33⟩:=t
    rw[Qev] at h
    skip
    refine wxz<|wsq ?_
    refine bfe h (fun hc38 h=>?_) fun hc38 h=>?_
    ·refine wft hc38<|Qap<|thn<|wsq<|Qao ?_
     obtain⟨x39,hg40,h⟩:=bno h
     obtain⟨hi41,hj42⟩:=gsm hg40
     refine wx tbk [(1,rp [(.tmp 28,(Qkr p1)),(.tmp 30,I y32)] (.dptr (Qav (x39)) 0))] ⟨aid rfl underlying27 ti3 rfl rfl hi41 (mgt Qav hj42) rfl,tv⟩ ?_
     obtain⟨hz43,h⟩:=cko h
     obtain⟨hi44,h⟩:=cko h
     obtain⟨hi44a,hi44b⟩:=Qcy hi44
     obtain⟨x45,hg46,h⟩:=bno h
     refine wx tbk [(6,rp [(.tmp 39,(I (w64 (p0*x39)))),(.tmp 40,I y3)] (I (w64 ((w64 (p0*x39)).tdiv y3)))),(7,rb [(.tmp 35,(.own 2 1 (0) ((p1.length:Int).toNat))),(.tmp 36,I y32)] [(2,(Q7v y33))] (.ref 2 1 (y32.toNat) 0)),(8,⟨[(.tmp 42,(.ref 2 1 (y32.toNat) 0)),(.tmp 41,(I (w64 ((w64 (p0*x39)).tdiv y3))))],[(2,(Q7v y33))],.any,[(2,(Q7u y33 y32 p0 x39 y3))],false⟩)] ⟨Qsr rfl (Qxg hz43),aio rfl underlying27 ti3 (odt hi44a) (odt hi44b) (Nat.zero_add _),ast rfl ti3 (by rfl) (mgt Qav hg46) (nle rfl) (Qeq Qav rfl),tv⟩ ?_
     obtain⟨hi47,h⟩:=cko h
     obtain⟨hi47a,hi47b⟩:=Qcy hi47
     obtain⟨x48,hg49,h⟩:=bno h
     refine wx1 tbk [(3,rb [(.tmp 44,(.own 2 1 (0) ((p1.length:Int).toNat))),(.tmp 45,I y32)] [(2,(Q7u y33 y32 p0 x39 y3))] (.ref 2 1 (y32.toNat) 0)),(4,rb [(.tmp 46,(.ref 2 1 (y32.toNat) 0))] [(2,(Q7u y33 y32 p0 x39 y3))] (I x48))] ⟨aio rfl underlying27 ti3 (odt hi47a) (odt hi47b) (Nat.zero_add _),ald rfl ti3 (by decide) (mgt Qav hg49) (nle rfl) rfl,tv⟩<|bln<|thn<|wxz1<|thn ?_
     exact arm (mto (n:=68) [(1,(Qkr p1)),(2,.ref 0 1 0 0),(5,.ref 1 1 0 0),(8,(.own 2 1 (0) ((p1.length:Int).toNat))),(9,(I (w64 (y31-x48)))),(28,(Qkr p1)),(29,(I ((p1.length:Int)))),(30,(I (w64 (y32+1))))] [0,1,2] [(.own 1 [[I p0]]),(.own 1 [[I y3]]),(Q7u y33 y32 p0 x39 y3)] hφ0 (pc (rnd Qaj) (prr (prr (pc (.rn (Qa5 rfl)) (pw (pc (rnd Qaj) (pw (pw pn)))))))) (qb (lc rwl ln) (qb (lc rwl ln) (qc (spr Qaj) qn)))) (ih (w64 (y31-x48),w64 (y32+1),y33.set y32.toNat (w64 ((w64 (p0*x39)).tdiv y3))) h)
    ·exact wfn hc38<|Qbl<|Qax<|Qax<|Qbk rfl<|thn<|⟨(y31,y33),h,(mto (n:=68) [(1,(Qkr p1)),(2,.ref 0 1 0 0),(5,.ref 1 1 0 0),(8,(.own 2 1 (0) ((p1.length:Int).toNat))),(9,I y31)] [0,1,2] [(.own 1 [[I p0]]),(.own 1 [[I y3]]),(Q7v y33)] hφ0 (pc (rnd Qaj) (prr (prr (pc (.rn (Qa5 rfl)) (pw pn))))) (qb (lc rwl ln) (qb (lc rwl ln) (qc (spr Qaj) qn))))⟩
  ·skip
   refine wx tbk [(1,rp [(.tmp 14,(Qkr p1))] (I ((p1.length:Int))))] ⟨alm (c:=Qav) (l:=p1) (aln rfl underlying27 rfl),tv⟩<|Qao ?_
   refine wmr (mto (n:=68) (l':=[(1,(Qkr p1)),(2,.ref 0 1 0 0),(5,.ref 1 1 0 0),(14,(Qkr p1)),(15,(I ((p1.length:Int)))),(16,I 0)]) (own':=[(.own 1 [[I p0]]),(.own 1 [[I 0]])]) [(1,(Qkr p1)),(2,.ref 0 1 0 0),(5,.ref 1 1 0 0),(14,(Qkr p1)),(15,(I ((p1.length:Int)))),(16,I 0)] [0,1] [(.own 1 [[I p0]]),(.own 1 [[I 0]])] hφ0 (pc (rnd Qaj) (prr (prr (pc (rnd Qaj) (pw (pw pn)))))) (qb (lc rwl ln) (qb (lc rwl ln) qn))) ?_
   refine Qb3 (τ:=Int×Int) (fun n t=>Qeu N p1 k4 n t.1 t.2=some r) (fun ⟨y50,y51⟩=>⟨mk 68 [(1,(Qkr p1)),(2,.ref 0 1 0 0),(5,.ref 1 1 0 0),(14,(Qkr p1)),(15,(I ((p1.length:Int)))),(16,I y50)],[(.own 1 [[I p0]]),(.own 1 [[I y51]])]⟩) (fun t h=>by rw[Qeu] at h;cases h) (fun n54 ih t h=>?_) N (0,0) h
   obtain⟨y50,y51⟩:=t
   rw[Qeu] at h
   skip
   refine wxz<|wsq ?_
   refine bfe h (fun hc55 h=>?_) fun hc55 h=>?_
   ·refine wft hc55<|Qap<|thn<|wsq<|Qao ?_
    obtain⟨x56,hg57,h⟩:=bno h
    obtain⟨hi58,hj59⟩:=gsm hg57
    exact wx tbk [(0,rp [(.tmp 14,(Qkr p1)),(.tmp 16,I y50)] (.dptr (Qav (x56)) 0))] ⟨aid rfl underlying27 ti3 rfl rfl hi58 (mgt Qav hj59) rfl,tv⟩<|wxz1<|bln<|thn<|wxz1<|thn<|arm (mto (n:=68) [(1,(Qkr p1)),(2,.ref 0 1 0 0),(5,.ref 1 1 0 0),(14,(Qkr p1)),(15,(I ((p1.length:Int)))),(16,(I (w64 (y50+1))))] [0,1] [(.own 1 [[I p0]]),(.own 1 [[(I (w64 (y51+x56)))]])] hφ0 (pc (rnd Qaj) (prr (prr (pc (rnd Qaj) (pw (pw pn)))))) (qb (lc rwl ln) (qb (lc rwl ln) qn))) (ih (w64 (y50+1),w64 (y51+x56)) h)
   ·exact wfn hc55<|Qbl<|Qax<|Qax<|Qbk rfl<|thn<|⟨(y51),h,(mto (n:=68) [(1,(Qkr p1)),(2,.ref 0 1 0 0),(5,.ref 1 1 0 0)] [0,1] [(.own 1 [[I p0]]),(.own 1 [[I y51]])] hφ0 (pc (rnd Qaj) (prr (prr pn))) (qb (lc rwl ln) (qb (lc rwl ln) qn)))⟩
def Qf4 (_N:Nat) (p0:Int) (p1:Int) (p2:Int) (_p3:Int) (_p4:Int) (_p5:Int):Option Int:=
  chk ((if p2>1 then p2 else 1) != 0)<|
  (some (w64 ((w64 (p0*p1)).tdiv (if p2>1 then p2 else 1)))).bind fun x2=>
  some x2
theorem Qjl (N:Nat) (p0:Int) (p1:Int) (p2:Int) (p3:Int) (p4:Int) (p5:Int) (r:Int) (h:Qf4 N p0 p1 p2 p3 p4 p5=some r):Spec prog 154 [(I (p0)),(.dptr [(I (p1))] 0),(.dptr [(I (p2)),(I (p3)),(I (p4)),(I (p5))] 0)] [] (I (r)) []:=by
  refine Qal func154 rfl 0 (nle rfl) (fun X φ0 w0 hφ0 hd0=>?_)
  unfold Qf4 at h
  refine wxz ?_
  obtain⟨hz1,h⟩:=cko h
  obtain⟨x2,hl3,h⟩:=bno h
  refine wx tbk [(5,rp [ci 1,(.tmp 9,I p2)] (I ((if p2>1 then p2 else 1)))),(6,rp [(.tmp 7,(I (w64 (p0*p1)))),(.tmp 10,(I ((if p2>1 then p2 else 1))))] (I (w64 ((w64 (p0*p1)).tdiv (if p2>1 then p2 else 1))))),(7,rp [(.tmp 11,(I (w64 ((w64 (p0*p1)).tdiv (if p2>1 then p2 else 1)))))] (I x2))] ⟨Qlw rfl,Qsr rfl (Qxg hz1),Qmv hl3 (aas rfl),tv⟩<|Qah ?_
  obtain rfl:=osi h
  exact fend ⟨[I x2],⟨rot,tv⟩,rfl⟩ nll
def Qdd (_N:Nat) (_p0:Int) (_p1:Int) (_p2:Int) (_p3:Int):Option Unit:=
  some ()
def Q1h (p0:Int) (p1:Int) (p2:Int) (p3:Int):Slot:=.own 4 [[(I (p0)),(I (p1)),(I (p2)),(I (p3))]]
def Zpf:AV:=.agg [(.ref 0 4 (0) 0),(.ref 0 4 (0) 1),(.ref 0 4 (0) 2),(.ref 0 4 (0) 3)]
def Zpe:Slot:=.own 4 [[(.ref 0 4 (0) 0),(.ref 0 4 (0) 1),(.ref 0 4 (0) 2),(.ref 0 4 (0) 3)]]
theorem Qec (N:Nat) (p0:Int) (p1:Int) (p2:Int) (p3:Int) (r:Unit) (h:Qdd N p0 p1 p2 p3=some r):Spec prog 161 [(.ref 0 4 (0) 0)] [(Q1h p0 p1 p2 p3)] Zpf [(Q1h p0 p1 p2 p3),Zpe]:=by
  refine Qal func161 rfl 2 (nle rfl) (fun X φ0 w0 hφ0 hd0=>?_)
  unfold Qdd at h
  refine Qbv<|wxz ?_
  refine wxd tbk [(1,rb [(.tmp 3,.ref 0 4 0 0)] [(0,(Q1h p0 p1 p2 p3))] (.ref 0 4 0 0)),(4,rb [(.tmp 6,.ref 0 4 0 0)] [(0,(Q1h p0 p1 p2 p3))] (.ref 0 4 0 0)),(7,rb [(.tmp 9,.ref 0 4 0 0)] [(0,(Q1h p0 p1 p2 p3))] (.ref 0 4 0 0)),(10,rb [(.tmp 12,.ref 0 4 0 0)] [(0,(Q1h p0 p1 p2 p3))] (.ref 0 4 0 0)),(12,rp [(.tmp 5,.ref 0 4 0 0),(.tmp 8,.ref 0 4 0 1),(.tmp 11,.ref 0 4 0 2),(.tmp 14,.ref 0 4 0 3)] Zpf)] ⟨Qbq rfl,Qbq rfl,Qbq rfl,Qbq rfl,Qm7 (vs:=[.ref 0 4 0 0,.ref 0 4 0 1,.ref 0 4 0 2,.ref 0 4 0 3]) rfl underlying235 Qxy Zug rfl (by rfl) rfl,tv⟩ ?_
  refine wmr (mto (n:=16) (l':=[(2,.ref 1 4 0 0)]) (own':=[(Q1h p0 p1 p2 p3),Zpe]) [(2,.ref 1 4 0 0)] [0,1] [(Q1h p0 p1 p2 p3),Zpe] hφ0 (prr pn) (qb (lcc (lcc ln)) (qb (lc (.rn (rqr rfl)) (lc (.rn (rqr rfl)) (lc (.rn (rqr rfl)) (lc (.rn (rqr rfl)) ln)))) qn)))<|Qah ?_
  obtain rfl:=osi h
  exact⟨_,Mor.rfl,Qdh (vs:=[Zpf]) ⟨Qb2 (n:=1) (m:=4) (j:=0) (i:=0) (xs:=[[.ref 0 4 0 0,.ref 0 4 0 1,.ref 0 4 0 2,.ref 0 4 0 3]]) (by kernel_rfl) (by kernel_rfl) Zun (by decide) rfl (nle rfl) rfl,tv⟩ rfl (NLt.agg _ (nlc (NLt.ref _ _ _ _ (by decide)) (nlc (NLt.ref _ _ _ _ (by decide)) (nlc (NLt.ref _ _ _ _ (by decide)) (nlc (NLt.ref _ _ _ _ (by decide)) nl0))))) (by kernel_rfl) (Qar (Qa4 (nlc (NLt.of0 nll) (nlc (NLt.of0 nll) (nlc (NLt.of0 nll) (nlc (NLt.of0 nll) nl0))))) (Qar (Qa4 (nlc (NLt.ref _ _ _ _ (by decide)) (nlc (NLt.ref _ _ _ _ (by decide)) (nlc (NLt.ref _ _ _ _ (by decide)) (nlc (NLt.ref _ _ _ _ (by decide)) nl0))))) Qbx))⟩
def Qk0 (N:Nat) (p0:Qaa) (p1:Int) (p2:Int) (p3:Int) (p4:Int):Option Unit:=
  (Qdd N p0.Mass p0.Heat p0.Silica p0.Gas).bind fun _=>
  (Qdd N p1 p2 p3 p4).bind fun _=>
  (Qdd N (w64 (p1+p0.Mass)) p2 p3 p4).bind fun _=>
  (Qdd N (w64 (p1+p0.Mass)) (w64 (p2+p0.Heat)) p3 p4).bind fun _=>
  (Qdd N (w64 (p1+p0.Mass)) (w64 (p2+p0.Heat)) (w64 (p3+p0.Silica)) p4).bind fun _=>
  some ()
def Q4v (p1:Int) (p2:Int) (p3:Int) (p4:Int):Slot:=.own 4 [[(I (p1)),(I (p2)),(I (p3)),(I (p4))]]
def Zdu (p1:Int) (p0:Qaa) (p2:Int) (p3:Int) (p4:Int):Slot:=.own 4 [[(I (w64 (p1+p0.Mass))),(I (w64 (p2+p0.Heat))),(I (w64 (p3+p0.Silica))),(I (w64 (p4+p0.Gas)))]]
def Q1j (p0:Qaa):Slot:=.own 4 [[(I (p0.Mass)),(I (p0.Heat)),(I (p0.Silica)),(I (p0.Gas))]]
def Zac:AV:=.agg [(.ref 1 4 (0) 0),(.ref 1 4 (0) 1),(.ref 1 4 (0) 2),(.ref 1 4 (0) 3)]
def Ztr:Slot:=.own 4 [[(.ref 1 4 (0) 0),(.ref 1 4 (0) 1),(.ref 1 4 (0) 2),(.ref 1 4 (0) 3)]]
def Qug:AV:=.agg [(.ref 0 4 (0) 0),(.ref 0 4 (0) 1),(.ref 0 4 (0) 2),(.ref 0 4 (0) 3)]
def Q1i:Slot:=.own 4 [[(.ref 0 4 (0) 0),(.ref 0 4 (0) 1),(.ref 0 4 (0) 2),(.ref 0 4 (0) 3)]]
def Zab (p1:Int) (p0:Qaa) (p2:Int) (p3:Int) (p4:Int):Slot:=.own 4 [[(I (w64 (p1+p0.Mass))),(I (p2)),(I (p3)),(I (p4))]]
def Zaa (p1:Int) (p0:Qaa) (p2:Int) (p3:Int) (p4:Int):Slot:=.own 4 [[(I (w64 (p1+p0.Mass))),(I (w64 (p2+p0.Heat))),(I (p3)),(I (p4))]]
def Q99 (p1:Int) (p0:Qaa) (p2:Int) (p3:Int) (p4:Int):Slot:=.own 4 [[(I (w64 (p1+p0.Mass))),(I (w64 (p2+p0.Heat))),(I (w64 (p3+p0.Silica))),(I (p4))]]
theorem Qs6 (N:Nat) (p0:Qaa) (p1:Int) (p2:Int) (p3:Int) (p4:Int) (r:Unit) (h:Qk0 N p0 p1 p2 p3 p4=some r):Spec prog 160 [(.agg [(I (p0.Mass)),(I (p0.Heat)),(I (p0.Silica)),(I (p0.Gas))]),(.ref 0 4 (0) 0)] [(Q4v p1 p2 p3 p4)] (.tup []) [(Zdu p1 p0 p2 p3 p4)]:=by
  refine Qal func160 rfl 1 (nle rfl) (fun X φ0 w0 hφ0 hd0=>?_)
  unfold Qk0 at h
  refine Qbv<|wxz ?_
  obtain⟨x2,hf1,h⟩:=bno h
  refine wx tbk [(0,⟨[fu 161,(.tmp 2,.ref 1 4 0 0)],[(1,(Q1j p0)),(2,.unused)],Zac,[(1,(Q1j p0)),(2,Ztr)],false⟩)] ⟨Qau (first:=[]) (cap:=[]) (vs:=[.ref 1 4 0 0]) (σr:=[(Q1j p0)]) (σr':=[(Q1j p0),Ztr]) (res':=Zac) [1,2] rfl Qsh (Qec N p0.Mass p0.Heat p0.Silica p0.Gas _ hf1) rfl (Qbp (rnc (Qa0 rfl) rn0)) (slc (Qam (rncc (rncc rn0))) Qat) (slc (Qam (rncc (rncc rn0))) (slc (Qam (rnc (Qby rfl) (rnc (Qby rfl) (rnc (Qby rfl) (rnc (Qby rfl) rn0))))) Qat)) (Qbp (rnc (Qby rfl) (rnc (Qby rfl) (rnc (Qby rfl) (rnc (Qby rfl) rn0))))) rfl rfl rfl,tv⟩<|Qao<|Q08 17<|Que<|wxz<|wsq<|wtr<|Qap<|thn<|wsq ?_
  refine Qao<|wx tbk [(1,rp [(.tmp 5,Zac),(.tmp 6,I 0)] (.ref 1 4 0 0))] ⟨Qiy rfl underlying235 Qxy (by decide) (by decide) (nle rfl) (by decide) rfl,tv⟩ ?_
  obtain⟨x4,hf3,h⟩:=bno h
  refine wy1 tbk [(0,⟨[fu 161,(.tmp 1,.ref 0 4 0 0)],[(0,(Q4v p1 p2 p3 p4)),(3,.unused)],Qug,[(0,(Q4v p1 p2 p3 p4)),(3,Q1i)],false⟩),(2,rp [(.tmp 10,Qug),(.tmp 11,I 0)] (.ref 0 4 0 0)),(3,rb [(.tmp 12,.ref 0 4 0 0)] [(0,(Q4v p1 p2 p3 p4))] (.ref 0 4 0 0)),(6,rb [(.tmp 15,.ref 1 4 0 0)] [(1,(Q1j p0))] (.ref 1 4 0 0)),(9,rb [(.tmp 12,.ref 0 4 0 0)] [(0,(Q4v p1 p2 p3 p4))] (.ref 0 4 0 0))] ⟨Qau (first:=[]) (cap:=[]) (vs:=[.ref 0 4 0 0]) (σr:=[(Q4v p1 p2 p3 p4)]) (σr':=[(Q4v p1 p2 p3 p4),Q1i]) (res':=Qug) [0,3] rfl Qsh (Qec N p1 p2 p3 p4 _ hf3) rfl (Qbp (rnc (Qa0 rfl) rn0)) (slc (Qam (rncc (rncc rn0))) Qat) (slc (Qam (rncc (rncc rn0))) (slc (Qam (rnc (Qby rfl) (rnc (Qby rfl) (rnc (Qby rfl) (rnc (Qby rfl) rn0))))) Qat)) (Qbp (rnc (Qby rfl) (rnc (Qby rfl) (rnc (Qby rfl) (rnc (Qby rfl) rn0))))) rfl rfl rfl,Qiy rfl underlying235 Qxy (by decide) (by decide) (nle rfl) (by decide) rfl,Qbq rfl,Qbq rfl,Qbq rfl,tv⟩<|bln<|thn<|wxz1<|thn<|Que<|wxz<|wsq<|wtr<|Qap ?_
  refine thn<|wsq<|Qao ?_
  refine wx tbk [(1,rp [(.tmp 5,Zac),(.tmp 6,I 1)] (.ref 1 4 0 1))] ⟨Qiy rfl underlying235 Qxy (by decide) (by decide) (nle rfl) (by decide) rfl,tv⟩ ?_
  obtain⟨x6,hf5,h⟩:=bno h
  refine wy1 tbk [(0,⟨[fu 161,(.tmp 1,.ref 0 4 0 0)],[(0,(Zab p1 p0 p2 p3 p4)),(4,.unused)],Qug,[(0,(Zab p1 p0 p2 p3 p4)),(4,Q1i)],false⟩),(2,rp [(.tmp 10,Qug),(.tmp 11,I 1)] (.ref 0 4 0 1)),(3,rb [(.tmp 12,.ref 0 4 0 1)] [(0,(Zab p1 p0 p2 p3 p4))] (.ref 0 4 0 1)),(6,rb [(.tmp 15,.ref 1 4 0 1)] [(1,(Q1j p0))] (.ref 1 4 0 1)),(9,rb [(.tmp 12,.ref 0 4 0 1)] [(0,(Zab p1 p0 p2 p3 p4))] (.ref 0 4 0 1))] ⟨Qau (first:=[]) (cap:=[]) (vs:=[.ref 0 4 0 0]) (σr:=[(Zab p1 p0 p2 p3 p4)]) (σr':=[(Zab p1 p0 p2 p3 p4),Q1i]) (res':=Qug) [0,4] rfl Qsh (Qec N (w64 (p1+p0.Mass)) p2 p3 p4 _ hf5) rfl (Qbp (rnc (Qa0 rfl) rn0)) (slc (Qam (rncc (rncc rn0))) Qat) (slc (Qam (rncc (rncc rn0))) (slc (Qam (rnc (Qby rfl) (rnc (Qby rfl) (rnc (Qby rfl) (rnc (Qby rfl) rn0))))) Qat)) (Qbp (rnc (Qby rfl) (rnc (Qby rfl) (rnc (Qby rfl) (rnc (Qby rfl) rn0))))) rfl rfl rfl,Qiy rfl underlying235 Qxy (by decide) (by decide) (nle rfl) (by decide) rfl,Qbq rfl,Qbq rfl,Qbq rfl,tv⟩<|bln<|thn<|wxz1<|thn<|Que<|wxz<|wsq<|wtr<|Qap ?_
  refine thn<|wsq<|Qao ?_
  refine wx tbk [(1,rp [(.tmp 5,Zac),(.tmp 6,I 2)] (.ref 1 4 0 2))] ⟨Qiy rfl underlying235 Qxy (by decide) (by decide) (nle rfl) (by decide) rfl,tv⟩ ?_
  obtain⟨x8,hf7,h⟩:=bno h
  refine wy1 tbk [(0,⟨[fu 161,(.tmp 1,.ref 0 4 0 0)],[(0,(Zaa p1 p0 p2 p3 p4)),(5,.unused)],Qug,[(0,(Zaa p1 p0 p2 p3 p4)),(5,Q1i)],false⟩),(2,rp [(.tmp 10,Qug),(.tmp 11,I 2)] (.ref 0 4 0 2)),(3,rb [(.tmp 12,.ref 0 4 0 2)] [(0,(Zaa p1 p0 p2 p3 p4))] (.ref 0 4 0 2)),(6,rb [(.tmp 15,.ref 1 4 0 2)] [(1,(Q1j p0))] (.ref 1 4 0 2)),(9,rb [(.tmp 12,.ref 0 4 0 2)] [(0,(Zaa p1 p0 p2 p3 p4))] (.ref 0 4 0 2))] ⟨Qau (first:=[]) (cap:=[]) (vs:=[.ref 0 4 0 0]) (σr:=[(Zaa p1 p0 p2 p3 p4)]) (σr':=[(Zaa p1 p0 p2 p3 p4),Q1i]) (res':=Qug) [0,5] rfl Qsh (Qec N (w64 (p1+p0.Mass)) (w64 (p2+p0.Heat)) p3 p4 _ hf7) rfl (Qbp (rnc (Qa0 rfl) rn0)) (slc (Qam (rncc (rncc rn0))) Qat) (slc (Qam (rncc (rncc rn0))) (slc (Qam (rnc (Qby rfl) (rnc (Qby rfl) (rnc (Qby rfl) (rnc (Qby rfl) rn0))))) Qat)) (Qbp (rnc (Qby rfl) (rnc (Qby rfl) (rnc (Qby rfl) (rnc (Qby rfl) rn0))))) rfl rfl rfl,Qiy rfl underlying235 Qxy (by decide) (by decide) (nle rfl) (by decide) rfl,Qbq rfl,Qbq rfl,Qbq rfl,tv⟩<|bln<|thn<|wxz1<|thn<|Que<|wxz<|wsq<|wtr<|Qap ?_
  refine thn<|wsq<|Qao ?_
  refine wx tbk [(1,rp [(.tmp 5,Zac),(.tmp 6,I 3)] (.ref 1 4 0 3))] ⟨Qiy rfl underlying235 Qxy (by decide) (by decide) (nle rfl) (by decide) rfl,tv⟩ ?_
  obtain⟨x10,hf9,h⟩:=bno h
  refine wy1 tbk [(0,⟨[fu 161,(.tmp 1,.ref 0 4 0 0)],[(0,(Q99 p1 p0 p2 p3 p4)),(6,.unused)],Qug,[(0,(Q99 p1 p0 p2 p3 p4)),(6,Q1i)],false⟩),(2,rp [(.tmp 10,Qug),(.tmp 11,I 3)] (.ref 0 4 0 3)),(3,rb [(.tmp 12,.ref 0 4 0 3)] [(0,(Q99 p1 p0 p2 p3 p4))] (.ref 0 4 0 3)),(6,rb [(.tmp 15,.ref 1 4 0 3)] [(1,(Q1j p0))] (.ref 1 4 0 3)),(9,rb [(.tmp 12,.ref 0 4 0 3)] [(0,(Q99 p1 p0 p2 p3 p4))] (.ref 0 4 0 3))] ⟨Qau (first:=[]) (cap:=[]) (vs:=[.ref 0 4 0 0]) (σr:=[(Q99 p1 p0 p2 p3 p4)]) (σr':=[(Q99 p1 p0 p2 p3 p4),Q1i]) (res':=Qug) [0,6] rfl Qsh (Qec N (w64 (p1+p0.Mass)) (w64 (p2+p0.Heat)) (w64 (p3+p0.Silica)) p4 _ hf9) rfl (Qbp (rnc (Qa0 rfl) rn0)) (slc (Qam (rncc (rncc rn0))) Qat) (slc (Qam (rncc (rncc rn0))) (slc (Qam (rnc (Qby rfl) (rnc (Qby rfl) (rnc (Qby rfl) (rnc (Qby rfl) rn0))))) Qat)) (Qbp (rnc (Qby rfl) (rnc (Qby rfl) (rnc (Qby rfl) (rnc (Qby rfl) rn0))))) rfl rfl rfl,Qiy rfl underlying235 Qxy (by decide) (by decide) (nle rfl) (by decide) rfl,Qbq rfl,Qbq rfl,Qbq rfl,tv⟩<|bln<|thn<|wxz1<|thn<|Que<|wxz<|wsq<|wfa<|Qbl ?_
  refine Qax<|Qax<|Qbk rfl ?_
  obtain rfl:=osi h
  exact⟨_,(mto (n:=21) (l':=[]) (own':=[(Zdu p1 p0 p2 p3 p4)]) [] [0] [(Zdu p1 p0 p2 p3 p4)] hφ0 pn (qb (lcc (lcc ln)) qn)),Qdh (vs:=[]) tv rfl (NLt.tup _ nl0) (by kernel_rfl) (Qar (Qa4 (nlc (NLt.of0 nll) (nlc (NLt.of0 nll) (nlc (NLt.of0 nll) (nlc (NLt.of0 nll) nl0))))) Qbx)⟩
def Qf3 (N:Nat) (p0:(List Qaa)) (k5:Int×Int×Int×Int→Option Qaa):Nat→Int→Int→Int→Int→Int→Option Qaa
  |0,_,_,_,_,_=>none
  |n16+1,y6,y7,y8,y9,y10=>
    bif (decide (y6<(p0.length:Int))) then
     (getI p0 y6).bind fun x18=>
     (Qk0 N x18 y7 y8 y9 y10).bind fun _=>
     Qf3 N p0 k5 n16 (w64 (y6+1)) (w64 (y7+x18.Mass)) (w64 (y8+x18.Heat)) (w64 (y9+x18.Silica)) (w64 (y10+x18.Gas))
    else
     k5 (y7,y8,y9,y10)
def Ql9 (N:Nat) (p0:(List Qaa)):Option Qaa:=
  Qbn (fun ⟨y1,y2,y3,y4⟩=>
    some (⟨y1,y2,y3,y4⟩:Qaa)) fun k5:Int×Int×Int×Int→Option Qaa=>
  Qf3 N p0 k5 N 0 0 0 0 0
def Zae:AV:=.fn (.func 160) [] [(.ref 0 4 (0) 0)]
def Zad (p0:(List Qaa)):AV:=.dat 4 ((p0:List Qaa).map Qae)
def Zts:Slot:=.own 4 [[(I (0)),(I (0)),(I (0)),(I (0))]]
def Q7q (y7:Int) (y8:Int) (y9:Int) (y10:Int):Slot:=.own 4 [[(I (y7)),(I (y8)),(I (y9)),(I (y10))]]
def Znc (x18:Qaa):AV:=.agg [(I (x18.Mass)),(I (x18.Heat)),(I (x18.Silica)),(I (x18.Gas))]
def Zdv (y7:Int) (x18:Qaa) (y8:Int) (y9:Int) (y10:Int):Slot:=.own 4 [[(I (w64 (y7+x18.Mass))),(I (w64 (y8+x18.Heat))),(I (w64 (y9+x18.Silica))),(I (w64 (y10+x18.Gas)))]]
theorem Qz4 (N:Nat) (p0:(List Qaa)) (r:Qaa) (h:Ql9 N p0=some r):Spec prog 155 [(.dat 4 (p0.map Qae))] [] (.agg (Qae r)) []:=by
  refine Qal func155 rfl 0 (nle rfl) (fun X φ0 w0 hφ0 hd0=>?_)
  unfold Ql9 at h
  refine wxz<|wx tbk [(0,rp [(.tmp 2,.ref 0 4 0 0)] Zae)] ⟨Qe2 (fs:=[]) (cs:=[.ref 0 4 0 0]) rfl rfl rfl rfl,tv⟩ ?_
  obtain⟨k5,hk_k5,h⟩:=jko h
  refine wjn (τ:=Int×Int×Int×Int) (fun t=>k5 t=some r) (fun ⟨y1,y2,y3,y4⟩=>⟨mk 18 [(2,.ref 0 4 0 0)],[(.own 4 [[I y1,I y2,I y3,I y4]])]⟩) (fun t h=>?_) ?_
  ·subst hk_k5
   obtain⟨y1,y2,y3,y4⟩:=t
   refine wxz<|Qah ?_
   obtain rfl:=osi h
   exact fend ⟨[(.agg [I y1,I y2,I y3,I y4])],⟨Qb2 (n:=0) (m:=4) (j:=0) (i:=0) (xs:=[[I y1,I y2,I y3,I y4]]) (by kernel_rfl) (by kernel_rfl) ti63 (by decide) rfl (nle rfl) rfl,tv⟩,rfl⟩ (NLt.agg _ (nlcc (nlcc nl0)))
  ·skip
   refine wx tbk [(1,rp [(.tmp 7,(Zad p0))] (I ((p0.length:Int))))] ⟨alm (c:=Qae) (l:=p0) (aln rfl underlying45 rfl),tv⟩<|Qao ?_
   refine wmr (mto (n:=18) (l':=[(2,.ref 0 4 0 0),(3,Zae),(7,(Zad p0)),(8,(I ((p0.length:Int)))),(9,I 0)]) (own':=[Zts]) [(2,.ref 0 4 0 0),(3,Zae),(7,(Zad p0)),(8,(I ((p0.length:Int)))),(9,I 0)] [0] [Zts] hφ0 (prr (pc (.rn (Qbj rn0 (rnc (rqr rfl) rn0))) (pc (rnd Qak) (pw (pw pn))))) (qb (lcc (lcc ln)) qn)) ?_
   refine Qb3 (τ:=Int×Int×Int×Int×Int) (fun n t=>Qf3 N p0 k5 n t.1 t.2.1 t.2.2.1 t.2.2.2.1 t.2.2.2.2=some r) (fun ⟨y6,y7,y8,y9,y10⟩=>⟨mk 18 [(2,.ref 0 4 0 0),(3,Zae),(7,(Zad p0)),(8,(I ((p0.length:Int)))),(9,I y6)],[(Q7q y7 y8 y9 y10)]⟩) (fun t h=>by rw[Qf3] at h;cases h) (fun n16 ih t h=>?_) N (0,0,0,0,0) h
   obtain⟨y6,y7,y8,y9,y10⟩:=t
   rw[Qf3] at h
   skip
   refine wxz<|wsq ?_
   refine bfe h (fun hc17 h=>?_) fun hc17 h=>?_
   ·refine wft hc17<|Qap<|thn<|wsq<|Qao ?_
    obtain⟨x18,hg19,h⟩:=bno h
    obtain⟨hi20,hj21⟩:=gsm hg19
    refine wx tbk [(0,rp [(.tmp 7,(Zad p0)),(.tmp 9,I y6)] (.dptr (Qae (x18)) 0))] ⟨aid rfl underlying45 ti63 rfl rfl hi20 (mgt Qae hj21) rfl,tv⟩ ?_
    obtain⟨x23,hf22,h⟩:=bno h
    refine wx1 tbk [(2,⟨[(.tmp 13,Zae),(.tmp 14,(Znc x18))],[(0,(Q7q y7 y8 y9 y10))],(.tup []),[(0,(Zdv y7 x18 y8 y9 y10))],false⟩)] ⟨Qau (first:=[]) (cap:=[.ref 0 4 0 0]) (vs:=[(Znc x18)]) (σr:=[(Q7q y7 y8 y9 y10)]) (σr':=[(Zdv y7 x18 y8 y9 y10)]) (res':=(.tup [])) [0] rfl Zkz (Qs6 N x18 y7 y8 y9 y10 _ hf22) rfl (Qbp (rnc (.plain _ (NLt.agg _ (nlcc (nlcc nl0)))) (rnc (Qa0 rfl) rn0))) (slc (Qam (rncc (rncc rn0))) Qat) (slc (Qam (rncc (rncc rn0))) Qat) (.plain _ (NLt.tup _ nl0)) rfl rfl rfl,tv⟩<|bln<|thn<|wxz1<|thn ?_
    exact arm (mto (n:=18) [(2,.ref 0 4 0 0),(3,Zae),(7,(Zad p0)),(8,(I ((p0.length:Int)))),(9,(I (w64 (y6+1))))] [0] [(Zdv y7 x18 y8 y9 y10)] hφ0 (prr (pc (.rn (Qbj rn0 (rnc (rqr rfl) rn0))) (pc (rnd Qak) (pw (pw pn))))) (qb (lcc (lcc ln)) qn)) (ih (w64 (y6+1),w64 (y7+x18.Mass),w64 (y8+x18.Heat),w64 (y9+x18.Silica),w64 (y10+x18.Gas)) h)
   ·exact wfn hc17<|Qbl<|Qax<|Qax<|Qbk rfl<|thn<|⟨(y7,y8,y9,y10),h,(mto (n:=18) [(2,.ref 0 4 0 0)] [0] [(Q7q y7 y8 y9 y10)] hφ0 (prr pn) (qb (lcc (lcc ln)) qn))⟩
def Qe4 (N:Nat) (p0:Qaa) (k3:(List Qaa)→Option ((List Qaa)×Qok×Int)) (x7:(List Int)):Nat→(List Qaa)→Int→Option ((List Qaa)×Qok×Int)
  |0,_,_=>none
  |n12+1,y8,y9=>
    bif (decide (y9<(x7.length:Int))) then
     (getI x7 y9).bind fun x14=>
     (Qf4 N p0.Heat x14 p0.Mass p0.Heat p0.Silica p0.Gas).bind fun x19=>
     (Qf4 N p0.Silica x14 p0.Mass p0.Heat p0.Silica p0.Gas).bind fun x21=>
     (Qf4 N p0.Gas x14 p0.Mass p0.Heat p0.Silica p0.Gas).bind fun x23=>
     chk (decide ((y8.length+([(⟨x14,x19,x21,x23⟩:Qaa)]).length)*32≤140737488355328))<|
     Qe4 N p0 k3 x7 n12 (y8++([(⟨x14,x19,x21,x23⟩:Qaa)])) (w64 (y9+1))
    else
     k3 (y8)
def Qk9 (N:Nat) (p0:Qaa) (p1:(List Int)):Option ((List Qaa)×Qok×Int):=
  Qbn (fun _=>
    Qbn (fun y2=>
      (Ql9 N y2).bind fun x5=>
      some (y2,(⟨w64 (p0.Heat-x5.Heat),w64 (p0.Silica-x5.Silica),w64 (p0.Gas-x5.Gas)⟩:Qok),0)) fun k3:(List Qaa)→Option ((List Qaa)×Qok×Int)=>
    (Qj0 N p0.Mass p1).bind fun x7=>
    Qe4 N p0 k3 x7 N ([]) 0) fun k1:Unit→Option ((List Qaa)×Qok×Int)=>
  (Qex N p0).bind fun x26=>
  bif (!x26) then
   some ([],(⟨0,0,0⟩:Qok),1)
  else
   bif (decide ((p1.length:Int)>20)) then
    some ([],(⟨0,0,0⟩:Qok),1)
   else
    (Qia N p1).bind fun x30=>
    bif (!x30) then
     some ([],(⟨0,0,0⟩:Qok),1)
    else
     (Qc5 N p1).bind fun x33=>
     bif (!x33) then
      some ([],(⟨0,0,0⟩:Qok),1)
     else
      k1 ()
def Q1n (p1:(List Int)):AV:=.dat 1 ((p1:List Int).map Qav)
def Qu4 (p0:Qaa):Slot:=.own 4 [[(I (p0.Mass)),(I (p0.Heat)),(I (p0.Silica)),(I (p0.Gas))]]
def Q1p:Slot:=.own 3 [[(I (0)),(I (0)),(I (0))]]
def Zd5 (y2:(List Qaa)):AV:=.acc 1 63 4 ((y2:List Qaa).map Qae)
def Zne (y2:(List Qaa)):AV:=.dat 4 ((y2:List Qaa).map Qae)
def Znd (p0:Qaa) (x5:Qaa):AV:=.agg [(I (w64 (p0.Heat-x5.Heat))),(I (w64 (p0.Silica-x5.Silica))),(I (w64 (p0.Gas-x5.Gas)))]
def Qu3 (x7:(List Int)):AV:=.dat 1 ((x7:List Int).map Qav)
def Zd4 (y8:(List Qaa)):AV:=.acc 1 63 4 ((y8:List Qaa).map Qae)
def Q7y:AV:=.fn (.func 154) [] [(.ref 3 1 (0) 0),(.ref 0 4 (0) 0)]
def Zd3 (x14:Int) (p0:Qaa):AV:=.fn (.func 154) [] [(.dptr [(I (x14))] 0),(.dptr [(I (p0.Mass)),(I (p0.Heat)),(I (p0.Silica)),(I (p0.Gas))] 0)]
def Zvg (p0:Qaa):AV:=.agg [(I (p0.Mass)),(I (p0.Heat)),(I (p0.Silica)),(I (p0.Gas))]
def Zd2 (p0:Qaa) (x26:Bool):List (Nat×Rec):=[(1,rp [fu 131,((.tmp 12),(Zvg p0))] (B (x26)))]
def Q1o:AV:=.agg [(I (0)),(I (0)),(I (0))]
def Q7x:AV:=.dat 4 (([]:List Qaa).map Qae)
def Zd1 (p0) (x26) (p1:(List Int)):=hcat (Zd2 p0 x26) [(3,rp [((.tmp 14),(B ((!x26))))] (B (false))),(5,rp [((.tmp 15),(B (false))),((.tmp 16),(Q1n p1))] (I ((p1.length:Int))))]
def Zd0 (p0) (x26) (p1) (x30:Bool):=hcat (Zd1 p0 x26 p1) [(8,rp [((.tmp 19),(B ((decide ((p1.length:Int)>20)))))] (B (false))),(11,rp [((.tmp 20),(B (false))),fu 151,((.tmp 21),(Q1n p1)),((.tmp 22),(.fn (.func 150) [] []))] (B (x30)))]
theorem Qv5 (N:Nat) (p0:Qaa) (p1:(List Int)) (r:((List Qaa)×Qok×Int)) (h:Qk9 N p0 p1=some r):Spec prog 146 [(.agg (Qae p0)),(.dat 1 (p1.map Qav))] [] (.tup [(.dat 4 (r.1.map Qae)),(.agg (Zsu r.2.1)),(I r.2.2)]) []:=by
  refine Qal func146 rfl 0 (nle rfl) (fun X φ0 w0 hφ0 hd0=>?_)
  unfold Qk9 at h
  refine wxz<|wxz ?_
  obtain⟨k1,hk_k1,h⟩:=jko h
  refine wjn (τ:=Unit) (fun t=>k1 t=some r) (fun _=>⟨mk 79 [(1,(Q1n p1)),(2,.ref 0 4 0 0),(4,nilS),(5,.ref 1 3 0 0)],[(Qu4 p0),Q1p]⟩) (fun t h=>?_) ?_
  ·subst hk_k1
   obtain⟨k3,hk_k3,h⟩:=jko h
   refine wjn (τ:=(List Qaa)) (fun t=>k3 t=some r) (fun y2=>⟨mk 79 [(2,.ref 0 4 0 0),(4,(Zd5 y2)),(5,.ref 2 3 0 0)],[(Qu4 p0),.tok,Q1p]⟩) (fun y2 h=>?_) ?_
   ·subst hk_k3
    obtain⟨x5,hf4,h⟩:=bno h
    refine wx tbk [(1,rp [fu 155,(.tmp 60,(Zd5 y2))] (.agg [I x5.Mass,I x5.Heat,I x5.Silica,I x5.Gas]))] ⟨awk (rd':=(.func 155,(.fn (.func 155) [] []))::[(.tmp 60,(Zne y2))]) ⟨rfl,lrf,rfl,Less.acc,tv⟩ (apv Zk3 (Qz4 N y2 _ hf4) (nlc (nld Qak _) nl0) (NLt.agg _ (nlcc (nlcc nl0)))),tv⟩ ?_
    refine wxd tbk [(16,rp [(.tmp 67,(I (w64 (p0.Heat-x5.Heat)))),(.tmp 72,(I (w64 (p0.Silica-x5.Silica)))),(.tmp 77,(I (w64 (p0.Gas-x5.Gas))))] (Znd p0 x5))] ⟨Qa8 (vs:=[(I (w64 (p0.Heat-x5.Heat))),(I (w64 (p0.Silica-x5.Silica))),(I (w64 (p0.Gas-x5.Gas)))]) rfl Zfg Zas rfl (by rfl) rfl,tv⟩<|Qah ?_
    obtain rfl:=osi h
    exact fend ⟨[(Zne y2),(Znd p0 x5),I 0],⟨Qep (v:=(Zd5 y2)) (rot) Less.acc,Qb2 (n:=2) (m:=3) (j:=0) (i:=0) (xs:=[[(I (w64 (p0.Heat-x5.Heat))),(I (w64 (p0.Silica-x5.Silica))),(I (w64 (p0.Gas-x5.Gas)))]]) (by kernel_rfl) (by kernel_rfl) Zau (by decide) rfl (nle rfl) rfl,rot,tv⟩,rfl⟩ (NLt.tup _ (nlc (nld Qak _) (nlc (NLt.agg _ (nlcc (nlc nll nl0))) (nlc nll nl0))))
   ·skip
    obtain⟨x7,hf6,h⟩:=bno h
    refine wx tbk [(3,rp [fu 153,(.tmp 33,I p0.Mass),(.tmp 34,(Q1n p1))] (Qu3 x7)),(4,rp [(.tmp 35,(Qu3 x7))] (I ((x7.length:Int))))] ⟨apv Zk4 (Quk N p0.Mass p1 _ hf6) (nlc nll (nlc (nld Qaj _) nl0)) (nld Qaj _),alm (c:=Qav) (l:=x7) (aln rfl underlying27 rfl),tv⟩<|Qao ?_
    refine wmr (Mor.trans (Qq8 2 63 4 4 (by kernel_rfl) (by kernel_rfl)) (mto (n:=79) (l':=[(2,.ref 0 4 0 0),(4,(.acc 1 63 4 ((([]):List Qaa).map Qae))),(5,.ref 2 3 0 0),(35,(Qu3 x7)),(36,(I ((x7.length:Int)))),(37,I 0)]) (own':=[(Qu4 p0),.tok,Q1p]) [(2,.ref 0 4 0 0),(4,(.acc 2 63 4 (([]:List Qaa).map Qae))),(5,.ref 1 3 0 0),(35,(Qu3 x7)),(36,(I ((x7.length:Int)))),(37,I 0)] [0,2,1] [(Qu4 p0),.tok,Q1p] hφ0 (prr (pc (.rn (Qdb rfl (Qcb Qak _))) (prr (pc (rnd Qaj) (pw (pw pn)))))) (qb (lcc (lcc ln)) (qc .tok (qb (lcc (lc rwl ln)) qn))))) ?_
    refine Qb3 (τ:=(List Qaa)×Int) (fun n t=>Qe4 N p0 k3 x7 n t.1 t.2=some r) (fun ⟨y8,y9⟩=>⟨mk 79 [(2,.ref 0 4 0 0),(4,(Zd4 y8)),(5,.ref 2 3 0 0),(35,(Qu3 x7)),(36,(I ((x7.length:Int)))),(37,I y9)],[(Qu4 p0),.tok,Q1p]⟩) (fun t h=>by rw[Qe4] at h;cases h) (fun n12 ih t h=>?_) N ([],0) h
    obtain⟨y8,y9⟩:=t
    rw[Qe4] at h
    skip
    refine wxz<|wsq ?_
    refine bfe h (fun hc13 h=>?_) fun hc13 h=>?_
    ·refine wft hc13<|Qap<|thn<|wsq<|Qao ?_
     obtain⟨x14,hg15,h⟩:=bno h
     obtain⟨hi16,hj17⟩:=gsm hg15
     refine wx tbk [(0,rp [(.tmp 35,(Qu3 x7)),(.tmp 37,I y9)] (.dptr (Qav (x14)) 0))] ⟨aid rfl underlying27 ti3 rfl rfl hi16 (mgt Qav hj17) rfl,tv⟩ ?_
     refine wx tbk [(0,rp [(.tmp 9,.ref 3 1 0 0),(.tmp 2,.ref 0 4 0 0)] Q7y)] ⟨Qe2 (fs:=[]) (cs:=[.ref 3 1 0 0,.ref 0 4 0 0]) rfl rfl rfl rfl,tv⟩ ?_
     obtain⟨x19,hf18,h⟩:=bno h
     obtain⟨x21,hf20,h⟩:=bno h
     obtain⟨x23,hf22,h⟩:=bno h
     obtain⟨ha24,h⟩:=cko h
     refine wy1 tbk [(5,rb [(.tmp 44,Q7y),(.tmp 46,I p0.Heat)] [(3,.own 1 [[I x14]]),(0,(Qu4 p0))] (I x19)),(9,rb [(.tmp 48,Q7y),(.tmp 50,I p0.Silica)] [(3,.own 1 [[I x14]]),(0,(Qu4 p0))] (I x21)),(13,rb [(.tmp 52,Q7y),(.tmp 54,I p0.Gas)] [(3,.own 1 [[I x14]]),(0,(Qu4 p0))] (I x23)),(14,rp [(.tmp 43,I x14),(.tmp 47,I x19),(.tmp 51,I x21),(.tmp 55,I x23)] (.agg [I x14,I x19,I x21,I x23])),(15,rp [(.tmp 56,(.agg [I x14,I x19,I x21,I x23]))] (.dat 4 (([(⟨x14,x19,x21,x23⟩:Qaa)]:List Qaa).map Qae))),(16,⟨[(.tmp 42,(Zd4 y8)),(.tmp 57,(.dat 4 (([(⟨x14,x19,x21,x23⟩:Qaa)]:List Qaa).map Qae)))],[(1,.tok),(4,.unused)],(.acc 4 63 4 ((y8++([(⟨x14,x19,x21,x23⟩:Qaa)]):List Qaa).map Qae)),[(1,.dead),(4,.tok)],false⟩)] ⟨Ql8 (rd':=[(.tmp 44,(Zd3 x14 p0)),(.tmp 46,I p0.Heat)]) [(3,1,[[I x14]]),(0,4,[[I p0.Mass,I p0.Heat,I p0.Silica,I p0.Gas]])] ⟨rfl,(Zl9 tv ⟨(Qsl 0 rfl (lc (.same _) ln)),(Qsl 1 rfl (lc (.same _) (lc (.same _) (lc (.same _) (lc (.same _) ln))))),tv⟩),rfl,.same _,tv⟩ (by rfl) (.lit _) Qz7 (Qau (first:=[]) (cap:=[(.dptr [I x14] 0),(.dptr [I p0.Mass,I p0.Heat,I p0.Silica,I p0.Gas] 0)]) (vs:=[I p0.Heat]) (σr:=[]) (σr':=[]) (res':=(I x19)) [] rfl Q00 (Qjl N p0.Heat x14 p0.Mass p0.Heat p0.Silica p0.Gas _ hf18) rfl (Qbp (rnc (.plain _ nll) (rnc (.plain _ (NLt.dptr _ _ (nlc nll nl0))) (rnc (.plain _ (NLt.dptr _ _ (nlcc (nlcc nl0)))) rn0)))) Qat Qat (.plain _ nll) rfl rfl rfl),Ql8 (rd':=[(.tmp 48,(Zd3 x14 p0)),(.tmp 50,I p0.Silica)]) [(3,1,[[I x14]]),(0,4,[[I p0.Mass,I p0.Heat,I p0.Silica,I p0.Gas]])] ⟨rfl,(Zl9 tv ⟨(Qsl 0 rfl (lc (.same _) ln)),(Qsl 1 rfl (lc (.same _) (lc (.same _) (lc (.same _) (lc (.same _) ln))))),tv⟩),rfl,.same _,tv⟩ (by rfl) (.lit _) Qz7 (Qau (first:=[]) (cap:=[(.dptr [I x14] 0),(.dptr [I p0.Mass,I p0.Heat,I p0.Silica,I p0.Gas] 0)]) (vs:=[I p0.Silica]) (σr:=[]) (σr':=[]) (res':=(I x21)) [] rfl Q00 (Qjl N p0.Silica x14 p0.Mass p0.Heat p0.Silica p0.Gas _ hf20) rfl (Qbp (rnc (.plain _ nll) (rnc (.plain _ (NLt.dptr _ _ (nlc nll nl0))) (rnc (.plain _ (NLt.dptr _ _ (nlcc (nlcc nl0)))) rn0)))) Qat Qat (.plain _ nll) rfl rfl rfl),Ql8 (rd':=[(.tmp 52,(Zd3 x14 p0)),(.tmp 54,I p0.Gas)]) [(3,1,[[I x14]]),(0,4,[[I p0.Mass,I p0.Heat,I p0.Silica,I p0.Gas]])] ⟨rfl,(Zl9 tv ⟨(Qsl 0 rfl (lc (.same _) ln)),(Qsl 1 rfl (lc (.same _) (lc (.same _) (lc (.same _) (lc (.same _) ln))))),tv⟩),rfl,.same _,tv⟩ (by rfl) (.lit _) Qz7 (Qau (first:=[]) (cap:=[(.dptr [I x14] 0),(.dptr [I p0.Mass,I p0.Heat,I p0.Silica,I p0.Gas] 0)]) (vs:=[I p0.Gas]) (σr:=[]) (σr':=[]) (res':=(I x23)) [] rfl Q00 (Qjl N p0.Gas x14 p0.Mass p0.Heat p0.Silica p0.Gas _ hf22) rfl (Qbp (rnc (.plain _ nll) (rnc (.plain _ (NLt.dptr _ _ (nlc nll nl0))) (rnc (.plain _ (NLt.dptr _ _ (nlcc (nlcc nl0)))) rn0)))) Qat Qat (.plain _ nll) rfl rfl rfl),Qa8 (vs:=[I x14,I x19,I x21,I x23]) rfl ts63 tz63 rfl (by rfl) rfl,Qb7 (vs:=[(.agg [I x14,I x19,I x21,I x23])]) rfl underlying45 ti63 tz63 rfl (by decide) rfl (by decide) (by rfl) (by rfl) (by rfl) rfl,Qhc rfl underlying45 te63 (Base.acc _ _) rfl rfl (by rfl) (Qko Qae ha24) (Qkn Qae ha24 (by decide)) (Qkm Qae) rfl rfl,tv⟩<|bln<|thn<|wxz1<|thn ?_
     exact arm (mto (n:=79) [(2,.ref 0 4 0 0),(4,(.acc 4 63 4 ((y8++([(⟨x14,x19,x21,x23⟩:Qaa)]):List Qaa).map Qae))),(5,.ref 2 3 0 0),(35,(Qu3 x7)),(36,(I ((x7.length:Int)))),(37,(I (w64 (y9+1))))] [0,4,2] [(Qu4 p0),.tok,Q1p] hφ0 (prr (pc (.rn (Qdb rfl (Qcb Qak _))) (prr (pc (rnd Qaj) (pw (pw pn)))))) (qb (lcc (lcc ln)) (qc .tok (qb (lcc (lc rwl ln)) qn)))) (ih (y8++([(⟨x14,x19,x21,x23⟩:Qaa)]),w64 (y9+1)) h)
    ·exact wfn hc13<|Qbl<|Qax<|Qax<|Qbk rfl<|thn<|⟨(y8),h,(mto (n:=79) [(2,.ref 0 4 0 0),(4,(Zd4 y8)),(5,.ref 2 3 0 0)] [0,1,2] [(Qu4 p0),.tok,Q1p] hφ0 (prr (pc (.rn (Qdb rfl (Qcb Qak _))) (prr pn))) (qb (lcc (lcc ln)) (qc .tok (qb (lcc (lc rwl ln)) qn))))⟩
  ·skip
   obtain⟨x26,hf25,h⟩:=bno h
   refine hpre (A:=(Zd2 p0 x26)) ⟨apv Q01 (Qim N p0 _ hf25) (nlc (NLt.agg _ (nlcc (nlcc nl0))) nl0) nll,tv⟩ fun q1_=>?_
   refine bfe h (fun hb27 h=>?_) fun hb27 h=>?_
   ·refine wx tbk (hcat (Zd2 p0 x26) [(3,rp [(.tmp 14,(B ((!x26))))] (B true))]) (hap q1_ ⟨asb hb27 (amv rfl),tv⟩)<|wtr ?_
    refine wx tbk [(0,rp [] Q1o)] ⟨Qa8 (vs:=[]) rfl Zfg Zas rfl (by rfl) rfl,tv⟩<|Qah<|Qac ?_
    obtain rfl:=osi h
    exact fend ⟨[Q7x,Q1o,I 1],⟨Qep (v:=nilS) (rot) Less.nil,Qb2 (n:=1) (m:=3) (j:=0) (i:=0) (xs:=[[I 0,I 0,I 0]]) (by kernel_rfl) (by kernel_rfl) Zau (by decide) rfl (nle rfl) rfl,rot,tv⟩,rfl⟩ (NLt.tup _ (nlc (nld Qak _) (nlc (NLt.agg _ (nlcc (nlc nll nl0))) (nlc nll nl0))))
   ·refine hpre (A:=(Zd1 p0 x26 p1)) (hap q1_ ⟨asb hb27 (amv rfl),ag_ (alm (c:=Qav) (l:=p1) (aln rfl underlying27 rfl)),tv⟩) fun q2_=>?_
    refine bfe h (fun hb28 h=>?_) fun hb28 h=>?_
    ·refine wx tbk (hcat (Zd1 p0 x26 p1) [(8,rp [(.tmp 19,(B ((decide ((p1.length:Int)>20)))))] (B true))]) (hap q2_ ⟨asb hb28 (amv rfl),tv⟩)<|wtr ?_
     refine wx tbk [(0,rp [] Q1o)] ⟨Qa8 (vs:=[]) rfl Zfg Zas rfl (by rfl) rfl,tv⟩<|Qah<|Qac ?_
     obtain rfl:=osi h
     exact fend ⟨[Q7x,Q1o,I 1],⟨Qep (v:=nilS) (rot) Less.nil,Qb2 (n:=1) (m:=3) (j:=0) (i:=0) (xs:=[[I 0,I 0,I 0]]) (by kernel_rfl) (by kernel_rfl) Zau (by decide) rfl (nle rfl) rfl,rot,tv⟩,rfl⟩ (NLt.tup _ (nlc (nld Qak _) (nlc (NLt.agg _ (nlcc (nlc nll nl0))) (nlc nll nl0))))
    ·obtain⟨x30,hf29,h⟩:=bno h
     refine hpre (A:=(Zd0 p0 x26 p1 x30)) (hap q2_ ⟨asb hb28 (amv rfl),ag_ (Qau (first:=[]) (cap:=[]) (vs:=[(Q1n p1),(.fn (.func 150) [] [])]) (σr:=[]) (σr':=[]) (res':=(B x30)) [] rfl Zk6 (Qqw N p1 _ hf29) rfl (Qbp (rnc (pld Qaj) (rnc (.plain _ (NLt.fn _ _ _ nl0 nl0)) rn0))) Qat Qat (.plain _ nll) rfl rfl rfl),tv⟩) fun q3_=>?_
     refine bfe h (fun hb31 h=>?_) fun hb31 h=>?_
     ·refine wx tbk (hcat (Zd0 p0 x26 p1 x30) [(14,rp [(.tmp 25,(B ((!x30))))] (B true))]) (hap q3_ ⟨asb hb31 (amv rfl),tv⟩)<|wtr ?_
      refine wx tbk [(0,rp [] Q1o)] ⟨Qa8 (vs:=[]) rfl Zfg Zas rfl (by rfl) rfl,tv⟩<|Qah<|Qac ?_
      obtain rfl:=osi h
      exact fend ⟨[Q7x,Q1o,I 1],⟨Qep (v:=nilS) (rot) Less.nil,Qb2 (n:=1) (m:=3) (j:=0) (i:=0) (xs:=[[I 0,I 0,I 0]]) (by kernel_rfl) (by kernel_rfl) Zau (by decide) rfl (nle rfl) rfl,rot,tv⟩,rfl⟩ (NLt.tup _ (nlc (nld Qak _) (nlc (NLt.agg _ (nlcc (nlc nll nl0))) (nlc nll nl0))))
     ·obtain⟨x33,hf32,h⟩:=bno h
      refine wx tbk (hcat (Zd0 p0 x26 p1 x30) [(14,rp [(.tmp 25,(B ((!x30))))] (B false)),(16,rp [(.tmp 26,B false),fu 126,(.tmp 27,(Q1n p1)),fu 152] (B x33))]) (hap q3_ ⟨asb hb31 (amv rfl),ag_ (Qau (first:=[]) (cap:=[]) (vs:=[(Q1n p1),(.fn (.func 152) [] [])]) (σr:=[]) (σr':=[]) (res':=(B x33)) [] rfl Qsj (Qj2 N p1 _ hf32) rfl (Qbp (rnc (pld Qaj) (rnc (.plain _ (NLt.fn _ _ _ nl0 nl0)) rn0))) Qat Qat (.plain _ nll) rfl rfl rfl),tv⟩) ?_
      refine bfe h (fun hc34 h=>?_) fun hc34 h=>?_
      ·refine wft hc34<|wx tbk [(0,rp [] Q1o)] ⟨Qa8 (vs:=[]) rfl Zfg Zas rfl (by rfl) rfl,tv⟩<|Qah<|Qac ?_
       obtain rfl:=osi h
       exact fend ⟨[Q7x,Q1o,I 1],⟨Qep (v:=nilS) (rot) Less.nil,Qb2 (n:=1) (m:=3) (j:=0) (i:=0) (xs:=[[I 0,I 0,I 0]]) (by kernel_rfl) (by kernel_rfl) Zau (by decide) rfl (nle rfl) rfl,rot,tv⟩,rfl⟩ (NLt.tup _ (nlc (nld Qak _) (nlc (NLt.agg _ (nlcc (nlc nll nl0))) (nlc nll nl0))))
      ·exact wfn hc34<|Qap<|thn<|⟨(),h,(mto (n:=79) [(1,(Q1n p1)),(2,.ref 0 4 0 0),(4,nilS),(5,.ref 1 3 0 0)] [0,1] [(Qu4 p0),Q1p] hφ0 (pc (rnd Qaj) (prr (pw (prr pn)))) (qb (lcc (lcc ln)) (qb (lcc (lc rwl ln)) qn)))⟩
end
end Go.Proofs.YtmbhnllcfmiajaaGreat
