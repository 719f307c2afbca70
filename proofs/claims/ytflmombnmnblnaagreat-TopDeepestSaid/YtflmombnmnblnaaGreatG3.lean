/-
  The texts EngZ, Xo, X1, X2 of the proof, one behind the other. No conditions.
-/
import Derived.Test.YtflmombnmnblnaaGreatG2
import Derived.Test.YtflmombnmnblnaaGreatRows
import Derived.ProofKit
import Derived.Deep.Slices
import Derived.Deep.Fields
import Derived.ChangeSame
import Derived.Lib.SmallJoins
import Derived.SizedLaws
namespace Go.Proofs.YtflmombnmnblnaaGreat
open _root_.Go.Proofs.Tryz
open Go.RowKit
set_option maxRecDepth 100000
set_option maxHeartbeats 4000000
set_option synthInstance.maxSize 4000
set_option synthInstance.maxHeartbeats 400000
section
open Go.ChangeShapes Go.WideShapes Go.ChangeAt Go.RowKit Go.Deep Go.Joins
theorem Tryz.own:ownKnob prog.godebug=none:=by kernel_rfl
theorem Tryz.laidOut:laidOutB prog=true:=by kernel_rfl
def noX:Nat→Nat→Prop:=fun _ _=>False
def noφ:Nat→FSlot:=fun _=>.unused
def RelL (w:World):List AV→List Value→Prop
 |[],[]=>True
 |a::l,v::k=>RelV noX noφ w a v∧RelL w l k
 |_,_=>False
theorem RelL.get {w:World}:∀{l:List AV}{k:List Value},RelL w l k→k.length=l.length∧∀i a,l[i]? = some a→RelV noX noφ w a (k.getD i undef)
 |[],[],_=>⟨rfl,by simp⟩
 |_::_,_::_,h=>by
  obtain⟨h1,h2⟩:=RelL.get h.2
  refine⟨by simp[h1],fun i a hi=>?_⟩
  cases i with
  |zero=>simp at hi;subst hi;exact h.1
  |succ i=>simpa using h2 i a (by simpa using hi)
theorem RelL.app {w:World}:∀{l l':List AV}{k k':List Value},RelL w l k→RelL w l' k'→RelL w (l++l') (k++k')
 |[],_,[],_,_,h=>h
 |_::_,_,_::_,_,h,h'=>⟨h.1,RelL.app h.2 h'⟩
theorem Q7s {P:Program}{f:FuncId}{args:List AV}(h:Spec P f args [] (B true) []) {w:World}{vals:Array Value}(hr:RelL w args vals.toList):Calls P f vals w fun e w'=>e=.returned (.bool true)∧Below w.heap.size w w':=by
 obtain⟨h1,h2⟩:=hr.get
 refine(h.calls (X:=noX) (φ:=noφ) (by simpa using h1) (fun i a hi=>?_) (fun _=>rfl) (fun _ _ h=>h.elim)).mono ?_
 ·have:=h2 i a hi
  simpa [Array.getD_eq_getD_getElem?,List.getD_eq_getElem?_getD] using this
 ·rintro e w' ⟨v,φ',rfl,hv,hb⟩
  rw[Qb8 hv]
  exact⟨rfl,hb⟩
def Opn (P:Program) (t:TypeId) (n:Nat) {T:Type}(c:T→List AV) (G:T→Prop):Prop:=
 P.cellsOf t=n∧(∀x,(c x).length=n)∧∀(H:Type) (enc:TypeId×Value→H) (w:World) (base:Nat) (spare:Nat→Bool) (held:Bool) (fuel:Nat) (cs:List Value) (x:DataW H×List MemPlace),
  DataW.trod enc P w base spare held fuel t cs=some x→(∀q∈x.1.weights P t,q≤reachBytes)→∃v:T,G v∧RelL w (c v) cs
theorem Q66 {P:Program}{t:TypeId}{k:IntKind}(ht:P.underlying t=some (.int k)) (hc:P.cellsOf t=1):Opn P t 1 (fun x:Int=>[K k x]) (fun x=>(Lit.int k x).wf=true):=
 ⟨hc,fun _=>rfl,fun _ _ _ _ _ _ _ _ _ h _=>by
  obtain⟨n,rfl,_,hw⟩:=DataW.trod_int ht h
  exact⟨n,hw,.lit _,trivial⟩⟩
theorem Zfm {w:World}{a:Addr}{v:Value}(h:w.cell? a=some v):a.spot=none∧a.block<w.heap.size:=by
 unfold World.cell? at h
 split at h
 ·rename_i hb
  split at h
  ·cases h
  ·rename_i hs
   exact⟨by simpa using hs,(Array.getElem?_eq_some_iff.1 hb).1⟩
 ·cases h
theorem Qni (b o i:Nat):(⟨b,o,none⟩:Addr).add i=⟨b,o+i,none⟩:=by
 unfold Addr.add
 split
 ·rename_i h
  subst h
  rfl
 ·rfl
theorem Qw1 {T:Type}{p:Nat→T→Prop}:∀(n:Nat),(∀i,i<n→∃x,p i x)→∃l:List T,l.length=n∧∀i x,l[i]? = some x→p i x
 |0,_=>⟨[],rfl,by simp⟩
 |n+1,h=>by
  obtain⟨l,h1,h2⟩:=Qw1 n fun i hi=>h i (Nat.lt_succ_of_lt hi)
  obtain⟨x,hx⟩:=h n (Nat.lt_succ_self n)
  refine⟨l++[x],by simp[h1],fun i y hi=>?_⟩
  rcases Nat.lt_or_ge i n with hlt |hge
  ·rw[List.getElem?_append_left (by omega)] at hi
   exact h2 i y hi
  ·rw[List.getElem?_append_right (by omega)] at hi
   have:i=n:=by
    have:=(List.getElem?_eq_some_iff.1 hi).1
    simp at this
    omega
   subst this
   simp[h1] at hi
   exact hi▸hx
theorem Qrl {H:Type}{P:Program}{e:TypeId}:∀{l:List (DataW H)}{d:DataW H},d∈l→∀q∈d.weights P e,q∈DataW.weightsAll P e l
 |[],_,h,_,_=>by cases h
 |x::l,d,h,q,hq=>by
  rw[DataW.weightsAll]
  rcases List.mem_cons.1 h with rfl |h
  ·exact List.mem_append_left _ hq
  ·exact List.mem_append_right _ (Qrl h q hq)
theorem Qw5 {P:Program}{t e:TypeId}{n bb:Nat}{T:Type}{c:T→List AV}{G:T→Prop}(ht:P.underlying t=some (.slice e)) (hc:P.cellsOf t=1) (he:Opn P e n c G) (hn:0<n) (hbb:P.bytesOf e=bb) :
  Opn P t 1 (fun l:List T=>[.dat n (l.map c)]) (fun l=>l.length≤maxLen∧(∀x∈l,G x)∧l.length*bb≤140737488351232):=
 ⟨hc,fun _=>rfl,fun H enc w base spare held fuel cs x h hwt=>by
  obtain⟨hce,hcl,hop⟩:=he
  rcases open_slice ht h with ⟨rfl,_⟩ |⟨a,len,cap,m,fu,D,Pl,rfl,hb,hl,hm,hmm,rfl,hi⟩
  ·exact⟨[],⟨Nat.zero_le _,by simp,by simp⟩,.dat n [] none 0 0 (fun _ _=>undef) (DatOK.nil n none 0 _ (Nat.zero_le _)) (by simp),trivial⟩
  ·have hlm:len≤m:=by rw[hmm];split<;>omega
   obtain⟨l,hll,hlp⟩:=Qw1 (p:=fun i (v:T)=>G v∧∃cs',cs'.length=n∧(∀j,j<n→w.cell? ((a.add (i*n)).add j)=cs'[j]?)∧RelL w (c v) cs') len fun i hil=>by
    obtain⟨cs',h1,h2⟩:=hi i (by omega)
    obtain⟨v,hG,hr⟩:=hop _ _ _ _ _ _ _ _ _ h2 fun q hq=>hwt q (by
     simp only[DataW.weights,ht]
     exact List.mem_cons_of_mem _ (List.mem_append_left _ (Qrl (List.mem_map.2 ⟨i,List.mem_range.2 hil,rfl⟩) q hq)))
    rw[hce] at h1
    obtain⟨_,h3,h4⟩:=World.cells?_some h1
    exact⟨v,hG,cs',h3,h4,hr⟩
   refine⟨l,⟨by omega,fun x hx=>?_,?_⟩,?_,trivial⟩
   ·obtain⟨i,hi'⟩:=List.getElem?_of_mem hx
    exact(hlp i x hi').1
   ·have:=hwt ((((List.range len).map D).length+((List.range (m-len)).map fun j=>D (len+j)).length)*P.bytesOf e) (by
     simp only[DataW.weights,ht]
     exact List.mem_cons_self ..)
    rw[hbb,List.length_map,List.length_range,Nat.add_mul] at this
    rw[hll]
    exact Nat.le_trans (Nat.le_add_right _ _) this
   ·have elt:∀(i:Nat) y,(l.map c)[i]? = some y→∃v cs',l[i]? = some v∧y=c v∧cs'.length=n∧(∀j,j<n→w.cell? ((a.add (i*n)).add j)=cs'[j]?)∧RelL w (c v) cs':=fun i y hy=>by
     rw[List.getElem?_map] at hy
     cases hv:l[i]? with
     |none=>rw[hv] at hy;cases hy
     |some v=>
      rw[hv] at hy
      cases hy
      obtain⟨_,cs',h1,h2,h3⟩:=hlp i v hv
      exact⟨v,cs',rfl,rfl,h1,h2,h3⟩
    have key:∀(i:Nat) y,(l.map c)[i]? = some y→∀j,j<n→∃u,w.cell? ((a.add (i*n)).add j)=some u∧∀q,y[j]? = some q→RelV noX noφ w q u:=fun i y hy j hj=>by
     obtain⟨v,cs',hv,rfl,h1,h2,h3⟩:=elt i y hy
     obtain⟨u,hu⟩:∃u,cs'[j]? = some u:=⟨_,List.getElem?_eq_getElem (by omega)⟩
     refine⟨u,(h2 j hj).trans hu,fun q hq=>?_⟩
     have:=(h3.get).2 j q hq
     rwa [List.getD_eq_getElem?_getD,hu] at this
    rw[←hll]
    refine .dat n _ (some a) l.length cap (fun i j=>(w.cell? ((a.add (i*n)).add j)).getD undef) ⟨by simp,by omega,hm,fun y hy=>?_,fun hne=>?_⟩ fun i y hy j q hq=>?_
    ·obtain⟨v,_,rfl⟩:=List.mem_map.1 hy
     exact hcl v
    ·obtain⟨y0,hy0⟩:∃y0,(l.map c)[0]? = some y0:=by
      cases l with
      |nil=>exact absurd rfl hne
      |cons v l=>exact⟨c v,rfl⟩
     obtain⟨u,hu,_⟩:=key 0 y0 hy0 0 hn
     have ha0:(a.add (0*n)).add 0=a:=by simp[Addr.add]
     rw[ha0] at hu
     obtain⟨hs,hlt⟩:=Zfm hu
     obtain⟨b,o,sp⟩:=a
     dsimp only at hs
     subst hs
     refine⟨b,o,rfl,fun i y hy j hj=>⟨⟨hlt,fun h=>h,(fun q h=>by cases h),(fun q L h=>by cases h),(fun q Y h=>by cases h),(fun q bs k h=>by cases h)⟩,?_⟩⟩
     obtain⟨u,hu,_⟩:=key i y hy j hj
     rw[Qni,Qni] at hu
     rw[hu,Qni,Qni,hu]
     rfl
    ·have hj:j<n:=by
      have h1:=(List.getElem?_eq_some_iff.1 hq).1
      obtain⟨v,_,rfl⟩:=List.mem_map.1 (List.mem_of_getElem? hy)
      rwa [hcl v] at h1
     obtain⟨u,hu,hr⟩:=key i y hy j hj
     rw[hu]
     exact hr q hq⟩
theorem Qid {H:Type}{enc:TypeId×Value→H}{P:Program}{w:World}{base:Nat}{spare:Nat→Bool}{held:Bool}{fuel:Nat}{cs:List Value}{fs:Array Field}{xs:List (DataW H×List MemPlace)}(hf:∀(i:Nat) (f:Field),fs[i]? = some f→DataW.trod enc P w base spare held fuel f.type ((cs.drop f.offset).take (P.cellsOf f.type))=xs[i]?)
  (hxl:xs.length=fs.size) (hwt:∀q∈DataW.weightsEach P (fs.toList.map (·.type)) (xs.map (·.1)),q≤reachBytes) {n:Nat}{T:Type}{c:T→List AV}{G:T→Prop}(j:Nat) (f:Field) (hj:fs[j]? = some f) (hop:Opn P f.type n c G):∃v:T,G v∧RelL w (c v) ((cs.drop f.offset).take n):=by
 have hjl:j<xs.length:=by rw[hxl];exact(Array.getElem?_eq_some_iff.1 hj).1
 have h1:=hf j f hj
 rw[List.getElem?_eq_getElem hjl,hop.1] at h1
 exact hop.2.2 _ _ _ _ _ _ _ _ _ h1 fun q hq=>hwt q (DataW.weights_mem_each (j:=j) (by simp[hj]) (by rw[List.getElem?_map,List.getElem?_eq_getElem hjl];rfl) q hq)
theorem Qrm {H:Type}{P:Program}{t:TypeId}{fs:Array Field}{xs:List (DataW H×List MemPlace)}{pl:List MemPlace}(ht:P.underlying t=some (.struct fs)) (h:∀q∈(DataW.agg (xs.map (·.1)),pl).1.weights P t,q≤reachBytes):∀q∈DataW.weightsEach P (fs.toList.map (·.type)) (xs.map (·.1)),q≤reachBytes:=
 fun q hq=>h q (by simp only[DataW.weights,ht];exact hq)
theorem Q53 {H:Type}{P:Program}{ts:List TypeId}{ds:List (DataW H)}(h:(DataW.weightsEach P ts ds).all (· ≤ reachBytes)=true) (j:Nat) {t:TypeId}{d:DataW H}(ht:ts[j]? = some t) (hd:ds[j]? = some d):∀q∈d.weights P t,q≤reachBytes:=
 fun q hq=>by simpa using List.all_eq_true.1 h q (DataW.weights_mem_each ht hd q hq)
theorem Qlx {w:World}{A B':List AV}{cs:List Value}{k n k':Nat}(h:RelL w A (cs.take k)) (h':RelL w B' ((cs.drop k).take n)) (hk:k+n=k'):RelL w (A++B') (cs.take k'):=by
 subst hk
 rw[List.take_add]
 exact h.app h'
theorem Qwr {w:World}{A:List AV}{cs:List Value}{n:Nat}(h:RelL w A ((cs.drop 0).take n)):RelL w A (cs.take n):=h
theorem Q6y {w:World}{A:List AV}{cs:List Value}{n:Nat}(h:RelL w A (cs.take n)) (hn:cs.length=n):RelL w A cs:=by
 subst hn
 rwa [List.take_length] at h
section
variable {H : Type} {enc : TypeId × Value → H} {P : Program} {w : World} {base : Nat} {spare : Nat → Bool} {held : Bool} {r : Reach} {b0 : Nat} {v : Value} {d : DataW H} {p : List MemPlace} {t : TypeId} {n : Nat} {T : Type} {c : T → List AV} {G : T → Prop}
theorem Q65 (ho:Opn P t 1 c G) (a:T→AV) (ha:∀x,c x=[a x]) (h1:v.cells = #[v]) (h:DataW.Trod enc P w base spare held t v d p) (hwt:∀q∈d.weights P t,q≤reachBytes):∃x:T,G x∧RelV noX noφ w (a x) v:=by
 obtain⟨fuel,hf⟩:=h
 obtain⟨x,hG,hr⟩:=ho.2.2 _ _ _ _ _ _ _ _ _ hf hwt
 rw[ha,h1] at hr
 exact⟨x,hG,hr.1⟩
theorem Zf0 {k:IntKind}(ht:P.underlying t=some (.int k)) (hc:P.cellsOf t=1) (hv:Value.okWide P w r b0 t v) (h:DataW.Trod enc P w base spare held t v d p) (hwt:∀q∈d.weights P t,q≤reachBytes):∃x:Int,(Lit.int k x).wf=true∧RelV noX noφ w (K k x) v:=by
 obtain⟨n,rfl⟩:=okWide_int ht hv
 exact Q65 (Q66 ht hc) _ (fun _=>rfl) rfl h hwt
theorem Qw4 {e:TypeId}(ht:P.underlying t=some (.slice e)) (ho:Opn P t 1 c G) (a:T→AV) (ha:∀x,c x=[a x]) (hv:Value.okWide P w r b0 t v) (h:DataW.Trod enc P w base spare held t v d p) (hwt:∀q∈d.weights P t,q≤reachBytes):∃x:T,G x∧RelV noX noφ w (a x) v:=by
 obtain⟨A,len,cap,rfl⟩:=okWide_slice ht hv
 exact Q65 ho a ha rfl h hwt
end
section
variable {H : Type} {enc : TypeId × Value → H} {P : Program}
theorem Qot (hl:laidOutB P=true) {W W':World}(hb:Below W.heap.size W W') {sp:Nat→Bool}:∀(ts:List TypeId) (vs:List Value) (ds:List (DataW H)) (ps:List MemPlace),
  ts.all (fun t=>P.readableRec t&&decide (t<P.types.size))=true→DataW.TrodAll enc P W 0 (fun _=>true) true ts vs ds ps→(∀x∈ps,x.block<W.heap.size)→(∀x∈ps,sp x.block=true) →
  DataW.TrodAll enc P W' 0 sp true ts vs ds ps
 |[],[],[],_,_,h,_,_=>h
 |[],_::_,_,_,_,h,_,_=>by simp[DataW.TrodAll] at h
 |[],[],_::_,_,_,h,_,_=>by simp[DataW.TrodAll] at h
 |_::_,[],_,_,_,h,_,_=>by simp[DataW.TrodAll] at h
 |_::_,_::_,[],_,_,h,_,_=>by simp[DataW.TrodAll] at h
 |t::ts,v::vs,d::ds,ps,hr,h,hlt,hsp=>by
  obtain⟨p,q,h1,h2,rfl⟩:=h
  rw[List.all_cons,Bool.and_eq_true,Bool.and_eq_true,decide_eq_true_eq] at hr
  refine⟨p,q,?_,Qot hl hb ts vs ds q hr.2 h2 (fun x hx=>hlt x (List.mem_append_right _ hx)) (fun x hx=>hsp x (List.mem_append_right _ hx)),rfl⟩
  exact WideElems.Trod_stays hl hr.1.1 hr.1.2 h1 (fun x hx=>hb.same (hlt x (List.mem_append_left _ hx))) (fun x hx=>hsp x (List.mem_append_left _ hx))
theorem Za2 {f:Func}{s:ChangeSpec}{W W':World}{args:Array Value}{ds:List (DataW H)}{before:List MemPlace}(tb:TypeId)
  (hW:DataW.Whole enc P f.params.toList s.vars false W args.toList ds [] before) (hl:laidOutB P=true) (hp:f.params.toList.all (fun t=>P.readableRec t&&decide (t<P.types.size))=true)
  (hrt:f.resultTypes = #[tb]) (htb:P.underlying tb=some .bool) (hv:s.vars=[]) (hs1:(s.fn H (ds++[])).results=[.lit (.bool true)]) (hs2:(s.fn H (ds++[])).args=ds) (hs3:(s.fn H (ds++[])).vars=[])
  (hb:Below W.heap.size W W'):s.post enc P f false true false false W args (.bool true) W':=by
 have hlt:∀p∈before,p.block<W.heap.size:=fun p hp=>hW.lt p hp
 have hold:∀p∈before,(fun b=>decide (b<W.heap.size)) p.block=true:=fun p hp=>by simpa using hlt p hp
 obtain⟨pa,pv,hA,hV,he,hz,hn⟩:=hW
 rw[hv] at hV
 have hpv:pv=[]:=hV
 subst hpv
 rw[List.append_nil] at he
 subst he
 have hargs:∀sp:Nat→Bool,(∀p∈before,sp p.block=true)→DataW.TrodAll enc P W' 0 sp true f.params.toList args.toList (s.fn H (ds++[])).args before:=fun sp hsp=>by
  rw[hs2]
  exact Qot hl hb _ _ _ _ hp hA hlt hsp
 have hvars:∀sp:Nat→Bool,DataW.TrodVars enc P W' sp s.vars (s.fn H (ds++[])).vars []:=fun sp=>by
  rw[hv,hs3]
  exact rfl
 have hres:∀(b:Nat) (sp:Nat→Bool) (hd:Bool),DataW.TrodAll enc P W' b sp hd f.resultTypes.toList ((Value.bool true).resultList f.resultTypes.size) (s.fn H (ds++[])).results []:=fun b sp hd=>by
  rw[hs1,hrt]
  exact trodAll_mk1 (shut_bool htb _)
 have hok:=ok_one (P:=P) (W':=W') (f:=f) (v:=.bool true) hrt rfl (okWide_bool_mk htb _)
 refine⟨ds,[],before,[],before,[],⟨before,[],hA,by rw[hv];exact rfl,by simp,hz,fun h=>by cases h⟩,hres _ _ _,hargs _ hold,hvars _,World.keptBut_mono (fun p hp=>⟨hp,Or.inr (Or.inl hp)⟩) (hb.frame (· ∈ before)),fun _=>?_⟩
 refine⟨hok,_,_,([]++before)++[],⟨[]++before,[],trodAll_append (hargs _ (fun _ _=>rfl)) (hres _ _ _),hvars _,rfl,?_,?_⟩,?_⟩
 ·intro b off hp
  have hin:MemPlace.cell b off∈before:=by simpa using hp
  rw[hb.frozen (hlt _ hin)]
  exact hz b off hin
 ·intro ha
  cases ha
 ·intro p hp _
  simpa using hp
end
end
section
open Go.ChangeShapes Go.WideShapes Go.ChangeAt Go.RowKit Go.Deep Go.Joins
def Qnw (x:Int):Prop:=(Lit.int .i64 x).wf=true
def Q7x (x:GRow):Prop:=Qnw x.T∧Qnw x.P∧Qnw x.Liquid∧Qnw x.Vapour∧Qnw x.Silica
def Q10 (x:List GRow):Prop:=x.length≤maxLen∧(∀y∈x,Q7x y)∧x.length*40≤140737488351232
theorem opn3:Opn prog 3 1 Qab Qnw:=Q66 underlying3 (by kernel_rfl)
theorem Zjl:Opn prog 106 5 Qam Q7x:=⟨by kernel_rfl,fun _=>rfl,fun _ _ _ _ _ _ _ _ _ h hw=>by
  obtain⟨xs,n,_,rfl,hl,hx,hf⟩:=DataW.trod_struct underlying106 h
  have hz:=Qrm underlying106 hw
  obtain⟨v0,g0,r0⟩:=Qid hf hx hz 0 _ rfl opn3
  obtain⟨v1,g1,r1⟩:=Qid hf hx hz 1 _ rfl opn3
  obtain⟨v2,g2,r2⟩:=Qid hf hx hz 2 _ rfl opn3
  obtain⟨v3,g3,r3⟩:=Qid hf hx hz 3 _ rfl opn3
  obtain⟨v4,g4,r4⟩:=Qid hf hx hz 4 _ rfl opn3
  exact⟨⟨v0,v1,v2,v3,v4⟩,⟨g0,g1,g2,g3,g4⟩,Q6y (Qlx (Qlx (Qlx (Qlx (Qwr r0) r1 rfl) r2 rfl) r3 rfl) r4 rfl) (hl.trans (by kernel_rfl))⟩⟩
theorem Zle:Opn prog 23 1 Qvl Q10:=Qw5 underlying23 (by kernel_rfl) Zjl (by decide) (by kernel_rfl)
def Qto (x:Qaa):Prop:=Qnw x.Mass∧Qnw x.Heat∧Qnw x.Silica∧Qnw x.Gas
def Qsc (x:List Qaa):Prop:=x.length≤maxLen∧(∀y∈x,Qto y)∧x.length*32≤140737488351232
theorem Zld:Opn prog 25 4 Qac Qto:=⟨by kernel_rfl,fun _=>rfl,fun _ _ _ _ _ _ _ _ _ h hw=>by
  obtain⟨xs,n,_,rfl,hl,hx,hf⟩:=DataW.trod_struct underlying25 h
  have hz:=Qrm underlying25 hw
  obtain⟨v0,g0,r0⟩:=Qid hf hx hz 0 _ rfl opn3
  obtain⟨v1,g1,r1⟩:=Qid hf hx hz 1 _ rfl opn3
  obtain⟨v2,g2,r2⟩:=Qid hf hx hz 2 _ rfl opn3
  obtain⟨v3,g3,r3⟩:=Qid hf hx hz 3 _ rfl opn3
  exact⟨⟨v0,v1,v2,v3⟩,⟨g0,g1,g2,g3⟩,Q6y (Qlx (Qlx (Qlx (Qwr r0) r1 rfl) r2 rfl) r3 rfl) (hl.trans (by kernel_rfl))⟩⟩
theorem Zlc:Opn prog 66 1 Qag Qsc:=Qw5 underlying66 (by kernel_rfl) Zld (by decide) (by kernel_rfl)
def Zlf (x:Int):Prop:=(Lit.int .u8 x).wf=true
end
section
def Qcz (_N:Nat) (p0 p1 p2:Int):Option Bool:=
  bif (decide (p1≤p0)) then
   some (decide (p0≤p2))
  else
   some false
theorem Qc3 (N:Nat) (p0 p1 p2:Int) (r:Bool) (h:Qcz N p0 p1 p2=some r):Spec prog 91 [(I p0),(I p1),(I p2)] [] (B r) []:=by
  refine sA func91 0 fun _ _ _ hq hd0=>?_
  unfold Qcz at h
  refine wxz ?_
  refine bfe h (fun hb1 h=>?_) fun hb1 h=>?_
  ·refine wx tbk [(3,rp [(.tmp 9,(B ((decide (p1≤p0)))))] (B true))] ⟨asb hb1 (amv rfl),tv⟩<|Qaf ?_
   obtain rfl:=osi h
   exact fend ⟨[(B ((decide (p0≤p2))))],⟨rot,tv⟩,rfl⟩ nll
  ·exact wx tbk [(3,rp [(.tmp 9,(B ((decide (p1≤p0)))))] (B false))] ⟨asb hb1 (amv rfl),tv⟩<|Qaf<|frb h
def Qgq (N:Nat) (p0:GRow):Option Bool:=
  (Qcz N p0.T 0 400).bind fun x2=>
  bif x2 then
   (Qcz N p0.P 1 10000).bind fun x5=>
   bif x5 then
    (Qcz N p0.Liquid 0 4000).bind fun x8=>
    bif x8 then
     (Qcz N p0.Silica 0 2000).bind fun x11=>
     bif x11 then
      bif (decide (p0.Liquid<p0.Vapour)) then
       some (decide (p0.Vapour≤4000))
      else
       some false
     else
      some false
    else
     some false
   else
    some false
  else
   some false
def z8_2 (p0:GRow) (x2:Bool):List (Nat×Rec):=[(2,rp [fu 91,((.tmp 4),(I p0.T)),ci 0,ci 400] (B x2))]
def z8_3 p0 x2 (x5:Bool):=hcat (z8_2 p0 x2) [(3,rp [((.tmp 5),(B x2))] (B true)),(6,rp [((.tmp 6),(B true)),fu 91,((.tmp 8),(I p0.P)),ci 1,ci 10000] (B x5))]
def z8_4 p0 x2 x5 (x8:Bool):=hcat (z8_3 p0 x2 x5) [(8,rp [((.tmp 10),(B x5))] (B true)),(11,rp [((.tmp 11),(B true)),fu 91,((.tmp 13),(I p0.Liquid)),ci 0,ci 4000] (B x8))]
def z8_5 p0 x2 x5 x8 (x11:Bool):=hcat (z8_4 p0 x2 x5 x8) [(13,rp [((.tmp 15),(B x8))] (B true)),(16,rp [((.tmp 16),(B true)),fu 91,((.tmp 18),(I p0.Silica)),ci 0,ci 2000] (B x11))]
theorem Qn5 (N:Nat) (p0:GRow) (r:Bool) (h:Qgq N p0=some r):Spec prog 93 [(.agg (Qam p0))] [] (B r) []:=by
  refine sA func93 0 fun _ _ _ hq hd0=>?_
  unfold Qgq at h
  refine wxz ?_
  obtain⟨x2,hf1,h⟩:=bno h
  refine hpre (A:=(z8_2 p0 x2)) ⟨apv Qkf (Qc3 N p0.T 0 400 _ hf1) (nlcc (nlc nll nl0)) nll,tv⟩ fun q1_=>?_
  refine bfe h (fun hb3 h=>?_) fun hb3 h=>?_
  ·obtain⟨x5,hf4,h⟩:=bno h
   refine hpre (A:=(z8_3 p0 x2 x5)) (hap q1_ ⟨asb hb3 (amv rfl),ag_ (apv Qkf (Qc3 N p0.P 1 10000 _ hf4) (nlcc (nlc nll nl0)) nll),tv⟩) fun q2_=>?_
   refine bfe h (fun hb6 h=>?_) fun hb6 h=>?_
   ·obtain⟨x8,hf7,h⟩:=bno h
    refine hpre (A:=(z8_4 p0 x2 x5 x8)) (hap q2_ ⟨asb hb6 (amv rfl),ag_ (apv Qkf (Qc3 N p0.Liquid 0 4000 _ hf7) (nlcc (nlc nll nl0)) nll),tv⟩) fun q3_=>?_
    refine bfe h (fun hb9 h=>?_) fun hb9 h=>?_
    ·obtain⟨x11,hf10,h⟩:=bno h
     refine hpre (A:=(z8_5 p0 x2 x5 x8 x11)) (hap q3_ ⟨asb hb9 (amv rfl),ag_ (apv Qkf (Qc3 N p0.Silica 0 2000 _ hf10) (nlcc (nlc nll nl0)) nll),tv⟩) fun q4_=>?_
     refine bfe h (fun hb12 h=>?_) fun hb12 h=>?_
     ·refine bfe h (fun hb13 h=>?_) fun hb13 h=>?_
      ·refine wx tbk (hcat (z8_5 p0 x2 x5 x8 x11) [(18,rp [(.tmp 20,B x11)] (B true)),(25,rp [(.tmp 27,(B ((decide (p0.Liquid<p0.Vapour)))))] (B true))]) (hap q4_ ⟨asb hb12 (amv rfl),asb hb13 (amv rfl),tv⟩)<|Qaf ?_
       obtain rfl:=osi h
       exact fend ⟨[(B ((decide (p0.Vapour≤4000))))],⟨rot,tv⟩,rfl⟩ nll
      ·exact wx tbk (hcat (z8_5 p0 x2 x5 x8 x11) [(18,rp [(.tmp 20,B x11)] (B true)),(25,rp [(.tmp 27,(B ((decide (p0.Liquid<p0.Vapour)))))] (B false))]) (hap q4_ ⟨asb hb12 (amv rfl),asb hb13 (amv rfl),tv⟩)<|Qaf<|frb h
     ·exact wx tbk (hcat (z8_5 p0 x2 x5 x8 x11) [(18,rp [(.tmp 20,B x11)] (B false))]) (hap q4_ ⟨asb hb12 (amv rfl),tv⟩)<|Qaf<|frb h
    ·exact wx tbk (hcat (z8_4 p0 x2 x5 x8) [(13,rp [(.tmp 15,B x8)] (B false))]) (hap q3_ ⟨asb hb9 (amv rfl),tv⟩)<|Qaf<|frb h
   ·exact wx tbk (hcat (z8_3 p0 x2 x5) [(8,rp [(.tmp 10,B x5)] (B false))]) (hap q2_ ⟨asb hb6 (amv rfl),tv⟩)<|Qaf<|frb h
  ·exact wx tbk (hcat (z8_2 p0 x2) [(3,rp [(.tmp 5,B x2)] (B false))]) (hap q1_ ⟨asb hb3 (amv rfl),tv⟩)<|Qaf<|frb h
def Qex (N:Nat) (p0:GRow):Option Bool:=
  (Qgq N p0).bind fun x3=>
  some (!x3)
abbrev z7_1 (p0:GRow):AV:=.agg [(I p0.T),(I p0.P),(I p0.Liquid),(I p0.Vapour),(I p0.Silica)]
abbrev z7_2:Slot:=.own 1 [[(.fn (.func 93) [] [])]]
theorem Qj6 (N:Nat) (p0:GRow) (r:Bool) (h:Qex N p0=some r):Spec prog 136 [(z7_1 p0),(.ref 0 1 (0) 0)] [z7_2] (B r) [z7_2]:=by
  refine sF func136 1 fun _ _ _ hq hd0=>?_
  unfold Qex at h
  refine wxz ?_
  obtain⟨x3,hf2,h⟩:=bno h
  refine wx tbk [(2,rp _ _)] ⟨apw Zgh (Qn5 N p0 _ hf2),tv⟩ ?_
  refine wmr (mto (n:=8) (l':=[(3,(B ((!x3))))]) (own':=[z7_2]) [(3,(B ((!x3))))] [0] [z7_2] hq (pw pn) (qb (lc (.rn (Qa4 rn0 rn0)) ln) qn))<|Qaf ?_
  obtain rfl:=osi h
  exact⟨_,Mor.rfl,fio [(B ((!x3)))] ⟨rot,tv⟩⟩
def Qa7 (N:Nat) (p0:List GRow) (k2:Unit→Option Int):Nat→Int→Option Int
  |0,_=>none
  |n5+1,y3=>
    bif (decide (y3<(p0.length:Int))) then
     (getI p0 y3).bind fun x7=>
     (Qex N x7).bind fun x12=>
     bif x12 then
      some y3
     else
      Qa7 N p0 k2 n5 (w64 (y3+1))
    else
     k2 ()
def Qci (N:Nat) (p0:List GRow):Option Int:=
  Qcf (fun _=>
    some (-1)) fun k2:Unit→Option Int=>
  Qa7 N p0 k2 N 0
abbrev z6_0:AV:=.fn (.func 136) [] [(.ref 0 1 (0) 0)]
abbrev z6_2:Slot:=.own 1 [[(.fn (.func 93) [] [])]]
def z6_7 (x7:GRow):AV:=.agg [(I x7.T),(I x7.P),(I x7.Liquid),(I x7.Vapour),(I x7.Silica)]
theorem Qgr (N:Nat) (p0:List GRow) (r:Int) (h:Qci N p0=some r):Spec prog 160 [(.dat 5 (p0.map Qam)),z6_0] [z6_2] (I r) [z6_2]:=by
  refine sF func160 1 fun _ _ _ hq hd0=>?_
  unfold Qci at h
  refine wxz ?_
  obtain⟨k2,hk_k2,h⟩:=jko h
  refine wjn (τ:=Unit) (fun t=>k2 t=some r) (fun _=>⟨mk 19 [],[z6_2]⟩) (fun t h=>?_) ?_
  ·subst hk_k2
   refine wxz<|wmr (mto (n:=19) (l':=[(4,(I ((-1))))]) (own':=[z6_2]) [(4,(I ((-1))))] [0] [z6_2] hq (pw pn) (qb (lc (.rn (Qa4 rn0 rn0)) ln) qn))<|Qaf ?_
   obtain rfl:=osi h
   exact⟨_,Mor.rfl,fio [(I ((-1)))] ⟨rot,tv⟩⟩
  ·skip
   refine wx tbk [(1,rp _ _)] ⟨alq 5 Qam p0 underlying35,tv⟩<|Qar ?_
   refine wmr (mto (n:=19) (l':=[(0,(.dat 5 (p0.map Qam))),(1,z6_0),(7,(I ((p0.length:Int)))),(8,I 0)]) (own':=[z6_2]) [(0,(.dat 5 (p0.map Qam))),(1,z6_0),(7,(I ((p0.length:Int)))),(8,I 0)] [0] [z6_2] hq (pc (rnd Qap) (pc (.rn (Qa4 rn0 (rnc (rqr rfl) rn0))) (pw (pw pn)))) (qb (lc (.rn (Qa4 rn0 rn0)) ln) qn)) ?_
   refine Qcn (τ:=Int) (fun n t=>Qa7 N p0 k2 n t=some r) (fun y3=>⟨mk 19 [(0,(.dat 5 (p0.map Qam))),(1,z6_0),(7,(I ((p0.length:Int)))),(8,I y3)],[z6_2]⟩) (fun t h=>by rw[Qa7] at h;cases h) (fun n5 ih y3 h=>?_) N (0) h
   rw[Qa7] at h
   skip
   refine wxz<|wsq ?_
   refine bfe h (fun hc6 h=>?_) fun hc6 h=>?_
   ·refine wft hc6<|Qaq<|thn<|wsq<|Qar<|wxz ?_
    obtain⟨x7,hg8,h⟩:=bno h
    obtain⟨hi9,hj10⟩:=gsm hg8
    obtain⟨x12,hf11,h⟩:=bno h
    refine wx tbk [(3,rp _ _),(5,⟨_,_,_,_,false⟩)] ⟨aiq underlying35 Qqx Qam hi9 hj10,Qct (first:=[]) (cap:=[.ref 0 1 0 0]) (vs:=[(z6_7 x7)]) (σr:=[z6_2]) (σr':=[z6_2]) (res':=(B x12)) [0] rfl Zbv (Qj6 N x7 _ hf11) rfl (Qbi (rnc (.plain _ (NLt.agg _ (nlcc (nlcc (nlc nll nl0))))) (rnc (Qas rfl) rn0))) (slc (Qai (rnc (.plain _ (NLt.fn _ _ _ nl0 nl0)) rn0)) Qao) (slc (Qai (rnc (.plain _ (NLt.fn _ _ _ nl0 nl0)) rn0)) Qao) (.plain _ nll) rfl rfl rfl,tv⟩ ?_
    refine bfe h (fun hc13 h=>?_) fun hc13 h=>?_
    ·refine wft hc13<|wxz ?_
     refine wmr (mto (n:=19) (l':=[(4,I y3)]) (own':=[z6_2]) [(4,I y3)] [0] [z6_2] hq (pw pn) (qb (lc (.rn (Qa4 rn0 rn0)) ln) qn))<|Qaf<|Qat<|Qal<|Qal<|Qat<|Qal ?_
     obtain rfl:=osi h
     exact⟨_,Mor.rfl,fio [I y3] ⟨rot,tv⟩⟩
    ·exact wfn hc13<|Qaq<|bln<|thn<|wxz1<|thn<|arm (mto (n:=19) [(0,(.dat 5 (p0.map Qam))),(1,z6_0),(7,(I ((p0.length:Int)))),(8,(I (w64 (y3+1))))] [0] [z6_2] hq (pc (rnd Qap) (pc (.rn (Qa4 rn0 (rnc (rqr rfl) rn0))) (pw (pw pn)))) (qb (lc (.rn (Qa4 rn0 rn0)) ln) qn)) (ih (w64 (y3+1)) h)
   ·exact wfn hc6<|Qbl<|Qaz<|Qaz<|Qbk rfl<|thn<|⟨(),h,(mto (n:=19) [] [0] [z6_2] hq pn (qb (lc (.rn (Qa4 rn0 rn0)) ln) qn))⟩
def Qca (N:Nat) (p0:List GRow):Option Bool:=
  (Qci N p0).bind fun x3=>
  some (decide (x3≥0))
abbrev z5_0:AV:=.fn (.func 136) [] [(.ref 0 1 (0) 0)]
abbrev z5_1:Slot:=.own 1 [[(.fn (.func 93) [] [])]]
theorem Qga (N:Nat) (p0:List GRow) (r:Bool) (h:Qca N p0=some r):Spec prog 135 [(.dat 5 (p0.map Qam)),z5_0] [z5_1] (B r) [z5_1]:=by
  refine sF func135 1 fun _ _ _ hq hd0=>?_
  unfold Qca at h
  refine wxz ?_
  obtain⟨x3,hf2,h⟩:=bno h
  refine wx tbk [(2,⟨_,_,_,_,false⟩)] ⟨acq [(.dat 5 (p0.map Qam)),z5_0] [z5_1] [z5_1] (I x3) [0] Zbm (Qgr N p0 _ hf2) (Qbi (rnc (pld Qap) (rnc (Qa4 rn0 (rnc (Qas rfl) rn0)) rn0))) (slc (Qai (rnc (.plain _ (NLt.fn _ _ _ nl0 nl0)) rn0)) Qao) (slc (Qai (rnc (.plain _ (NLt.fn _ _ _ nl0 nl0)) rn0)) Qao) (.plain _ nll),tv⟩ ?_
  refine wmr (mto (n:=9) (l':=[(4,(B ((decide (x3≥0)))))]) (own':=[z5_1]) [(4,(B ((decide (x3≥0)))))] [0] [z5_1] hq (pw pn) (qb (lc (.rn (Qa4 rn0 rn0)) ln) qn))<|Qaf ?_
  obtain rfl:=osi h
  exact⟨_,Mor.rfl,fio [(B ((decide (x3≥0))))] ⟨rot,tv⟩⟩
def Qei (N:Nat) (p0:List GRow):Option Bool:=
  (Qca N p0).bind fun x2=>
  some (!x2)
def z4_1:AV:=.fn (.func 136) [] [(.ref 0 1 (0) 0)]
def z4_0:Slot:=.own 1 [[(.fn (.func 93) [] [])]]
theorem Qk8 (N:Nat) (p0:List GRow) (r:Bool) (h:Qei N p0=some r):Spec prog 92 [(.dat 5 (p0.map Qam)),(.fn (.func 93) [] [])] [] (B r) []:=by
  refine sA func92 0 fun _ _ _ hq hd0=>?_
  unfold Qei at h
  refine wxz ?_
  obtain⟨x2,hf1,h⟩:=bno h
  refine wx tbk [(1,rp [(.tmp 3,.ref 0 1 0 0)] z4_1),(2,⟨_,_,_,_,false⟩)] ⟨Qed (fs:=[]) (cs:=[.ref 0 1 0 0]) rfl rfl rfl rfl,acq [(.dat 5 (p0.map Qam)),z4_1] [z4_0] [z4_0] (B x2) [0] Zbw (Qga N p0 _ hf1) (Qbi (rnc (pld Qap) (rnc (Qa4 rn0 (rnc (Qas rfl) rn0)) rn0))) (slc (Qai (rnc (.plain _ (NLt.fn _ _ _ nl0 nl0)) rn0)) Qao) (slc (Qai (rnc (.plain _ (NLt.fn _ _ _ nl0 nl0)) rn0)) Qao) (.plain _ nll),tv⟩<|Qaf ?_
  obtain rfl:=osi h
  exact fend ⟨[(B ((!x2)))],⟨rot,tv⟩,rfl⟩ nll
def Qcp (N:Nat) (p0:List GRow) (k2:Unit→Option Bool):Nat→Int→Option Bool
  |0,_=>none
  |n6+1,y4=>
    bif (decide (y4<((p0.drop (1:Int).toNat).length:Int))) then
     (getI (p0.drop (1:Int).toNat) y4).bind fun x8=>
     (getI p0 y4).bind fun x12=>
     bif (decide (x8.T≤x12.T)) then
      some false
     else
      bif (decide (x8.P≤x12.P)) then
       some false
      else
       bif (decide (x8.Liquid≤x12.Liquid)) then
        some false
       else
        bif (decide (x8.Silica<x12.Silica)) then
         some false
        else
         Qcp N p0 k2 n6 (w64 (y4+1))
    else
     k2 ()
def Qd2 (N:Nat) (p0:List GRow):Option Bool:=
  Qcf (fun _=>
    Qcf (fun _=>
      some true) fun k2:Unit→Option Bool=>
    chk (decide (0≤1)&&decide (1≤(p0.length:Int))&&decide ((p0.length:Int)≤(p0.length:Int)))<|
    Qcp N p0 k2 N 0) fun k1:Unit→Option Bool=>
  (Qcz N (p0.length:Int) 2 20).bind fun x21=>
  bif (!x21) then
   some false
  else
   (Qei N p0).bind fun x24=>
   bif (!x24) then
    some false
   else
    k1 ()
def z2_0 (p0:List GRow):AV:=.dat 5 ((p0.drop (1:Int).toNat:List GRow).map Qam)
def Q97 (x8 x12:GRow):List (Nat×Rec):=[(5,rp [((.tmp 31),(B ((decide (x8.T≤x12.T)))))] (B false))]
def Zex (p0:List GRow) (x21:Bool):List (Nat×Rec):=[(1,rp [((.tmp 6),(.dat 5 (p0.map Qam)))] (I ((p0.length:Int)))),(2,rp [fu 91,((.tmp 7),(I ((p0.length:Int)))),ci 2,ci 20] (B x21))]
theorem Qg2 (N:Nat) (p0:List GRow) (r:Bool) (h:Qd2 N p0=some r):Spec prog 48 [(.dat 5 (p0.map Qam))] [] (B r) []:=by
  refine sA func48 0 fun _ _ _ hq hd0=>?_
  unfold Qd2 at h
  refine wxz ?_
  obtain⟨k1,hk_k1,h⟩:=jko h
  refine wjn (τ:=Unit) (fun t=>k1 t=some r) (fun _=>⟨mk 54 [(0,(.dat 5 (p0.map Qam)))],[]⟩) (fun t h=>?_) ?_
  ·subst hk_k1
   obtain⟨k2,hk_k2,h⟩:=jko h
   refine wjn (τ:=Unit) (fun t=>k2 t=some r) (fun _=>⟨mk 54 [],[]⟩) (fun t h=>?_) ?_
   ·subst hk_k2
    exact wxz<|Qaf<|frb h
   ·skip
    obtain⟨hs3,h⟩:=cko h
    refine wx tbk [(1,rp [(.tmp 15,(.dat 5 (p0.map Qam))),ci 1] (z2_0 p0)),(2,rp _ _)] ⟨Qm7 (k:=.i64) (k':=.i64) (lo:=some (.const (.int .i64 1))) (hi:=none) (l:=1) (hh:=((p0.length:Nat):Int)) rfl underlying36 Qqx rfl (fun e=>nomatch e) (fun _=>by simp) (Qz7 hs3) (Qz6 hs3) (Zhe Qam hs3) (Zjc Qam),alq 5 Qam (p0.drop (1:Int).toNat) underlying36,tv⟩<|Qar ?_
    refine wmr (mto (n:=54) (l':=[(0,(.dat 5 (p0.map Qam))),(16,(z2_0 p0)),(17,(I (((p0.drop (1:Int).toNat).length:Int)))),(18,I 0)]) (own':=[]) [(0,(.dat 5 (p0.map Qam))),(16,(z2_0 p0)),(17,(I (((p0.drop (1:Int).toNat).length:Int)))),(18,I 0)] [] [] hq (pc (rnd Qap) (pc (rnd Qap) (pw (pw pn)))) qn) ?_
    refine Qcn (τ:=Int) (fun n t=>Qcp N p0 k2 n t=some r) (fun y4=>⟨mk 54 [(0,(.dat 5 (p0.map Qam))),(16,(z2_0 p0)),(17,(I (((p0.drop (1:Int).toNat).length:Int)))),(18,I y4)],[]⟩) (fun t h=>by rw[Qcp] at h;cases h) (fun n6 ih y4 h=>?_) N (0) h
    rw[Qcp] at h
    skip
    refine wxz<|wsq ?_
    refine bfe h (fun hc7 h=>?_) fun hc7 h=>?_
    ·refine wft hc7<|Qaq<|thn<|wsq<|Qar ?_
     obtain⟨x8,hg9,h⟩:=bno h
     obtain⟨hi10,hj11⟩:=gsm hg9
     refine wx tbk [(1,rp _ _)] ⟨aiq underlying36 Qqx Qam hi10 hj11,tv⟩ ?_
     obtain⟨x12,hg13,h⟩:=bno h
     obtain⟨hi14,hj15⟩:=gsm hg13
     refine wx tbk [(2,rp _ _)] ⟨aiq underlying36 Qqx Qam hi14 hj15,tv⟩ ?_
     refine bfe h (fun hb16 h=>?_) fun hb16 h=>?_
     ·exact wx tbk [(5,rp [(.tmp 31,(B ((decide (x8.T≤x12.T)))))] (B true))] ⟨asb hb16 (amv rfl),tv⟩<|wtr<|wxz<|Qaf<|Qat<|Qal<|Qal<|Qat<|Qal<|frb h
     ·refine hpre (A:=(Q97 x8 x12)) ⟨asb hb16 (amv rfl),tv⟩ fun q1_=>?_
      refine bfe h (fun hb17 h=>?_) fun hb17 h=>?_
      ·exact wx tbk (hcat (Q97 x8 x12) [(12,rp [(.tmp 38,(B ((decide (x8.P≤x12.P)))))] (B true))]) (hap q1_ ⟨asb hb17 (amv rfl),tv⟩)<|wtr<|wxz<|Qaf<|Qat<|Qal<|Qal<|Qat<|Qal<|frb h
      ·refine bfe h (fun hb18 h=>?_) fun hb18 h=>?_
       ·exact wx tbk (hcat (Q97 x8 x12) [(12,rp [(.tmp 38,(B ((decide (x8.P≤x12.P)))))] (B false)),(19,rp [(.tmp 45,(B ((decide (x8.Liquid≤x12.Liquid)))))] (B true))]) (hap q1_ ⟨asb hb17 (amv rfl),asb hb18 (amv rfl),tv⟩)<|wtr<|wxz<|Qaf<|Qat<|Qal<|Qal<|Qat<|Qal<|frb h
       ·refine wx tbk (hcat (Q97 x8 x12) [(12,rp [(.tmp 38,(B ((decide (x8.P≤x12.P)))))] (B false)),(19,rp [(.tmp 45,(B ((decide (x8.Liquid≤x12.Liquid)))))] (B false))]) (hap q1_ ⟨asb hb17 (amv rfl),asb hb18 (amv rfl),tv⟩) ?_
        refine bfe h (fun hc19 h=>?_) fun hc19 h=>?_
        ·exact wft hc19<|wxz<|Qaf<|Qat<|Qal<|Qal<|Qat<|Qal<|frb h
        ·exact wfn hc19<|Qaq<|bln<|thn<|wxz1<|thn<|arm (mto (n:=54) [(0,(.dat 5 (p0.map Qam))),(16,(z2_0 p0)),(17,(I (((p0.drop (1:Int).toNat).length:Int)))),(18,(I (w64 (y4+1))))] [] [] hq (pc (rnd Qap) (pc (rnd Qap) (pw (pw pn)))) qn) (ih (w64 (y4+1)) h)
    ·exact wfn hc7<|Qbl<|Qaz<|Qaz<|Qbk rfl<|thn<|⟨(),h,(mto (n:=54) [] [] [] hq pn qn)⟩
  ·skip
   obtain⟨x21,hf20,h⟩:=bno h
   refine hpre (A:=(Zex p0 x21)) ⟨alq 5 Qam p0 underlying36,apv Qkf (Qc3 N (p0.length:Int) 2 20 _ hf20) (nlcc (nlc nll nl0)) nll,tv⟩ fun q2_=>?_
   refine bfe h (fun hb22 h=>?_) fun hb22 h=>?_
   ·exact wx tbk (hcat (Zex p0 x21) [(4,rp [(.tmp 9,(B ((!x21))))] (B true))]) (hap q2_ ⟨asb hb22 (amv rfl),tv⟩)<|wtr<|wxz<|Qaf<|Qal<|frb h
   ·obtain⟨x24,hf23,h⟩:=bno h
    refine wx tbk (hcat (Zex p0 x21) [(4,rp [(.tmp 9,(B ((!x21))))] (B false)),(6,rp [(.tmp 10,B false),fu 92,(.tmp 11,(.dat 5 (p0.map Qam))),fu 93] (B x24))]) (hap q2_ ⟨asb hb22 (amv rfl),ag_ (acq [(.dat 5 (p0.map Qam)),(.fn (.func 93) [] [])] [] [] (B x24) [] Zgi (Qk8 N p0 _ hf23) (Qbi (rnc (pld Qap) (rnc (.plain _ (NLt.fn _ _ _ nl0 nl0)) rn0))) Qao Qao (.plain _ nll)),tv⟩) ?_
    refine bfe h (fun hc25 h=>?_) fun hc25 h=>?_
    ·exact wft hc25<|wxz<|Qaf<|Qal<|frb h
    ·exact wfn hc25<|Qaq<|thn<|⟨(),h,(mto (n:=54) [(0,(.dat 5 (p0.map Qam)))] [] [] hq (pc (rnd Qap) pn) qn)⟩
def Qhb (N:Nat) (p0:List GRow):Option Int:=
  (Qd2 N p0).bind fun x2=>
  bif (!x2) then
   some 1
  else
   some 0
theorem Qnk (N:Nat) (p0:List GRow) (r:Int) (h:Qhb N p0=some r):Spec prog 101 [(.dat 5 (p0.map Qam))] [] (I r) []:=by
  refine sA func101 0 fun _ _ _ hq hd0=>?_
  unfold Qhb at h
  refine wxz<|wsq ?_
  obtain⟨x2,hf1,h⟩:=bno h
  refine wx tbk [(1,rp _ _)] ⟨apw Qzh (Qg2 N p0 _ hf1),tv⟩ ?_
  refine bfe h (fun hc3 h=>?_) fun hc3 h=>?_
  ·refine wft hc3<|wxz<|Qaf<|Qal ?_
   obtain rfl:=osi h
   exact fend ⟨[I 1],⟨rot,tv⟩,rfl⟩ nll
  ·refine wfn hc3<|Qaq<|thn<|wxz<|Qaf ?_
   obtain rfl:=osi h
   exact fend ⟨[I 0],⟨rot,tv⟩,rfl⟩ nll
def Qck (_N:Nat) (p0 p1 p2:Int):Option Bool:=
  bif (decide (p1≤p0)) then
   some (decide (p0≤p2))
  else
   some false
theorem Qdf (N:Nat) (p0 p1 p2:Int) (r:Bool) (h:Qck N p0 p1 p2=some r):Spec prog 97 [(I p0),(I p1),(I p2)] [] (B r) []:=by
  refine sA func97 0 fun _ _ _ hq hd0=>?_
  unfold Qck at h
  refine wxz ?_
  refine bfe h (fun hb1 h=>?_) fun hb1 h=>?_
  ·refine wx tbk [(3,rp [(.tmp 9,(B ((decide (p1≤p0)))))] (B true))] ⟨asb hb1 (amv rfl),tv⟩<|Qaf ?_
   obtain rfl:=osi h
   exact fend ⟨[(B ((decide (p0≤p2))))],⟨rot,tv⟩,rfl⟩ nll
  ·exact wx tbk [(3,rp [(.tmp 9,(B ((decide (p1≤p0)))))] (B false))] ⟨asb hb1 (amv rfl),tv⟩<|Qaf<|frb h
def Qf1 (N:Nat) (p0:Int):Option Bool:=
  (Qck N p0 0 1000).bind fun x2=>
  some x2
theorem Qlq (N:Nat) (p0:Int) (r:Bool) (h:Qf1 N p0=some r):Spec prog 140 [(I p0)] [] (B r) []:=by
  refine sA func140 0 fun _ _ _ hq hd0=>?_
  unfold Qf1 at h
  refine wxz ?_
  obtain⟨x2,hf1,h⟩:=bno h
  exact wx tbk [(1,rp _ _)] ⟨apw Qke (Qdf N p0 0 1000 _ hf1),tv⟩<|Qaf<|frb h
def Qge (N:Nat) (p0:Int):Option Bool:=
  (Qf1 N p0).bind fun x3=>
  some (!x3)
abbrev Q98:Slot:=.own 1 [[(.fn (.func 140) [] [])]]
theorem Qnp (N:Nat) (p0:Int) (r:Bool) (h:Qge N p0=some r):Spec prog 153 [(I p0),(.ref 0 1 (0) 0)] [Q98] (B r) [Q98]:=by
  refine sF func153 1 fun _ _ _ hq hd0=>?_
  unfold Qge at h
  refine wxz ?_
  obtain⟨x3,hf2,h⟩:=bno h
  refine wx tbk [(2,rp _ _)] ⟨apw Zbs (Qlq N p0 _ hf2),tv⟩ ?_
  refine wmr (mto (n:=8) (l':=[(3,(B ((!x3))))]) (own':=[Q98]) [(3,(B ((!x3))))] [0] [Q98] hq (pw pn) (qb (lc (.rn (Qa4 rn0 rn0)) ln) qn))<|Qaf ?_
  obtain rfl:=osi h
  exact⟨_,Mor.rfl,fio [(B ((!x3)))] ⟨rot,tv⟩⟩
def Qb2 (N:Nat) (p0:List Int) (k2:Unit→Option Int):Nat→Int→Option Int
  |0,_=>none
  |n5+1,y3=>
    bif (decide (y3<(p0.length:Int))) then
     (getI p0 y3).bind fun x7=>
     (Qge N x7).bind fun x12=>
     bif x12 then
      some y3
     else
      Qb2 N p0 k2 n5 (w64 (y3+1))
    else
     k2 ()
def Qd9 (N:Nat) (p0:List Int):Option Int:=
  Qcf (fun _=>
    some (-1)) fun k2:Unit→Option Int=>
  Qb2 N p0 k2 N 0
abbrev Q5l:AV:=.fn (.func 153) [] [(.ref 0 1 (0) 0)]
abbrev Qop:Slot:=.own 1 [[(.fn (.func 140) [] [])]]
theorem Qja (N:Nat) (p0:List Int) (r:Int) (h:Qd9 N p0=some r):Spec prog 151 [(.dat 1 (p0.map Qab)),Q5l] [Qop] (I r) [Qop]:=by
  refine sF func151 1 fun _ _ _ hq hd0=>?_
  unfold Qd9 at h
  refine wxz ?_
  obtain⟨k2,hk_k2,h⟩:=jko h
  refine wjn (τ:=Unit) (fun t=>k2 t=some r) (fun _=>⟨mk 19 [],[Qop]⟩) (fun t h=>?_) ?_
  ·subst hk_k2
   refine wxz<|wmr (mto (n:=19) (l':=[(4,(I ((-1))))]) (own':=[Qop]) [(4,(I ((-1))))] [0] [Qop] hq (pw pn) (qb (lc (.rn (Qa4 rn0 rn0)) ln) qn))<|Qaf ?_
   obtain rfl:=osi h
   exact⟨_,Mor.rfl,fio [(I ((-1)))] ⟨rot,tv⟩⟩
  ·skip
   refine wx tbk [(1,rp _ _)] ⟨alq 1 Qab p0 underlying29,tv⟩<|Qar ?_
   refine wmr (mto (n:=19) (l':=[(0,(.dat 1 (p0.map Qab))),(1,Q5l),(7,(I ((p0.length:Int)))),(8,I 0)]) (own':=[Qop]) [(0,(.dat 1 (p0.map Qab))),(1,Q5l),(7,(I ((p0.length:Int)))),(8,I 0)] [0] [Qop] hq (pc (rnd Qaj) (pc (.rn (Qa4 rn0 (rnc (rqr rfl) rn0))) (pw (pw pn)))) (qb (lc (.rn (Qa4 rn0 rn0)) ln) qn)) ?_
   refine Qcn (τ:=Int) (fun n t=>Qb2 N p0 k2 n t=some r) (fun y3=>⟨mk 19 [(0,(.dat 1 (p0.map Qab))),(1,Q5l),(7,(I ((p0.length:Int)))),(8,I y3)],[Qop]⟩) (fun t h=>by rw[Qb2] at h;cases h) (fun n5 ih y3 h=>?_) N (0) h
   rw[Qb2] at h
   skip
   refine wxz<|wsq ?_
   refine bfe h (fun hc6 h=>?_) fun hc6 h=>?_
   ·refine wft hc6<|Qaq<|thn<|wsq<|Qar<|wxz ?_
    obtain⟨x7,hg8,h⟩:=bno h
    obtain⟨hi9,hj10⟩:=gsm hg8
    obtain⟨x12,hf11,h⟩:=bno h
    refine wx tbk [(3,rp _ _),(5,⟨_,_,_,_,false⟩)] ⟨aiq underlying29 ti3 Qab hi9 hj10,Qct (first:=[]) (cap:=[.ref 0 1 0 0]) (vs:=[I x7]) (σr:=[Qop]) (σr':=[Qop]) (res':=(B x12)) [0] rfl Q2a (Qnp N x7 _ hf11) rfl (Qbi (rnc (.plain _ nll) (rnc (Qas rfl) rn0))) (slc (Qai (rnc (.plain _ (NLt.fn _ _ _ nl0 nl0)) rn0)) Qao) (slc (Qai (rnc (.plain _ (NLt.fn _ _ _ nl0 nl0)) rn0)) Qao) (.plain _ nll) rfl rfl rfl,tv⟩ ?_
    refine bfe h (fun hc13 h=>?_) fun hc13 h=>?_
    ·refine wft hc13<|wxz ?_
     refine wmr (mto (n:=19) (l':=[(4,I y3)]) (own':=[Qop]) [(4,I y3)] [0] [Qop] hq (pw pn) (qb (lc (.rn (Qa4 rn0 rn0)) ln) qn))<|Qaf<|Qat<|Qal<|Qal<|Qat<|Qal ?_
     obtain rfl:=osi h
     exact⟨_,Mor.rfl,fio [I y3] ⟨rot,tv⟩⟩
    ·exact wfn hc13<|Qaq<|bln<|thn<|wxz1<|thn<|arm (mto (n:=19) [(0,(.dat 1 (p0.map Qab))),(1,Q5l),(7,(I ((p0.length:Int)))),(8,(I (w64 (y3+1))))] [0] [Qop] hq (pc (rnd Qaj) (pc (.rn (Qa4 rn0 (rnc (rqr rfl) rn0))) (pw (pw pn)))) (qb (lc (.rn (Qa4 rn0 rn0)) ln) qn)) (ih (w64 (y3+1)) h)
   ·exact wfn hc6<|Qbl<|Qaz<|Qaz<|Qbk rfl<|thn<|⟨(),h,(mto (n:=19) [] [0] [Qop] hq pn (qb (lc (.rn (Qa4 rn0 rn0)) ln) qn))⟩
def Qcx (N:Nat) (p0:List Int):Option Bool:=
  (Qd9 N p0).bind fun x3=>
  some (decide (x3≥0))
abbrev Zig:AV:=.fn (.func 153) [] [(.ref 0 1 (0) 0)]
abbrev Q26:Slot:=.own 1 [[(.fn (.func 140) [] [])]]
theorem Qh8 (N:Nat) (p0:List Int) (r:Bool) (h:Qcx N p0=some r):Spec prog 117 [(.dat 1 (p0.map Qab)),Zig] [Q26] (B r) [Q26]:=by
  refine sF func117 1 fun _ _ _ hq hd0=>?_
  unfold Qcx at h
  refine wxz ?_
  obtain⟨x3,hf2,h⟩:=bno h
  refine wx tbk [(2,⟨_,_,_,_,false⟩)] ⟨acq [(.dat 1 (p0.map Qab)),Zig] [Q26] [Q26] (I x3) [0] Qpd (Qja N p0 _ hf2) (Qbi (rnc (pld Qaj) (rnc (Qa4 rn0 (rnc (Qas rfl) rn0)) rn0))) (slc (Qai (rnc (.plain _ (NLt.fn _ _ _ nl0 nl0)) rn0)) Qao) (slc (Qai (rnc (.plain _ (NLt.fn _ _ _ nl0 nl0)) rn0)) Qao) (.plain _ nll),tv⟩ ?_
  refine wmr (mto (n:=9) (l':=[(4,(B ((decide (x3≥0)))))]) (own':=[Q26]) [(4,(B ((decide (x3≥0)))))] [0] [Q26] hq (pw pn) (qb (lc (.rn (Qa4 rn0 rn0)) ln) qn))<|Qaf ?_
  obtain rfl:=osi h
  exact⟨_,Mor.rfl,fio [(B ((decide (x3≥0))))] ⟨rot,tv⟩⟩
def Qgf (N:Nat) (p0:List Int):Option Bool:=
  (Qcx N p0).bind fun x2=>
  some (!x2)
def Zih:AV:=.fn (.func 153) [] [(.ref 0 1 (0) 0)]
def Zii:Slot:=.own 1 [[(.fn (.func 140) [] [])]]
theorem Qo4 (N:Nat) (p0:List Int) (r:Bool) (h:Qgf N p0=some r):Spec prog 123 [(.dat 1 (p0.map Qab)),(.fn (.func 140) [] [])] [] (B r) []:=by
  refine sA func123 0 fun _ _ _ hq hd0=>?_
  unfold Qgf at h
  refine wxz ?_
  obtain⟨x2,hf1,h⟩:=bno h
  refine wx tbk [(1,rp [(.tmp 3,.ref 0 1 0 0)] Zih),(2,⟨_,_,_,_,false⟩)] ⟨Qed (fs:=[]) (cs:=[.ref 0 1 0 0]) rfl rfl rfl rfl,acq [(.dat 1 (p0.map Qab)),Zih] [Zii] [Zii] (B x2) [0] Qpe (Qh8 N p0 _ hf1) (Qbi (rnc (pld Qaj) (rnc (Qa4 rn0 (rnc (Qas rfl) rn0)) rn0))) (slc (Qai (rnc (.plain _ (NLt.fn _ _ _ nl0 nl0)) rn0)) Qao) (slc (Qai (rnc (.plain _ (NLt.fn _ _ _ nl0 nl0)) rn0)) Qao) (.plain _ nll),tv⟩<|Qaf ?_
  obtain rfl:=osi h
  exact fend ⟨[(B ((!x2)))],⟨rot,tv⟩,rfl⟩ nll
def Qf0 (_N:Nat) (p0:Int):Option Bool:=
  some (decide (p0>0))
theorem Qlp (N:Nat) (p0:Int) (r:Bool) (h:Qf0 N p0=some r):Spec prog 141 [(I p0)] [] (B r) []:=by
  refine sA func141 0 fun _ _ _ hq hd0=>?_
  unfold Qf0 at h
  refine wxz<|wxz<|Qaf ?_
  obtain rfl:=osi h
  exact fend ⟨[(B ((decide (p0>0))))],⟨rot,tv⟩,rfl⟩ nll
def Qb1 (N:Nat) (p0:List Int) (k1:Unit→Option Int):Nat→Int→Option Int
  |0,_=>none
  |n4+1,y2=>
    bif (decide (y2<(p0.length:Int))) then
     (getI p0 y2).bind fun x6=>
     (Qf0 N x6).bind fun x11=>
     bif x11 then
      some y2
     else
      Qb1 N p0 k1 n4 (w64 (y2+1))
    else
     k1 ()
def Qd8 (N:Nat) (p0:List Int):Option Int:=
  Qcf (fun _=>
    some (-1)) fun k1:Unit→Option Int=>
  Qb1 N p0 k1 N 0
theorem Qi9 (N:Nat) (p0:List Int) (r:Int) (h:Qd8 N p0=some r):Spec prog 151 [(.dat 1 (p0.map Qab)),(.fn (.func 141) [] [])] [] (I r) []:=by
  refine sA func151 0 fun _ _ _ hq hd0=>?_
  unfold Qd8 at h
  refine wxz ?_
  obtain⟨k1,hk_k1,h⟩:=jko h
  refine wjn (τ:=Unit) (fun t=>k1 t=some r) (fun _=>⟨mk 19 [],[]⟩) (fun t h=>?_) ?_
  ·subst hk_k1
   refine wxz<|Qaf ?_
   obtain rfl:=osi h
   exact fend ⟨[(I ((-1)))],⟨rot,tv⟩,rfl⟩ nll
  ·skip
   refine wx tbk [(1,rp _ _)] ⟨alq 1 Qab p0 underlying29,tv⟩<|Qar ?_
   refine wmr (mto (n:=19) (l':=[(0,(.dat 1 (p0.map Qab))),(1,(.fn (.func 141) [] [])),(7,(I ((p0.length:Int)))),(8,I 0)]) (own':=[]) [(0,(.dat 1 (p0.map Qab))),(1,(.fn (.func 141) [] [])),(7,(I ((p0.length:Int)))),(8,I 0)] [] [] hq (pc (rnd Qaj) (pc (.rn (Qa4 rn0 rn0)) (pw (pw pn)))) qn) ?_
   refine Qcn (τ:=Int) (fun n t=>Qb1 N p0 k1 n t=some r) (fun y2=>⟨mk 19 [(0,(.dat 1 (p0.map Qab))),(1,(.fn (.func 141) [] [])),(7,(I ((p0.length:Int)))),(8,I y2)],[]⟩) (fun t h=>by rw[Qb1] at h;cases h) (fun n4 ih y2 h=>?_) N (0) h
   rw[Qb1] at h
   skip
   refine wxz<|wsq ?_
   refine bfe h (fun hc5 h=>?_) fun hc5 h=>?_
   ·refine wft hc5<|Qaq<|thn<|wsq<|Qar<|wxz ?_
    obtain⟨x6,hg7,h⟩:=bno h
    obtain⟨hi8,hj9⟩:=gsm hg7
    obtain⟨x11,hf10,h⟩:=bno h
    refine wx tbk [(3,rp _ _),(5,rp _ _)] ⟨aiq underlying29 ti3 Qab hi8 hj9,apw Zbr (Qlp N x6 _ hf10),tv⟩ ?_
    refine bfe h (fun hc12 h=>?_) fun hc12 h=>?_
    ·refine wft hc12<|wxz<|Qaf<|Qat<|Qal<|Qal<|Qat<|Qal ?_
     obtain rfl:=osi h
     exact fend ⟨[I y2],⟨rot,tv⟩,rfl⟩ nll
    ·exact wfn hc12<|Qaq<|bln<|thn<|wxz1<|thn<|arm (mto (n:=19) [(0,(.dat 1 (p0.map Qab))),(1,(.fn (.func 141) [] [])),(7,(I ((p0.length:Int)))),(8,(I (w64 (y2+1))))] [] [] hq (pc (rnd Qaj) (pc (.rn (Qa4 rn0 rn0)) (pw (pw pn)))) qn) (ih (w64 (y2+1)) h)
   ·exact wfn hc5<|Qbl<|Qaz<|Qaz<|Qbk rfl<|thn<|⟨(),h,(mto (n:=19) [] [] [] hq pn qn)⟩
def Qce (N:Nat) (p0:List Int):Option Bool:=
  (Qd8 N p0).bind fun x2=>
  some (decide (x2≥0))
theorem Qh7 (N:Nat) (p0:List Int) (r:Bool) (h:Qce N p0=some r):Spec prog 117 [(.dat 1 (p0.map Qab)),(.fn (.func 141) [] [])] [] (B r) []:=by
  refine sA func117 0 fun _ _ _ hq hd0=>?_
  unfold Qce at h
  refine wxz ?_
  obtain⟨x2,hf1,h⟩:=bno h
  refine wx tbk [(2,rp _ _)] ⟨acq [(.dat 1 (p0.map Qab)),(.fn (.func 141) [] [])] [] [] (I x2) [] Qpd (Qi9 N p0 _ hf1) (Qbi (rnc (pld Qaj) (rnc (.plain _ (NLt.fn _ _ _ nl0 nl0)) rn0))) Qao Qao (.plain _ nll),tv⟩<|Qaf ?_
  obtain rfl:=osi h
  exact fend ⟨[(B ((decide (x2≥0))))],⟨rot,tv⟩,rfl⟩ nll
def Qfh (N:Nat) (p0:Qad):Option Bool:=
  Qcf (fun ⟨y1,y2⟩=>
    Qcf (fun _=>
      bif (p0.Kind != 5) then
       some ((p0.Weights.length:Int)==0)
      else
       (Qck N (p0.Weights.length:Int) 1 20).bind fun x7=>
       bif x7 then
        (Qgf N p0.Weights).bind fun x10=>
        bif x10 then
         (Qce N p0.Weights).bind fun x13=>
         some x13
        else
         some false
       else
        some false) fun k4:Unit→Option Bool=>
    bif ((p0.From.length:Int) != y1) then
     some false
    else
     (Qck N p0.Amount 0 y2).bind fun x16=>
     bif (!x16) then
      some false
     else
      (Qck N p0.Wide 0 1000000).bind fun x19=>
      bif (!x19) then
       some false
      else
       (Qck N p0.Narrow 1 1000000000).bind fun x22=>
       bif (!x22) then
        some false
       else
        k4 ()) fun k3:Int×Int→Option Bool=>
  bif (p0.Kind==1) then
   k3 (0,0)
  else
   bif (p0.Kind==2) then
    (some (if 6<(p0.From.length:Int) then 6 else(p0.From.length:Int))).bind fun x26=>
    (some (if x26>1 then x26 else 1)).bind fun x28=>
    k3 (x28,0)
   else
    bif (p0.Kind==3) then
     k3 (1,1000000000)
    else
     bif (p0.Kind==4) then
      k3 (1,1000)
     else
      bif (p0.Kind==5) then
       k3 (1,0)
      else
       bif (p0.Kind==6) then
        k3 (1,0)
       else
        some false
def Zij (p0:Qad):AV:=.dat 2 (p0.From.map Qc2)
def Q27 (p0:Qad):AV:=.dat 1 (p0.Weights.map Qab)
def Qt6 (p0:Qad):Slot:=.own 7 [[(K .u8 p0.Kind),(Zij p0),(I p0.Level),(I p0.Amount),(I p0.Wide),(I p0.Narrow),(Q27 p0)]]
def Ze4 (p0:Qad) (x7:Bool):List (Nat×Rec):=[(2,rp [((.tmp 55),(Q27 p0))] (I ((p0.Weights.length:Int)))),(3,rp [fu 97,((.tmp 56),(I ((p0.Weights.length:Int)))),ci 1,ci 20] (B x7))]
def Ze3 p0 x7 (x10:Bool):=hcat (Ze4 p0 x7) [(4,rp [((.tmp 57),(B x7))] (B true)),(7,rp [((.tmp 58),(B true)),fu 123,((.tmp 60),(Q27 p0)),fu 140] (B x10))]
def Ze2 (p0:Qad):List (Nat×Rec):=[(2,rp [((.tmp 24),(Zij p0))] (I ((p0.From.length:Int))))]
def Ze1 p0 (y1 y2:Int) (x16:Bool):=hcat (Ze2 p0) [(5,rp [((.tmp 27),(B (((p0.From.length:Int) != y1))))] (B false)),(9,rp [((.tmp 28),(B false)),fu 97,((.tmp 30),(I p0.Amount)),ci 0,((.tmp 31),(I y2))] (B x16))]
def Ze0 p0 y1 y2 x16 (x19:Bool):=hcat (Ze1 p0 y1 y2 x16) [(12,rp [((.tmp 34),(B ((!x16))))] (B false)),(15,rp [((.tmp 35),(B false)),fu 97,((.tmp 37),(I p0.Wide)),ci 0,ci 1000000] (B x19))]
theorem Qmk (N:Nat) (p0:Qad) (r:Bool) (h:Qfh N p0=some r):Spec prog 103 [(.agg (Qah p0))] [] (B r) []:=by
  refine sA func103 0 fun _ _ _ hq hd0=>?_
  unfold Qfh at h
  refine wxz<|wxz ?_
  obtain⟨k3,hk_k3,h⟩:=jko h
  refine wjn (τ:=Int×Int) (fun t=>k3 t=some r) (fun ⟨y1,y2⟩=>⟨mk 68 [(1,.ref 0 7 0 0),(3,I y1),(4,I y2)],[(Qt6 p0)]⟩) (fun t h=>?_) ?_
  ·subst hk_k3
   obtain⟨y1,y2⟩:=t
   obtain⟨k4,hk_k4,h⟩:=jko h
   refine wjn (τ:=Unit) (fun t=>k4 t=some r) (fun _=>⟨mk 68 [(1,.ref 0 7 0 0)],[(Qt6 p0)]⟩) (fun t h=>?_) ?_
   ·subst hk_k4
    refine wsq<|wxz ?_
    refine bfe h (fun hc5 h=>?_) fun hc5 h=>?_
    ·refine wft hc5<|wx tbk [(2,rp _ _)] ⟨alq 1 Qab p0.Weights underlying29,tv⟩<|Qaf<|Qal ?_
     obtain rfl:=osi h
     exact fend ⟨[(B (((p0.Weights.length:Int)==0)))],⟨rot,tv⟩,rfl⟩ nll
    ·refine wfn hc5<|Qaq<|thn ?_
     obtain⟨x7,hf6,h⟩:=bno h
     refine hpre (A:=(Ze4 p0 x7)) ⟨alq 1 Qab p0.Weights underlying29,apv Qke (Qdf N (p0.Weights.length:Int) 1 20 _ hf6) (nlcc (nlc nll nl0)) nll,tv⟩ fun q1_=>?_
     refine bfe h (fun hb8 h=>?_) fun hb8 h=>?_
     ·obtain⟨x10,hf9,h⟩:=bno h
      refine hpre (A:=(Ze3 p0 x7 x10)) (hap q1_ ⟨asb hb8 (amv rfl),ag_ (acq [(Q27 p0),(.fn (.func 140) [] [])] [] [] (B x10) [] Q2b (Qo4 N p0.Weights _ hf9) (Qbi (rnc (pld Qaj) (rnc (.plain _ (NLt.fn _ _ _ nl0 nl0)) rn0))) Qao Qao (.plain _ nll)),tv⟩) fun q2_=>?_
      refine bfe h (fun hb11 h=>?_) fun hb11 h=>?_
      ·obtain⟨x13,hf12,h⟩:=bno h
       refine wx tbk (hcat (Ze3 p0 x7 x10) [(9,rp [(.tmp 62,B x10)] (B true)),(12,rp [(.tmp 63,B true),fu 117,(.tmp 65,(Q27 p0)),fu 141] (B x13))]) (hap q2_ ⟨asb hb11 (amv rfl),ag_ (acq [(Q27 p0),(.fn (.func 141) [] [])] [] [] (B x13) [] Qpe (Qh7 N p0.Weights _ hf12) (Qbi (rnc (pld Qaj) (rnc (.plain _ (NLt.fn _ _ _ nl0 nl0)) rn0))) Qao Qao (.plain _ nll)),tv⟩)<|Qaf ?_
       exact frb h
      ·exact wx tbk (hcat (Ze3 p0 x7 x10) [(9,rp [(.tmp 62,B x10)] (B false))]) (hap q2_ ⟨asb hb11 (amv rfl),tv⟩)<|Qaf<|frb h
     ·exact wx tbk (hcat (Ze4 p0 x7) [(4,rp [(.tmp 57,B x7)] (B false))]) (hap q1_ ⟨asb hb8 (amv rfl),tv⟩)<|Qaf<|frb h
   ·skip
    refine hpre (A:=(Ze2 p0)) ⟨alq 2 Qc2 p0.From underlying108,tv⟩ fun q3_=>?_
    refine bfe h (fun hb14 h=>?_) fun hb14 h=>?_
    ·exact wx tbk (hcat (Ze2 p0) [(5,rp [(.tmp 27,(B (((p0.From.length:Int) != y1))))] (B true))]) (hap q3_ ⟨asb hb14 (amv rfl),tv⟩)<|wtr<|wxz<|Qaf<|Qal<|frb h
    ·obtain⟨x16,hf15,h⟩:=bno h
     refine hpre (A:=(Ze1 p0 y1 y2 x16)) (hap q3_ ⟨asb hb14 (amv rfl),ag_ (apv Qke (Qdf N p0.Amount 0 y2 _ hf15) (nlcc (nlc nll nl0)) nll),tv⟩) fun q4_=>?_
     refine bfe h (fun hb17 h=>?_) fun hb17 h=>?_
     ·exact wx tbk (hcat (Ze1 p0 y1 y2 x16) [(12,rp [(.tmp 34,(B ((!x16))))] (B true))]) (hap q4_ ⟨asb hb17 (amv rfl),tv⟩)<|wtr<|wxz<|Qaf<|Qal<|frb h
     ·obtain⟨x19,hf18,h⟩:=bno h
      refine hpre (A:=(Ze0 p0 y1 y2 x16 x19)) (hap q4_ ⟨asb hb17 (amv rfl),ag_ (apv Qke (Qdf N p0.Wide 0 1000000 _ hf18) (nlcc (nlc nll nl0)) nll),tv⟩) fun q5_=>?_
      refine bfe h (fun hb20 h=>?_) fun hb20 h=>?_
      ·exact wx tbk (hcat (Ze0 p0 y1 y2 x16 x19) [(18,rp [(.tmp 40,(B ((!x19))))] (B true))]) (hap q5_ ⟨asb hb20 (amv rfl),tv⟩)<|wtr<|wxz<|Qaf<|Qal<|frb h
      ·obtain⟨x22,hf21,h⟩:=bno h
       refine wx tbk (hcat (Ze0 p0 y1 y2 x16 x19) [(18,rp [(.tmp 40,(B ((!x19))))] (B false)),(21,rp [(.tmp 41,B false),fu 97,(.tmp 43,I p0.Narrow),ci 1,ci 1000000000] (B x22))]) (hap q5_ ⟨asb hb20 (amv rfl),ag_ (apv Qke (Qdf N p0.Narrow 1 1000000000 _ hf21) (nlcc (nlc nll nl0)) nll),tv⟩) ?_
       refine bfe h (fun hc23 h=>?_) fun hc23 h=>?_
       ·exact wft hc23<|wxz<|Qaf<|Qal<|frb h
       ·exact wfn hc23<|Qaq<|thn<|⟨(),h,(mto (n:=68) [(1,.ref 0 7 0 0)] [0] [(Qt6 p0)] hq (prr pn) (qb (lc rwl (lc (rnd Qf2) (lcc (lcc (lc (rnd Qaj) ln))))) qn))⟩
  ·skip
   refine wxz<|Qar<|wxz ?_
   refine bfe h (fun hc24 h=>?_) fun hc24 h=>?_
   ·exact wft hc24<|wxz1<|bln<|thn<|⟨(0,0),h,(mto (n:=68) [(1,.ref 0 7 0 0),(3,I 0),(4,I 0)] [0] [(Qt6 p0)] hq (prr (pw (pw pn))) (qb (lc rwl (lc (rnd Qf2) (lcc (lcc (lc (rnd Qaj) ln))))) qn))⟩
   ·refine wfn hc24<|wxz ?_
    refine bfe h (fun hc25 h=>?_) fun hc25 h=>?_
    ·refine wft hc25 ?_
     obtain⟨x26,hl27,h⟩:=bno h
     obtain⟨x28,hl29,h⟩:=bno h
     exact wx1 tbk [(2,rp _ _),(3,rp [(.tmp 13,(I ((p0.From.length:Int)))),ci 6] (I x26)),(4,rp [ci 1,(.tmp 14,I x26)] (I ((if x26>1 then x26 else 1)))),(5,rp [(.tmp 15,(I ((if x26>1 then x26 else 1))))] (I x28))] ⟨alq 2 Qc2 p0.From underlying108,Qkh hl27 (Qpn rfl),Qm8 rfl,Qkh hl29 (aas rfl),tv⟩<|bln<|thn<|⟨(x28,0),h,(mto (n:=68) [(1,.ref 0 7 0 0),(3,I x28),(4,I 0)] [0] [(Qt6 p0)] hq (prr (pw (pw pn))) (qb (lc rwl (lc (rnd Qf2) (lcc (lcc (lc (rnd Qaj) ln))))) qn))⟩
    ·refine wfn hc25<|wxz ?_
     refine bfe h (fun hc30 h=>?_) fun hc30 h=>?_
     ·exact wft hc30<|wxz1<|bln<|thn<|⟨(1,1000000000),h,(mto (n:=68) [(1,.ref 0 7 0 0),(3,I 1),(4,I 1000000000)] [0] [(Qt6 p0)] hq (prr (pw (pw pn))) (qb (lc rwl (lc (rnd Qf2) (lcc (lcc (lc (rnd Qaj) ln))))) qn))⟩
     ·refine wfn hc30<|wxz ?_
      refine bfe h (fun hc31 h=>?_) fun hc31 h=>?_
      ·exact wft hc31<|wxz1<|bln<|thn<|⟨(1,1000),h,(mto (n:=68) [(1,.ref 0 7 0 0),(3,I 1),(4,I 1000)] [0] [(Qt6 p0)] hq (prr (pw (pw pn))) (qb (lc rwl (lc (rnd Qf2) (lcc (lcc (lc (rnd Qaj) ln))))) qn))⟩
      ·refine wfn hc31<|wsq<|wxz ?_
       refine bfe h (fun hc32 h=>?_) fun hc32 h=>?_
       ·exact wft hc32<|Qaq<|thn<|wft hc32<|Qaq<|bln<|thn<|⟨(1,0),h,(mto (n:=68) [(1,.ref 0 7 0 0),(3,I 1),(4,I 0)] [0] [(Qt6 p0)] hq (prr (pw (pw pn))) (qb (lc rwl (lc (rnd Qf2) (lcc (lcc (lc (rnd Qaj) ln))))) qn))⟩
       ·refine wfn hc32<|wxz1<|thn ?_
        refine bfe h (fun hc33 h=>?_) fun hc33 h=>?_
        ·exact wft hc33<|Qaq<|bln<|thn<|⟨(1,0),h,(mto (n:=68) [(1,.ref 0 7 0 0),(3,I 1),(4,I 0)] [0] [(Qt6 p0)] hq (prr (pw (pw pn))) (qb (lc rwl (lc (rnd Qf2) (lcc (lcc (lc (rnd Qaj) ln))))) qn))⟩
        ·exact wfn hc33<|wxz<|Qaf<|Qat<|Qal<|frb h
def Qeh (N:Nat) (p0:Qad):Option Bool:=
  (Qfh N p0).bind fun x3=>
  some (!x3)
abbrev Zks (p0:Qad):AV:=.agg [(K .u8 p0.Kind),(.dat 2 (p0.From.map Qc2)),(I p0.Level),(I p0.Amount),(I p0.Wide),(I p0.Narrow),(.dat 1 (p0.Weights.map Qab))]
abbrev Q99:Slot:=.own 1 [[(.fn (.func 103) [] [])]]
theorem Qjl (N:Nat) (p0:Qad) (r:Bool) (h:Qeh N p0=some r):Spec prog 139 [(Zks p0),(.ref 0 1 (0) 0)] [Q99] (B r) [Q99]:=by
  refine sF func139 1 fun _ _ _ hq hd0=>?_
  unfold Qeh at h
  refine wxz ?_
  obtain⟨x3,hf2,h⟩:=bno h
  refine wx tbk [(2,rp _ _)] ⟨apw Zb6 (Qmk N p0 _ hf2),tv⟩ ?_
  refine wmr (mto (n:=8) (l':=[(3,(B ((!x3))))]) (own':=[Q99]) [(3,(B ((!x3))))] [0] [Q99] hq (pw pn) (qb (lc (.rn (Qa4 rn0 rn0)) ln) qn))<|Qaf ?_
  obtain rfl:=osi h
  exact⟨_,Mor.rfl,fio [(B ((!x3)))] ⟨rot,tv⟩⟩
def Qax (N:Nat) (p0:List Qad) (k2:Unit→Option Int):Nat→Int→Option Int
  |0,_=>none
  |n5+1,y3=>
    bif (decide (y3<(p0.length:Int))) then
     (getI p0 y3).bind fun x7=>
     (Qeh N x7).bind fun x12=>
     bif x12 then
      some y3
     else
      Qax N p0 k2 n5 (w64 (y3+1))
    else
     k2 ()
def Qbx (N:Nat) (p0:List Qad):Option Int:=
  Qcf (fun _=>
    some (-1)) fun k2:Unit→Option Int=>
  Qax N p0 k2 N 0
abbrev Q5n (p0:List Qad):AV:=.dat 7 (p0.map Qah)
abbrev Q5m:AV:=.fn (.func 139) [] [(.ref 0 1 (0) 0)]
abbrev Qoq:Slot:=.own 1 [[(.fn (.func 103) [] [])]]
def Zik (x7:Qad):AV:=.agg [(K .u8 x7.Kind),(.dat 2 (x7.From.map Qc2)),(I x7.Level),(I x7.Amount),(I x7.Wide),(I x7.Narrow),(.dat 1 (x7.Weights.map Qab))]
theorem Qfw (N:Nat) (p0:List Qad) (r:Int) (h:Qbx N p0=some r):Spec prog 161 [(Q5n p0),Q5m] [Qoq] (I r) [Qoq]:=by
  refine sF func161 1 fun _ _ _ hq hd0=>?_
  unfold Qbx at h
  refine wxz ?_
  obtain⟨k2,hk_k2,h⟩:=jko h
  refine wjn (τ:=Unit) (fun t=>k2 t=some r) (fun _=>⟨mk 19 [],[Qoq]⟩) (fun t h=>?_) ?_
  ·subst hk_k2
   refine wxz<|wmr (mto (n:=19) (l':=[(4,(I ((-1))))]) (own':=[Qoq]) [(4,(I ((-1))))] [0] [Qoq] hq (pw pn) (qb (lc (.rn (Qa4 rn0 rn0)) ln) qn))<|Qaf ?_
   obtain rfl:=osi h
   exact⟨_,Mor.rfl,fio [(I ((-1)))] ⟨rot,tv⟩⟩
  ·skip
   refine wx tbk [(1,rp _ _)] ⟨alq 7 Qah p0 underlying37,tv⟩<|Qar ?_
   refine wmr (mto (n:=19) (l':=[(0,(Q5n p0)),(1,Q5m),(7,(I ((p0.length:Int)))),(8,I 0)]) (own':=[Qoq]) [(0,(Q5n p0)),(1,Q5m),(7,(I ((p0.length:Int)))),(8,I 0)] [0] [Qoq] hq (pc (rnd Qae) (pc (.rn (Qa4 rn0 (rnc (rqr rfl) rn0))) (pw (pw pn)))) (qb (lc (.rn (Qa4 rn0 rn0)) ln) qn)) ?_
   refine Qcn (τ:=Int) (fun n t=>Qax N p0 k2 n t=some r) (fun y3=>⟨mk 19 [(0,(Q5n p0)),(1,Q5m),(7,(I ((p0.length:Int)))),(8,I y3)],[Qoq]⟩) (fun t h=>by rw[Qax] at h;cases h) (fun n5 ih y3 h=>?_) N (0) h
   rw[Qax] at h
   skip
   refine wxz<|wsq ?_
   refine bfe h (fun hc6 h=>?_) fun hc6 h=>?_
   ·refine wft hc6<|Qaq<|thn<|wsq<|Qar<|wxz ?_
    obtain⟨x7,hg8,h⟩:=bno h
    obtain⟨hi9,hj10⟩:=gsm hg8
    obtain⟨x12,hf11,h⟩:=bno h
    refine wx tbk [(3,rp _ _),(5,⟨_,_,_,_,false⟩)] ⟨aiq underlying37 Qi0 Qah hi9 hj10,Qct (first:=[]) (cap:=[.ref 0 1 0 0]) (vs:=[(Zik x7)]) (σr:=[Qoq]) (σr':=[Qoq]) (res':=(B x12)) [0] rfl Zbt (Qjl N x7 _ hf11) rfl (Qbi (rnc (.plain _ (NLt.agg _ (nlc nll (nlc (nld Qf2 _) (nlcc (nlcc (nlc (nld Qaj _) nl0))))))) (rnc (Qas rfl) rn0))) (slc (Qai (rnc (.plain _ (NLt.fn _ _ _ nl0 nl0)) rn0)) Qao) (slc (Qai (rnc (.plain _ (NLt.fn _ _ _ nl0 nl0)) rn0)) Qao) (.plain _ nll) rfl rfl rfl,tv⟩ ?_
    refine bfe h (fun hc13 h=>?_) fun hc13 h=>?_
    ·refine wft hc13<|wxz ?_
     refine wmr (mto (n:=19) (l':=[(4,I y3)]) (own':=[Qoq]) [(4,I y3)] [0] [Qoq] hq (pw pn) (qb (lc (.rn (Qa4 rn0 rn0)) ln) qn))<|Qaf<|Qat<|Qal<|Qal<|Qat<|Qal ?_
     obtain rfl:=osi h
     exact⟨_,Mor.rfl,fio [I y3] ⟨rot,tv⟩⟩
    ·exact wfn hc13<|Qaq<|bln<|thn<|wxz1<|thn<|arm (mto (n:=19) [(0,(Q5n p0)),(1,Q5m),(7,(I ((p0.length:Int)))),(8,(I (w64 (y3+1))))] [0] [Qoq] hq (pc (rnd Qae) (pc (.rn (Qa4 rn0 (rnc (rqr rfl) rn0))) (pw (pw pn)))) (qb (lc (.rn (Qa4 rn0 rn0)) ln) qn)) (ih (w64 (y3+1)) h)
   ·exact wfn hc6<|Qbl<|Qaz<|Qaz<|Qbk rfl<|thn<|⟨(),h,(mto (n:=19) [] [0] [Qoq] hq pn (qb (lc (.rn (Qa4 rn0 rn0)) ln) qn))⟩
def Qbh (N:Nat) (p0:List Qad):Option Bool:=
  (Qbx N p0).bind fun x3=>
  some (decide (x3≥0))
abbrev Zil:AV:=.fn (.func 139) [] [(.ref 0 1 (0) 0)]
abbrev Q28:Slot:=.own 1 [[(.fn (.func 103) [] [])]]
theorem Qfe (N:Nat) (p0:List Qad) (r:Bool) (h:Qbh N p0=some r):Spec prog 138 [(.dat 7 (p0.map Qah)),Zil] [Q28] (B r) [Q28]:=by
  refine sF func138 1 fun _ _ _ hq hd0=>?_
  unfold Qbh at h
  refine wxz ?_
  obtain⟨x3,hf2,h⟩:=bno h
  refine wx tbk [(2,⟨_,_,_,_,false⟩)] ⟨acq [(.dat 7 (p0.map Qah)),Zil] [Q28] [Q28] (I x3) [0] Zbl (Qfw N p0 _ hf2) (Qbi (rnc (pld Qae) (rnc (Qa4 rn0 (rnc (Qas rfl) rn0)) rn0))) (slc (Qai (rnc (.plain _ (NLt.fn _ _ _ nl0 nl0)) rn0)) Qao) (slc (Qai (rnc (.plain _ (NLt.fn _ _ _ nl0 nl0)) rn0)) Qao) (.plain _ nll),tv⟩ ?_
  refine wmr (mto (n:=9) (l':=[(4,(B ((decide (x3≥0)))))]) (own':=[Q28]) [(4,(B ((decide (x3≥0)))))] [0] [Q28] hq (pw pn) (qb (lc (.rn (Qa4 rn0 rn0)) ln) qn))<|Qaf ?_
  obtain rfl:=osi h
  exact⟨_,Mor.rfl,fio [(B ((decide (x3≥0))))] ⟨rot,tv⟩⟩
def Qd1 (N:Nat) (p0:List Qad):Option Bool:=
  (Qbh N p0).bind fun x2=>
  some (!x2)
def Zim:AV:=.fn (.func 139) [] [(.ref 0 1 (0) 0)]
def Zin:Slot:=.own 1 [[(.fn (.func 103) [] [])]]
theorem Qka (N:Nat) (p0:List Qad) (r:Bool) (h:Qd1 N p0=some r):Spec prog 102 [(.dat 7 (p0.map Qah)),(.fn (.func 103) [] [])] [] (B r) []:=by
  refine sA func102 0 fun _ _ _ hq hd0=>?_
  unfold Qd1 at h
  refine wxz ?_
  obtain⟨x2,hf1,h⟩:=bno h
  refine wx tbk [(1,rp [(.tmp 3,.ref 0 1 0 0)] Zim),(2,⟨_,_,_,_,false⟩)] ⟨Qed (fs:=[]) (cs:=[.ref 0 1 0 0]) rfl rfl rfl rfl,acq [(.dat 7 (p0.map Qah)),Zim] [Zin] [Zin] (B x2) [0] Zbu (Qfe N p0 _ hf1) (Qbi (rnc (pld Qae) (rnc (Qa4 rn0 (rnc (Qas rfl) rn0)) rn0))) (slc (Qai (rnc (.plain _ (NLt.fn _ _ _ nl0 nl0)) rn0)) Qao) (slc (Qai (rnc (.plain _ (NLt.fn _ _ _ nl0 nl0)) rn0)) Qao) (.plain _ nll),tv⟩<|Qaf ?_
  obtain rfl:=osi h
  exact fend ⟨[(B ((!x2)))],⟨rot,tv⟩,rfl⟩ nll
def Qew (_N:Nat) (p0:Qad):Option Int:=
  bif (p0.Kind==4) then
   some 2
  else
   bif (p0.Kind==5) then
    (some (p0.Weights.length:Int)).bind fun x3=>
    some x3
   else
    some 1
theorem Qlo (N:Nat) (p0:Qad) (r:Int) (h:Qew N p0=some r):Spec prog 104 [(.agg (Qah p0))] [] (I r) []:=by
  refine sA func104 0 fun _ _ _ hq hd0=>?_
  unfold Qew at h
  refine wxz<|wsq<|wxz<|Qar<|wxz ?_
  refine bfe h (fun hc1 h=>?_) fun hc1 h=>?_
  ·refine wft hc1<|wxz<|Qaf<|Qat<|Qal ?_
   obtain rfl:=osi h
   exact fend ⟨[I 2],⟨rot,tv⟩,rfl⟩ nll
  ·refine wfn hc1<|wxz ?_
   refine bfe h (fun hc2 h=>?_) fun hc2 h=>?_
   ·refine wft hc2 ?_
    obtain⟨x3,hl4,h⟩:=bno h
    refine wx tbk [(2,rp _ _),(3,rp [(.tmp 11,(I ((p0.Weights.length:Int))))] (I x3))] ⟨alq 1 Qab p0.Weights underlying29,Qkh hl4 (aas rfl),tv⟩<|Qaf<|Qat<|Qal ?_
    obtain rfl:=osi h
    exact fend ⟨[I x3],⟨rot,tv⟩,rfl⟩ nll
   ·refine wfn hc2<|Qaq<|bln<|thn<|wxz<|Qaf ?_
    obtain rfl:=osi h
    exact fend ⟨[I 1],⟨rot,tv⟩,rfl⟩ nll
def Qdg (N:Nat) (p0:GNet) (y3:Int) (k10:(List (Int×Int))→Option Bool) (x11:Qad):Nat→Int→(List (Int×Int))→Option Bool
  |0,_,_=>none
  |n22+1,y18,y19=>
    bif (decide (y18<(x11.From.length:Int))) then
     (getI x11.From y18).bind fun x24=>
     (Qck N x24.Element 0 (w64 (y3-1))).bind fun x29=>
     bif (!x29) then
      some false
     else
      (getI p0.Elements x24.Element).bind fun x31=>
      (Qew N x31).bind fun x36=>
      (Qck N x24.Outlet 0 (w64 (x36-1))).bind fun x38=>
      bif (!x38) then
       some false
      else
       bif y19.contains (x24.Element,x24.Outlet) then
        some false
       else
        bif (decide (x11.Level>x31.Level)) then
         some false
        else
         Qdg N p0 y3 k10 x11 n22 (w64 (y18+1)) (addQ y19 (x24.Element,x24.Outlet))
    else
     k10 (y19)
def Qcy (N:Nat) (p0:GNet) (k2:Unit→Option Bool):Nat→Int→(List (Int×Int))→Option Bool
  |0,_,_=>none
  |n7+1,y3,y4=>
    bif (decide (y3<(p0.Elements.length:Int))) then
     Qcf (fun y9=>
       Qcy N p0 k2 n7 (w64 (y3+1)) y9) fun k10:(List (Int×Int))→Option Bool=>
     (getI p0.Elements y3).bind fun x11=>
     (Qck N x11.Level 0 (w64 ((p0.Table.length:Int)-1))).bind fun x16=>
     bif (!x16) then
      some false
     else
      Qdg N p0 y3 k10 x11 N 0 y4
    else
     k2 ()
def Qgg (N:Nat) (p0:GNet):Option Bool:=
  Qcf (fun _=>
    Qcf (fun _=>
      some true) fun k2:Unit→Option Bool=>
    Qcy N p0 k2 N 0 ([]:List (Int×Int))) fun k1:Unit→Option Bool=>
  (Qhb N p0.Table).bind fun x43=>
  bif (x43 != 0) then
   some false
  else
   (Qck N (p0.Elements.length:Int) 1 16).bind fun x46=>
   bif (!x46) then
    some false
   else
    (Qd1 N p0.Elements).bind fun x49=>
    bif (!x49) then
     some false
    else
     k1 ()
def z9_0 (p0:GNet):AV:=.dat 5 (p0.Table.map Qam)
def z9_1 (p0:GNet):AV:=.dat 7 (p0.Elements.map Qah)
def z9_2 (p0:GNet):Slot:=.own 2 [[(z9_0 p0),(z9_1 p0)]]
def Qv1 (x11:Qad):AV:=.dat 2 (x11.From.map Qc2)
def Q0a (x11:Qad):Slot:=.own 7 [[(K .u8 x11.Kind),(Qv1 x11),(I x11.Level),(I x11.Amount),(I x11.Wide),(I x11.Narrow),(.dat 1 (x11.Weights.map Qab))]]
def Q4n (x24:Qeg) (y3:Int) (x29:Bool):List (Nat×Rec):=[(4,rp [fu 97,((.tmp 50),(I x24.Element)),ci 0,((.tmp 52),(I (w64 (y3-1))))] (B x29))]
def Zhi (x31:Qad):AV:=.agg [(K .u8 x31.Kind),(.dat 2 (x31.From.map Qc2)),(I x31.Level),(I x31.Amount),(I x31.Wide),(I x31.Narrow),(.dat 1 (x31.Weights.map Qab))]
def Q4m x24 y3 x29 (p0:GNet) (x31:Qad) (x36:Int) (x38:Bool):=hcat (Q4n x24 y3 x29) [(6,rp [((.tmp 54),(B ((!x29))))] (B false)),(13,rp [((.tmp 55),(B false)),((.tmp 59),(z9_1 p0)),((.tmp 61),(I x24.Element))] (.dptr (Qah x31) 0)),(15,rp [((.tmp 55),(B false)),fu 104,((.tmp 63),(Zhi x31))] (I x36)),(17,rp [((.tmp 55),(B false)),fu 97,((.tmp 57),(I x24.Outlet)),ci 0,((.tmp 65),(I (w64 (x36-1))))] (B x38))]
def Q4l x24 y3 x29 p0 x31 x36 x38 (y19:(List (Int×Int))):=hcat (Q4m x24 y3 x29 p0 x31 x36 x38) [(20,rp [((.tmp 68),(B ((!x38))))] (B false)),(23,rb [((.tmp 69),(B false)),((.tmp 70),(.mp 1)),((.tmp 71),(.agg [(I x24.Element),(I x24.Outlet)]))] [(1,(Qld y19))] (B (y19.contains (x24.Element,x24.Outlet))))]
def Q4k (p0:GNet) (x43:Int):List (Nat×Rec):=[(2,rp [fu 101,((.tmp 9),(z9_0 p0))] (I x43))]
def Q4j p0 x43 (x46:Bool):=hcat (Q4k p0 x43) [(4,rp [((.tmp 11),(B ((x43 != 0))))] (B false)),(7,rp [((.tmp 12),(B false)),((.tmp 14),(z9_1 p0))] (I ((p0.Elements.length:Int)))),(8,rp [((.tmp 12),(B false)),fu 97,((.tmp 15),(I ((p0.Elements.length:Int)))),ci 1,ci 16] (B x46))]
theorem Qkz (N:Nat) (p0:GNet) (r:Bool) (h:Qgg N p0=some r):Spec prog 60 [(.agg (Qk3 p0))] [] (B r) []:=by
  refine sA func60 0 fun _ _ _ hq hd0=>?_
  unfold Qgg at h
  refine wxz ?_
  obtain⟨k1,hk_k1,h⟩:=jko h
  refine wjn (τ:=Unit) (fun t=>k1 t=some r) (fun _=>⟨mk 90 [(1,.ref 0 2 0 0)],[(z9_2 p0)]⟩) (fun t h=>?_) ?_
  ·subst hk_k1
   refine wx tbk [(0,⟨[],[(1,.unused)],(.mp 1),[(1,(Qld ([]:List (Int×Int))))],false⟩)] ⟨Qx6 rfl,tv⟩ ?_
   obtain⟨k2,hk_k2,h⟩:=jko h
   refine wjn (τ:=Unit) (fun t=>k2 t=some r) (fun _=>⟨mk 90 [],[]⟩) (fun t h=>?_) ?_
   ·subst hk_k2
    exact wxz<|Qaf<|frb h
   ·skip
    refine wx tbk [(2,rp _ _)] ⟨alq 7 Qah p0.Elements underlying37,tv⟩<|Qar ?_
    refine wmr (mto (n:=90) (l':=[(1,.ref 0 2 0 0),(3,(.mp 1)),(27,(z9_1 p0)),(28,(I ((p0.Elements.length:Int)))),(29,I 0)]) (own':=[(z9_2 p0),(Qld ([]:List (Int×Int)))]) [(1,.ref 0 2 0 0),(3,(.mp 1)),(27,(z9_1 p0)),(28,(I ((p0.Elements.length:Int)))),(29,I 0)] [0,1] [(z9_2 p0),(Qld ([]:List (Int×Int)))] hq (prr (pc (.rn (Qwq rfl)) (pc (rnd Qae) (pw (pw pn))))) (qb (lc (rnd Qap) (lc (rnd Qae) ln)) (qc Qoy qn))) ?_
    refine Qcn (τ:=Int×(List (Int×Int))) (fun n t=>Qcy N p0 k2 n t.1 t.2=some r) (fun ⟨y3,y4⟩=>⟨mk 90 [(1,.ref 0 2 0 0),(3,(.mp 1)),(27,(z9_1 p0)),(28,(I ((p0.Elements.length:Int)))),(29,I y3)],[(z9_2 p0),(Qld y4)]⟩) (fun t h=>by rw[Qcy] at h;cases h) (fun n7 ih t h=>?_) N (0,([]:List (Int×Int))) h
    obtain⟨y3,y4⟩:=t
    rw[Qcy] at h
    skip
    refine wxz<|wsq ?_
    refine bfe h (fun hc8 h=>?_) fun hc8 h=>?_
    ·refine wft hc8<|Qaq<|thn ?_
     obtain⟨k10,hk_k10,h⟩:=jko h
     refine wjn (τ:=(List (Int×Int))) (fun t=>k10 t=some r) (fun y9=>⟨mk 90 [(1,.ref 0 2 0 0),(3,(.mp 1)),(27,(z9_1 p0)),(28,(I ((p0.Elements.length:Int)))),(29,I y3)],[(z9_2 p0),(Qld y9)]⟩) (fun y9 h=>?_) ?_
     ·subst hk_k10
      exact wxz1<|thn<|arm (mto (n:=90) [(1,.ref 0 2 0 0),(3,(.mp 1)),(27,(z9_1 p0)),(28,(I ((p0.Elements.length:Int)))),(29,(I (w64 (y3+1))))] [0,1] [(z9_2 p0),(Qld y9)] hq (prr (pc (.rn (Qwq rfl)) (pc (rnd Qae) (pw (pw pn))))) (qb (lc (rnd Qap) (lc (rnd Qae) ln)) (qc Qoy qn))) (ih (w64 (y3+1),y9) h)
     ·skip
      refine Qar ?_
      obtain⟨x11,hg12,h⟩:=bno h
      obtain⟨hi13,hj14⟩:=gsm hg12
      refine wx tbk [(1,rp _ _)] ⟨aiq underlying37 Qi0 Qah hi13 hj14,tv⟩<|wsq ?_
      obtain⟨x16,hf15,h⟩:=bno h
      refine wx tbk [(4,rp _ _),(6,rp _ _)] ⟨alq 5 Qam p0.Table underlying36,apw Qke (Qdf N x11.Level 0 (w64 ((p0.Table.length:Int)-1)) _ hf15),tv⟩ ?_
      refine bfe h (fun hc17 h=>?_) fun hc17 h=>?_
      ·exact wft hc17<|wxz<|Qaf<|Qal<|Qat<|Qal<|Qal<|Qat<|Qal<|frb h
      ·refine wfn hc17<|Qaq<|thn ?_
       refine wx tbk [(2,rp _ _)] ⟨alq 2 Qc2 x11.From underlying108,tv⟩<|Qar ?_
       refine wmr (mto (n:=90) (l':=[(1,.ref 0 2 0 0),(3,(.mp 1)),(4,I y3),(5,.ref 2 7 0 0),(27,(z9_1 p0)),(28,(I ((p0.Elements.length:Int)))),(29,I y3),(43,(Qv1 x11)),(44,(I ((x11.From.length:Int)))),(45,I 0)]) (own':=[(z9_2 p0),(Qld y4),(Q0a x11)]) [(1,.ref 0 2 0 0),(3,(.mp 1)),(4,I y3),(5,.ref 2 7 0 0),(27,(z9_1 p0)),(28,(I ((p0.Elements.length:Int)))),(29,I y3),(43,(Qv1 x11)),(44,(I ((x11.From.length:Int)))),(45,I 0)] [0,1,2] [(z9_2 p0),(Qld y4),(Q0a x11)] hq (prr (pc (.rn (Qwq rfl)) (pw (prr (pc (rnd Qae) (pw (pw (pc (rnd Qf2) (pw (pw pn)))))))))) (qb (lc (rnd Qap) (lc (rnd Qae) ln)) (qc Qoy (qb (lc rwl (lc (rnd Qf2) (lcc (lcc (lc (rnd Qaj) ln))))) qn)))) ?_
       refine Qcn (τ:=Int×(List (Int×Int))) (fun n t=>Qdg N p0 y3 k10 x11 n t.1 t.2=some r) (fun ⟨y18,y19⟩=>⟨mk 90 [(1,.ref 0 2 0 0),(3,(.mp 1)),(4,I y3),(5,.ref 2 7 0 0),(27,(z9_1 p0)),(28,(I ((p0.Elements.length:Int)))),(29,I y3),(43,(Qv1 x11)),(44,(I ((x11.From.length:Int)))),(45,I y18)],[(z9_2 p0),(Qld y19),(Q0a x11)]⟩) (fun t h=>by rw[Qdg] at h;cases h) (fun n22 ih t h=>?_) N (0,y4) h
       obtain⟨y18,y19⟩:=t
       rw[Qdg] at h
       skip
       refine wxz<|wsq ?_
       refine bfe h (fun hc23 h=>?_) fun hc23 h=>?_
       ·refine wft hc23<|Qaq<|thn<|wsq<|Qar ?_
        obtain⟨x24,hg25,h⟩:=bno h
        obtain⟨hi26,hj27⟩:=gsm hg25
        refine wx tbk [(0,rp _ _)] ⟨aiq underlying108 Qwg Qc2 hi26 hj27,tv⟩<|wsq ?_
        obtain⟨x29,hf28,h⟩:=bno h
        refine hpre (A:=(Q4n x24 y3 x29)) ⟨apv Qke (Qdf N x24.Element 0 (w64 (y3-1)) _ hf28) (nlcc (nlc nll nl0)) nll,tv⟩ fun q1_=>?_
        refine bfe h (fun hb30 h=>?_) fun hb30 h=>?_
        ·refine wxd tbk (hcat (Q4n x24 y3 x29) [(6,rp [(.tmp 54,(B ((!x29))))] (B true))]) (hap q1_ ⟨asb hb30 (amv rfl),tv⟩)<|wtr<|wxz<|Qaf<|Qal<|Qat<|Qal<|Qal<|Qat<|Qat ?_
         exact Qal<|Qal<|Qat<|Qal<|frb h
        ·obtain⟨x31,hg32,h⟩:=bno h
         obtain⟨hi33,hj34⟩:=gsm hg32
         obtain⟨x36,hf35,h⟩:=bno h
         obtain⟨x38,hf37,h⟩:=bno h
         refine hpre (A:=(Q4m x24 y3 x29 p0 x31 x36 x38)) (hap q1_ ⟨asb hb30 (amv rfl),ag_ (aiq underlying37 Qi0 Qah hi33 hj34),ag_ (apv Zb5 (Qlo N x31 _ hf35) (nlc (NLt.agg _ (nlc nll (nlc (nld Qf2 _) (nlcc (nlcc (nlc (nld Qaj _) nl0)))))) nl0) nll),ag_ (apv Qke (Qdf N x24.Outlet 0 (w64 (x36-1)) _ hf37) (nlcc (nlc nll nl0)) nll),tv⟩) fun q2_=>?_
         refine bfe h (fun hb39 h=>?_) fun hb39 h=>?_
         ·refine wxd tbk (hcat (Q4m x24 y3 x29 p0 x31 x36 x38) [(20,rp [(.tmp 68,(B ((!x38))))] (B true))]) (hap q2_ ⟨asb hb39 (amv rfl),tv⟩)<|wtr<|wxz<|Qaf<|Qal<|Qat<|Qal<|Qal<|Qat<|Qat ?_
          exact Qal<|Qal<|Qat<|Qal<|frb h
         ·refine hpre (A:=(Q4l x24 y3 x29 p0 x31 x36 x38 y19)) (hap q2_ ⟨asb hb39 (amv rfl),ag_ (Qz0 rfl underlying210 underlying112 zb4 Zd7 Zd5),tv⟩) fun q3_=>?_
          refine bfe h (fun hb40 h=>?_) fun hb40 h=>?_
          ·refine wxd tbk (hcat (Q4l x24 y3 x29 p0 x31 x36 x38 y19) [(25,rp [(.tmp 73,(B (y19.contains (x24.Element,x24.Outlet))))] (B true))]) (hap q3_ ⟨asb hb40 (amv rfl),tv⟩)<|wtr<|wxz<|Qaf<|Qal<|Qat<|Qal<|Qal<|Qat<|Qat ?_
           exact Qal<|Qal<|Qat<|Qal<|frb h
          ·refine wxd tbk (hcat (Q4l x24 y3 x29 p0 x31 x36 x38 y19) [(25,rp [(.tmp 73,(B (y19.contains (x24.Element,x24.Outlet))))] (B false)),(32,rp [(.tmp 74,B false),(.tmp 78,(z9_1 p0)),(.tmp 80,I x24.Element)] (.dptr (Qah x31) 0))]) (hap q3_ ⟨asb hb40 (amv rfl),ag_ (aiq underlying37 Qi0 Qah hi33 hj34),tv⟩) ?_
           refine bfe h (fun hc41 h=>?_) fun hc41 h=>?_
           ·refine wft hc41<|wxz<|Qaf<|Qal<|Qat<|Qal<|Qal<|Qat<|Qat<|Qal ?_
            exact Qal<|Qat<|Qal<|frb h
           ·refine wfn hc41<|Qaq<|thn ?_
            exact wx1 tbk [(2,⟨[(.tmp 86,(.mp 1)),(.tmp 87,(.agg [I x24.Element,I x24.Outlet])),cb true],[(1,(Qld y19))],.any,[(1,(Qld (addQ y19 (x24.Element,x24.Outlet))))],false⟩)] ⟨Qzy rfl underlying210 underlying112 Zd7 Zd5,tv⟩<|bln<|thn<|wxz1<|thn<|arm (mto (n:=90) [(1,.ref 0 2 0 0),(3,(.mp 1)),(4,I y3),(5,.ref 2 7 0 0),(27,(z9_1 p0)),(28,(I ((p0.Elements.length:Int)))),(29,I y3),(43,(Qv1 x11)),(44,(I ((x11.From.length:Int)))),(45,(I (w64 (y18+1))))] [0,1,2] [(z9_2 p0),(Qld (addQ y19 (x24.Element,x24.Outlet))),(Q0a x11)] hq (prr (pc (.rn (Qwq rfl)) (pw (prr (pc (rnd Qae) (pw (pw (pc (rnd Qf2) (pw (pw pn)))))))))) (qb (lc (rnd Qap) (lc (rnd Qae) ln)) (qc Qoy (qb (lc rwl (lc (rnd Qf2) (lcc (lcc (lc (rnd Qaj) ln))))) qn)))) (ih (w64 (y18+1),addQ y19 (x24.Element,x24.Outlet)) h)
       ·exact wfn hc23<|Qbl<|Qaz<|Qaz<|Qbk rfl<|bln<|thn<|⟨(y19),h,(mto (n:=90) [(1,.ref 0 2 0 0),(3,(.mp 1)),(27,(z9_1 p0)),(28,(I ((p0.Elements.length:Int)))),(29,I y3)] [0,1] [(z9_2 p0),(Qld y19)] hq (prr (pc (.rn (Qwq rfl)) (pc (rnd Qae) (pw (pw pn))))) (qb (lc (rnd Qap) (lc (rnd Qae) ln)) (qc Qoy qn)))⟩
    ·exact wfn hc8<|Qbl<|Qaz<|Qaz<|Qbk rfl<|thn<|⟨(),h,(mto (n:=90) [] [] [] hq pn qn)⟩
  ·skip
   obtain⟨x43,hf42,h⟩:=bno h
   refine hpre (A:=(Q4k p0 x43)) ⟨apv Zb8 (Qnk N p0.Table _ hf42) (nlc (nld Qap _) nl0) nll,tv⟩ fun q4_=>?_
   refine bfe h (fun hb44 h=>?_) fun hb44 h=>?_
   ·exact wx tbk (hcat (Q4k p0 x43) [(4,rp [(.tmp 11,(B ((x43 != 0))))] (B true))]) (hap q4_ ⟨asb hb44 (amv rfl),tv⟩)<|wtr<|wxz<|Qaf<|Qal<|frb h
   ·obtain⟨x46,hf45,h⟩:=bno h
    refine hpre (A:=(Q4j p0 x43 x46)) (hap q4_ ⟨asb hb44 (amv rfl),ag_ (alq 7 Qah p0.Elements underlying37),ag_ (apv Qke (Qdf N (p0.Elements.length:Int) 1 16 _ hf45) (nlcc (nlc nll nl0)) nll),tv⟩) fun q5_=>?_
    refine bfe h (fun hb47 h=>?_) fun hb47 h=>?_
    ·exact wx tbk (hcat (Q4j p0 x43 x46) [(11,rp [(.tmp 18,(B ((!x46))))] (B true))]) (hap q5_ ⟨asb hb47 (amv rfl),tv⟩)<|wtr<|wxz<|Qaf<|Qal<|frb h
    ·obtain⟨x49,hf48,h⟩:=bno h
     refine wx tbk (hcat (Q4j p0 x43 x46) [(11,rp [(.tmp 18,(B ((!x46))))] (B false)),(14,rp [(.tmp 19,B false),fu 102,(.tmp 21,(z9_1 p0)),fu 103] (B x49))]) (hap q5_ ⟨asb hb47 (amv rfl),ag_ (acq [(z9_1 p0),(.fn (.func 103) [] [])] [] [] (B x49) [] Zb7 (Qka N p0.Elements _ hf48) (Qbi (rnc (pld Qae) (rnc (.plain _ (NLt.fn _ _ _ nl0 nl0)) rn0))) Qao Qao (.plain _ nll)),tv⟩) ?_
     refine bfe h (fun hc50 h=>?_) fun hc50 h=>?_
     ·exact wft hc50<|wxz<|Qaf<|Qal<|frb h
     ·exact wfn hc50<|Qaq<|thn<|⟨(),h,(mto (n:=90) [(1,.ref 0 2 0 0)] [0] [(z9_2 p0)] hq (prr pn) (qb (lc (rnd Qap) (lc (rnd Qae) ln)) qn))⟩
end
section
def Qiy (N:Nat) (p0:Int):Option Bool:=
  (Qck N p0 0 1000000000000).bind fun x2=>
  some x2
theorem Qp4 (N:Nat) (p0:Int) (r:Bool) (h:Qiy N p0=some r):Spec prog 124 [(I p0)] [] (B r) []:=by
  refine sA func124 0 fun _ _ _ hq hd0=>?_
  unfold Qiy at h
  refine wxz ?_
  obtain⟨x2,hf1,h⟩:=bno h
  exact wx tbk [(1,rp _ _)] ⟨apw Qke (Qdf N p0 0 1000000000000 _ hf1),tv⟩<|Qaf<|frb h
def Qgd (N:Nat) (p0:Int):Option Bool:=
  (Qiy N p0).bind fun x3=>
  some (!x3)
abbrev Q96:Slot:=.own 1 [[(.fn (.func 124) [] [])]]
theorem Qno (N:Nat) (p0:Int) (r:Bool) (h:Qgd N p0=some r):Spec prog 153 [(I p0),(.ref 0 1 (0) 0)] [Q96] (B r) [Q96]:=by
  refine sF func153 1 fun _ _ _ hq hd0=>?_
  unfold Qgd at h
  refine wxz ?_
  obtain⟨x3,hf2,h⟩:=bno h
  refine wx tbk [(2,rp _ _)] ⟨apw Zb4 (Qp4 N p0 _ hf2),tv⟩ ?_
  refine wmr (mto (n:=8) (l':=[(3,(B ((!x3))))]) (own':=[Q96]) [(3,(B ((!x3))))] [0] [Q96] hq (pw pn) (qb (lc (.rn (Qa4 rn0 rn0)) ln) qn))<|Qaf ?_
  obtain rfl:=osi h
  exact⟨_,Mor.rfl,fio [(B ((!x3)))] ⟨rot,tv⟩⟩
def Qb0 (N:Nat) (p0:List Int) (k2:Unit→Option Int):Nat→Int→Option Int
  |0,_=>none
  |n5+1,y3=>
    bif (decide (y3<(p0.length:Int))) then
     (getI p0 y3).bind fun x7=>
     (Qgd N x7).bind fun x12=>
     bif x12 then
      some y3
     else
      Qb0 N p0 k2 n5 (w64 (y3+1))
    else
     k2 ()
def Qd7 (N:Nat) (p0:List Int):Option Int:=
  Qcf (fun _=>
    some (-1)) fun k2:Unit→Option Int=>
  Qb0 N p0 k2 N 0
abbrev Q5k:AV:=.fn (.func 153) [] [(.ref 0 1 (0) 0)]
abbrev Qoo:Slot:=.own 1 [[(.fn (.func 124) [] [])]]
theorem Qi8 (N:Nat) (p0:List Int) (r:Int) (h:Qd7 N p0=some r):Spec prog 151 [(.dat 1 (p0.map Qab)),Q5k] [Qoo] (I r) [Qoo]:=by
  refine sF func151 1 fun _ _ _ hq hd0=>?_
  unfold Qd7 at h
  refine wxz ?_
  obtain⟨k2,hk_k2,h⟩:=jko h
  refine wjn (τ:=Unit) (fun t=>k2 t=some r) (fun _=>⟨mk 19 [],[Qoo]⟩) (fun t h=>?_) ?_
  ·subst hk_k2
   refine wxz<|wmr (mto (n:=19) (l':=[(4,(I ((-1))))]) (own':=[Qoo]) [(4,(I ((-1))))] [0] [Qoo] hq (pw pn) (qb (lc (.rn (Qa4 rn0 rn0)) ln) qn))<|Qaf ?_
   obtain rfl:=osi h
   exact⟨_,Mor.rfl,fio [(I ((-1)))] ⟨rot,tv⟩⟩
  ·skip
   refine wx tbk [(1,rp _ _)] ⟨alq 1 Qab p0 underlying29,tv⟩<|Qar ?_
   refine wmr (mto (n:=19) (l':=[(0,(.dat 1 (p0.map Qab))),(1,Q5k),(7,(I ((p0.length:Int)))),(8,I 0)]) (own':=[Qoo]) [(0,(.dat 1 (p0.map Qab))),(1,Q5k),(7,(I ((p0.length:Int)))),(8,I 0)] [0] [Qoo] hq (pc (rnd Qaj) (pc (.rn (Qa4 rn0 (rnc (rqr rfl) rn0))) (pw (pw pn)))) (qb (lc (.rn (Qa4 rn0 rn0)) ln) qn)) ?_
   refine Qcn (τ:=Int) (fun n t=>Qb0 N p0 k2 n t=some r) (fun y3=>⟨mk 19 [(0,(.dat 1 (p0.map Qab))),(1,Q5k),(7,(I ((p0.length:Int)))),(8,I y3)],[Qoo]⟩) (fun t h=>by rw[Qb0] at h;cases h) (fun n5 ih y3 h=>?_) N (0) h
   rw[Qb0] at h
   skip
   refine wxz<|wsq ?_
   refine bfe h (fun hc6 h=>?_) fun hc6 h=>?_
   ·refine wft hc6<|Qaq<|thn<|wsq<|Qar<|wxz ?_
    obtain⟨x7,hg8,h⟩:=bno h
    obtain⟨hi9,hj10⟩:=gsm hg8
    obtain⟨x12,hf11,h⟩:=bno h
    refine wx tbk [(3,rp _ _),(5,⟨_,_,_,_,false⟩)] ⟨aiq underlying29 ti3 Qab hi9 hj10,Qct (first:=[]) (cap:=[.ref 0 1 0 0]) (vs:=[I x7]) (σr:=[Qoo]) (σr':=[Qoo]) (res':=(B x12)) [0] rfl Q2a (Qno N x7 _ hf11) rfl (Qbi (rnc (.plain _ nll) (rnc (Qas rfl) rn0))) (slc (Qai (rnc (.plain _ (NLt.fn _ _ _ nl0 nl0)) rn0)) Qao) (slc (Qai (rnc (.plain _ (NLt.fn _ _ _ nl0 nl0)) rn0)) Qao) (.plain _ nll) rfl rfl rfl,tv⟩ ?_
    refine bfe h (fun hc13 h=>?_) fun hc13 h=>?_
    ·refine wft hc13<|wxz ?_
     refine wmr (mto (n:=19) (l':=[(4,I y3)]) (own':=[Qoo]) [(4,I y3)] [0] [Qoo] hq (pw pn) (qb (lc (.rn (Qa4 rn0 rn0)) ln) qn))<|Qaf<|Qat<|Qal<|Qal<|Qat<|Qal ?_
     obtain rfl:=osi h
     exact⟨_,Mor.rfl,fio [I y3] ⟨rot,tv⟩⟩
    ·exact wfn hc13<|Qaq<|bln<|thn<|wxz1<|thn<|arm (mto (n:=19) [(0,(.dat 1 (p0.map Qab))),(1,Q5k),(7,(I ((p0.length:Int)))),(8,(I (w64 (y3+1))))] [0] [Qoo] hq (pc (rnd Qaj) (pc (.rn (Qa4 rn0 (rnc (rqr rfl) rn0))) (pw (pw pn)))) (qb (lc (.rn (Qa4 rn0 rn0)) ln) qn)) (ih (w64 (y3+1)) h)
   ·exact wfn hc6<|Qbl<|Qaz<|Qaz<|Qbk rfl<|thn<|⟨(),h,(mto (n:=19) [] [0] [Qoo] hq pn (qb (lc (.rn (Qa4 rn0 rn0)) ln) qn))⟩
def Qcw (N:Nat) (p0:List Int):Option Bool:=
  (Qd7 N p0).bind fun x3=>
  some (decide (x3≥0))
abbrev Zic:AV:=.fn (.func 153) [] [(.ref 0 1 (0) 0)]
abbrev Q25:Slot:=.own 1 [[(.fn (.func 124) [] [])]]
theorem Qh6 (N:Nat) (p0:List Int) (r:Bool) (h:Qcw N p0=some r):Spec prog 117 [(.dat 1 (p0.map Qab)),Zic] [Q25] (B r) [Q25]:=by
  refine sF func117 1 fun _ _ _ hq hd0=>?_
  unfold Qcw at h
  refine wxz ?_
  obtain⟨x3,hf2,h⟩:=bno h
  refine wx tbk [(2,⟨_,_,_,_,false⟩)] ⟨acq [(.dat 1 (p0.map Qab)),Zic] [Q25] [Q25] (I x3) [0] Qpd (Qi8 N p0 _ hf2) (Qbi (rnc (pld Qaj) (rnc (Qa4 rn0 (rnc (Qas rfl) rn0)) rn0))) (slc (Qai (rnc (.plain _ (NLt.fn _ _ _ nl0 nl0)) rn0)) Qao) (slc (Qai (rnc (.plain _ (NLt.fn _ _ _ nl0 nl0)) rn0)) Qao) (.plain _ nll),tv⟩ ?_
  refine wmr (mto (n:=9) (l':=[(4,(B ((decide (x3≥0)))))]) (own':=[Q25]) [(4,(B ((decide (x3≥0)))))] [0] [Q25] hq (pw pn) (qb (lc (.rn (Qa4 rn0 rn0)) ln) qn))<|Qaf ?_
  obtain rfl:=osi h
  exact⟨_,Mor.rfl,fio [(B ((decide (x3≥0))))] ⟨rot,tv⟩⟩
def Qib (N:Nat) (p0:List Int):Option Bool:=
  (Qcw N p0).bind fun x2=>
  some (!x2)
def Zid:AV:=.fn (.func 153) [] [(.ref 0 1 (0) 0)]
def Zie:Slot:=.own 1 [[(.fn (.func 124) [] [])]]
theorem Qo3 (N:Nat) (p0:List Int) (r:Bool) (h:Qib N p0=some r):Spec prog 123 [(.dat 1 (p0.map Qab)),(.fn (.func 124) [] [])] [] (B r) []:=by
  refine sA func123 0 fun _ _ _ hq hd0=>?_
  unfold Qib at h
  refine wxz ?_
  obtain⟨x2,hf1,h⟩:=bno h
  refine wx tbk [(1,rp [(.tmp 3,.ref 0 1 0 0)] Zid),(2,⟨_,_,_,_,false⟩)] ⟨Qed (fs:=[]) (cs:=[.ref 0 1 0 0]) rfl rfl rfl rfl,acq [(.dat 1 (p0.map Qab)),Zid] [Zie] [Zie] (B x2) [0] Qpe (Qh6 N p0 _ hf1) (Qbi (rnc (pld Qaj) (rnc (Qa4 rn0 (rnc (Qas rfl) rn0)) rn0))) (slc (Qai (rnc (.plain _ (NLt.fn _ _ _ nl0 nl0)) rn0)) Qao) (slc (Qai (rnc (.plain _ (NLt.fn _ _ _ nl0 nl0)) rn0)) Qao) (.plain _ nll),tv⟩<|Qaf ?_
  obtain rfl:=osi h
  exact fend ⟨[(B ((!x2)))],⟨rot,tv⟩,rfl⟩ nll
def Qhy (N:Nat) (p0:GNet) (p1:List Int):Option Int:=
  (Qgg N p0).bind fun x2=>
  bif (!x2) then
   some 1
  else
   bif ((p1.length:Int) != (p0.Elements.length:Int)) then
    some 1
   else
    (Qib N p1).bind fun x6=>
    bif (!x6) then
     some 1
    else
     some 0
def Zkr (p0:GNet):AV:=.dat 5 (p0.Table.map Qam)
def Zif (p0:GNet):AV:=.dat 7 (p0.Elements.map Qah)
def Zez (p0:GNet) (x2:Bool):List (Nat×Rec):=[(1,rp [fu 60,((.tmp 5),(.agg [(Zkr p0),(Zif p0)]))] (B x2))]
def Zey p0 x2 (p1:List Int):=hcat (Zez p0 x2) [(3,rp [((.tmp 7),(B ((!x2))))] (B false)),(5,rp [((.tmp 8),(B false)),((.tmp 9),(.dat 1 (p1.map Qab)))] (I ((p1.length:Int)))),(8,rp [((.tmp 8),(B false)),((.tmp 12),(Zif p0))] (I ((p0.Elements.length:Int))))]
theorem Qmz (N:Nat) (p0:GNet) (p1:List Int) (r:Int) (h:Qhy N p0 p1=some r):Spec prog 79 [(.agg (Qk3 p0)),(.dat 1 (p1.map Qab))] [] (I r) []:=by
  refine sA func79 0 fun _ _ _ hq hd0=>?_
  unfold Qhy at h
  refine wxz<|wsq ?_
  obtain⟨x2,hf1,h⟩:=bno h
  refine hpre (A:=(Zez p0 x2)) ⟨apv Q8a (Qkz N p0 _ hf1) (nlc (NLt.agg _ (nlc (nld Qap _) (nlc (nld Qae _) nl0))) nl0) nll,tv⟩ fun q1_=>?_
  refine bfe h (fun hb3 h=>?_) fun hb3 h=>?_
  ·refine wx tbk (hcat (Zez p0 x2) [(3,rp [(.tmp 7,(B ((!x2))))] (B true))]) (hap q1_ ⟨asb hb3 (amv rfl),tv⟩)<|wtr<|wxz<|Qaf<|Qal ?_
   obtain rfl:=osi h
   exact fend ⟨[I 1],⟨rot,tv⟩,rfl⟩ nll
  ·refine hpre (A:=(Zey p0 x2 p1)) (hap q1_ ⟨asb hb3 (amv rfl),ag_ (alq 1 Qab p1 underlying29),ag_ (alq 7 Qah p0.Elements underlying37),tv⟩) fun q2_=>?_
   refine bfe h (fun hb4 h=>?_) fun hb4 h=>?_
   ·refine wx tbk (hcat (Zey p0 x2 p1) [(11,rp [(.tmp 15,(B (((p1.length:Int) != (p0.Elements.length:Int)))))] (B true))]) (hap q2_ ⟨asb hb4 (amv rfl),tv⟩)<|wtr<|wxz<|Qaf<|Qal ?_
    obtain rfl:=osi h
    exact fend ⟨[I 1],⟨rot,tv⟩,rfl⟩ nll
   ·obtain⟨x6,hf5,h⟩:=bno h
    refine wx tbk (hcat (Zey p0 x2 p1) [(11,rp [(.tmp 15,(B (((p1.length:Int) != (p0.Elements.length:Int)))))] (B false)),(13,rp [(.tmp 16,B false),fu 123,(.tmp 17,(.dat 1 (p1.map Qab))),fu 124] (B x6))]) (hap q2_ ⟨asb hb4 (amv rfl),ag_ (acq [(.dat 1 (p1.map Qab)),(.fn (.func 124) [] [])] [] [] (B x6) [] Q2b (Qo3 N p1 _ hf5) (Qbi (rnc (pld Qaj) (rnc (.plain _ (NLt.fn _ _ _ nl0 nl0)) rn0))) Qao Qao (.plain _ nll)),tv⟩) ?_
    refine bfe h (fun hc7 h=>?_) fun hc7 h=>?_
    ·refine wft hc7<|wxz<|Qaf<|Qal ?_
     obtain rfl:=osi h
     exact fend ⟨[I 1],⟨rot,tv⟩,rfl⟩ nll
    ·refine wfn hc7<|Qaq<|thn<|wxz<|Qaf ?_
     obtain rfl:=osi h
     exact fend ⟨[I 0],⟨rot,tv⟩,rfl⟩ nll
def Qdr (N:Nat) (p0:GNet) (p1:Int) (k2:(List Int)→Option (List Int)):Nat→(List Int)→Int→Option (List Int)
  |0,_,_=>none
  |n7+1,y3,y4=>
    bif (decide (y4<(p0.Elements.length:Int))) then
     (getI p0.Elements y4).bind fun x9=>
     bif (x9.Kind==p1) then
      chk (decide ((y3.length+([y4]).length)*8≤140737488355328))<|
      Qdr N p0 p1 k2 n7 (y3++([y4])) (w64 (y4+1))
     else
      Qdr N p0 p1 k2 n7 y3 (w64 (y4+1))
    else
     k2 (y3)
def Qfz (N:Nat) (p0:GNet) (p1:Int):Option (List Int):=
  Qcf (fun y1=>
    some y1) fun k2:(List Int)→Option (List Int)=>
  Qdr N p0 p1 k2 N ([]) 0
def Q5i (p0:GNet):AV:=.dat 7 (p0.Elements.map Qah)
def Q0r (y3:List Int):AV:=.acc 0 3 1 (y3.map Qab)
theorem Qg4 (N:Nat) (p0:GNet) (p1:Int) (r:List Int) (h:Qfz N p0 p1=some r):Spec prog 57 [(.agg (Qk3 p0)),(K .u8 p1)] [] (.dat 1 (r.map Qab)) []:=by
  refine sA func57 0 fun _ _ _ hq hd0=>?_
  unfold Qfz at h
  refine wxz ?_
  obtain⟨k2,hk_k2,h⟩:=jko h
  refine wjn (τ:=(List Int)) (fun t=>k2 t=some r) (fun y1=>⟨mk 25 [(4,(.acc 0 3 1 (y1.map Qab)))],[.tok]⟩) (fun y1 h=>?_) ?_
  ·subst hk_k2
   refine wxz<|Qaf ?_
   obtain rfl:=osi h
   exact fie [(.dat 1 (y1.map Qab))] ⟨Qcs (v:=(.acc 0 3 1 (y1.map Qab))) rot Less.acc,tv⟩
  ·skip
   refine wx tbk [(2,rp _ _)] ⟨alq 7 Qah p0.Elements underlying37,tv⟩<|Qar ?_
   refine wmr (Mor.trans (Qp8 1 3 1 4 (by kernel_rfl) (by kernel_rfl)) (mto (n:=25) (l':=[(1,(K .u8 p1)),(4,(.acc 0 3 1 ((([]):List Int).map Qab))),(8,(Q5i p0)),(9,(I ((p0.Elements.length:Int)))),(10,I 0)]) (own':=[.tok]) [(1,(K .u8 p1)),(4,(.acc 1 3 1 (([]:List Int).map Qab))),(8,(Q5i p0)),(9,(I ((p0.Elements.length:Int)))),(10,I 0)] [1] [.tok] hq (pw (pc (.rn (Qe4 rfl (Qdy Qaj _))) (pc (rnd Qae) (pw (pw pn))))) (qc .tok qn))) ?_
   refine Qcn (τ:=(List Int)×Int) (fun n t=>Qdr N p0 p1 k2 n t.1 t.2=some r) (fun ⟨y3,y4⟩=>⟨mk 25 [(1,(K .u8 p1)),(4,(Q0r y3)),(8,(Q5i p0)),(9,(I ((p0.Elements.length:Int)))),(10,I y4)],[.tok]⟩) (fun t h=>by rw[Qdr] at h;cases h) (fun n7 ih t h=>?_) N ([],0) h
   obtain⟨y3,y4⟩:=t
   rw[Qdr] at h
   skip
   refine wxz<|wsq ?_
   refine bfe h (fun hc8 h=>?_) fun hc8 h=>?_
   ·refine wft hc8<|Qaq<|thn<|wsq<|Qar ?_
    obtain⟨x9,hg10,h⟩:=bno h
    obtain⟨hi11,hj12⟩:=gsm hg10
    refine wx tbk [(1,rp _ _)] ⟨aiq underlying37 Qi0 Qah hi11 hj12,tv⟩<|wxz ?_
    refine bfe h (fun hc13 h=>?_) fun hc13 h=>?_
    ·refine wft hc13 ?_
     obtain⟨ha14,h⟩:=cko h
     refine wx1 tbk [(2,rp [(.tmp 20,I y4)] (.dat 1 (([y4]:List Int).map Qab))),(3,⟨[(.tmp 19,(Q0r y3)),(.tmp 21,(.dat 1 (([y4]:List Int).map Qab)))],[(0,.tok),(2,.unused)],(.acc 2 3 1 ((y3++([y4]):List Int).map Qab)),[(0,.dead),(2,.tok)],false⟩)] ⟨Qbp (vs:=[I y4]) rfl underlying29 ti3 tz3 rfl (by decide) rfl (by decide) (by rfl) (by rfl) (by rfl) rfl,Qf4 rfl underlying29 te3 (Base.acc _ _) rfl rfl (by rfl) (Qis Qab ha14) (Qir Qab ha14 (by decide)) (Qiq Qab) rfl rfl,tv⟩<|bln<|thn<|wxz1<|thn ?_
     exact arm (mto (n:=25) [(1,(K .u8 p1)),(4,(.acc 2 3 1 ((y3++([y4]):List Int).map Qab))),(8,(Q5i p0)),(9,(I ((p0.Elements.length:Int)))),(10,(I (w64 (y4+1))))] [2] [.tok] hq (pw (pc (.rn (Qe4 rfl (Qdy Qaj _))) (pc (rnd Qae) (pw (pw pn))))) (qc .tok qn)) (ih (y3++([y4]),w64 (y4+1)) h)
    ·exact wfn hc13<|Qaq<|bln<|thn<|wxz1<|thn<|arm (mto (n:=25) [(1,(K .u8 p1)),(4,(Q0r y3)),(8,(Q5i p0)),(9,(I ((p0.Elements.length:Int)))),(10,(I (w64 (y4+1))))] [0] [.tok] hq (pw (pc (.rn (Qe4 rfl (Qdy Qaj _))) (pc (rnd Qae) (pw (pw pn))))) (qc .tok qn)) (ih (y3,w64 (y4+1)) h)
   ·exact wfn hc8<|Qbl<|Qaz<|Qaz<|Qbk rfl<|thn<|⟨(y3),h,(mto (n:=25) [(4,(Q0r y3))] [0] [.tok] hq (pc (.rn (Qe4 rfl (Qdy Qaj _))) pn) (qc .tok qn))⟩
def Qde (N:Nat) (p0:Qaa):Option Bool:=
  (Qcz N p0.Mass 0 1000000).bind fun x2=>
  bif x2 then
   (Qcz N p0.Heat 0 (w64 (4000*p0.Mass))).bind fun x5=>
   bif x5 then
    (Qcz N p0.Silica 0 (w64 (10000*p0.Mass))).bind fun x8=>
    bif x8 then
     (Qcz N p0.Gas 0 1000000000).bind fun x11=>
     some x11
    else
     some false
   else
    some false
  else
   some false
def Zev (p0:Qaa) (x2:Bool):List (Nat×Rec):=[(2,rp [fu 91,((.tmp 4),(I p0.Mass)),ci 0,ci 1000000] (B x2))]
def Zeu p0 x2 (x5:Bool):=hcat (Zev p0 x2) [(3,rp [((.tmp 5),(B x2))] (B true)),(9,rp [((.tmp 6),(B true)),fu 91,((.tmp 8),(I p0.Heat)),ci 0,((.tmp 11),(I (w64 (4000*p0.Mass))))] (B x5))]
def Zet p0 x2 x5 (x8:Bool):=hcat (Zeu p0 x2 x5) [(11,rp [((.tmp 13),(B x5))] (B true)),(17,rp [((.tmp 14),(B true)),fu 91,((.tmp 16),(I p0.Silica)),ci 0,((.tmp 19),(I (w64 (10000*p0.Mass))))] (B x8))]
theorem Qfj (N:Nat) (p0:Qaa) (r:Bool) (h:Qde N p0=some r):Spec prog 90 [(.agg (Qac p0))] [] (B r) []:=by
  refine sA func90 0 fun _ _ _ hq hd0=>?_
  unfold Qde at h
  refine wxz ?_
  obtain⟨x2,hf1,h⟩:=bno h
  refine hpre (A:=(Zev p0 x2)) ⟨apv Qkf (Qc3 N p0.Mass 0 1000000 _ hf1) (nlcc (nlc nll nl0)) nll,tv⟩ fun q1_=>?_
  refine bfe h (fun hb3 h=>?_) fun hb3 h=>?_
  ·obtain⟨x5,hf4,h⟩:=bno h
   refine hpre (A:=(Zeu p0 x2 x5)) (hap q1_ ⟨asb hb3 (amv rfl),ag_ (apv Qkf (Qc3 N p0.Heat 0 (w64 (4000*p0.Mass)) _ hf4) (nlcc (nlc nll nl0)) nll),tv⟩) fun q2_=>?_
   refine bfe h (fun hb6 h=>?_) fun hb6 h=>?_
   ·obtain⟨x8,hf7,h⟩:=bno h
    refine hpre (A:=(Zet p0 x2 x5 x8)) (hap q2_ ⟨asb hb6 (amv rfl),ag_ (apv Qkf (Qc3 N p0.Silica 0 (w64 (10000*p0.Mass)) _ hf7) (nlcc (nlc nll nl0)) nll),tv⟩) fun q3_=>?_
    refine bfe h (fun hb9 h=>?_) fun hb9 h=>?_
    ·obtain⟨x11,hf10,h⟩:=bno h
     exact wx tbk (hcat (Zet p0 x2 x5 x8) [(19,rp [(.tmp 21,B x8)] (B true)),(22,rp [(.tmp 22,B true),fu 91,(.tmp 24,I p0.Gas),ci 0,ci 1000000000] (B x11))]) (hap q3_ ⟨asb hb9 (amv rfl),ag_ (apv Qkf (Qc3 N p0.Gas 0 1000000000 _ hf10) (nlcc (nlc nll nl0)) nll),tv⟩)<|Qaf<|frb h
    ·exact wx tbk (hcat (Zet p0 x2 x5 x8) [(19,rp [(.tmp 21,B x8)] (B false))]) (hap q3_ ⟨asb hb9 (amv rfl),tv⟩)<|Qaf<|frb h
   ·exact wx tbk (hcat (Zeu p0 x2 x5) [(11,rp [(.tmp 13,B x5)] (B false))]) (hap q2_ ⟨asb hb6 (amv rfl),tv⟩)<|Qaf<|frb h
  ·exact wx tbk (hcat (Zev p0 x2) [(3,rp [(.tmp 5,B x2)] (B false))]) (hap q1_ ⟨asb hb3 (amv rfl),tv⟩)<|Qaf<|frb h
def Qfs (N:Nat) (p0:Qaa):Option Int:=
  (Qde N p0).bind fun x2=>
  bif (!x2) then
   some 1
  else
   some 0
theorem Qmt (N:Nat) (p0:Qaa) (r:Int) (h:Qfs N p0=some r):Spec prog 44 [(.agg (Qac p0))] [] (I r) []:=by
  refine sA func44 0 fun _ _ _ hq hd0=>?_
  unfold Qfs at h
  refine wxz<|wsq ?_
  obtain⟨x2,hf1,h⟩:=bno h
  refine wx tbk [(1,rp _ _)] ⟨apw Qvb (Qfj N p0 _ hf1),tv⟩ ?_
  refine bfe h (fun hc3 h=>?_) fun hc3 h=>?_
  ·refine wft hc3<|wxz<|Qaf<|Qal ?_
   obtain rfl:=osi h
   exact fend ⟨[I 1],⟨rot,tv⟩,rfl⟩ nll
  ·refine wfn hc3<|Qaq<|thn<|wxz<|Qaf ?_
   obtain rfl:=osi h
   exact fend ⟨[I 0],⟨rot,tv⟩,rfl⟩ nll
def Qic (N:Nat) (p0:Qaa):Option Bool:=
  (Qfs N p0).bind fun x2=>
  some (x2==0)
theorem Qo6 (N:Nat) (p0:Qaa) (r:Bool) (h:Qic N p0=some r):Spec prog 126 [(.agg (Qac p0))] [] (B r) []:=by
  refine sA func126 0 fun _ _ _ hq hd0=>?_
  unfold Qic at h
  refine wxz ?_
  obtain⟨x2,hf1,h⟩:=bno h
  refine wx tbk [(1,rp _ _)] ⟨apw Zgq (Qmt N p0 _ hf1),tv⟩<|Qaf ?_
  obtain rfl:=osi h
  exact fend ⟨[(B ((x2==0)))],⟨rot,tv⟩,rfl⟩ nll
def Qdl (N:Nat) (p0:Qaa):Option Bool:=
  (Qic N p0).bind fun x3=>
  some (!x3)
abbrev Zkn (p0:Qaa):AV:=.agg [(I p0.Mass),(I p0.Heat),(I p0.Silica),(I p0.Gas)]
abbrev Q95:Slot:=.own 1 [[(.fn (.func 126) [] [])]]
theorem Qjk (N:Nat) (p0:Qaa) (r:Bool) (h:Qdl N p0=some r):Spec prog 154 [(Zkn p0),(.ref 0 1 (0) 0)] [Q95] (B r) [Q95]:=by
  refine sF func154 1 fun _ _ _ hq hd0=>?_
  unfold Qdl at h
  refine wxz ?_
  obtain⟨x3,hf2,h⟩:=bno h
  refine wx tbk [(2,rp _ _)] ⟨apw Zb2 (Qo6 N p0 _ hf2),tv⟩ ?_
  refine wmr (mto (n:=8) (l':=[(3,(B ((!x3))))]) (own':=[Q95]) [(3,(B ((!x3))))] [0] [Q95] hq (pw pn) (qb (lc (.rn (Qa4 rn0 rn0)) ln) qn))<|Qaf ?_
  obtain rfl:=osi h
  exact⟨_,Mor.rfl,fio [(B ((!x3)))] ⟨rot,tv⟩⟩
def Qa6 (N:Nat) (p0:List Qaa) (k2:Unit→Option Int):Nat→Int→Option Int
  |0,_=>none
  |n5+1,y3=>
    bif (decide (y3<(p0.length:Int))) then
     (getI p0 y3).bind fun x7=>
     (Qdl N x7).bind fun x12=>
     bif x12 then
      some y3
     else
      Qa6 N p0 k2 n5 (w64 (y3+1))
    else
     k2 ()
def Qbw (N:Nat) (p0:List Qaa):Option Int:=
  Qcf (fun _=>
    some (-1)) fun k2:Unit→Option Int=>
  Qa6 N p0 k2 N 0
abbrev Q5h (p0:List Qaa):AV:=.dat 4 (p0.map Qac)
abbrev Q5g:AV:=.fn (.func 154) [] [(.ref 0 1 (0) 0)]
abbrev Qon:Slot:=.own 1 [[(.fn (.func 126) [] [])]]
def Zko (x7:Qaa):AV:=.agg [(I x7.Mass),(I x7.Heat),(I x7.Silica),(I x7.Gas)]
theorem Qfv (N:Nat) (p0:List Qaa) (r:Int) (h:Qbw N p0=some r):Spec prog 137 [(Q5h p0),Q5g] [Qon] (I r) [Qon]:=by
  refine sF func137 1 fun _ _ _ hq hd0=>?_
  unfold Qbw at h
  refine wxz ?_
  obtain⟨k2,hk_k2,h⟩:=jko h
  refine wjn (τ:=Unit) (fun t=>k2 t=some r) (fun _=>⟨mk 19 [],[Qon]⟩) (fun t h=>?_) ?_
  ·subst hk_k2
   refine wxz<|wmr (mto (n:=19) (l':=[(4,(I ((-1))))]) (own':=[Qon]) [(4,(I ((-1))))] [0] [Qon] hq (pw pn) (qb (lc (.rn (Qa4 rn0 rn0)) ln) qn))<|Qaf ?_
   obtain rfl:=osi h
   exact⟨_,Mor.rfl,fio [(I ((-1)))] ⟨rot,tv⟩⟩
  ·skip
   refine wx tbk [(1,rp _ _)] ⟨alq 4 Qac p0 underlying51,tv⟩<|Qar ?_
   refine wmr (mto (n:=19) (l':=[(0,(Q5h p0)),(1,Q5g),(7,(I ((p0.length:Int)))),(8,I 0)]) (own':=[Qon]) [(0,(Q5h p0)),(1,Q5g),(7,(I ((p0.length:Int)))),(8,I 0)] [0] [Qon] hq (pc (rnd Qak) (pc (.rn (Qa4 rn0 (rnc (rqr rfl) rn0))) (pw (pw pn)))) (qb (lc (.rn (Qa4 rn0 rn0)) ln) qn)) ?_
   refine Qcn (τ:=Int) (fun n t=>Qa6 N p0 k2 n t=some r) (fun y3=>⟨mk 19 [(0,(Q5h p0)),(1,Q5g),(7,(I ((p0.length:Int)))),(8,I y3)],[Qon]⟩) (fun t h=>by rw[Qa6] at h;cases h) (fun n5 ih y3 h=>?_) N (0) h
   rw[Qa6] at h
   skip
   refine wxz<|wsq ?_
   refine bfe h (fun hc6 h=>?_) fun hc6 h=>?_
   ·refine wft hc6<|Qaq<|thn<|wsq<|Qar<|wxz ?_
    obtain⟨x7,hg8,h⟩:=bno h
    obtain⟨hi9,hj10⟩:=gsm hg8
    obtain⟨x12,hf11,h⟩:=bno h
    refine wx tbk [(3,rp _ _),(5,⟨_,_,_,_,false⟩)] ⟨aiq underlying51 ti49 Qac hi9 hj10,Qct (first:=[]) (cap:=[.ref 0 1 0 0]) (vs:=[(Zko x7)]) (σr:=[Qon]) (σr':=[Qon]) (res':=(B x12)) [0] rfl Zbq (Qjk N x7 _ hf11) rfl (Qbi (rnc (.plain _ (NLt.agg _ (nlcc (nlcc nl0)))) (rnc (Qas rfl) rn0))) (slc (Qai (rnc (.plain _ (NLt.fn _ _ _ nl0 nl0)) rn0)) Qao) (slc (Qai (rnc (.plain _ (NLt.fn _ _ _ nl0 nl0)) rn0)) Qao) (.plain _ nll) rfl rfl rfl,tv⟩ ?_
    refine bfe h (fun hc13 h=>?_) fun hc13 h=>?_
    ·refine wft hc13<|wxz ?_
     refine wmr (mto (n:=19) (l':=[(4,I y3)]) (own':=[Qon]) [(4,I y3)] [0] [Qon] hq (pw pn) (qb (lc (.rn (Qa4 rn0 rn0)) ln) qn))<|Qaf<|Qat<|Qal<|Qal<|Qat<|Qal ?_
     obtain rfl:=osi h
     exact⟨_,Mor.rfl,fio [I y3] ⟨rot,tv⟩⟩
    ·exact wfn hc13<|Qaq<|bln<|thn<|wxz1<|thn<|arm (mto (n:=19) [(0,(Q5h p0)),(1,Q5g),(7,(I ((p0.length:Int)))),(8,(I (w64 (y3+1))))] [0] [Qon] hq (pc (rnd Qak) (pc (.rn (Qa4 rn0 (rnc (rqr rfl) rn0))) (pw (pw pn)))) (qb (lc (.rn (Qa4 rn0 rn0)) ln) qn)) (ih (w64 (y3+1)) h)
   ·exact wfn hc6<|Qbl<|Qaz<|Qaz<|Qbk rfl<|thn<|⟨(),h,(mto (n:=19) [] [0] [Qon] hq pn (qb (lc (.rn (Qa4 rn0 rn0)) ln) qn))⟩
def Qbg (N:Nat) (p0:List Qaa):Option Bool:=
  (Qbw N p0).bind fun x3=>
  some (decide (x3≥0))
abbrev Zh9:AV:=.fn (.func 154) [] [(.ref 0 1 (0) 0)]
abbrev Q24:Slot:=.own 1 [[(.fn (.func 126) [] [])]]
theorem Qfd (N:Nat) (p0:List Qaa) (r:Bool) (h:Qbg N p0=some r):Spec prog 94 [(.dat 4 (p0.map Qac)),Zh9] [Q24] (B r) [Q24]:=by
  refine sF func94 1 fun _ _ _ hq hd0=>?_
  unfold Qbg at h
  refine wxz ?_
  obtain⟨x3,hf2,h⟩:=bno h
  refine wx tbk [(2,⟨_,_,_,_,false⟩)] ⟨acq [(.dat 4 (p0.map Qac)),Zh9] [Q24] [Q24] (I x3) [0] Qvf (Qfv N p0 _ hf2) (Qbi (rnc (pld Qak) (rnc (Qa4 rn0 (rnc (Qas rfl) rn0)) rn0))) (slc (Qai (rnc (.plain _ (NLt.fn _ _ _ nl0 nl0)) rn0)) Qao) (slc (Qai (rnc (.plain _ (NLt.fn _ _ _ nl0 nl0)) rn0)) Qao) (.plain _ nll),tv⟩ ?_
  refine wmr (mto (n:=9) (l':=[(4,(B ((decide (x3≥0)))))]) (own':=[Q24]) [(4,(B ((decide (x3≥0)))))] [0] [Q24] hq (pw pn) (qb (lc (.rn (Qa4 rn0 rn0)) ln) qn))<|Qaf ?_
  obtain rfl:=osi h
  exact⟨_,Mor.rfl,fio [(B ((decide (x3≥0))))] ⟨rot,tv⟩⟩
def Qez (N:Nat) (p0:List Qaa):Option Bool:=
  (Qbg N p0).bind fun x2=>
  some (!x2)
def Zia:AV:=.fn (.func 154) [] [(.ref 0 1 (0) 0)]
def Zib:Slot:=.own 1 [[(.fn (.func 126) [] [])]]
theorem Qj9 (N:Nat) (p0:List Qaa) (r:Bool) (h:Qez N p0=some r):Spec prog 125 [(.dat 4 (p0.map Qac)),(.fn (.func 126) [] [])] [] (B r) []:=by
  refine sA func125 0 fun _ _ _ hq hd0=>?_
  unfold Qez at h
  refine wxz ?_
  obtain⟨x2,hf1,h⟩:=bno h
  refine wx tbk [(1,rp [(.tmp 3,.ref 0 1 0 0)] Zia),(2,⟨_,_,_,_,false⟩)] ⟨Qed (fs:=[]) (cs:=[.ref 0 1 0 0]) rfl rfl rfl rfl,acq [(.dat 4 (p0.map Qac)),Zia] [Zib] [Zib] (B x2) [0] Qzf (Qfd N p0 _ hf1) (Qbi (rnc (pld Qak) (rnc (Qa4 rn0 (rnc (Qas rfl) rn0)) rn0))) (slc (Qai (rnc (.plain _ (NLt.fn _ _ _ nl0 nl0)) rn0)) Qao) (slc (Qai (rnc (.plain _ (NLt.fn _ _ _ nl0 nl0)) rn0)) Qao) (.plain _ nll),tv⟩<|Qaf ?_
  obtain rfl:=osi h
  exact fend ⟨[(B ((!x2)))],⟨rot,tv⟩,rfl⟩ nll
def Qel (N:Nat) (p0:List Qaa) (k5:Int×Int×Int×Int→Option Qaa):Nat→Int→Int→Int→Int→Int→Option Qaa
  |0,_,_,_,_,_=>none
  |n16+1,y6,y7,y8,y9,y10=>
    bif (decide (y6<(p0.length:Int))) then
     (getI p0 y6).bind fun x18=>
     Qel N p0 k5 n16 (w64 (y6+1)) (w64 (y7+x18.Mass)) (w64 (y8+x18.Heat)) (w64 (y9+x18.Silica)) (w64 (y10+x18.Gas))
    else
     k5 (y7,y8,y9,y10)
def Qff (N:Nat) (p0:List Qaa):Option Qaa:=
  Qcf (fun ⟨y1,y2,y3,y4⟩=>
    some (⟨y1,y2,y3,y4⟩:Qaa)) fun k5:Int×Int×Int×Int→Option Qaa=>
  Qel N p0 k5 N 0 0 0 0 0
def Q94 (p0:List Qaa):AV:=.dat 4 (p0.map Qac)
def Zh8:Slot:=.own 4 [[(I (0)),(I (0)),(I (0)),(I (0))]]
theorem Qla (N:Nat) (p0:List Qaa) (r:Qaa) (h:Qff N p0=some r):Spec prog 68 [(.dat 4 (p0.map Qac))] [] (.agg (Qac r)) []:=by
  refine sA func68 0 fun _ _ _ hq hd0=>?_
  unfold Qff at h
  refine wxz ?_
  obtain⟨k5,hk_k5,h⟩:=jko h
  refine wjn (τ:=Int×Int×Int×Int) (fun t=>k5 t=some r) (fun ⟨y1,y2,y3,y4⟩=>⟨mk 34 [(2,.ref 0 4 0 0)],[(.own 4 [[I y1,I y2,I y3,I y4]])]⟩) (fun t h=>?_) ?_
  ·subst hk_k5
   obtain⟨y1,y2,y3,y4⟩:=t
   refine wxz<|Qaf ?_
   obtain rfl:=osi h
   exact fie [(.agg [I y1,I y2,I y3,I y4])] ⟨Qb7 (n:=0) (m:=4) (j:=0) (i:=0) (xs:=[[I y1,I y2,I y3,I y4]]) (by kernel_rfl) (by kernel_rfl) ti49 (by decide) rfl (nle rfl) rfl,tv⟩
  ·skip
   refine wx tbk [(1,rp _ _)] ⟨alq 4 Qac p0 underlying51,tv⟩<|Qar ?_
   refine wmr (mto (n:=34) (l':=[(2,.ref 0 4 0 0),(5,(Q94 p0)),(6,(I ((p0.length:Int)))),(7,I 0)]) (own':=[Zh8]) [(2,.ref 0 4 0 0),(5,(Q94 p0)),(6,(I ((p0.length:Int)))),(7,I 0)] [0] [Zh8] hq (prr (pc (rnd Qak) (pw (pw pn)))) (qb (lcc (lcc ln)) qn)) ?_
   refine Qcn (τ:=Int×Int×Int×Int×Int) (fun n t=>Qel N p0 k5 n t.1 t.2.1 t.2.2.1 t.2.2.2.1 t.2.2.2.2=some r) (fun ⟨y6,y7,y8,y9,y10⟩=>⟨mk 34 [(2,.ref 0 4 0 0),(5,(Q94 p0)),(6,(I ((p0.length:Int)))),(7,I y6)],[(.own 4 [[I y7,I y8,I y9,I y10]])]⟩) (fun t h=>by rw[Qel] at h;cases h) (fun n16 ih t h=>?_) N (0,0,0,0,0) h
   obtain⟨y6,y7,y8,y9,y10⟩:=t
   rw[Qel] at h
   skip
   refine wxz<|wsq ?_
   refine bfe h (fun hc17 h=>?_) fun hc17 h=>?_
   ·refine wft hc17<|Qaq<|thn<|wsq<|Qar ?_
    obtain⟨x18,hg19,h⟩:=bno h
    obtain⟨hi20,hj21⟩:=gsm hg19
    refine wx tbk [(0,rp _ _)] ⟨aiq underlying51 ti49 Qac hi20 hj21,tv⟩ ?_
    exact wx1 tbk [(20,rp _ _)] ⟨Qa8 (vs:=[(I (w64 (y7+x18.Mass))),(I (w64 (y8+x18.Heat))),(I (w64 (y9+x18.Silica))),(I (w64 (y10+x18.Gas)))]) rfl ts49 tz49 rfl (by rfl) rfl,tv⟩<|bln<|thn<|wxz1<|thn<|arm (mto (n:=34) [(2,.ref 0 4 0 0),(5,(Q94 p0)),(6,(I ((p0.length:Int)))),(7,(I (w64 (y6+1))))] [0] [(.own 4 [[(I (w64 (y7+x18.Mass))),(I (w64 (y8+x18.Heat))),(I (w64 (y9+x18.Silica))),(I (w64 (y10+x18.Gas)))]])] hq (prr (pc (rnd Qak) (pw (pw pn)))) (qb (lcc (lcc ln)) qn)) (ih (w64 (y6+1),w64 (y7+x18.Mass),w64 (y8+x18.Heat),w64 (y9+x18.Silica),w64 (y10+x18.Gas)) h)
   ·exact wfn hc17<|Qbl<|Qaz<|Qaz<|Qbk rfl<|thn<|⟨(y7,y8,y9,y10),h,(mto (n:=34) [(2,.ref 0 4 0 0)] [0] [(.own 4 [[I y7,I y8,I y9,I y10]])] hq (prr pn) (qb (lcc (lcc ln)) qn))⟩
def Qhe (N:Nat) (p0:GNet) (p1:List Qaa):Option Int:=
  Qcf (fun _=>
    (Qff N p1).bind fun x3=>
    bif (decide (x3.Mass>1000000)) then
     some 3
    else
     bif (decide (x3.Gas>1000000000)) then
      some 3
     else
      some 0) fun k1:Unit→Option Int=>
  (Qfz N p0 1).bind fun x7=>
  bif ((p1.length:Int) != (x7.length:Int)) then
   some 1
  else
   (Qez N p1).bind fun x10=>
   bif (!x10) then
    some 1
   else
    k1 ()
def Q5j (p1:List Qaa):AV:=.dat 4 (p1.map Qac)
def Zkq (p0:GNet):AV:=.dat 5 (p0.Table.map Qam)
def Zkp (p0:GNet):AV:=.dat 7 (p0.Elements.map Qah)
def Zew (p1:List Qaa) (p0:GNet) (x7:List Int):List (Nat×Rec):=[(1,rp [((.tmp 6),(Q5j p1))] (I ((p1.length:Int)))),(3,rp [fu 57,((.tmp 8),(.agg [(Zkq p0),(Zkp p0)])),((.const (.int .u8 1)),(K .u8 (1)))] (.dat 1 (x7.map Qab))),(4,rp [((.tmp 9),(.dat 1 (x7.map Qab)))] (I ((x7.length:Int))))]
theorem Qmf (N:Nat) (p0:GNet) (p1:List Qaa) (r:Int) (h:Qhe N p0 p1=some r):Spec prog 80 [(.agg (Qk3 p0)),(.dat 4 (p1.map Qac))] [] (I r) []:=by
  refine sA func80 0 fun _ _ _ hq hd0=>?_
  unfold Qhe at h
  refine wxz ?_
  obtain⟨k1,hk_k1,h⟩:=jko h
  refine wjn (τ:=Unit) (fun t=>k1 t=some r) (fun _=>⟨mk 27 [(1,(Q5j p1))],[]⟩) (fun t h=>?_) ?_
  ·subst hk_k1
   refine wsq ?_
   obtain⟨x3,hf2,h⟩:=bno h
   refine wx tbk [(1,rp _ _)] ⟨apw Qzg (Qla N p1 _ hf2),tv⟩ ?_
   refine bfe h (fun hb4 h=>?_) fun hb4 h=>?_
   ·refine wx tbk [(3,rp [(.tmp 21,(B ((decide (x3.Mass>1000000)))))] (B true))] ⟨asb hb4 (amv rfl),tv⟩<|wtr<|wxz<|Qaf<|Qal ?_
    obtain rfl:=osi h
    exact fend ⟨[I 3],⟨rot,tv⟩,rfl⟩ nll
   ·refine wx tbk [(3,rp [(.tmp 21,(B ((decide (x3.Mass>1000000)))))] (B false))] ⟨asb hb4 (amv rfl),tv⟩ ?_
    refine bfe h (fun hc5 h=>?_) fun hc5 h=>?_
    ·refine wft hc5<|wxz<|Qaf<|Qal ?_
     obtain rfl:=osi h
     exact fend ⟨[I 3],⟨rot,tv⟩,rfl⟩ nll
    ·refine wfn hc5<|Qaq<|thn<|wxz<|Qaf ?_
     obtain rfl:=osi h
     exact fend ⟨[I 0],⟨rot,tv⟩,rfl⟩ nll
  ·skip
   obtain⟨x7,hf6,h⟩:=bno h
   refine hpre (A:=(Zew p1 p0 x7)) ⟨alq 4 Qac p1 underlying51,apv Qsj (Qg4 N p0 1 _ hf6) (nlc (NLt.agg _ (nlc (nld Qap _) (nlc (nld Qae _) nl0))) (nlc nll nl0)) (nld Qaj _),alq 1 Qab x7 underlying29,tv⟩ fun q1_=>?_
   refine bfe h (fun hb8 h=>?_) fun hb8 h=>?_
   ·refine wx tbk (hcat (Zew p1 p0 x7) [(6,rp [(.tmp 11,(B (((p1.length:Int) != (x7.length:Int)))))] (B true))]) (hap q1_ ⟨asb hb8 (amv rfl),tv⟩)<|wtr<|wxz<|Qaf<|Qal ?_
    obtain rfl:=osi h
    exact fend ⟨[I 1],⟨rot,tv⟩,rfl⟩ nll
   ·obtain⟨x10,hf9,h⟩:=bno h
    refine wx tbk (hcat (Zew p1 p0 x7) [(6,rp [(.tmp 11,(B (((p1.length:Int) != (x7.length:Int)))))] (B false)),(8,rp [(.tmp 12,B false),fu 125,(.tmp 13,(Q5j p1)),fu 126] (B x10))]) (hap q1_ ⟨asb hb8 (amv rfl),ag_ (acq [(Q5j p1),(.fn (.func 126) [] [])] [] [] (B x10) [] Zb3 (Qj9 N p1 _ hf9) (Qbi (rnc (pld Qak) (rnc (.plain _ (NLt.fn _ _ _ nl0 nl0)) rn0))) Qao Qao (.plain _ nll)),tv⟩) ?_
    refine bfe h (fun hc11 h=>?_) fun hc11 h=>?_
    ·refine wft hc11<|wxz<|Qaf<|Qal ?_
     obtain rfl:=osi h
     exact fend ⟨[I 1],⟨rot,tv⟩,rfl⟩ nll
    ·exact wfn hc11<|Qaq<|thn<|⟨(),h,(mto (n:=27) [(1,(Q5j p1))] [] [] hq (pc (rnd Qak) pn) qn)⟩
def Qn9 (N:Nat) (p0:GNet) (p1:List Int) (p2:List Qaa):Option Int:=
  (Qhy N p0 p1).bind fun x2=>
  bif (x2 != 0) then
   some x2
  else
   (Qhe N p0 p2).bind fun x5=>
   some x5
theorem Qs8 (N:Nat) (p0:GNet) (p1:List Int) (p2:List Qaa) (r:Int) (h:Qn9 N p0 p1 p2=some r):Spec prog 39 [(.agg (Qk3 p0)),(.dat 1 (p1.map Qab)),(.dat 4 (p2.map Qac))] [] (I r) []:=by
  refine sA func39 0 fun _ _ _ hq hd0=>?_
  unfold Qn9 at h
  refine wxz<|wsq ?_
  obtain⟨x2,hf1,h⟩:=bno h
  refine wx tbk [(2,rp _ _)] ⟨apw Q78 (Qmz N p0 p1 _ hf1),tv⟩<|wxz ?_
  refine bfe h (fun hc3 h=>?_) fun hc3 h=>?_
  ·refine wft hc3<|wxz<|Qaf<|Qal ?_
   obtain rfl:=osi h
   exact fend ⟨[I x2],⟨rot,tv⟩,rfl⟩ nll
  ·refine wfn hc3<|Qaq<|thn ?_
   obtain⟨x5,hf4,h⟩:=bno h
   refine wx tbk [(2,rp _ _)] ⟨apw Q77 (Qmf N p0 p2 _ hf4),tv⟩<|Qaf ?_
   obtain rfl:=osi h
   exact fend ⟨[I x5],⟨rot,tv⟩,rfl⟩ nll
def Qix (N:Nat) (p0:Int):Option Bool:=
  (Qcz N p0 0 1000).bind fun x2=>
  some x2
theorem Qpz (N:Nat) (p0:Int) (r:Bool) (h:Qix N p0=some r):Spec prog 168 [(I p0)] [] (B r) []:=by
  refine sA func168 0 fun _ _ _ hq hd0=>?_
  unfold Qix at h
  refine wxz ?_
  obtain⟨x2,hf1,h⟩:=bno h
  exact wx tbk [(1,rp _ _)] ⟨apw Qkf (Qc3 N p0 0 1000 _ hf1),tv⟩<|Qaf<|frb h
def Qfr (N:Nat) (p0:Int):Option Bool:=
  (Qix N p0).bind fun x3=>
  some (!x3)
abbrev Q91:Slot:=.own 1 [[(.fn (.func 168) [] [])]]
theorem Qmr (N:Nat) (p0:Int) (r:Bool) (h:Qfr N p0=some r):Spec prog 175 [(I p0),(.ref 0 1 (0) 0)] [Q91] (B r) [Q91]:=by
  refine sF func175 1 fun _ _ _ hq hd0=>?_
  unfold Qfr at h
  refine wxz ?_
  obtain⟨x3,hf2,h⟩:=bno h
  refine wx tbk [(2,rp _ _)] ⟨apw Zbi (Qpz N p0 _ hf2),tv⟩ ?_
  refine wmr (mto (n:=8) (l':=[(3,(B ((!x3))))]) (own':=[Q91]) [(3,(B ((!x3))))] [0] [Q91] hq (pw pn) (qb (lc (.rn (Qa4 rn0 rn0)) ln) qn))<|Qaf ?_
  obtain rfl:=osi h
  exact⟨_,Mor.rfl,fio [(B ((!x3)))] ⟨rot,tv⟩⟩
def Qbz (N:Nat) (p0:List Int) (k2:Unit→Option Int):Nat→Int→Option Int
  |0,_=>none
  |n5+1,y3=>
    bif (decide (y3<(p0.length:Int))) then
     (getI p0 y3).bind fun x7=>
     (Qfr N x7).bind fun x12=>
     bif x12 then
      some y3
     else
      Qbz N p0 k2 n5 (w64 (y3+1))
    else
     k2 ()
def Qd6 (N:Nat) (p0:List Int):Option Int:=
  Qcf (fun _=>
    some (-1)) fun k2:Unit→Option Int=>
  Qbz N p0 k2 N 0
abbrev Q5b:AV:=.fn (.func 175) [] [(.ref 0 1 (0) 0)]
abbrev Qom:Slot:=.own 1 [[(.fn (.func 168) [] [])]]
theorem Qi7 (N:Nat) (p0:List Int) (r:Int) (h:Qd6 N p0=some r):Spec prog 151 [(.dat 1 (p0.map Qab)),Q5b] [Qom] (I r) [Qom]:=by
  refine sF func151 1 fun _ _ _ hq hd0=>?_
  unfold Qd6 at h
  refine wxz ?_
  obtain⟨k2,hk_k2,h⟩:=jko h
  refine wjn (τ:=Unit) (fun t=>k2 t=some r) (fun _=>⟨mk 19 [],[Qom]⟩) (fun t h=>?_) ?_
  ·subst hk_k2
   refine wxz<|wmr (mto (n:=19) (l':=[(4,(I ((-1))))]) (own':=[Qom]) [(4,(I ((-1))))] [0] [Qom] hq (pw pn) (qb (lc (.rn (Qa4 rn0 rn0)) ln) qn))<|Qaf ?_
   obtain rfl:=osi h
   exact⟨_,Mor.rfl,fio [(I ((-1)))] ⟨rot,tv⟩⟩
  ·skip
   refine wx tbk [(1,rp _ _)] ⟨alq 1 Qab p0 underlying29,tv⟩<|Qar ?_
   refine wmr (mto (n:=19) (l':=[(0,(.dat 1 (p0.map Qab))),(1,Q5b),(7,(I ((p0.length:Int)))),(8,I 0)]) (own':=[Qom]) [(0,(.dat 1 (p0.map Qab))),(1,Q5b),(7,(I ((p0.length:Int)))),(8,I 0)] [0] [Qom] hq (pc (rnd Qaj) (pc (.rn (Qa4 rn0 (rnc (rqr rfl) rn0))) (pw (pw pn)))) (qb (lc (.rn (Qa4 rn0 rn0)) ln) qn)) ?_
   refine Qcn (τ:=Int) (fun n t=>Qbz N p0 k2 n t=some r) (fun y3=>⟨mk 19 [(0,(.dat 1 (p0.map Qab))),(1,Q5b),(7,(I ((p0.length:Int)))),(8,I y3)],[Qom]⟩) (fun t h=>by rw[Qbz] at h;cases h) (fun n5 ih y3 h=>?_) N (0) h
   rw[Qbz] at h
   skip
   refine wxz<|wsq ?_
   refine bfe h (fun hc6 h=>?_) fun hc6 h=>?_
   ·refine wft hc6<|Qaq<|thn<|wsq<|Qar<|wxz ?_
    obtain⟨x7,hg8,h⟩:=bno h
    obtain⟨hi9,hj10⟩:=gsm hg8
    obtain⟨x12,hf11,h⟩:=bno h
    refine wx tbk [(3,rp _ _),(5,⟨_,_,_,_,false⟩)] ⟨aiq underlying29 ti3 Qab hi9 hj10,Qct (first:=[]) (cap:=[.ref 0 1 0 0]) (vs:=[I x7]) (σr:=[Qom]) (σr':=[Qom]) (res':=(B x12)) [0] rfl Zbd (Qmr N x7 _ hf11) rfl (Qbi (rnc (.plain _ nll) (rnc (Qas rfl) rn0))) (slc (Qai (rnc (.plain _ (NLt.fn _ _ _ nl0 nl0)) rn0)) Qao) (slc (Qai (rnc (.plain _ (NLt.fn _ _ _ nl0 nl0)) rn0)) Qao) (.plain _ nll) rfl rfl rfl,tv⟩ ?_
    refine bfe h (fun hc13 h=>?_) fun hc13 h=>?_
    ·refine wft hc13<|wxz ?_
     refine wmr (mto (n:=19) (l':=[(4,I y3)]) (own':=[Qom]) [(4,I y3)] [0] [Qom] hq (pw pn) (qb (lc (.rn (Qa4 rn0 rn0)) ln) qn))<|Qaf<|Qat<|Qal<|Qal<|Qat<|Qal ?_
     obtain rfl:=osi h
     exact⟨_,Mor.rfl,fio [I y3] ⟨rot,tv⟩⟩
    ·exact wfn hc13<|Qaq<|bln<|thn<|wxz1<|thn<|arm (mto (n:=19) [(0,(.dat 1 (p0.map Qab))),(1,Q5b),(7,(I ((p0.length:Int)))),(8,(I (w64 (y3+1))))] [0] [Qom] hq (pc (rnd Qaj) (pc (.rn (Qa4 rn0 (rnc (rqr rfl) rn0))) (pw (pw pn)))) (qb (lc (.rn (Qa4 rn0 rn0)) ln) qn)) (ih (w64 (y3+1)) h)
   ·exact wfn hc6<|Qbl<|Qaz<|Qaz<|Qbk rfl<|thn<|⟨(),h,(mto (n:=19) [] [0] [Qom] hq pn (qb (lc (.rn (Qa4 rn0 rn0)) ln) qn))⟩
def Qcv (N:Nat) (p0:List Int):Option Bool:=
  (Qd6 N p0).bind fun x3=>
  some (decide (x3≥0))
abbrev Zh4:AV:=.fn (.func 175) [] [(.ref 0 1 (0) 0)]
abbrev Q23:Slot:=.own 1 [[(.fn (.func 168) [] [])]]
theorem Qh5 (N:Nat) (p0:List Int) (r:Bool) (h:Qcv N p0=some r):Spec prog 117 [(.dat 1 (p0.map Qab)),Zh4] [Q23] (B r) [Q23]:=by
  refine sF func117 1 fun _ _ _ hq hd0=>?_
  unfold Qcv at h
  refine wxz ?_
  obtain⟨x3,hf2,h⟩:=bno h
  refine wx tbk [(2,⟨_,_,_,_,false⟩)] ⟨acq [(.dat 1 (p0.map Qab)),Zh4] [Q23] [Q23] (I x3) [0] Qpd (Qi7 N p0 _ hf2) (Qbi (rnc (pld Qaj) (rnc (Qa4 rn0 (rnc (Qas rfl) rn0)) rn0))) (slc (Qai (rnc (.plain _ (NLt.fn _ _ _ nl0 nl0)) rn0)) Qao) (slc (Qai (rnc (.plain _ (NLt.fn _ _ _ nl0 nl0)) rn0)) Qao) (.plain _ nll),tv⟩ ?_
  refine wmr (mto (n:=9) (l':=[(4,(B ((decide (x3≥0)))))]) (own':=[Q23]) [(4,(B ((decide (x3≥0)))))] [0] [Q23] hq (pw pn) (qb (lc (.rn (Qa4 rn0 rn0)) ln) qn))<|Qaf ?_
  obtain rfl:=osi h
  exact⟨_,Mor.rfl,fio [(B ((decide (x3≥0))))] ⟨rot,tv⟩⟩
def Qgp (N:Nat) (p0:List Int):Option Bool:=
  (Qcv N p0).bind fun x2=>
  some (!x2)
def Zh5:AV:=.fn (.func 175) [] [(.ref 0 1 (0) 0)]
def Zh6:Slot:=.own 1 [[(.fn (.func 168) [] [])]]
theorem Qn3 (N:Nat) (p0:List Int) (r:Bool) (h:Qgp N p0=some r):Spec prog 169 [(.dat 1 (p0.map Qab)),(.fn (.func 168) [] [])] [] (B r) []:=by
  refine sA func169 0 fun _ _ _ hq hd0=>?_
  unfold Qgp at h
  refine wxz ?_
  obtain⟨x2,hf1,h⟩:=bno h
  refine wx tbk [(1,rp [(.tmp 3,.ref 0 1 0 0)] Zh5),(2,⟨_,_,_,_,false⟩)] ⟨Qed (fs:=[]) (cs:=[.ref 0 1 0 0]) rfl rfl rfl rfl,acq [(.dat 1 (p0.map Qab)),Zh5] [Zh6] [Zh6] (B x2) [0] Qpe (Qh5 N p0 _ hf1) (Qbi (rnc (pld Qaj) (rnc (Qa4 rn0 (rnc (Qas rfl) rn0)) rn0))) (slc (Qai (rnc (.plain _ (NLt.fn _ _ _ nl0 nl0)) rn0)) Qao) (slc (Qai (rnc (.plain _ (NLt.fn _ _ _ nl0 nl0)) rn0)) Qao) (.plain _ nll),tv⟩<|Qaf ?_
  obtain rfl:=osi h
  exact fend ⟨[(B ((!x2)))],⟨rot,tv⟩,rfl⟩ nll
def Qiw (_N:Nat) (p0:Int):Option Bool:=
  some (decide (p0>0))
theorem Qpy (N:Nat) (p0:Int) (r:Bool) (h:Qiw N p0=some r):Spec prog 170 [(I p0)] [] (B r) []:=by
  refine sA func170 0 fun _ _ _ hq hd0=>?_
  unfold Qiw at h
  refine wxz<|wxz<|Qaf ?_
  obtain rfl:=osi h
  exact fend ⟨[(B ((decide (p0>0))))],⟨rot,tv⟩,rfl⟩ nll
def Qby (N:Nat) (p0:List Int) (k1:Unit→Option Int):Nat→Int→Option Int
  |0,_=>none
  |n4+1,y2=>
    bif (decide (y2<(p0.length:Int))) then
     (getI p0 y2).bind fun x6=>
     (Qiw N x6).bind fun x11=>
     bif x11 then
      some y2
     else
      Qby N p0 k1 n4 (w64 (y2+1))
    else
     k1 ()
def Qd5 (N:Nat) (p0:List Int):Option Int:=
  Qcf (fun _=>
    some (-1)) fun k1:Unit→Option Int=>
  Qby N p0 k1 N 0
theorem Qi6 (N:Nat) (p0:List Int) (r:Int) (h:Qd5 N p0=some r):Spec prog 151 [(.dat 1 (p0.map Qab)),(.fn (.func 170) [] [])] [] (I r) []:=by
  refine sA func151 0 fun _ _ _ hq hd0=>?_
  unfold Qd5 at h
  refine wxz ?_
  obtain⟨k1,hk_k1,h⟩:=jko h
  refine wjn (τ:=Unit) (fun t=>k1 t=some r) (fun _=>⟨mk 19 [],[]⟩) (fun t h=>?_) ?_
  ·subst hk_k1
   refine wxz<|Qaf ?_
   obtain rfl:=osi h
   exact fend ⟨[(I ((-1)))],⟨rot,tv⟩,rfl⟩ nll
  ·skip
   refine wx tbk [(1,rp _ _)] ⟨alq 1 Qab p0 underlying29,tv⟩<|Qar ?_
   refine wmr (mto (n:=19) (l':=[(0,(.dat 1 (p0.map Qab))),(1,(.fn (.func 170) [] [])),(7,(I ((p0.length:Int)))),(8,I 0)]) (own':=[]) [(0,(.dat 1 (p0.map Qab))),(1,(.fn (.func 170) [] [])),(7,(I ((p0.length:Int)))),(8,I 0)] [] [] hq (pc (rnd Qaj) (pc (.rn (Qa4 rn0 rn0)) (pw (pw pn)))) qn) ?_
   refine Qcn (τ:=Int) (fun n t=>Qby N p0 k1 n t=some r) (fun y2=>⟨mk 19 [(0,(.dat 1 (p0.map Qab))),(1,(.fn (.func 170) [] [])),(7,(I ((p0.length:Int)))),(8,I y2)],[]⟩) (fun t h=>by rw[Qby] at h;cases h) (fun n4 ih y2 h=>?_) N (0) h
   rw[Qby] at h
   skip
   refine wxz<|wsq ?_
   refine bfe h (fun hc5 h=>?_) fun hc5 h=>?_
   ·refine wft hc5<|Qaq<|thn<|wsq<|Qar<|wxz ?_
    obtain⟨x6,hg7,h⟩:=bno h
    obtain⟨hi8,hj9⟩:=gsm hg7
    obtain⟨x11,hf10,h⟩:=bno h
    refine wx tbk [(3,rp _ _),(5,rp _ _)] ⟨aiq underlying29 ti3 Qab hi8 hj9,apw Zbg (Qpy N x6 _ hf10),tv⟩ ?_
    refine bfe h (fun hc12 h=>?_) fun hc12 h=>?_
    ·refine wft hc12<|wxz<|Qaf<|Qat<|Qal<|Qal<|Qat<|Qal ?_
     obtain rfl:=osi h
     exact fend ⟨[I y2],⟨rot,tv⟩,rfl⟩ nll
    ·exact wfn hc12<|Qaq<|bln<|thn<|wxz1<|thn<|arm (mto (n:=19) [(0,(.dat 1 (p0.map Qab))),(1,(.fn (.func 170) [] [])),(7,(I ((p0.length:Int)))),(8,(I (w64 (y2+1))))] [] [] hq (pc (rnd Qaj) (pc (.rn (Qa4 rn0 rn0)) (pw (pw pn)))) qn) (ih (w64 (y2+1)) h)
   ·exact wfn hc5<|Qbl<|Qaz<|Qaz<|Qbk rfl<|thn<|⟨(),h,(mto (n:=19) [] [] [] hq pn qn)⟩
def Qcd (N:Nat) (p0:List Int):Option Bool:=
  (Qd5 N p0).bind fun x2=>
  some (decide (x2≥0))
theorem Qh4 (N:Nat) (p0:List Int) (r:Bool) (h:Qcd N p0=some r):Spec prog 117 [(.dat 1 (p0.map Qab)),(.fn (.func 170) [] [])] [] (B r) []:=by
  refine sA func117 0 fun _ _ _ hq hd0=>?_
  unfold Qcd at h
  refine wxz ?_
  obtain⟨x2,hf1,h⟩:=bno h
  refine wx tbk [(2,rp _ _)] ⟨acq [(.dat 1 (p0.map Qab)),(.fn (.func 170) [] [])] [] [] (I x2) [] Qpd (Qi6 N p0 _ hf1) (Qbi (rnc (pld Qaj) (rnc (.plain _ (NLt.fn _ _ _ nl0 nl0)) rn0))) Qao Qao (.plain _ nll),tv⟩<|Qaf ?_
  obtain rfl:=osi h
  exact fend ⟨[(B ((decide (x2≥0))))],⟨rot,tv⟩,rfl⟩ nll
def Qe7 (_N:Nat) (p0 p1 p2:Int):Option Int:=
  chk (p2 != 0)<|
  some ((w64 (p1*p0)).tmod p2)
theorem Qjn (N:Nat) (p0 p1:Int) (p2 r:Int) (h:Qe7 N p0 p1 p2=some r):Spec prog 177 [(I p0),(.ref 0 1 (0) 0),(.ref 1 1 (0) 0)] [(.own 1 [[(I p1)]]),(.own 1 [[(I p2)]])] (I r) [(.own 1 [[(I p1)]]),(.own 1 [[(I p2)]])]:=by
  refine sF func177 2 fun _ _ _ hq hd0=>?_
  unfold Qe7 at h
  refine wxz ?_
  obtain⟨hz2,h⟩:=cko h
  refine wx tbk [(4,rp [(.tmp 7,(I (w64 (p1*p0)))),(.tmp 8,I p2)] (I ((w64 (p1*p0)).tmod p2)))] ⟨Qx4 rfl (Qqf hz2),tv⟩ ?_
  refine wmr (mto (n:=10) (l':=[(4,(I ((w64 (p1*p0)).tmod p2)))]) (own':=[(.own 1 [[I p1]]),(.own 1 [[I p2]])]) [(4,(I ((w64 (p1*p0)).tmod p2)))] [0,1] [(.own 1 [[I p1]]),(.own 1 [[I p2]])] hq (pw pn) (qb (lc rwl ln) (qb (lc rwl ln) qn)))<|Qaf ?_
  obtain rfl:=osi h
  exact⟨_,Mor.rfl,fio [(I ((w64 (p1*p0)).tmod p2))] ⟨rot,tv⟩⟩
def Qes (N:Nat) (p0 p1:Int) (p2:List Int) (p3 p4:Int):Option Int:=
  (getI p2 p1).bind fun x2=>
  (Qe7 N x2 p3 p4).bind fun x7=>
  (getI p2 p0).bind fun x8=>
  (Qe7 N x8 p3 p4).bind fun x13=>
  some (w64 (x7-x13))
abbrev Q9z:AV:=.fn (.func 177) [] [(.ref 2 1 (0) 0),(.ref 3 1 (0) 0)]
abbrev Q9y (p2:List Int):Slot:=.own 1 [[(.dat 1 (p2.map Qab))]]
theorem Qlh (N:Nat) (p0 p1:Int) (p2:List Int) (p3 p4 r:Int) (h:Qes N p0 p1 p2 p3 p4=some r):Spec prog 181 [(I p0),(I p1),(.ref 0 1 (0) 0),(.ref 1 1 (0) 0)] [(.own 1 [[Q9z]]),(Q9y p2),(.own 1 [[(I p3)]]),(.own 1 [[(I p4)]])] (I r) [(.own 1 [[Q9z]]),(Q9y p2),(.own 1 [[(I p3)]]),(.own 1 [[(I p4)]])]:=by
  refine sF func181 4 fun _ _ _ hq hd0=>?_
  unfold Qes at h
  refine wxz ?_
  obtain⟨x2,hg3,h⟩:=bno h
  obtain⟨hi4,hj5⟩:=gsm hg3
  obtain⟨x7,hf6,h⟩:=bno h
  obtain⟨x8,hg9,h⟩:=bno h
  obtain⟨hi10,hj11⟩:=gsm hg9
  obtain⟨x13,hf12,h⟩:=bno h
  refine wxd tbk [(3,rp _ _),(5,⟨_,_,_,_,false⟩),(9,rp _ _),(11,⟨_,_,_,_,false⟩)] ⟨aiq underlying29 ti3 Qab hi4 hj5,Qct (first:=[]) (cap:=[.ref 2 1 0 0,.ref 3 1 0 0]) (vs:=[I x2]) (σr:=[(.own 1 [[I p3]]),(.own 1 [[I p4]])]) (σr':=[(.own 1 [[I p3]]),(.own 1 [[I p4]])]) (res':=(I x7)) [2,3] rfl Q17 (Qjn N x2 p3 p4 _ hf6) rfl (Qbi (rnc (.plain _ nll) (rnc (Qas rfl) (rnc (Qas rfl) rn0)))) (slc (Qai (rnc (.plain _ nll) rn0)) (slc (Qai (rnc (.plain _ nll) rn0)) Qao)) (slc (Qai (rnc (.plain _ nll) rn0)) (slc (Qai (rnc (.plain _ nll) rn0)) Qao)) (.plain _ nll) rfl rfl rfl,aiq underlying29 ti3 Qab hi10 hj11,Qct (first:=[]) (cap:=[.ref 2 1 0 0,.ref 3 1 0 0]) (vs:=[I x8]) (σr:=[(.own 1 [[I p3]]),(.own 1 [[I p4]])]) (σr':=[(.own 1 [[I p3]]),(.own 1 [[I p4]])]) (res':=(I x13)) [2,3] rfl Q17 (Qjn N x8 p3 p4 _ hf12) rfl (Qbi (rnc (.plain _ nll) (rnc (Qas rfl) (rnc (Qas rfl) rn0)))) (slc (Qai (rnc (.plain _ nll) rn0)) (slc (Qai (rnc (.plain _ nll) rn0)) Qao)) (slc (Qai (rnc (.plain _ nll) rn0)) (slc (Qai (rnc (.plain _ nll) rn0)) Qao)) (.plain _ nll) rfl rfl rfl,tv⟩ ?_
  refine wmr (mto (n:=20) (l':=[(6,(I (w64 (x7-x13))))]) (own':=[(.own 1 [[Q9z]]),(Q9y p2),(.own 1 [[I p3]]),(.own 1 [[I p4]])]) [(6,(I (w64 (x7-x13))))] [0,1,2,3] [(.own 1 [[Q9z]]),(Q9y p2),(.own 1 [[I p3]]),(.own 1 [[I p4]])] hq (pw pn) (qb (lc (.rn (Qa4 rn0 (rnc (rqr rfl) (rnc (rqr rfl) rn0)))) ln) (qb (lc (rnd Qaj) ln) (qb (lc rwl ln) (qb (lc rwl ln) qn)))))<|Qaf ?_
  obtain rfl:=osi h
  exact⟨_,Mor.rfl,fio [(I (w64 (x7-x13)))] ⟨rot,tv⟩⟩
def Qbc (N p0:Nat) (p1:Int) (p4:List Int) (p5 p6:Int) (k9:(List Int)→Option (List Int)):Nat→Int→(List Int)→Option (List Int)
  |0,_,_=>none
  |n14+1,y10,y11=>
    Qcf (fun _=>
      chk (decide (0≤w64 (y10-1))&&decide ((w64 (y10-1)).toNat<p0))<|
      (y11[(w64 (y10-1)).toNat]?).bind fun x17=>
      chk (decide (0≤y10)&&decide (y10.toNat<p0))<|
      (y11[y10.toNat]?).bind fun x20=>
      chk (decide (0≤y10)&&decide (y10.toNat<p0))<|
      (y11[y10.toNat]?).bind fun _=>
      chk (decide (0≤w64 (y10-1))&&decide ((w64 (y10-1)).toNat<p0))<|
      ((y11.set y10.toNat x17)[(w64 (y10-1)).toNat]?).bind fun _=>
      Qbc N p0 p1 p4 p5 p6 k9 n14 (w64 (y10-1)) ((y11.set y10.toNat x17).set ((w64 (y10-1)).toNat) x20)) fun k15:Unit→Option (List Int)=>
    bif (decide (y10>p1)) then
     chk (decide (0≤y10)&&decide (y10.toNat<p0))<|
     (y11[y10.toNat]?).bind fun x30=>
     chk (decide (0≤w64 (y10-1))&&decide ((w64 (y10-1)).toNat<p0))<|
     (y11[(w64 (y10-1)).toNat]?).bind fun x33=>
     (Qes N x30 x33 p4 p5 p6).bind fun x36=>
     bif (decide (x36<0)) then
      k15 ()
     else
      k9 (y11)
    else
     k9 (y11)
def Qa0 (N p0:Nat) (p1 p2:Int) (p4:List Int) (p5 p6:Int):Nat→Int→(List Int)→Option (List Int)
  |0,_,_=>none
  |n6+1,y2,y3=>
    bif (decide (y2<p2)) then
     Qcf (fun y8=>
       Qa0 N p0 p1 p2 p4 p5 p6 n6 (w64 (y2+1)) y8) fun k9:(List Int)→Option (List Int)=>
     Qbc N p0 p1 p4 p5 p6 k9 N y2 y3
    else
     some y3
def Qbe (N p0:Nat) (p1 p2:Int) (p3 p4:List Int) (p5 p6:Int):Option (List Int):=
  Qa0 N p0 p1 p2 p4 p5 p6 N (w64 (p1+1)) p3
abbrev Qnz:AV:=.fn (.func 181) [] [(.ref 1 1 (0) 0),(.ref 2 1 (0) 0)]
abbrev Qk6:AV:=.fn (.func 177) [] [(.ref 3 1 (0) 0),(.ref 4 1 (0) 0)]
abbrev Qk5 (p4:List Int):Slot:=.own 1 [[(.dat 1 (p4.map Qab))]]
theorem Qe2 (N p0:Nat) (p1 p2:Int) (p3 p4:List Int) (p5 p6:Int) (r:List Int) (h:Qbe N p0 p1 p2 p3 p4 p5 p6=some r):Spec prog 183 [(.own 0 1 (0) p0),(I p1),(I p2),Qnz] [(.own 1 (p3.map Qab)),(.own 1 [[Qk6]]),(Qk5 p4),(.own 1 [[(I p5)]]),(.own 1 [[(I p6)]])] (.tup []) [(.own 1 (r.map Qab)),(.own 1 [[Qk6]]),(Qk5 p4),(.own 1 [[(I p5)]]),(.own 1 [[(I p6)]])]:=by
  refine sF func183 5 fun _ _ _ hq hd0=>?_
  unfold Qbe at h
  refine wxz<|Qar ?_
  refine wmr (mto (n:=53) (l':=[(0,(.own 0 1 (0) p0)),(1,I p1),(2,I p2),(3,Qnz),(8,(I ((w64 (p1+1)))))]) (own':=[(.own 1 (p3.map Qab)),(.own 1 [[Qk6]]),(Qk5 p4),(.own 1 [[I p5]]),(.own 1 [[I p6]])]) [(0,(.own 0 1 (0) p0)),(1,I p1),(2,I p2),(3,Qnz),(8,(I (w64 (p1+1))))] [0,1,2,3,4] [(.own 1 (p3.map Qab)),(.own 1 [[Qk6]]),(Qk5 p4),(.own 1 [[I p5]]),(.own 1 [[I p6]])] hq (pc (.rn (Qay rfl)) (pw (pw (pc (.rn (Qa4 rn0 (rnc (rqr rfl) (rnc (rqr rfl) rn0)))) (pw pn))))) (qc (spr Qaj) (qb (lc (.rn (Qa4 rn0 (rnc (rqr rfl) (rnc (rqr rfl) rn0)))) ln) (qb (lc (rnd Qaj) ln) (qb (lc rwl ln) (qb (lc rwl ln) qn)))))) ?_
  refine Qcn (τ:=Int×(List Int)) (fun n t=>Qa0 N p0 p1 p2 p4 p5 p6 n t.1 t.2=some r) (fun ⟨y2,y3⟩=>⟨mk 53 [(0,(.own 0 1 (0) p0)),(1,I p1),(2,I p2),(3,Qnz),(8,I y2)],[(.own 1 (y3.map Qab)),(.own 1 [[Qk6]]),(Qk5 p4),(.own 1 [[I p5]]),(.own 1 [[I p6]])]⟩) (fun t h=>by rw[Qa0] at h;cases h) (fun n6 ih t h=>?_) N (w64 (p1+1),p3) h
  obtain⟨y2,y3⟩:=t
  rw[Qa0] at h
  skip
  refine wsq<|wxz ?_
  refine bfe h (fun hc7 h=>?_) fun hc7 h=>?_
  ·refine wft hc7<|Qaq<|thn ?_
   obtain⟨k9,hk_k9,h⟩:=jko h
   refine wjn (τ:=(List Int)) (fun t=>k9 t=some r) (fun y8=>⟨mk 53 [(0,(.own 0 1 (0) p0)),(1,I p1),(2,I p2),(3,Qnz),(8,I y2)],[(.own 1 (y8.map Qab)),(.own 1 [[Qk6]]),(Qk5 p4),(.own 1 [[I p5]]),(.own 1 [[I p6]])]⟩) (fun y8 h=>?_) ?_
   ·subst hk_k9
    exact wxz1<|thn<|arm (mto (n:=53) [(0,(.own 0 1 (0) p0)),(1,I p1),(2,I p2),(3,Qnz),(8,(I (w64 (y2+1))))] [0,1,2,3,4] [(.own 1 (y8.map Qab)),(.own 1 [[Qk6]]),(Qk5 p4),(.own 1 [[I p5]]),(.own 1 [[I p6]])] hq (pc (.rn (Qay rfl)) (pw (pw (pc (.rn (Qa4 rn0 (rnc (rqr rfl) (rnc (rqr rfl) rn0)))) (pw pn))))) (qc (spr Qaj) (qb (lc (.rn (Qa4 rn0 (rnc (rqr rfl) (rnc (rqr rfl) rn0)))) ln) (qb (lc (rnd Qaj) ln) (qb (lc rwl ln) (qb (lc rwl ln) qn)))))) (ih (w64 (y2+1),y8) h)
   ·skip
    refine Qar<|wxz<|Qar ?_
    refine wmr (mto (n:=53) (l':=[(0,(.own 0 1 (0) p0)),(1,I p1),(2,I p2),(3,Qnz),(8,I y2),(9,I y2)]) (own':=[(.own 1 (y3.map Qab)),(.own 1 [[Qk6]]),(Qk5 p4),(.own 1 [[I p5]]),(.own 1 [[I p6]])]) [(0,(.own 0 1 (0) p0)),(1,I p1),(2,I p2),(3,Qnz),(8,I y2),(9,I y2)] [0,1,2,3,4] [(.own 1 (y3.map Qab)),(.own 1 [[Qk6]]),(Qk5 p4),(.own 1 [[I p5]]),(.own 1 [[I p6]])] hq (pc (.rn (Qay rfl)) (pw (pw (pc (.rn (Qa4 rn0 (rnc (rqr rfl) (rnc (rqr rfl) rn0)))) (pw (pw pn)))))) (qc (spr Qaj) (qb (lc (.rn (Qa4 rn0 (rnc (rqr rfl) (rnc (rqr rfl) rn0)))) ln) (qb (lc (rnd Qaj) ln) (qb (lc rwl ln) (qb (lc rwl ln) qn)))))) ?_
    refine Qcn (τ:=Int×(List Int)) (fun n t=>Qbc N p0 p1 p4 p5 p6 k9 n t.1 t.2=some r) (fun ⟨y10,y11⟩=>⟨mk 53 [(0,(.own 0 1 (0) p0)),(1,I p1),(2,I p2),(3,Qnz),(8,I y2),(9,I y10)],[(.own 1 (y11.map Qab)),(.own 1 [[Qk6]]),(Qk5 p4),(.own 1 [[I p5]]),(.own 1 [[I p6]])]⟩) (fun t h=>by rw[Qbc] at h;cases h) (fun n14 ih t h=>?_) N (y2,y3) h
    obtain⟨y10,y11⟩:=t
    rw[Qbc] at h
    skip
    obtain⟨k15,hk_k15,h⟩:=jko h
    refine wjn (τ:=Unit) (fun t=>k15 t=some r) (fun _=>⟨mk 53 [(0,(.own 0 1 (0) p0)),(1,I p1),(2,I p2),(3,Qnz),(8,I y2),(9,I y10)],[(.own 1 (y11.map Qab)),(.own 1 [[Qk6]]),(Qk5 p4),(.own 1 [[I p5]]),(.own 1 [[I p6]])]⟩) (fun t h=>?_) ?_
    ·subst hk_k15
     refine wsq<|Qar ?_
     obtain⟨hi16,h⟩:=cko h
     obtain⟨hi16a,hi16b⟩:=Qd0 hi16
     obtain⟨x17,hg18,h⟩:=bno h
     obtain⟨hi19,h⟩:=cko h
     obtain⟨hi19a,hi19b⟩:=Qd0 hi19
     obtain⟨x20,hg21,h⟩:=bno h
     obtain⟨hi22,h⟩:=cko h
     obtain⟨hi22a,hi22b⟩:=Qd0 hi22
     obtain⟨x23,hg24,h⟩:=bno h
     obtain⟨hi25,h⟩:=cko h
     obtain⟨hi25a,hi25b⟩:=Qd0 hi25
     obtain⟨x26,hg27,h⟩:=bno h
     refine wy1 tbk [(8,rb [(.tmp 42,(.own 0 1 (0) p0)),(.tmp 44,(I (w64 (y10-1))))] [(0,(.own 1 (y11.map Qab)))] (.ref 0 1 ((w64 (y10-1)).toNat) 0)),(9,rb [(.tmp 45,(.ref 0 1 ((w64 (y10-1)).toNat) 0))] [(0,(.own 1 (y11.map Qab)))] (I x17)),(12,rb [(.tmp 47,(.own 0 1 (0) p0)),(.tmp 48,I y10)] [(0,(.own 1 (y11.map Qab)))] (.ref 0 1 y10.toNat 0)),(13,rb [(.tmp 49,(.ref 0 1 y10.toNat 0))] [(0,(.own 1 (y11.map Qab)))] (I x20)),(14,rb [(.tmp 37,(.own 0 1 (0) p0)),(.tmp 38,I y10)] [(0,(.own 1 (y11.map Qab)))] (.ref 0 1 y10.toNat 0)),(15,⟨[(.tmp 51,(.ref 0 1 y10.toNat 0)),(.tmp 46,I x17)],[(0,(.own 1 (y11.map Qab)))],.any,[(0,(.own 1 ((y11.set y10.toNat x17:List Int).map Qab)))],false⟩),(16,rb [(.tmp 39,(.own 0 1 (0) p0)),(.tmp 41,(I (w64 (y10-1))))] [(0,(.own 1 ((y11.set y10.toNat x17:List Int).map Qab)))] (.ref 0 1 ((w64 (y10-1)).toNat) 0)),(17,⟨[(.tmp 52,(.ref 0 1 ((w64 (y10-1)).toNat) 0)),(.tmp 50,I x20)],[(0,(.own 1 ((y11.set y10.toNat x17:List Int).map Qab)))],.any,[(0,(.own 1 (((y11.set y10.toNat x17).set ((w64 (y10-1)).toNat) x20:List Int).map Qab)))],false⟩)] ⟨aio rfl underlying29 ti3 (odt hi16a) (odt hi16b) (Nat.zero_add _),ald rfl ti3 (by decide) (mgt Qab hg18) (nle rfl) rfl,aio rfl underlying29 ti3 (odt hi19a) (odt hi19b) (Nat.zero_add _),ald rfl ti3 (by decide) (mgt Qab hg21) (nle rfl) rfl,aio rfl underlying29 ti3 (odt hi22a) (odt hi22b) (Nat.zero_add _),ast rfl ti3 (by rfl) (mgt Qab hg24) (nle rfl) (Qf5 Qab rfl),aio rfl underlying29 ti3 (odt hi25a) (odt hi25b) (Nat.zero_add _),ast rfl ti3 (by rfl) (mgt Qab hg27) (nle rfl) (Qf5 Qab rfl),tv⟩<|bln<|thn<|wxz1<|thn ?_
     exact arm (mto (n:=53) [(0,(.own 0 1 (0) p0)),(1,I p1),(2,I p2),(3,Qnz),(8,I y2),(9,(I (w64 (y10-1))))] [0,1,2,3,4] [(.own 1 (((y11.set y10.toNat x17).set ((w64 (y10-1)).toNat) x20:List Int).map Qab)),(.own 1 [[Qk6]]),(Qk5 p4),(.own 1 [[I p5]]),(.own 1 [[I p6]])] hq (pc (.rn (Qay rfl)) (pw (pw (pc (.rn (Qa4 rn0 (rnc (rqr rfl) (rnc (rqr rfl) rn0)))) (pw (pw pn)))))) (qc (spr Qaj) (qb (lc (.rn (Qa4 rn0 (rnc (rqr rfl) (rnc (rqr rfl) rn0)))) ln) (qb (lc (rnd Qaj) ln) (qb (lc rwl ln) (qb (lc rwl ln) qn)))))) (ih (w64 (y10-1),(y11.set y10.toNat x17).set ((w64 (y10-1)).toNat) x20) h)
    ·skip
     refine bfe h (fun hb28 h=>?_) fun hb28 h=>?_
     ·obtain⟨hi29,h⟩:=cko h
      obtain⟨hi29a,hi29b⟩:=Qd0 hi29
      obtain⟨x30,hg31,h⟩:=bno h
      obtain⟨hi32,h⟩:=cko h
      obtain⟨hi32a,hi32b⟩:=Qd0 hi32
      obtain⟨x33,hg34,h⟩:=bno h
      obtain⟨x36,hf35,h⟩:=bno h
      refine wxd tbk [(3,rp [(.tmp 20,(B ((decide (y10>p1)))))] (B true)),(7,rb [(.tmp 21,B true),(.tmp 23,(.own 0 1 (0) p0)),(.tmp 24,I y10)] [(0,(.own 1 (y11.map Qab)))] (.ref 0 1 y10.toNat 0)),(8,rb [(.tmp 21,B true),(.tmp 25,(.ref 0 1 y10.toNat 0))] [(0,(.own 1 (y11.map Qab)))] (I x30)),(12,rb [(.tmp 21,B true),(.tmp 27,(.own 0 1 (0) p0)),(.tmp 29,(I (w64 (y10-1))))] [(0,(.own 1 (y11.map Qab)))] (.ref 0 1 ((w64 (y10-1)).toNat) 0)),(13,rb [(.tmp 21,B true),(.tmp 30,(.ref 0 1 ((w64 (y10-1)).toNat) 0))] [(0,(.own 1 (y11.map Qab)))] (I x33)),(14,⟨[(.tmp 21,B true),(.tmp 22,Qnz),(.tmp 26,I x30),(.tmp 31,I x33)],[(1,.own 1 [[Qk6]]),(2,(Qk5 p4)),(3,.own 1 [[I p5]]),(4,.own 1 [[I p6]])],I x36,[(1,.own 1 [[Qk6]]),(2,(Qk5 p4)),(3,.own 1 [[I p5]]),(4,.own 1 [[I p6]])],false⟩)] ⟨asb hb28 (amv rfl),ag_ (aio rfl underlying29 ti3 (odt hi29a) (odt hi29b) (Nat.zero_add _)),ag_ (ald rfl ti3 (by decide) (mgt Qab hg31) (nle rfl) rfl),ag_ (aio rfl underlying29 ti3 (odt hi32a) (odt hi32b) (Nat.zero_add _)),ag_ (ald rfl ti3 (by decide) (mgt Qab hg34) (nle rfl) rfl),ag_ (Qct (first:=[]) (cap:=[.ref 1 1 0 0,.ref 2 1 0 0]) (vs:=[I x30,I x33]) (σr:=[(.own 1 [[Qk6]]),(Qk5 p4),(.own 1 [[I p5]]),(.own 1 [[I p6]])]) (σr':=[(.own 1 [[Qk6]]),(Qk5 p4),(.own 1 [[I p5]]),(.own 1 [[I p6]])]) (res':=(I x36)) [1,2,3,4] rfl Za9 (Qlh N x30 x33 p4 p5 p6 _ hf35) rfl (Qbi (rncc (rnc (Qas rfl) (rnc (Qas rfl) rn0)))) (slc (Qai (rnc (Qa4 rn0 (rnc (Qas rfl) (rnc (Qas rfl) rn0))) rn0)) (slc (Qai (rnc (pld Qaj) rn0)) (slc (Qai (rnc (.plain _ nll) rn0)) (slc (Qai (rnc (.plain _ nll) rn0)) Qao)))) (slc (Qai (rnc (Qa4 rn0 (rnc (Qa3 rfl) (rnc (Qa3 rfl) rn0))) rn0)) (slc (Qai (rnc (pld Qaj) rn0)) (slc (Qai (rnc (.plain _ nll) rn0)) (slc (Qai (rnc (.plain _ nll) rn0)) Qao)))) (.plain _ nll) rfl rfl rfl),tv⟩ ?_
      refine bfe h (fun hc37 h=>?_) fun hc37 h=>?_
      ·exact wft hc37<|Qaq<|thn<|⟨(),h,(mto (n:=53) [(0,(.own 0 1 (0) p0)),(1,I p1),(2,I p2),(3,Qnz),(8,I y2),(9,I y10)] [0,1,2,3,4] [(.own 1 (y11.map Qab)),(.own 1 [[Qk6]]),(Qk5 p4),(.own 1 [[I p5]]),(.own 1 [[I p6]])] hq (pc (.rn (Qay rfl)) (pw (pw (pc (.rn (Qa4 rn0 (rnc (rqr rfl) (rnc (rqr rfl) rn0)))) (pw (pw pn)))))) (qc (spr Qaj) (qb (lc (.rn (Qa4 rn0 (rnc (rqr rfl) (rnc (rqr rfl) rn0)))) ln) (qb (lc (rnd Qaj) ln) (qb (lc rwl ln) (qb (lc rwl ln) qn))))))⟩
      ·exact wfn hc37<|Qbl<|Qaz<|Qaz<|Qbk rfl<|bln<|thn<|⟨(y11),h,(mto (n:=53) [(0,(.own 0 1 (0) p0)),(1,I p1),(2,I p2),(3,Qnz),(8,I y2)] [0,1,2,3,4] [(.own 1 (y11.map Qab)),(.own 1 [[Qk6]]),(Qk5 p4),(.own 1 [[I p5]]),(.own 1 [[I p6]])] hq (pc (.rn (Qay rfl)) (pw (pw (pc (.rn (Qa4 rn0 (rnc (rqr rfl) (rnc (rqr rfl) rn0)))) (pw pn))))) (qc (spr Qaj) (qb (lc (.rn (Qa4 rn0 (rnc (rqr rfl) (rnc (rqr rfl) rn0)))) ln) (qb (lc (rnd Qaj) ln) (qb (lc rwl ln) (qb (lc rwl ln) qn))))))⟩
     ·exact wxd tbk [(3,rp [(.tmp 20,(B ((decide (y10>p1)))))] (B false))] ⟨asb hb28 (amv rfl),tv⟩<|wfa<|Qbl<|Qaz<|Qaz<|Qbk rfl<|bln<|thn<|⟨(y11),h,(mto (n:=53) [(0,(.own 0 1 (0) p0)),(1,I p1),(2,I p2),(3,Qnz),(8,I y2)] [0,1,2,3,4] [(.own 1 (y11.map Qab)),(.own 1 [[Qk6]]),(Qk5 p4),(.own 1 [[I p5]]),(.own 1 [[I p6]])] hq (pc (.rn (Qay rfl)) (pw (pw (pc (.rn (Qa4 rn0 (rnc (rqr rfl) (rnc (rqr rfl) rn0)))) (pw pn))))) (qc (spr Qaj) (qb (lc (.rn (Qa4 rn0 (rnc (rqr rfl) (rnc (rqr rfl) rn0)))) ln) (qb (lc (rnd Qaj) ln) (qb (lc rwl ln) (qb (lc rwl ln) qn))))))⟩
  ·refine wfn hc7<|Qbl<|Qaz<|Qaz<|Qbk rfl ?_
   obtain rfl:=osi h
   exact⟨_,(mto (n:=53) (l':=[]) (own':=[(.own 1 (y3.map Qab)),(.own 1 [[Qk6]]),(Qk5 p4),(.own 1 [[I p5]]),(.own 1 [[I p6]])]) [] [0,1,2,3,4] [(.own 1 (y3.map Qab)),(.own 1 [[Qk6]]),(Qk5 p4),(.own 1 [[I p5]]),(.own 1 [[I p6]])] hq pn (qc (spr Qaj) (qb (lc (.rn (Qa4 rn0 (rnc (rqr rfl) (rnc (rqr rfl) rn0)))) ln) (qb (lc (rnd Qaj) ln) (qb (lc rwl ln) (qb (lc rwl ln) qn)))))),fio [] tv⟩
def Qc8 (N:Nat) (p1:Int) (k9:Unit→Option (List Int)):Nat→Option (List Int)
  |0=>none
  |n10+1=>
    bif (decide (40≤p1)) then
     none
    else
     k9 ()
def Qbt (N:Nat) (p1:Int) (x6:List Int):Nat→Option (List Int)
  |0=>none
  |n7+1=>
    bif (decide (20<p1)) then
     Qcf (fun _=>
       none) fun k9:Unit→Option (List Int)=>
     Qc8 N p1 k9 N
    else
     some x6
def Qbj (N p0:Nat) (p1:Int) (p3:List Int) (k4:Int×(List Int)→Option (List Int)) (p4 p5:Int):Nat→Int→Int→(List Int)→Option (List Int)
  |0,_,_,_=>none
  |n18+1,y12,y13,y14=>
    bif (decide (y13≤p1)) then
     (Qbe N p0 y12 y13 y14 p3 p4 p5).bind fun x21=>
     Qbj N p0 p1 p3 k4 p4 p5 n18 y13 (w64 (y13+20)) x21
    else
     k4 (y12,y14)
def Qd4 (N p0:Nat) (p1:Int) (p2 p3:List Int) (p4 p5:Int):Option (List Int):=
  Qcf (fun ⟨y2,y3⟩=>
    (Qbe N p0 y2 p1 y3 p3 p4 p5).bind fun x6=>
    Qbt N p1 x6 N) fun k4:Int×(List Int)→Option (List Int)=>
  Qbj N p0 p1 p3 k4 p4 p5 N 0 20 p2
abbrev Qmn:AV:=.fn (.func 181) [] [(.ref 1 1 (0) 0),(.ref 2 1 (0) 0)]
abbrev Qkl:AV:=.fn (.func 177) [] [(.ref 3 1 (0) 0),(.ref 4 1 (0) 0)]
abbrev Qkk (p3:List Int):Slot:=.own 1 [[(.dat 1 (p3.map Qab))]]
theorem Qi5 (N p0:Nat) (p1:Int) (p2 p3:List Int) (p4 p5:Int) (r:List Int) (h:Qd4 N p0 p1 p2 p3 p4 p5=some r):Spec prog 182 [(.own 0 1 (0) p0),(I p1),Qmn] [(.own 1 (p2.map Qab)),(.own 1 [[Qkl]]),(Qkk p3),(.own 1 [[(I p4)]]),(.own 1 [[(I p5)]])] (.tup []) [(.own 1 (r.map Qab)),(.own 1 [[Qkl]]),(Qkk p3),(.own 1 [[(I p4)]]),(.own 1 [[(I p5)]])]:=by
  refine sF func182 5 fun _ _ _ hq hd0=>?_
  unfold Qd4 at h
  refine wxz<|wxz ?_
  obtain⟨k4,hk_k4,h⟩:=jko h
  refine wjn (τ:=Int×(List Int)) (fun t=>k4 t=some r) (fun ⟨y2,y3⟩=>⟨mk 63 [(0,(.own 0 1 (0) p0)),(1,I p1),(2,Qmn),(6,I 20),(7,I y2)],[(.own 1 (y3.map Qab)),(.own 1 [[Qkl]]),(Qkk p3),(.own 1 [[I p4]]),(.own 1 [[I p5]])]⟩) (fun t h=>?_) ?_
  ·subst hk_k4
   obtain⟨y2,y3⟩:=t
   obtain⟨x6,hf5,h⟩:=bno h
   refine wx tbk [(4,⟨_,_,_,_,false⟩)] ⟨acq [(.own 0 1 (0) p0),I y2,I p1,Qmn] [(.own 1 (y3.map Qab)),(.own 1 [[Qkl]]),(Qkk p3),(.own 1 [[I p4]]),(.own 1 [[I p5]])] [(.own 1 (x6.map Qab)),(.own 1 [[Qkl]]),(Qkk p3),(.own 1 [[I p4]]),(.own 1 [[I p5]])] (.tup []) [0,1,2,3,4] Q16 (Qe2 N p0 y2 p1 y3 p3 p4 p5 _ hf5) (Qbi (rnc (Qcq rfl) (rncc (rnc (Qa4 rn0 (rnc (Qas rfl) (rnc (Qas rfl) rn0))) rn0)))) (slc (Qa2 Qaj) (slc (Qai (rnc (Qa4 rn0 (rnc (Qas rfl) (rnc (Qas rfl) rn0))) rn0)) (slc (Qai (rnc (pld Qaj) rn0)) (slc (Qai (rnc (.plain _ nll) rn0)) (slc (Qai (rnc (.plain _ nll) rn0)) Qao))))) (slc (Qa2 Qaj) (slc (Qai (rnc (Qa4 rn0 (rnc (Qa3 rfl) (rnc (Qa3 rfl) rn0))) rn0)) (slc (Qai (rnc (pld Qaj) rn0)) (slc (Qai (rnc (.plain _ nll) rn0)) (slc (Qai (rnc (.plain _ nll) rn0)) Qao))))) (.plain _ (NLt.tup _ nl0)),tv⟩<|Qar ?_
   refine wmr (mto (n:=63) (l':=[(0,(.own 0 1 (0) p0)),(1,I p1),(2,Qmn),(6,I 20)]) (own':=[(.own 1 (x6.map Qab)),(.own 1 [[Qkl]]),(Qkk p3),(.own 1 [[I p4]]),(.own 1 [[I p5]])]) [(0,(.own 0 1 (0) p0)),(1,I p1),(2,Qmn),(6,I 20)] [0,1,2,3,4] [(.own 1 (x6.map Qab)),(.own 1 [[Qkl]]),(Qkk p3),(.own 1 [[I p4]]),(.own 1 [[I p5]])] hq (pc (.rn (Qay rfl)) (pw (pc (.rn (Qa4 rn0 (rnc (rqr rfl) (rnc (rqr rfl) rn0)))) (pw pn)))) (qc (spr Qaj) (qb (lc (.rn (Qa4 rn0 (rnc (rqr rfl) (rnc (rqr rfl) rn0)))) ln) (qb (lc (rnd Qaj) ln) (qb (lc rwl ln) (qb (lc rwl ln) qn)))))) ?_
   refine Qcn (τ:=Unit) (fun n t=>Qbt N p1 x6 n=some r) (fun _=>⟨mk 63 [(0,(.own 0 1 (0) p0)),(1,I p1),(2,Qmn),(6,I 20)],[(.own 1 (x6.map Qab)),(.own 1 [[Qkl]]),(Qkk p3),(.own 1 [[I p4]]),(.own 1 [[I p5]])]⟩) (fun t h=>by rw[Qbt] at h;cases h) (fun n7 ih t h=>?_) N () h
   rw[Qbt] at h
   skip
   refine wsq<|wxz ?_
   refine bfe h (fun hc8 h=>?_) fun hc8 h=>?_
   ·refine wft hc8<|Qaq<|thn<|Qar<|wxz ?_
    obtain⟨k9,hk_k9,h⟩:=jko h
    refine wjn (τ:=Unit) (fun t=>k9 t=some r) (fun _=>⟨mk 63 [(0,(.own 0 1 (0) p0)),(1,I p1),(2,Qmn),(6,I 20),(7,I 0)],[(.own 1 (x6.map Qab)),(.own 1 [[Qkl]]),(Qkk p3),(.own 1 [[I p4]]),(.own 1 [[I p5]])]⟩) (fun t h=>?_) ?_
    ·subst hk_k9
     refine wsq<|wxz<|wxz<|wft hc8 ?_
     cases h
    ·skip
     refine Qar<|wmr (mto (n:=63) (l':=[(0,(.own 0 1 (0) p0)),(1,I p1),(2,Qmn),(6,I 20),(7,I 0),(8,I 40)]) (own':=[(.own 1 (x6.map Qab)),(.own 1 [[Qkl]]),(Qkk p3),(.own 1 [[I p4]]),(.own 1 [[I p5]])]) [(0,(.own 0 1 (0) p0)),(1,I p1),(2,Qmn),(6,I 20),(7,I 0),(8,I 40)] [0,1,2,3,4] [(.own 1 (x6.map Qab)),(.own 1 [[Qkl]]),(Qkk p3),(.own 1 [[I p4]]),(.own 1 [[I p5]])] hq (pc (.rn (Qay rfl)) (pw (pc (.rn (Qa4 rn0 (rnc (rqr rfl) (rnc (rqr rfl) rn0)))) (pw (pw (pw pn)))))) (qc (spr Qaj) (qb (lc (.rn (Qa4 rn0 (rnc (rqr rfl) (rnc (rqr rfl) rn0)))) ln) (qb (lc (rnd Qaj) ln) (qb (lc rwl ln) (qb (lc rwl ln) qn)))))) ?_
     refine Qcn (τ:=Unit) (fun n t=>Qc8 N p1 k9 n=some r) (fun _=>⟨mk 63 [(0,(.own 0 1 (0) p0)),(1,I p1),(2,Qmn),(6,I 20),(7,I 0),(8,I 40)],[(.own 1 (x6.map Qab)),(.own 1 [[Qkl]]),(Qkk p3),(.own 1 [[I p4]]),(.own 1 [[I p5]])]⟩) (fun t h=>by rw[Qc8] at h;cases h) (fun n10 ih t h=>?_) N () h
     rw[Qc8] at h
     skip
     refine wsq<|wxz ?_
     refine bfe h (fun hc11 h=>?_) fun hc11 h=>?_
     ·refine wft hc11<|Qaq<|thn<|Qar ?_
      cases h
     ·exact wfn hc11<|Qbl<|Qaz<|Qaz<|Qbk rfl<|thn<|⟨(),h,(mto (n:=63) [(0,(.own 0 1 (0) p0)),(1,I p1),(2,Qmn),(6,I 20),(7,I 0)] [0,1,2,3,4] [(.own 1 (x6.map Qab)),(.own 1 [[Qkl]]),(Qkk p3),(.own 1 [[I p4]]),(.own 1 [[I p5]])] hq (pc (.rn (Qay rfl)) (pw (pc (.rn (Qa4 rn0 (rnc (rqr rfl) (rnc (rqr rfl) rn0)))) (pw (pw pn))))) (qc (spr Qaj) (qb (lc (.rn (Qa4 rn0 (rnc (rqr rfl) (rnc (rqr rfl) rn0)))) ln) (qb (lc (rnd Qaj) ln) (qb (lc rwl ln) (qb (lc rwl ln) qn))))))⟩
   ·refine wfn hc8<|Qbl<|Qaz<|Qaz<|Qbk rfl ?_
    obtain rfl:=osi h
    exact⟨_,(mto (n:=63) (l':=[]) (own':=[(.own 1 (x6.map Qab)),(.own 1 [[Qkl]]),(Qkk p3),(.own 1 [[I p4]]),(.own 1 [[I p5]])]) [] [0,1,2,3,4] [(.own 1 (x6.map Qab)),(.own 1 [[Qkl]]),(Qkk p3),(.own 1 [[I p4]]),(.own 1 [[I p5]])] hq pn (qc (spr Qaj) (qb (lc (.rn (Qa4 rn0 (rnc (rqr rfl) (rnc (rqr rfl) rn0)))) ln) (qb (lc (rnd Qaj) ln) (qb (lc rwl ln) (qb (lc rwl ln) qn)))))),fio [] tv⟩
  ·skip
   refine Qar<|wmr (mto (n:=63) (l':=[(0,(.own 0 1 (0) p0)),(1,I p1),(2,Qmn),(6,I 20),(7,I 0),(8,I 20)]) (own':=[(.own 1 (p2.map Qab)),(.own 1 [[Qkl]]),(Qkk p3),(.own 1 [[I p4]]),(.own 1 [[I p5]])]) [(0,(.own 0 1 (0) p0)),(1,I p1),(2,Qmn),(6,I 20),(7,I 0),(8,I 20)] [0,1,2,3,4] [(.own 1 (p2.map Qab)),(.own 1 [[Qkl]]),(Qkk p3),(.own 1 [[I p4]]),(.own 1 [[I p5]])] hq (pc (.rn (Qay rfl)) (pw (pc (.rn (Qa4 rn0 (rnc (rqr rfl) (rnc (rqr rfl) rn0)))) (pw (pw (pw pn)))))) (qc (spr Qaj) (qb (lc (.rn (Qa4 rn0 (rnc (rqr rfl) (rnc (rqr rfl) rn0)))) ln) (qb (lc (rnd Qaj) ln) (qb (lc rwl ln) (qb (lc rwl ln) qn)))))) ?_
   refine Qcn (τ:=Int×Int×(List Int)) (fun n t=>Qbj N p0 p1 p3 k4 p4 p5 n t.1 t.2.1 t.2.2=some r) (fun ⟨y12,y13,y14⟩=>⟨mk 63 [(0,(.own 0 1 (0) p0)),(1,I p1),(2,Qmn),(6,I 20),(7,I y12),(8,I y13)],[(.own 1 (y14.map Qab)),(.own 1 [[Qkl]]),(Qkk p3),(.own 1 [[I p4]]),(.own 1 [[I p5]])]⟩) (fun t h=>by rw[Qbj] at h;cases h) (fun n18 ih t h=>?_) N (0,20,p2) h
   obtain⟨y12,y13,y14⟩:=t
   rw[Qbj] at h
   skip
   refine wsq<|wxz ?_
   refine bfe h (fun hc19 h=>?_) fun hc19 h=>?_
   ·refine wft hc19<|Qaq<|thn<|Qar ?_
    obtain⟨x21,hf20,h⟩:=bno h
    refine wx tbk [(4,⟨_,_,_,_,false⟩)] ⟨acq [(.own 0 1 (0) p0),I y12,I y13,Qmn] [(.own 1 (y14.map Qab)),(.own 1 [[Qkl]]),(Qkk p3),(.own 1 [[I p4]]),(.own 1 [[I p5]])] [(.own 1 (x21.map Qab)),(.own 1 [[Qkl]]),(Qkk p3),(.own 1 [[I p4]]),(.own 1 [[I p5]])] (.tup []) [0,1,2,3,4] Q16 (Qe2 N p0 y12 y13 y14 p3 p4 p5 _ hf20) (Qbi (rnc (Qcq rfl) (rncc (rnc (Qa4 rn0 (rnc (Qas rfl) (rnc (Qas rfl) rn0))) rn0)))) (slc (Qa2 Qaj) (slc (Qai (rnc (Qa4 rn0 (rnc (Qas rfl) (rnc (Qas rfl) rn0))) rn0)) (slc (Qai (rnc (pld Qaj) rn0)) (slc (Qai (rnc (.plain _ nll) rn0)) (slc (Qai (rnc (.plain _ nll) rn0)) Qao))))) (slc (Qa2 Qaj) (slc (Qai (rnc (Qa4 rn0 (rnc (Qa3 rfl) (rnc (Qa3 rfl) rn0))) rn0)) (slc (Qai (rnc (pld Qaj) rn0)) (slc (Qai (rnc (.plain _ nll) rn0)) (slc (Qai (rnc (.plain _ nll) rn0)) Qao))))) (.plain _ (NLt.tup _ nl0)),tv⟩<|wxz<|wxz1<|bln<|thn ?_
    exact arm (mto (n:=63) [(0,(.own 0 1 (0) p0)),(1,I p1),(2,Qmn),(6,I 20),(7,I y13),(8,(I (w64 (y13+20))))] [0,1,2,3,4] [(.own 1 (x21.map Qab)),(.own 1 [[Qkl]]),(Qkk p3),(.own 1 [[I p4]]),(.own 1 [[I p5]])] hq (pc (.rn (Qay rfl)) (pw (pc (.rn (Qa4 rn0 (rnc (rqr rfl) (rnc (rqr rfl) rn0)))) (pw (pw (pw pn)))))) (qc (spr Qaj) (qb (lc (.rn (Qa4 rn0 (rnc (rqr rfl) (rnc (rqr rfl) rn0)))) ln) (qb (lc (rnd Qaj) ln) (qb (lc rwl ln) (qb (lc rwl ln) qn)))))) (ih (y13,w64 (y13+20),x21) h)
   ·exact wfn hc19<|Qbl<|Qaz<|Qaz<|Qbk rfl<|thn<|⟨(y12,y14),h,(mto (n:=63) [(0,(.own 0 1 (0) p0)),(1,I p1),(2,Qmn),(6,I 20),(7,I y12)] [0,1,2,3,4] [(.own 1 (y14.map Qab)),(.own 1 [[Qkl]]),(Qkk p3),(.own 1 [[I p4]]),(.own 1 [[I p5]])] hq (pc (.rn (Qay rfl)) (pw (pc (.rn (Qa4 rn0 (rnc (rqr rfl) (rnc (rqr rfl) rn0)))) (pw (pw pn))))) (qc (spr Qaj) (qb (lc (.rn (Qa4 rn0 (rnc (rqr rfl) (rnc (rqr rfl) rn0)))) ln) (qb (lc (rnd Qaj) ln) (qb (lc rwl ln) (qb (lc rwl ln) qn))))))⟩
def Qb5 (N p0:Nat) (p1 p2:List Int) (p3 p4:Int):Option (List Int):=
  (Qd4 N p0 ((p0:Nat):Int) p1 p2 p3 p4).bind fun x3=>
  some x3
abbrev Zh1:AV:=.fn (.func 181) [] [(.ref 1 1 (0) 0),(.ref 2 1 (0) 0)]
abbrev Q22:AV:=.fn (.func 177) [] [(.ref 3 1 (0) 0),(.ref 4 1 (0) 0)]
abbrev Q21 (p2:List Int):Slot:=.own 1 [[(.dat 1 (p2.map Qab))]]
theorem Qhr (N p0:Nat) (p1 p2:List Int) (p3 p4:Int) (r:List Int) (h:Qb5 N p0 p1 p2 p3 p4=some r):Spec prog 180 [(.own 0 1 (0) p0),Zh1] [(.own 1 (p1.map Qab)),(.own 1 [[Q22]]),(Q21 p2),(.own 1 [[(I p3)]]),(.own 1 [[(I p4)]])] (.tup []) [(.own 1 (r.map Qab)),(.own 1 [[Q22]]),(Q21 p2),(.own 1 [[(I p3)]]),(.own 1 [[(I p4)]])]:=by
  refine sF func180 5 fun _ _ _ hq hd0=>?_
  unfold Qb5 at h
  obtain⟨x3,hf2,h⟩:=bno h
  refine wx1 tbk [(2,rp [(.tmp 5,(.own 0 1 (0) p0))] (I (((p0:Nat):Int)))),(4,⟨_,_,_,_,false⟩)] ⟨aln rfl underlying29 rfl,acq [(.own 0 1 (0) p0),(I (((p0:Nat):Int))),Zh1] [(.own 1 (p1.map Qab)),(.own 1 [[Q22]]),(Q21 p2),(.own 1 [[I p3]]),(.own 1 [[I p4]])] [(.own 1 (x3.map Qab)),(.own 1 [[Q22]]),(Q21 p2),(.own 1 [[I p3]]),(.own 1 [[I p4]])] (.tup []) [0,1,2,3,4] Za8 (Qi5 N p0 ((p0:Nat):Int) p1 p2 p3 p4 _ hf2) (Qbi (rnc (Qcq rfl) (rnc (.plain _ nll) (rnc (Qa4 rn0 (rnc (Qas rfl) (rnc (Qas rfl) rn0))) rn0)))) (slc (Qa2 Qaj) (slc (Qai (rnc (Qa4 rn0 (rnc (Qas rfl) (rnc (Qas rfl) rn0))) rn0)) (slc (Qai (rnc (pld Qaj) rn0)) (slc (Qai (rnc (.plain _ nll) rn0)) (slc (Qai (rnc (.plain _ nll) rn0)) Qao))))) (slc (Qa2 Qaj) (slc (Qai (rnc (Qa4 rn0 (rnc (Qa3 rfl) (rnc (Qa3 rfl) rn0))) rn0)) (slc (Qai (rnc (pld Qaj) rn0)) (slc (Qai (rnc (.plain _ nll) rn0)) (slc (Qai (rnc (.plain _ nll) rn0)) Qao))))) (.plain _ (NLt.tup _ nl0)),tv⟩ ?_
  obtain rfl:=osi h
  exact⟨_,(mto (n:=9) (l':=[]) (own':=[(.own 1 (x3.map Qab)),(.own 1 [[Q22]]),(Q21 p2),(.own 1 [[I p3]]),(.own 1 [[I p4]])]) [] [0,1,2,3,4] [(.own 1 (x3.map Qab)),(.own 1 [[Q22]]),(Q21 p2),(.own 1 [[I p3]]),(.own 1 [[I p4]])] hq pn (qc (spr Qaj) (qb (lc (.rn (Qa4 rn0 (rnc (rqr rfl) (rnc (rqr rfl) rn0)))) ln) (qb (lc (rnd Qaj) ln) (qb (lc rwl ln) (qb (lc rwl ln) qn)))))),fio [] tv⟩
def Qcm (N:Nat) (p0:List Int) (k4:(List Int)→Option (List Int)):Nat→Int→(List Int)→Option (List Int)
  |0,_,_=>none
  |n13+1,y9,y10=>
    bif (decide (y9<(p0.length:Int))) then
     chk (decide ((y10.length+([y9]).length)*8≤140737488355328))<|
     Qcm N p0 k4 n13 (w64 (y9+1)) (y10++([y9]))
    else
     k4 (y10)
def Qe9 (N:Nat) (p0:List Int) (p1 p2:Int):Option (List Int):=
  Qcf (fun y3=>
    chk (!y3.isEmpty)<|
    (Qb5 N y3.length y3 p0 p1 p2).bind fun x7=>
    chk (decide (y3.length≤x7.length))<|
    some (x7.take y3.length)) fun k4:(List Int)→Option (List Int)=>
  Qcm N p0 k4 N 0 ([]:List Int)
abbrev Qqw:AV:=.fn (.func 177) [] [(.ref 0 1 (0) 0),(.ref 1 1 (0) 0)]
def Qre (p0:List Int):Slot:=.own 1 [[(.dat 1 (p0.map Qab))]]
def Q90:AV:=.fn (.func 181) [] [(.ref 3 1 (0) 0),(.ref 2 1 (0) 0)]
def Q0n (x7 y3:List Int):AV:=.dat 1 ((x7.take y3.length:List Int).map Qab)
def Zh2:Slot:=.gro 1 ((([]:List Int):List Int).map Qab)
theorem Qmj (N:Nat) (p0:List Int) (p1 p2:Int) (r:List Int) (h:Qe9 N p0 p1 p2=some r):Spec prog 176 [(.dat 1 (p0.map Qab)),Qqw] [(.own 1 [[(I p1)]]),(.own 1 [[(I p2)]])] (.dat 1 (r.map Qab)) [(.own 1 [[(I p1)]]),(.own 1 [[(I p2)]])]:=by
  refine sF func176 2 fun _ _ _ hq hd0=>?_
  unfold Qe9 at h
  refine wxz<|wxz ?_
  obtain⟨k4,hk_k4,h⟩:=jko h
  refine wjn (τ:=(List Int)) (fun t=>k4 t=some r) (fun y3=>⟨mk 21 [(2,.ref 2 1 0 0),(3,.ref 3 1 0 0),(5,(.gro 4 3 1 y3.length))],[(.own 1 [[I p1]]),(.own 1 [[I p2]]),(Qre p0),(.own 1 [[Qqw]]),(.gro 1 (y3.map Qab))]⟩) (fun y3 h=>?_) ?_
  ·subst hk_k4
   obtain⟨hz5,h⟩:=cko h
   obtain⟨x7,hf6,h⟩:=bno h
   refine wx tbk [(1,rp [(.tmp 3,.ref 3 1 0 0),(.tmp 2,.ref 2 1 0 0)] Q90),(2,⟨[fu 180,(.tmp 17,(.gro 4 3 1 y3.length)),(.tmp 18,Q90)],[(4,(.gro 1 (y3.map Qab))),(3,.own 1 [[Qqw]]),(2,(Qre p0)),(0,.own 1 [[I p1]]),(1,.own 1 [[I p2]])],(.tup []),[(4,(.own 1 (x7.map Qab))),(3,.own 1 [[Qqw]]),(2,(Qre p0)),(0,.own 1 [[I p1]]),(1,.own 1 [[I p2]])],false⟩)] ⟨Qed (fs:=[]) (cs:=[.ref 3 1 0 0,.ref 2 1 0 0]) rfl rfl rfl rfl,Qzw (bl':=[(4,(.own 1 (y3.map Qab))),(3,.own 1 [[Qqw]]),(2,(Qre p0)),(0,.own 1 [[I p1]]),(1,.own 1 [[I p2]])]) ⟨rfl,SLess.gro (Qgo hz5),rfl,SLess.rfl,rfl,SLess.rfl,rfl,SLess.rfl,rfl,SLess.rfl,tv⟩ (awk (rd':=[fu 180,(.tmp 17,(.own 4 1 (0) y3.length)),(.tmp 18,Q90)]) ⟨rfl,lrf,rfl,Less.gro,rfl,lrf,tv⟩ (acq [(.own 4 1 (0) y3.length),Q90] [(.own 1 (y3.map Qab)),(.own 1 [[Qqw]]),(Qre p0),(.own 1 [[I p1]]),(.own 1 [[I p2]])] [(.own 1 (x7.map Qab)),(.own 1 [[Qqw]]),(Qre p0),(.own 1 [[I p1]]),(.own 1 [[I p2]])] (.tup []) [4,3,2,0,1] Zba (Qhr N y3.length y3 p0 p1 p2 _ hf6) (Qbi (rnc (Qcq rfl) (rnc (Qa4 rn0 (rnc (Qas rfl) (rnc (Qas rfl) rn0))) rn0))) (slc (Qa2 Qaj) (slc (Qai (rnc (Qa4 rn0 (rnc (Qas rfl) (rnc (Qas rfl) rn0))) rn0)) (slc (Qai (rnc (pld Qaj) rn0)) (slc (Qai (rnc (.plain _ nll) rn0)) (slc (Qai (rnc (.plain _ nll) rn0)) Qao))))) (slc (Qa2 Qaj) (slc (Qai (rnc (Qa4 rn0 (rnc (Qa3 rfl) (rnc (Qa3 rfl) rn0))) rn0)) (slc (Qai (rnc (pld Qaj) rn0)) (slc (Qai (rnc (.plain _ nll) rn0)) (slc (Qai (rnc (.plain _ nll) rn0)) Qao))))) (.plain _ (NLt.tup _ nl0)))),tv⟩<|wxz ?_
   obtain⟨hz8,h⟩:=cko h
   refine wmr (Za0 (n:=21) (l':=[(4,(.own 4 1 (0) y3.length))]) [(4,(.gro 4 3 1 y3.length))] (by kernel_rfl) (by kernel_rfl) ⟨rfl,Less.gro,tv⟩) ?_
   refine wmr (Zd2 (n:=21) (l':=[(4,(Q0n x7 y3))]) 4 [(4,(.own 4 1 (0) y3.length))] (by kernel_rfl) (by kernel_rfl) (by kernel_rfl) ⟨rfl,(Ql4 hz8),tv⟩ rfl) ?_
   refine wmr (mto (n:=21) (l':=[(4,(Q0n x7 y3))]) (own':=[(.own 1 [[I p1]]),(.own 1 [[I p2]])]) [(4,(Q0n x7 y3))] [0,1] [(.own 1 [[I p1]]),(.own 1 [[I p2]])] hq (pc (rnd Qaj) pn) (qb (lc rwl ln) (qb (lc rwl ln) qn)))<|Qaf ?_
   obtain rfl:=osi h
   exact⟨_,Mor.rfl,fio [(Q0n x7 y3)] ⟨rot,tv⟩⟩
  ·skip
   refine wx tbk [(1,rp _ _)] ⟨alq 1 Qab p0 underlying29,tv⟩<|Qar ?_
   refine wmr (Mor.trans (Zaz 4 3 1 5 (by kernel_rfl) (by kernel_rfl)) (mto (n:=21) (l':=[(2,.ref 2 1 0 0),(3,.ref 3 1 0 0),(5,(.gro 4 3 1 (([]:List Int).length))),(8,(I ((p0.length:Int)))),(9,I 0)]) (own':=[(.own 1 [[I p1]]),(.own 1 [[I p2]]),(Qre p0),(.own 1 [[Qqw]]),Zh2]) [(2,.ref 2 1 0 0),(3,.ref 3 1 0 0),(5,(.gro 4 3 1 (([]:List Int).length))),(8,(I ((p0.length:Int)))),(9,I 0)] [0,1,2,3,4] [(.own 1 [[I p1]]),(.own 1 [[I p2]]),(Qre p0),(.own 1 [[Qqw]]),Zh2] hq (prr (prr (pc (.rn (Qyw rfl)) (pw (pw pn))))) (qb (lc rwl ln) (qb (lc rwl ln) (qb (lc (rnd Qaj) ln) (qb (lc (.rn (Qa4 rn0 (rnc (rqr rfl) (rnc (rqr rfl) rn0)))) ln) (qc (Quo Qaj) qn))))))) ?_
   refine Qcn (τ:=Int×(List Int)) (fun n t=>Qcm N p0 k4 n t.1 t.2=some r) (fun ⟨y9,y10⟩=>⟨mk 21 [(2,.ref 2 1 0 0),(3,.ref 3 1 0 0),(5,(.gro 4 3 1 y10.length)),(8,(I ((p0.length:Int)))),(9,I y9)],[(.own 1 [[I p1]]),(.own 1 [[I p2]]),(Qre p0),(.own 1 [[Qqw]]),(.gro 1 (y10.map Qab))]⟩) (fun t h=>by rw[Qcm] at h;cases h) (fun n13 ih t h=>?_) N (0,([]:List Int)) h
   obtain⟨y9,y10⟩:=t
   rw[Qcm] at h
   skip
   refine wxz<|wsq ?_
   refine bfe h (fun hc14 h=>?_) fun hc14 h=>?_
   ·refine wft hc14<|Qaq<|thn<|wsq<|Qar<|wxz ?_
    obtain⟨ha15,h⟩:=cko h
    refine wx1 tbk [(2,rp [(.tmp 13,I y9)] (.dat 1 (([y9]:List Int).map Qab))),(3,⟨[(.tmp 12,(.gro 4 3 1 y10.length)),(.tmp 14,(.dat 1 (([y9]:List Int).map Qab)))],[(4,(.gro 1 (y10.map Qab))),(5,.unused)],(.gro 5 3 1 ((y10++([y9])).length)),[(4,.dead),(5,(.gro 1 ((y10++([y9]):List Int).map Qab)))],false⟩)] ?_ ?_
    ·exact⟨Qbp (vs:=[I y9]) rfl underlying29 ti3 tz3 rfl (by decide) rfl (by decide) (by rfl) (by rfl) (by rfl) rfl,Qz4 (c:=Qab) (a:=y10) (b:=[y9]) rfl underlying29 te3 rfl (Qgo rfl) (by rfl) ha15 (by decide),tv⟩
    exact bln<|thn<|wxz1<|thn<|arm (mto (n:=21) [(2,.ref 2 1 0 0),(3,.ref 3 1 0 0),(5,(.gro 5 3 1 ((y10++([y9])).length))),(8,(I ((p0.length:Int)))),(9,(I (w64 (y9+1))))] [0,1,2,3,5] [(.own 1 [[I p1]]),(.own 1 [[I p2]]),(Qre p0),(.own 1 [[Qqw]]),(.gro 1 ((y10++([y9]):List Int).map Qab))] hq (prr (prr (pc (.rn (Qyw rfl)) (pw (pw pn))))) (qb (lc rwl ln) (qb (lc rwl ln) (qb (lc (rnd Qaj) ln) (qb (lc (.rn (Qa4 rn0 (rnc (rqr rfl) (rnc (rqr rfl) rn0)))) ln) (qc (Quo Qaj) qn)))))) (ih (w64 (y9+1),y10++([y9])) h)
   ·exact wfn hc14<|Qbl<|Qaz<|Qaz<|Qbk rfl<|thn<|⟨(y10),h,(mto (n:=21) [(2,.ref 2 1 0 0),(3,.ref 3 1 0 0),(5,(.gro 4 3 1 y10.length))] [0,1,2,3,4] [(.own 1 [[I p1]]),(.own 1 [[I p2]]),(Qre p0),(.own 1 [[Qqw]]),(.gro 1 (y10.map Qab))] hq (prr (prr (pc (.rn (Qyw rfl)) pn))) (qb (lc rwl ln) (qb (lc rwl ln) (qb (lc (rnd Qaj) ln) (qb (lc (.rn (Qa4 rn0 (rnc (rqr rfl) (rnc (rqr rfl) rn0)))) ln) (qc (Quo Qaj) qn))))))⟩
def Qdx (N:Nat) (p1:List Int) (y6:Int) (k10:(List Int)→Option (List Int)) (x13:List Int):Nat→Int→(List Int)→Option (List Int)
  |0,_,_=>none
  |n19+1,y15,y16=>
    bif (decide (y15<(((x13).take (y6.toNat-0)).length:Int))) then
     (getI ((x13).take (y6.toNat-0)) y15).bind fun x21=>
     chk (decide (0≤x21)&&decide (x21.toNat<(p1.length:Int).toNat))<|
     (y16[x21.toNat]?).bind fun x26=>
     chk (decide (0≤x21)&&decide (x21.toNat<(p1.length:Int).toNat))<|
     (y16[x21.toNat]?).bind fun _=>
     Qdx N p1 y6 k10 x13 n19 (w64 (y15+1)) (y16.set x21.toNat (w64 (x26+1)))
    else
     k10 (y16)
def Qdw (N:Nat) (p0:Int) (p1:List Int) (y3:Int) (k8:Int×(List Int)→Option (List Int)):Nat→Int→Int→(List Int)→Option (List Int)
  |0,_,_,_=>none
  |n37+1,y31,y32,y33=>
    bif (decide (y32<(p1.length:Int))) then
     (getI p1 y32).bind fun x39=>
     chk (y3 != 0)<|
     chk (decide (0≤y32)&&decide (y32.toNat<(p1.length:Int).toNat))<|
     (y33[y32.toNat]?).bind fun _=>
     chk (decide (0≤y32)&&decide (y32.toNat<(p1.length:Int).toNat))<|
     ((y33.set y32.toNat (w64 ((w64 (p0*x39)).tdiv y3)))[y32.toNat]?).bind fun x48=>
     Qdw N p0 p1 y3 k8 n37 (w64 (y31-x48)) (w64 (y32+1)) (y33.set y32.toNat (w64 ((w64 (p0*x39)).tdiv y3)))
    else
     k8 (y31,y33)
def Qdv (N:Nat) (p1:List Int) (k4:Int→Option (List Int)):Nat→Int→Int→Option (List Int)
  |0,_,_=>none
  |n54+1,y50,y51=>
    bif (decide (y50<(p1.length:Int))) then
     (getI p1 y50).bind fun x56=>
     Qdv N p1 k4 n54 (w64 (y50+1)) (w64 (y51+x56))
    else
     k4 (y51)
def Qh2 (N:Nat) (p0:Int) (p1:List Int):Option (List Int):=
  Qcf (fun y3=>
    chk (decide (0≤(p1.length:Int))&&decide (8*(p1.length:Int)≤281474976710656)&&decide ((p1.length:Int)≤9223372036854775807))<|
    Qcf (fun ⟨y6,y7⟩=>
      Qcf (fun y9=>
        chk (decide ((p1.length:Int).toNat≤y9.length))<|
        some (y9.take ((p1.length:Int).toNat))) fun k10:(List Int)→Option (List Int)=>
      (Qe9 N p1 p0 y3).bind fun x13=>
      chk (decide (0≤0)&&decide (0≤y6)&&decide (y6≤(x13.length:Int)))<|
      Qdx N p1 y6 k10 x13 N 0 y7) fun k8:Int×(List Int)→Option (List Int)=>
    Qdw N p0 p1 y3 k8 N p0 0 (List.replicate (p1.length:Int).toNat 0)) fun k4:Int→Option (List Int)=>
  Qdv N p1 k4 N 0 0
def Zh3 (p1:List Int):Slot:=.own 1 ((List.replicate (p1.length:Int).toNat 0:List Int).map Qab)
def Q0p (y9 p1:List Int):AV:=.dat 1 ((y9.take ((p1.length:Int).toNat):List Int).map Qab)
def Zc9:AV:=.fn (.func 177) [] [(.ref 0 1 (0) 0),(.ref 1 1 (0) 0)]
def Qv7 (x13:List Int) (y6:Int):AV:=.dat 1 (((x13).take (y6.toNat-0):List Int).map Qab)
def Q0o (y33:List Int) (y32 p0:Int) (x39 y3:Int):Slot:=.own 1 ((y33.set y32.toNat (w64 ((w64 (p0*x39)).tdiv y3)):List Int).map Qab)
theorem Qqy (N:Nat) (p0:Int) (p1 r:List Int) (h:Qh2 N p0 p1=some r):Spec prog 171 [(I p0),(.dat 1 (p1.map Qab))] [] (.dat 1 (r.map Qab)) []:=by
  refine sF func171 0 fun _ _ _ hq hd0=>?_
  unfold Qh2 at h
  refine wxz<|wxz ?_
  obtain⟨k4,hk_k4,h⟩:=jko h
  refine wjn (τ:=Int) (fun t=>k4 t=some r) (fun y3=>⟨mk 68 [(1,(.dat 1 (p1.map Qab))),(2,.ref 0 1 0 0),(5,.ref 1 1 0 0)],[(.own 1 [[I p0]]),(.own 1 [[I y3]])]⟩) (fun y3 h=>?_) ?_
  ·subst hk_k4
   obtain⟨hm5,h⟩:=cko h
   refine wxd tbk [(1,rp _ _),(2,⟨[(.tmp 25,(I ((p1.length:Int)))),(.tmp 25,(I ((p1.length:Int))))],[(2,.unused)],(.own 2 1 (0) ((p1.length:Int).toNat)),[(2,(Zh3 p1))],false⟩)] ⟨alq 1 Qab p1 underlying29,Qnh rfl underlying29 te3 tz3 rfl (Qz7 hm5) rfl (Qz6 hm5) (Q2p hm5) (Qyz Qab rfl),tv⟩ ?_
   obtain⟨k8,hk_k8,h⟩:=jko h
   refine wjn (τ:=Int×(List Int)) (fun t=>k8 t=some r) (fun ⟨y6,y7⟩=>⟨mk 68 [(1,(.dat 1 (p1.map Qab))),(2,.ref 0 1 0 0),(5,.ref 1 1 0 0),(8,(.own 2 1 (0) ((p1.length:Int).toNat))),(9,I y6)],[(.own 1 [[I p0]]),(.own 1 [[I y3]]),(.own 1 (y7.map Qab))]⟩) (fun t h=>?_) ?_
   ·subst hk_k8
    obtain⟨y6,y7⟩:=t
    obtain⟨k10,hk_k10,h⟩:=jko h
    refine wjn (τ:=(List Int)) (fun t=>k10 t=some r) (fun y9=>⟨mk 68 [(8,(.own 0 1 (0) ((p1.length:Int).toNat)))],[(.own 1 (y9.map Qab))]⟩) (fun y9 h=>?_) ?_
    ·subst hk_k10
     refine wxz ?_
     obtain⟨hz11,h⟩:=cko h
     refine wmr (Zd2 (n:=68) (l':=[(4,(Q0p y9 p1))]) 0 [(4,(.own 0 1 (0) ((p1.length:Int).toNat)))] (by kernel_rfl) (by kernel_rfl) (by kernel_rfl) ⟨rfl,(Ql4 hz11),tv⟩ rfl) ?_
     refine wmr (mto (n:=68) (l':=[(4,(Q0p y9 p1))]) (own':=[]) [(4,(Q0p y9 p1))] [] [] hq (pc (rnd Qaj) pn) qn)<|Qaf ?_
     obtain rfl:=osi h
     exact⟨_,Mor.rfl,fio [(Q0p y9 p1)] ⟨rot,tv⟩⟩
    ·skip
     obtain⟨x13,hf12,h⟩:=bno h
     obtain⟨hs14,h⟩:=cko h
     refine wx tbk [(1,rp [(.tmp 2,.ref 0 1 0 0),(.tmp 5,.ref 1 1 0 0)] Zc9),(2,⟨_,_,_,_,false⟩),(4,rp [(.tmp 52,(.dat 1 (x13.map Qab))),(.tmp 53,I y6)] (Qv7 x13 y6)),(5,rp _ _)] ⟨Qed (fs:=[]) (cs:=[.ref 0 1 0 0,.ref 1 1 0 0]) rfl rfl rfl rfl,acq [(.dat 1 (p1.map Qab)),Zc9] [(.own 1 [[I p0]]),(.own 1 [[I y3]])] [(.own 1 [[I p0]]),(.own 1 [[I y3]])] (.dat 1 (x13.map Qab)) [0,1] Zbc (Qmj N p1 p0 y3 _ hf12) (Qbi (rnc (pld Qaj) (rnc (Qa4 rn0 (rnc (Qas rfl) (rnc (Qas rfl) rn0))) rn0))) (slc (Qai (rnc (.plain _ nll) rn0)) (slc (Qai (rnc (.plain _ nll) rn0)) Qao)) (slc (Qai (rnc (.plain _ nll) rn0)) (slc (Qai (rnc (.plain _ nll) rn0)) Qao)) (pld Qaj),Qm7 (k:=.i64) (k':=.i64) (lo:=none) (hi:=some (.tmp 53)) (l:=0) (hh:=y6) rfl underlying29 ti3 rfl (fun _=>rfl) (fun e=>nomatch e) (Qz7 hs14) (Qz6 hs14) (Zhe Qab hs14) (Zla Qab),alq 1 Qab ((x13).take (y6.toNat-0)) underlying29,tv⟩<|Qar ?_
     refine wmr (mto (n:=68) (l':=[(8,(.own 0 1 (0) ((p1.length:Int).toNat))),(54,(Qv7 x13 y6)),(55,(I ((((x13).take (y6.toNat-0)).length:Int)))),(56,I 0)]) (own':=[(.own 1 (y7.map Qab))]) [(8,(.own 2 1 (0) ((p1.length:Int).toNat))),(54,(Qv7 x13 y6)),(55,(I ((((x13).take (y6.toNat-0)).length:Int)))),(56,I 0)] [2] [(.own 1 (y7.map Qab))] hq (pc (.rn (Qay rfl)) (pc (rnd Qaj) (pw (pw pn)))) (qc (spr Qaj) qn)) ?_
     refine Qcn (τ:=Int×(List Int)) (fun n t=>Qdx N p1 y6 k10 x13 n t.1 t.2=some r) (fun ⟨y15,y16⟩=>⟨mk 68 [(8,(.own 0 1 (0) ((p1.length:Int).toNat))),(54,(Qv7 x13 y6)),(55,(I ((((x13).take (y6.toNat-0)).length:Int)))),(56,I y15)],[(.own 1 (y16.map Qab))]⟩) (fun t h=>by rw[Qdx] at h;cases h) (fun n19 ih t h=>?_) N (0,y7) h
     obtain⟨y15,y16⟩:=t
     rw[Qdx] at h
     skip
     refine wxz<|wsq ?_
     refine bfe h (fun hc20 h=>?_) fun hc20 h=>?_
     ·refine wft hc20<|Qaq<|thn<|wsq<|Qar ?_
      obtain⟨x21,hg22,h⟩:=bno h
      obtain⟨hi23,hj24⟩:=gsm hg22
      refine wx tbk [(0,rp _ _)] ⟨aiq underlying29 ti3 Qab hi23 hj24,tv⟩ ?_
      obtain⟨hi25,h⟩:=cko h
      obtain⟨hi25a,hi25b⟩:=Qd0 hi25
      obtain⟨x26,hg27,h⟩:=bno h
      obtain⟨hi28,h⟩:=cko h
      obtain⟨hi28a,hi28b⟩:=Qd0 hi28
      obtain⟨x29,hg30,h⟩:=bno h
      refine wx1 tbk [(2,rb [(.tmp 60,(.own 0 1 (0) ((p1.length:Int).toNat))),(.tmp 61,I x21)] [(0,(.own 1 (y16.map Qab)))] (.ref 0 1 x21.toNat 0)),(3,rb [(.tmp 62,(.ref 0 1 x21.toNat 0))] [(0,(.own 1 (y16.map Qab)))] (I x26)),(5,rb [(.tmp 60,(.own 0 1 (0) ((p1.length:Int).toNat))),(.tmp 61,I x21)] [(0,(.own 1 (y16.map Qab)))] (.ref 0 1 x21.toNat 0)),(6,⟨[(.tmp 65,(.ref 0 1 x21.toNat 0)),(.tmp 64,(I (w64 (x26+1))))],[(0,(.own 1 (y16.map Qab)))],.any,[(0,(.own 1 ((y16.set x21.toNat (w64 (x26+1)):List Int).map Qab)))],false⟩)] ⟨aio rfl underlying29 ti3 (odt hi25a) (odt hi25b) (Nat.zero_add _),ald rfl ti3 (by decide) (mgt Qab hg27) (nle rfl) rfl,aio rfl underlying29 ti3 (odt hi28a) (odt hi28b) (Nat.zero_add _),ast rfl ti3 (by rfl) (mgt Qab hg30) (nle rfl) (Qf5 Qab rfl),tv⟩<|bln<|thn<|wxz1<|thn ?_
      exact arm (mto (n:=68) [(8,(.own 0 1 (0) ((p1.length:Int).toNat))),(54,(Qv7 x13 y6)),(55,(I ((((x13).take (y6.toNat-0)).length:Int)))),(56,(I (w64 (y15+1))))] [0] [(.own 1 ((y16.set x21.toNat (w64 (x26+1)):List Int).map Qab))] hq (pc (.rn (Qay rfl)) (pc (rnd Qaj) (pw (pw pn)))) (qc (spr Qaj) qn)) (ih (w64 (y15+1),y16.set x21.toNat (w64 (x26+1))) h)
     ·exact wfn hc20<|Qbl<|Qaz<|Qaz<|Qbk rfl<|thn<|⟨(y16),h,(mto (n:=68) [(8,(.own 0 1 (0) ((p1.length:Int).toNat)))] [0] [(.own 1 (y16.map Qab))] hq (pc (.rn (Qay rfl)) pn) (qc (spr Qaj) qn))⟩
   ·skip
    refine wx tbk [(1,rp _ _)] ⟨alq 1 Qab p1 underlying29,tv⟩<|Qar ?_
    refine wmr (mto (n:=68) (l':=[(1,(.dat 1 (p1.map Qab))),(2,.ref 0 1 0 0),(5,.ref 1 1 0 0),(8,(.own 2 1 (0) ((p1.length:Int).toNat))),(9,I p0),(28,(.dat 1 (p1.map Qab))),(29,(I ((p1.length:Int)))),(30,I 0)]) (own':=[(.own 1 [[I p0]]),(.own 1 [[I y3]]),(.own 1 (((List.replicate (p1.length:Int).toNat 0):List Int).map Qab))]) [(1,(.dat 1 (p1.map Qab))),(2,.ref 0 1 0 0),(5,.ref 1 1 0 0),(8,(.own 2 1 (0) ((p1.length:Int).toNat))),(9,I p0),(28,(.dat 1 (p1.map Qab))),(29,(I ((p1.length:Int)))),(30,I 0)] [0,1,2] [(.own 1 [[I p0]]),(.own 1 [[I y3]]),(Zh3 p1)] hq (pc (rnd Qaj) (prr (prr (pc (.rn (Qay rfl)) (pw (pc (rnd Qaj) (pw (pw pn)))))))) (qb (lc rwl ln) (qb (lc rwl ln) (qc (spr Qaj) qn)))) ?_
    refine Qcn (τ:=Int×Int×(List Int)) (fun n t=>Qdw N p0 p1 y3 k8 n t.1 t.2.1 t.2.2=some r) (fun ⟨y31,y32,y33⟩=>⟨mk 68 [(1,(.dat 1 (p1.map Qab))),(2,.ref 0 1 0 0),(5,.ref 1 1 0 0),(8,(.own 2 1 (0) ((p1.length:Int).toNat))),(9,I y31),(28,(.dat 1 (p1.map Qab))),(29,(I ((p1.length:Int)))),(30,I y32)],[(.own 1 [[I p0]]),(.own 1 [[I y3]]),(.own 1 (y33.map Qab))]⟩) (fun t h=>by rw[Qdw] at h;cases h) (fun n37 ih t h=>?_) N (p0,0,List.replicate (p1.length:Int).toNat 0) h
    obtain⟨y31,y32,y33⟩:=t
    rw[Qdw] at h
    skip
    refine wxz<|wsq ?_
    refine bfe h (fun hc38 h=>?_) fun hc38 h=>?_
    ·refine wft hc38<|Qaq<|thn<|wsq<|Qar ?_
     obtain⟨x39,hg40,h⟩:=bno h
     obtain⟨hi41,hj42⟩:=gsm hg40
     refine wx tbk [(1,rp _ _)] ⟨aiq underlying29 ti3 Qab hi41 hj42,tv⟩ ?_
     obtain⟨hz43,h⟩:=cko h
     obtain⟨hi44,h⟩:=cko h
     obtain⟨hi44a,hi44b⟩:=Qd0 hi44
     obtain⟨x45,hg46,h⟩:=bno h
     refine wx tbk [(6,rp [(.tmp 39,(I (w64 (p0*x39)))),(.tmp 40,I y3)] (I (w64 ((w64 (p0*x39)).tdiv y3)))),(7,rb [(.tmp 35,(.own 2 1 (0) ((p1.length:Int).toNat))),(.tmp 36,I y32)] [(2,(.own 1 (y33.map Qab)))] (.ref 2 1 y32.toNat 0)),(8,⟨[(.tmp 42,(.ref 2 1 y32.toNat 0)),(.tmp 41,(I (w64 ((w64 (p0*x39)).tdiv y3))))],[(2,(.own 1 (y33.map Qab)))],.any,[(2,(Q0o y33 y32 p0 x39 y3))],false⟩)] ⟨Qpm rfl (Qqf hz43),aio rfl underlying29 ti3 (odt hi44a) (odt hi44b) (Nat.zero_add _),ast rfl ti3 (by rfl) (mgt Qab hg46) (nle rfl) (Qf5 Qab rfl),tv⟩ ?_
     obtain⟨hi47,h⟩:=cko h
     obtain⟨hi47a,hi47b⟩:=Qd0 hi47
     obtain⟨x48,hg49,h⟩:=bno h
     refine wx1 tbk [(3,rb [(.tmp 44,(.own 2 1 (0) ((p1.length:Int).toNat))),(.tmp 45,I y32)] [(2,(Q0o y33 y32 p0 x39 y3))] (.ref 2 1 y32.toNat 0)),(4,rb [(.tmp 46,(.ref 2 1 y32.toNat 0))] [(2,(Q0o y33 y32 p0 x39 y3))] (I x48))] ⟨aio rfl underlying29 ti3 (odt hi47a) (odt hi47b) (Nat.zero_add _),ald rfl ti3 (by decide) (mgt Qab hg49) (nle rfl) rfl,tv⟩<|bln<|thn<|wxz1<|thn ?_
     exact arm (mto (n:=68) [(1,(.dat 1 (p1.map Qab))),(2,.ref 0 1 0 0),(5,.ref 1 1 0 0),(8,(.own 2 1 (0) ((p1.length:Int).toNat))),(9,(I (w64 (y31-x48)))),(28,(.dat 1 (p1.map Qab))),(29,(I ((p1.length:Int)))),(30,(I (w64 (y32+1))))] [0,1,2] [(.own 1 [[I p0]]),(.own 1 [[I y3]]),(Q0o y33 y32 p0 x39 y3)] hq (pc (rnd Qaj) (prr (prr (pc (.rn (Qay rfl)) (pw (pc (rnd Qaj) (pw (pw pn)))))))) (qb (lc rwl ln) (qb (lc rwl ln) (qc (spr Qaj) qn)))) (ih (w64 (y31-x48),w64 (y32+1),y33.set y32.toNat (w64 ((w64 (p0*x39)).tdiv y3))) h)
    ·exact wfn hc38<|Qbl<|Qaz<|Qaz<|Qbk rfl<|thn<|⟨(y31,y33),h,(mto (n:=68) [(1,(.dat 1 (p1.map Qab))),(2,.ref 0 1 0 0),(5,.ref 1 1 0 0),(8,(.own 2 1 (0) ((p1.length:Int).toNat))),(9,I y31)] [0,1,2] [(.own 1 [[I p0]]),(.own 1 [[I y3]]),(.own 1 (y33.map Qab))] hq (pc (rnd Qaj) (prr (prr (pc (.rn (Qay rfl)) (pw pn))))) (qb (lc rwl ln) (qb (lc rwl ln) (qc (spr Qaj) qn))))⟩
  ·skip
   refine wx tbk [(1,rp _ _)] ⟨alq 1 Qab p1 underlying29,tv⟩<|Qar ?_
   refine wmr (mto (n:=68) (l':=[(1,(.dat 1 (p1.map Qab))),(2,.ref 0 1 0 0),(5,.ref 1 1 0 0),(14,(.dat 1 (p1.map Qab))),(15,(I ((p1.length:Int)))),(16,I 0)]) (own':=[(.own 1 [[I p0]]),(.own 1 [[I 0]])]) [(1,(.dat 1 (p1.map Qab))),(2,.ref 0 1 0 0),(5,.ref 1 1 0 0),(14,(.dat 1 (p1.map Qab))),(15,(I ((p1.length:Int)))),(16,I 0)] [0,1] [(.own 1 [[I p0]]),(.own 1 [[I 0]])] hq (pc (rnd Qaj) (prr (prr (pc (rnd Qaj) (pw (pw pn)))))) (qb (lc rwl ln) (qb (lc rwl ln) qn))) ?_
   refine Qcn (τ:=Int×Int) (fun n t=>Qdv N p1 k4 n t.1 t.2=some r) (fun ⟨y50,y51⟩=>⟨mk 68 [(1,(.dat 1 (p1.map Qab))),(2,.ref 0 1 0 0),(5,.ref 1 1 0 0),(14,(.dat 1 (p1.map Qab))),(15,(I ((p1.length:Int)))),(16,I y50)],[(.own 1 [[I p0]]),(.own 1 [[I y51]])]⟩) (fun t h=>by rw[Qdv] at h;cases h) (fun n54 ih t h=>?_) N (0,0) h
   obtain⟨y50,y51⟩:=t
   rw[Qdv] at h
   skip
   refine wxz<|wsq ?_
   refine bfe h (fun hc55 h=>?_) fun hc55 h=>?_
   ·refine wft hc55<|Qaq<|thn<|wsq<|Qar ?_
    obtain⟨x56,hg57,h⟩:=bno h
    obtain⟨hi58,hj59⟩:=gsm hg57
    exact wx tbk [(0,rp _ _)] ⟨aiq underlying29 ti3 Qab hi58 hj59,tv⟩<|wxz1<|bln<|thn<|wxz1<|thn<|arm (mto (n:=68) [(1,(.dat 1 (p1.map Qab))),(2,.ref 0 1 0 0),(5,.ref 1 1 0 0),(14,(.dat 1 (p1.map Qab))),(15,(I ((p1.length:Int)))),(16,(I (w64 (y50+1))))] [0,1] [(.own 1 [[I p0]]),(.own 1 [[(I (w64 (y51+x56)))]])] hq (pc (rnd Qaj) (prr (prr (pc (rnd Qaj) (pw (pw pn)))))) (qb (lc rwl ln) (qb (lc rwl ln) qn))) (ih (w64 (y50+1),w64 (y51+x56)) h)
   ·exact wfn hc55<|Qbl<|Qaz<|Qaz<|Qbk rfl<|thn<|⟨(y51),h,(mto (n:=68) [(1,(.dat 1 (p1.map Qab))),(2,.ref 0 1 0 0),(5,.ref 1 1 0 0)] [0,1] [(.own 1 [[I p0]]),(.own 1 [[I y51]])] hq (pc (rnd Qaj) (prr (prr pn))) (qb (lc rwl ln) (qb (lc rwl ln) qn)))⟩
def Qe1 (_N:Nat) (p0 p1:Int) (p2 _p3:Int) (_p4 _p5:Int):Option Int:=
  chk ((if p2>1 then p2 else 1) != 0)<|
  (some (w64 ((w64 (p0*p1)).tdiv (if p2>1 then p2 else 1)))).bind fun x2=>
  some x2
theorem Qhq (N:Nat) (p0 p1:Int) (p2 p3:Int) (p4 p5 r:Int) (h:Qe1 N p0 p1 p2 p3 p4 p5=some r):Spec prog 172 [(I p0),(.dptr [(I p1)] 0),(.dptr [(I p2),(I p3),(I p4),(I p5)] 0)] [] (I r) []:=by
  refine sA func172 0 fun _ _ _ hq hd0=>?_
  unfold Qe1 at h
  refine wxz ?_
  obtain⟨hz1,h⟩:=cko h
  obtain⟨x2,hl3,h⟩:=bno h
  refine wx tbk [(5,rp [ci 1,(.tmp 9,I p2)] (I ((if p2>1 then p2 else 1)))),(6,rp [(.tmp 7,(I (w64 (p0*p1)))),(.tmp 10,(I ((if p2>1 then p2 else 1))))] (I (w64 ((w64 (p0*p1)).tdiv (if p2>1 then p2 else 1))))),(7,rp [(.tmp 11,(I (w64 ((w64 (p0*p1)).tdiv (if p2>1 then p2 else 1)))))] (I x2))] ⟨Qm8 rfl,Qpm rfl (Qqf hz1),Qkh hl3 (aas rfl),tv⟩<|Qaf ?_
  obtain rfl:=osi h
  exact fend ⟨[I x2],⟨rot,tv⟩,rfl⟩ nll
def Qcg (_N:Nat) (_p0 _p1:Int) (_p2 _p3:Int):Option Unit:=
  some ()
abbrev Qv5 (p0 p1:Int) (p2 p3:Int):Slot:=.own 4 [[(I p0),(I p1),(I p2),(I p3)]]
abbrev Zes:AV:=.agg [(.ref 0 4 (0) 0),(.ref 0 4 (0) 1),(.ref 0 4 (0) 2),(.ref 0 4 (0) 3)]
abbrev Zer:Slot:=.own 4 [[(.ref 0 4 (0) 0),(.ref 0 4 (0) 1),(.ref 0 4 (0) 2),(.ref 0 4 (0) 3)]]
theorem Qdk (N:Nat) (p0 p1:Int) (p2 p3:Int) (r:Unit) (h:Qcg N p0 p1 p2 p3=some r):Spec prog 179 [(.ref 0 4 (0) 0)] [(Qv5 p0 p1 p2 p3)] Zes [(Qv5 p0 p1 p2 p3),Zer]:=by
  refine sF func179 2 fun _ _ _ hq hd0=>?_
  unfold Qcg at h
  refine wxz<|wxd tbk [(1,rb [(.tmp 3,.ref 0 4 0 0)] [(0,(Qv5 p0 p1 p2 p3))] (.ref 0 4 0 0)),(4,rb [(.tmp 6,.ref 0 4 0 0)] [(0,(Qv5 p0 p1 p2 p3))] (.ref 0 4 0 0)),(7,rb [(.tmp 9,.ref 0 4 0 0)] [(0,(Qv5 p0 p1 p2 p3))] (.ref 0 4 0 0)),(10,rb [(.tmp 12,.ref 0 4 0 0)] [(0,(Qv5 p0 p1 p2 p3))] (.ref 0 4 0 0)),(12,rp [(.tmp 5,.ref 0 4 0 0),(.tmp 8,.ref 0 4 0 1),(.tmp 11,.ref 0 4 0 2),(.tmp 14,.ref 0 4 0 3)] Zes)] ⟨Qbd rfl,Qbd rfl,Qbd rfl,Qbd rfl,Qqu (vs:=[.ref 0 4 0 0,.ref 0 4 0 1,.ref 0 4 0 2,.ref 0 4 0 3]) rfl underlying269 Qs5 Ziy rfl (by rfl) rfl,tv⟩ ?_
  refine wmr (mto (n:=16) (l':=[(2,.ref 1 4 0 0)]) (own':=[(Qv5 p0 p1 p2 p3),Zer]) [(2,.ref 1 4 0 0)] [0,1] [(Qv5 p0 p1 p2 p3),Zer] hq (prr pn) (qb (lcc (lcc ln)) (qb (lc (.rn (rqr rfl)) (lc (.rn (rqr rfl)) (lc (.rn (rqr rfl)) (lc (.rn (rqr rfl)) ln)))) qn)))<|Qaf ?_
  obtain rfl:=osi h
  exact⟨_,Mor.rfl,fio [Zes] ⟨Qb7 (n:=1) (m:=4) (j:=0) (i:=0) (xs:=[[.ref 0 4 0 0,.ref 0 4 0 1,.ref 0 4 0 2,.ref 0 4 0 3]]) (by kernel_rfl) (by kernel_rfl) Zi6 (by decide) rfl (nle rfl) rfl,tv⟩⟩
def Qiu (N:Nat) (p0:Qaa) (p1 p2:Int) (p3 p4:Int):Option Unit:=
  (Qcg N p0.Mass p0.Heat p0.Silica p0.Gas).bind fun _=>
  (Qcg N p1 p2 p3 p4).bind fun _=>
  (Qcg N (w64 (p1+p0.Mass)) p2 p3 p4).bind fun _=>
  (Qcg N (w64 (p1+p0.Mass)) (w64 (p2+p0.Heat)) p3 p4).bind fun _=>
  (Qcg N (w64 (p1+p0.Mass)) (w64 (p2+p0.Heat)) (w64 (p3+p0.Silica)) p4).bind fun _=>
  some ()
abbrev Q46 (p1 p2:Int) (p3 p4:Int):Slot:=.own 4 [[(I p1),(I p2),(I p3),(I p4)]]
abbrev Q48 (p1:Int) (p0:Qaa) (p2 p3 p4:Int):Slot:=.own 4 [[(I (w64 (p1+p0.Mass))),(I (w64 (p2+p0.Heat))),(I (w64 (p3+p0.Silica))),(I (w64 (p4+p0.Gas)))]]
def Q20 (p0:Qaa):Slot:=.own 4 [[(I p0.Mass),(I p0.Heat),(I p0.Silica),(I p0.Gas)]]
def Q47:AV:=.agg [(.ref 1 4 (0) 0),(.ref 1 4 (0) 1),(.ref 1 4 (0) 2),(.ref 1 4 (0) 3)]
def Zkl:Slot:=.own 4 [[(.ref 1 4 (0) 0),(.ref 1 4 (0) 1),(.ref 1 4 (0) 2),(.ref 1 4 (0) 3)]]
def Qv6:AV:=.agg [(.ref 0 4 (0) 0),(.ref 0 4 (0) 1),(.ref 0 4 (0) 2),(.ref 0 4 (0) 3)]
def Q9w:Slot:=.own 4 [[(.ref 0 4 (0) 0),(.ref 0 4 (0) 1),(.ref 0 4 (0) 2),(.ref 0 4 (0) 3)]]
def Q9v (p1:Int) (p0:Qaa) (p2 p3 p4:Int):Slot:=.own 4 [[(I (w64 (p1+p0.Mass))),(I p2),(I p3),(I p4)]]
def Q9u (p1:Int) (p0:Qaa) (p2 p3 p4:Int):Slot:=.own 4 [[(I (w64 (p1+p0.Mass))),(I (w64 (p2+p0.Heat))),(I p3),(I p4)]]
def Q9t (p1:Int) (p0:Qaa) (p2 p3 p4:Int):Slot:=.own 4 [[(I (w64 (p1+p0.Mass))),(I (w64 (p2+p0.Heat))),(I (w64 (p3+p0.Silica))),(I p4)]]
theorem Qpw (N:Nat) (p0:Qaa) (p1 p2:Int) (p3 p4:Int) (r:Unit) (h:Qiu N p0 p1 p2 p3 p4=some r):Spec prog 178 [(.agg [(I p0.Mass),(I p0.Heat),(I p0.Silica),(I p0.Gas)]),(.ref 0 4 (0) 0)] [(Q46 p1 p2 p3 p4)] (.tup []) [(Q48 p1 p0 p2 p3 p4)]:=by
  refine sF func178 1 fun _ _ _ hq hd0=>?_
  unfold Qiu at h
  refine wxz ?_
  obtain⟨x2,hf1,h⟩:=bno h
  refine wx tbk [(0,⟨_,_,_,_,false⟩)] ⟨acq [.ref 1 4 0 0] [(Q20 p0)] [(Q20 p0),Zkl] Q47 [1,2] Qpc (Qdk N p0.Mass p0.Heat p0.Silica p0.Gas _ hf1) (Qbi (rnc (Qas rfl) rn0)) (slc (Qai (rncc (rncc rn0))) Qao) (slc (Qai (rncc (rncc rn0))) (slc (Qai (rnc (Qa3 rfl) (rnc (Qa3 rfl) (rnc (Qa3 rfl) (rnc (Qa3 rfl) rn0))))) Qao)) (Qbi (rnc (Qa3 rfl) (rnc (Qa3 rfl) (rnc (Qa3 rfl) (rnc (Qa3 rfl) rn0))))),tv⟩<|Qar<|Q2h 17<|Qt2<|wxz<|wsq<|wtr<|Qaq<|thn<|wsq ?_
  refine Qar<|wx tbk [(1,rp [(.tmp 5,Q47),(.tmp 6,I 0)] (.ref 1 4 0 0))] ⟨Qg9 rfl underlying269 Qs5 (by decide) (by decide) (nle rfl) (by decide) rfl,tv⟩ ?_
  obtain⟨x4,hf3,h⟩:=bno h
  refine wy1 tbk [(0,⟨_,_,_,_,false⟩),(2,rp [(.tmp 10,Qv6),(.tmp 11,I 0)] (.ref 0 4 0 0)),(3,rb [(.tmp 12,.ref 0 4 0 0)] [(0,(Q46 p1 p2 p3 p4))] (.ref 0 4 0 0)),(6,rb [(.tmp 15,.ref 1 4 0 0)] [(1,(Q20 p0))] (.ref 1 4 0 0)),(9,rb [(.tmp 12,.ref 0 4 0 0)] [(0,(Q46 p1 p2 p3 p4))] (.ref 0 4 0 0))] ⟨acq [.ref 0 4 0 0] [(Q46 p1 p2 p3 p4)] [(Q46 p1 p2 p3 p4),Q9w] Qv6 [0,3] Qpc (Qdk N p1 p2 p3 p4 _ hf3) (Qbi (rnc (Qas rfl) rn0)) (slc (Qai (rncc (rncc rn0))) Qao) (slc (Qai (rncc (rncc rn0))) (slc (Qai (rnc (Qa3 rfl) (rnc (Qa3 rfl) (rnc (Qa3 rfl) (rnc (Qa3 rfl) rn0))))) Qao)) (Qbi (rnc (Qa3 rfl) (rnc (Qa3 rfl) (rnc (Qa3 rfl) (rnc (Qa3 rfl) rn0))))),Qg9 rfl underlying269 Qs5 (by decide) (by decide) (nle rfl) (by decide) rfl,Qbd rfl,Qbd rfl,Qbd rfl,tv⟩<|bln<|thn<|wxz1<|thn<|Qt2<|wxz<|wsq<|wtr<|Qaq ?_
  refine thn<|wsq<|Qar ?_
  refine wx tbk [(1,rp [(.tmp 5,Q47),(.tmp 6,I 1)] (.ref 1 4 0 1))] ⟨Qg9 rfl underlying269 Qs5 (by decide) (by decide) (nle rfl) (by decide) rfl,tv⟩ ?_
  obtain⟨x6,hf5,h⟩:=bno h
  refine wy1 tbk [(0,⟨_,_,_,_,false⟩),(2,rp [(.tmp 10,Qv6),(.tmp 11,I 1)] (.ref 0 4 0 1)),(3,rb [(.tmp 12,.ref 0 4 0 1)] [(0,(Q9v p1 p0 p2 p3 p4))] (.ref 0 4 0 1)),(6,rb [(.tmp 15,.ref 1 4 0 1)] [(1,(Q20 p0))] (.ref 1 4 0 1)),(9,rb [(.tmp 12,.ref 0 4 0 1)] [(0,(Q9v p1 p0 p2 p3 p4))] (.ref 0 4 0 1))] ⟨acq [.ref 0 4 0 0] [(Q9v p1 p0 p2 p3 p4)] [(Q9v p1 p0 p2 p3 p4),Q9w] Qv6 [0,4] Qpc (Qdk N (w64 (p1+p0.Mass)) p2 p3 p4 _ hf5) (Qbi (rnc (Qas rfl) rn0)) (slc (Qai (rncc (rncc rn0))) Qao) (slc (Qai (rncc (rncc rn0))) (slc (Qai (rnc (Qa3 rfl) (rnc (Qa3 rfl) (rnc (Qa3 rfl) (rnc (Qa3 rfl) rn0))))) Qao)) (Qbi (rnc (Qa3 rfl) (rnc (Qa3 rfl) (rnc (Qa3 rfl) (rnc (Qa3 rfl) rn0))))),Qg9 rfl underlying269 Qs5 (by decide) (by decide) (nle rfl) (by decide) rfl,Qbd rfl,Qbd rfl,Qbd rfl,tv⟩<|bln<|thn<|wxz1<|thn<|Qt2<|wxz<|wsq<|wtr<|Qaq ?_
  refine thn<|wsq<|Qar ?_
  refine wx tbk [(1,rp [(.tmp 5,Q47),(.tmp 6,I 2)] (.ref 1 4 0 2))] ⟨Qg9 rfl underlying269 Qs5 (by decide) (by decide) (nle rfl) (by decide) rfl,tv⟩ ?_
  obtain⟨x8,hf7,h⟩:=bno h
  refine wy1 tbk [(0,⟨_,_,_,_,false⟩),(2,rp [(.tmp 10,Qv6),(.tmp 11,I 2)] (.ref 0 4 0 2)),(3,rb [(.tmp 12,.ref 0 4 0 2)] [(0,(Q9u p1 p0 p2 p3 p4))] (.ref 0 4 0 2)),(6,rb [(.tmp 15,.ref 1 4 0 2)] [(1,(Q20 p0))] (.ref 1 4 0 2)),(9,rb [(.tmp 12,.ref 0 4 0 2)] [(0,(Q9u p1 p0 p2 p3 p4))] (.ref 0 4 0 2))] ⟨acq [.ref 0 4 0 0] [(Q9u p1 p0 p2 p3 p4)] [(Q9u p1 p0 p2 p3 p4),Q9w] Qv6 [0,5] Qpc (Qdk N (w64 (p1+p0.Mass)) (w64 (p2+p0.Heat)) p3 p4 _ hf7) (Qbi (rnc (Qas rfl) rn0)) (slc (Qai (rncc (rncc rn0))) Qao) (slc (Qai (rncc (rncc rn0))) (slc (Qai (rnc (Qa3 rfl) (rnc (Qa3 rfl) (rnc (Qa3 rfl) (rnc (Qa3 rfl) rn0))))) Qao)) (Qbi (rnc (Qa3 rfl) (rnc (Qa3 rfl) (rnc (Qa3 rfl) (rnc (Qa3 rfl) rn0))))),Qg9 rfl underlying269 Qs5 (by decide) (by decide) (nle rfl) (by decide) rfl,Qbd rfl,Qbd rfl,Qbd rfl,tv⟩<|bln<|thn<|wxz1<|thn<|Qt2<|wxz<|wsq<|wtr<|Qaq ?_
  refine thn<|wsq<|Qar ?_
  refine wx tbk [(1,rp [(.tmp 5,Q47),(.tmp 6,I 3)] (.ref 1 4 0 3))] ⟨Qg9 rfl underlying269 Qs5 (by decide) (by decide) (nle rfl) (by decide) rfl,tv⟩ ?_
  obtain⟨x10,hf9,h⟩:=bno h
  refine wy1 tbk [(0,⟨_,_,_,_,false⟩),(2,rp [(.tmp 10,Qv6),(.tmp 11,I 3)] (.ref 0 4 0 3)),(3,rb [(.tmp 12,.ref 0 4 0 3)] [(0,(Q9t p1 p0 p2 p3 p4))] (.ref 0 4 0 3)),(6,rb [(.tmp 15,.ref 1 4 0 3)] [(1,(Q20 p0))] (.ref 1 4 0 3)),(9,rb [(.tmp 12,.ref 0 4 0 3)] [(0,(Q9t p1 p0 p2 p3 p4))] (.ref 0 4 0 3))] ⟨acq [.ref 0 4 0 0] [(Q9t p1 p0 p2 p3 p4)] [(Q9t p1 p0 p2 p3 p4),Q9w] Qv6 [0,6] Qpc (Qdk N (w64 (p1+p0.Mass)) (w64 (p2+p0.Heat)) (w64 (p3+p0.Silica)) p4 _ hf9) (Qbi (rnc (Qas rfl) rn0)) (slc (Qai (rncc (rncc rn0))) Qao) (slc (Qai (rncc (rncc rn0))) (slc (Qai (rnc (Qa3 rfl) (rnc (Qa3 rfl) (rnc (Qa3 rfl) (rnc (Qa3 rfl) rn0))))) Qao)) (Qbi (rnc (Qa3 rfl) (rnc (Qa3 rfl) (rnc (Qa3 rfl) (rnc (Qa3 rfl) rn0))))),Qg9 rfl underlying269 Qs5 (by decide) (by decide) (nle rfl) (by decide) rfl,Qbd rfl,Qbd rfl,Qbd rfl,tv⟩<|bln<|thn<|wxz1<|thn<|Qt2<|wxz<|wsq<|wfa<|Qbl ?_
  refine Qaz<|Qaz<|Qbk rfl ?_
  obtain rfl:=osi h
  exact⟨_,(mto (n:=21) (l':=[]) (own':=[(Q48 p1 p0 p2 p3 p4)]) [] [0] [(Q48 p1 p0 p2 p3 p4)] hq pn (qb (lcc (lcc ln)) qn)),fio [] tv⟩
def Qe0 (N:Nat) (p0:List Qaa) (k5:Int×Int×Int×Int→Option Qaa):Nat→Int→Int→Int→Int→Int→Option Qaa
  |0,_,_,_,_,_=>none
  |n16+1,y6,y7,y8,y9,y10=>
    bif (decide (y6<(p0.length:Int))) then
     (getI p0 y6).bind fun x18=>
     (Qiu N x18 y7 y8 y9 y10).bind fun _=>
     Qe0 N p0 k5 n16 (w64 (y6+1)) (w64 (y7+x18.Mass)) (w64 (y8+x18.Heat)) (w64 (y9+x18.Silica)) (w64 (y10+x18.Gas))
    else
     k5 (y7,y8,y9,y10)
def Qjx (N:Nat) (p0:List Qaa):Option Qaa:=
  Qcf (fun ⟨y1,y2,y3,y4⟩=>
    some (⟨y1,y2,y3,y4⟩:Qaa)) fun k5:Int×Int×Int×Int→Option Qaa=>
  Qe0 N p0 k5 N 0 0 0 0 0
def Q5a:AV:=.fn (.func 178) [] [(.ref 0 4 (0) 0)]
def Q9x (p0:List Qaa):AV:=.dat 4 (p0.map Qac)
def Zh0:Slot:=.own 4 [[(I (0)),(I (0)),(I (0)),(I (0))]]
def Q49 (y7 y8:Int) (y9 y10:Int):Slot:=.own 4 [[(I y7),(I y8),(I y9),(I y10)]]
def Zhz (x18:Qaa):AV:=.agg [(I x18.Mass),(I x18.Heat),(I x18.Silica),(I x18.Gas)]
def Zc8 (y7:Int) (x18:Qaa) (y8 y9 y10:Int):Slot:=.own 4 [[(I (w64 (y7+x18.Mass))),(I (w64 (y8+x18.Heat))),(I (w64 (y9+x18.Silica))),(I (w64 (y10+x18.Gas)))]]
theorem Qum (N:Nat) (p0:List Qaa) (r:Qaa) (h:Qjx N p0=some r):Spec prog 173 [(.dat 4 (p0.map Qac))] [] (.agg (Qac r)) []:=by
  refine sA func173 0 fun _ _ _ hq hd0=>?_
  unfold Qjx at h
  refine wxz<|wx tbk [(0,rp [(.tmp 2,.ref 0 4 0 0)] Q5a)] ⟨Qed (fs:=[]) (cs:=[.ref 0 4 0 0]) rfl rfl rfl rfl,tv⟩ ?_
  obtain⟨k5,hk_k5,h⟩:=jko h
  refine wjn (τ:=Int×Int×Int×Int) (fun t=>k5 t=some r) (fun ⟨y1,y2,y3,y4⟩=>⟨mk 18 [(2,.ref 0 4 0 0)],[(.own 4 [[I y1,I y2,I y3,I y4]])]⟩) (fun t h=>?_) ?_
  ·subst hk_k5
   obtain⟨y1,y2,y3,y4⟩:=t
   refine wxz<|Qaf ?_
   obtain rfl:=osi h
   exact fie [(.agg [I y1,I y2,I y3,I y4])] ⟨Qb7 (n:=0) (m:=4) (j:=0) (i:=0) (xs:=[[I y1,I y2,I y3,I y4]]) (by kernel_rfl) (by kernel_rfl) ti49 (by decide) rfl (nle rfl) rfl,tv⟩
  ·skip
   refine wx tbk [(1,rp _ _)] ⟨alq 4 Qac p0 underlying51,tv⟩<|Qar ?_
   refine wmr (mto (n:=18) (l':=[(2,.ref 0 4 0 0),(3,Q5a),(7,(Q9x p0)),(8,(I ((p0.length:Int)))),(9,I 0)]) (own':=[Zh0]) [(2,.ref 0 4 0 0),(3,Q5a),(7,(Q9x p0)),(8,(I ((p0.length:Int)))),(9,I 0)] [0] [Zh0] hq (prr (pc (.rn (Qa4 rn0 (rnc (rqr rfl) rn0))) (pc (rnd Qak) (pw (pw pn))))) (qb (lcc (lcc ln)) qn)) ?_
   refine Qcn (τ:=Int×Int×Int×Int×Int) (fun n t=>Qe0 N p0 k5 n t.1 t.2.1 t.2.2.1 t.2.2.2.1 t.2.2.2.2=some r) (fun ⟨y6,y7,y8,y9,y10⟩=>⟨mk 18 [(2,.ref 0 4 0 0),(3,Q5a),(7,(Q9x p0)),(8,(I ((p0.length:Int)))),(9,I y6)],[(Q49 y7 y8 y9 y10)]⟩) (fun t h=>by rw[Qe0] at h;cases h) (fun n16 ih t h=>?_) N (0,0,0,0,0) h
   obtain⟨y6,y7,y8,y9,y10⟩:=t
   rw[Qe0] at h
   skip
   refine wxz<|wsq ?_
   refine bfe h (fun hc17 h=>?_) fun hc17 h=>?_
   ·refine wft hc17<|Qaq<|thn<|wsq<|Qar ?_
    obtain⟨x18,hg19,h⟩:=bno h
    obtain⟨hi20,hj21⟩:=gsm hg19
    refine wx tbk [(0,rp _ _)] ⟨aiq underlying51 ti49 Qac hi20 hj21,tv⟩ ?_
    obtain⟨x23,hf22,h⟩:=bno h
    refine wx1 tbk [(2,⟨_,_,_,_,false⟩)] ⟨Qct (first:=[]) (cap:=[.ref 0 4 0 0]) (vs:=[(Zhz x18)]) (σr:=[(Q49 y7 y8 y9 y10)]) (σr':=[(Zc8 y7 x18 y8 y9 y10)]) (res':=(.tup [])) [0] rfl Zbb (Qpw N x18 y7 y8 y9 y10 _ hf22) rfl (Qbi (rnc (.plain _ (NLt.agg _ (nlcc (nlcc nl0)))) (rnc (Qas rfl) rn0))) (slc (Qai (rncc (rncc rn0))) Qao) (slc (Qai (rncc (rncc rn0))) Qao) (.plain _ (NLt.tup _ nl0)) rfl rfl rfl,tv⟩<|bln<|thn<|wxz1<|thn ?_
    exact arm (mto (n:=18) [(2,.ref 0 4 0 0),(3,Q5a),(7,(Q9x p0)),(8,(I ((p0.length:Int)))),(9,(I (w64 (y6+1))))] [0] [(Zc8 y7 x18 y8 y9 y10)] hq (prr (pc (.rn (Qa4 rn0 (rnc (rqr rfl) rn0))) (pc (rnd Qak) (pw (pw pn))))) (qb (lcc (lcc ln)) qn)) (ih (w64 (y6+1),w64 (y7+x18.Mass),w64 (y8+x18.Heat),w64 (y9+x18.Silica),w64 (y10+x18.Gas)) h)
   ·exact wfn hc17<|Qbl<|Qaz<|Qaz<|Qbk rfl<|thn<|⟨(y7,y8,y9,y10),h,(mto (n:=18) [(2,.ref 0 4 0 0)] [0] [(Q49 y7 y8 y9 y10)] hq (prr pn) (qb (lcc (lcc ln)) qn))⟩
def Qd3 (N:Nat) (p0:Qaa) (k3:(List Qaa)→Option ((List Qaa)×Qmm×Int)) (x7:List Int):Nat→(List Qaa)→Int→Option ((List Qaa)×Qmm×Int)
  |0,_,_=>none
  |n12+1,y8,y9=>
    bif (decide (y9<(x7.length:Int))) then
     (getI x7 y9).bind fun x14=>
     (Qe1 N p0.Heat x14 p0.Mass p0.Heat p0.Silica p0.Gas).bind fun x19=>
     (Qe1 N p0.Silica x14 p0.Mass p0.Heat p0.Silica p0.Gas).bind fun x21=>
     (Qe1 N p0.Gas x14 p0.Mass p0.Heat p0.Silica p0.Gas).bind fun x23=>
     chk (decide ((y8.length+([(⟨x14,x19,x21,x23⟩:Qaa)]).length)*32≤140737488355328))<|
     Qd3 N p0 k3 x7 n12 (y8++([(⟨x14,x19,x21,x23⟩:Qaa)])) (w64 (y9+1))
    else
     k3 (y8)
def Qi3 (N:Nat) (p0:Qaa) (p1:List Int):Option ((List Qaa)×Qmm×Int):=
  Qcf (fun _=>
    Qcf (fun y2=>
      (Qjx N y2).bind fun x5=>
      some (y2,(⟨w64 (p0.Heat-x5.Heat),w64 (p0.Silica-x5.Silica),w64 (p0.Gas-x5.Gas)⟩:Qmm),0)) fun k3:(List Qaa)→Option ((List Qaa)×Qmm×Int)=>
    (Qh2 N p0.Mass p1).bind fun x7=>
    Qd3 N p0 k3 x7 N ([]) 0) fun k1:Unit→Option ((List Qaa)×Qmm×Int)=>
  (Qde N p0).bind fun x26=>
  bif (!x26) then
   some ([],(⟨0,0,0⟩:Qmm),1)
  else
   bif (decide ((p1.length:Int)>20)) then
    some ([],(⟨0,0,0⟩:Qmm),1)
   else
    (Qgp N p1).bind fun x30=>
    bif (!x30) then
     some ([],(⟨0,0,0⟩:Qmm),1)
    else
     (Qcd N p1).bind fun x33=>
     bif (!x33) then
      some ([],(⟨0,0,0⟩:Qmm),1)
     else
      k1 ()
def Qrf (p0:Qaa):Slot:=.own 4 [[(I p0.Mass),(I p0.Heat),(I p0.Silica),(I p0.Gas)]]
def Qv8:Slot:=.own 3 [[(I (0)),(I (0)),(I (0))]]
def Zh7 (p0 x5:Qaa):AV:=.agg [(I (w64 (p0.Heat-x5.Heat))),(I (w64 (p0.Silica-x5.Silica))),(I (w64 (p0.Gas-x5.Gas)))]
def Q92:AV:=.fn (.func 172) [] [(.ref 3 1 (0) 0),(.ref 0 4 (0) 0)]
def Q5f (x14:Int) (p0:Qaa):AV:=.fn (.func 172) [] [(.dptr [(I x14)] 0),(.dptr [(I p0.Mass),(I p0.Heat),(I p0.Silica),(I p0.Gas)] 0)]
def Zkm (p0:Qaa):AV:=.agg [(I p0.Mass),(I p0.Heat),(I p0.Silica),(I p0.Gas)]
def Q5e (p0:Qaa) (x26:Bool):List (Nat×Rec):=[(1,rp [fu 90,((.tmp 12),(Zkm p0))] (B x26))]
def Q93:AV:=.agg [(I (0)),(I (0)),(I (0))]
def Q0q:AV:=.dat 4 (([]:List Qaa).map Qac)
def Q5d p0 x26 (p1:List Int):=hcat (Q5e p0 x26) [(3,rp [((.tmp 14),(B ((!x26))))] (B false)),(5,rp [((.tmp 15),(B false)),((.tmp 16),(.dat 1 (p1.map Qab)))] (I ((p1.length:Int))))]
def Q5c p0 x26 p1 (x30:Bool):=hcat (Q5d p0 x26 p1) [(8,rp [((.tmp 19),(B ((decide ((p1.length:Int)>20)))))] (B false)),(11,rp [((.tmp 20),(B false)),fu 169,((.tmp 21),(.dat 1 (p1.map Qab))),((.tmp 22),(.fn (.func 168) [] []))] (B x30))]
theorem Qrr (N:Nat) (p0:Qaa) (p1:List Int) (r:((List Qaa)×Qmm×Int)) (h:Qi3 N p0 p1=some r):Spec prog 166 [(.agg (Qac p0)),(.dat 1 (p1.map Qab))] [] (.tup [(.dat 4 (r.1.map Qac)),(.agg (Qzq r.2.1)),(I r.2.2)]) []:=by
  refine sA func166 0 fun _ _ _ hq hd0=>?_
  unfold Qi3 at h
  refine wxz<|wxz ?_
  obtain⟨k1,hk_k1,h⟩:=jko h
  refine wjn (τ:=Unit) (fun t=>k1 t=some r) (fun _=>⟨mk 79 [(1,(.dat 1 (p1.map Qab))),(2,.ref 0 4 0 0),(4,nilS),(5,.ref 1 3 0 0)],[(Qrf p0),Qv8]⟩) (fun t h=>?_) ?_
  ·subst hk_k1
   obtain⟨k3,hk_k3,h⟩:=jko h
   refine wjn (τ:=(List Qaa)) (fun t=>k3 t=some r) (fun y2=>⟨mk 79 [(2,.ref 0 4 0 0),(4,(.acc 1 49 4 (y2.map Qac))),(5,.ref 2 3 0 0)],[(Qrf p0),.tok,Qv8]⟩) (fun y2 h=>?_) ?_
   ·subst hk_k3
    obtain⟨x5,hf4,h⟩:=bno h
    refine wx tbk [(1,rp [fu 173,(.tmp 60,(.acc 1 49 4 (y2.map Qac)))] (.agg [I x5.Mass,I x5.Heat,I x5.Silica,I x5.Gas]))] ⟨awk (rd':=(.func 173,(.fn (.func 173) [] []))::[(.tmp 60,(.dat 4 (y2.map Qac)))]) ⟨rfl,lrf,rfl,Less.acc,tv⟩ (apv Zbe (Qum N y2 _ hf4) (nlc (nld Qak _) nl0) (NLt.agg _ (nlcc (nlcc nl0)))),tv⟩ ?_
    refine wxd tbk [(16,rp _ _)] ⟨Qa8 (vs:=[(I (w64 (p0.Heat-x5.Heat))),(I (w64 (p0.Silica-x5.Silica))),(I (w64 (p0.Gas-x5.Gas)))]) rfl Q6c Q3b rfl (by rfl) rfl,tv⟩<|Qaf ?_
    obtain rfl:=osi h
    exact fie [(.dat 4 (y2.map Qac)),(Zh7 p0 x5),I 0] ⟨Qcs (v:=(.acc 1 49 4 (y2.map Qac))) rot Less.acc,Qb7 (n:=2) (m:=3) (j:=0) (i:=0) (xs:=[[(I (w64 (p0.Heat-x5.Heat))),(I (w64 (p0.Silica-x5.Silica))),(I (w64 (p0.Gas-x5.Gas)))]]) (by kernel_rfl) (by kernel_rfl) Q3d (by decide) rfl (nle rfl) rfl,rot,tv⟩
   ·skip
    obtain⟨x7,hf6,h⟩:=bno h
    refine wx tbk [(3,rp _ _),(4,rp _ _)] ⟨apw Zbf (Qqy N p0.Mass p1 _ hf6),alq 1 Qab x7 underlying29,tv⟩<|Qar ?_
    refine wmr (Mor.trans (Qp8 2 49 4 4 (by kernel_rfl) (by kernel_rfl)) (mto (n:=79) (l':=[(2,.ref 0 4 0 0),(4,(.acc 1 49 4 ((([]):List Qaa).map Qac))),(5,.ref 2 3 0 0),(35,(.dat 1 (x7.map Qab))),(36,(I ((x7.length:Int)))),(37,I 0)]) (own':=[(Qrf p0),.tok,Qv8]) [(2,.ref 0 4 0 0),(4,(.acc 2 49 4 (([]:List Qaa).map Qac))),(5,.ref 1 3 0 0),(35,(.dat 1 (x7.map Qab))),(36,(I ((x7.length:Int)))),(37,I 0)] [0,2,1] [(Qrf p0),.tok,Qv8] hq (prr (pc (.rn (Qe4 rfl (Qdy Qak _))) (prr (pc (rnd Qaj) (pw (pw pn)))))) (qb (lcc (lcc ln)) (qc .tok (qb (lcc (lc rwl ln)) qn))))) ?_
    refine Qcn (τ:=(List Qaa)×Int) (fun n t=>Qd3 N p0 k3 x7 n t.1 t.2=some r) (fun ⟨y8,y9⟩=>⟨mk 79 [(2,.ref 0 4 0 0),(4,(.acc 1 49 4 (y8.map Qac))),(5,.ref 2 3 0 0),(35,(.dat 1 (x7.map Qab))),(36,(I ((x7.length:Int)))),(37,I y9)],[(Qrf p0),.tok,Qv8]⟩) (fun t h=>by rw[Qd3] at h;cases h) (fun n12 ih t h=>?_) N ([],0) h
    obtain⟨y8,y9⟩:=t
    rw[Qd3] at h
    skip
    refine wxz<|wsq ?_
    refine bfe h (fun hc13 h=>?_) fun hc13 h=>?_
    ·refine wft hc13<|Qaq<|thn<|wsq<|Qar ?_
     obtain⟨x14,hg15,h⟩:=bno h
     obtain⟨hi16,hj17⟩:=gsm hg15
     refine wx tbk [(0,rp _ _)] ⟨aiq underlying29 ti3 Qab hi16 hj17,tv⟩ ?_
     refine wx tbk [(0,rp [(.tmp 9,.ref 3 1 0 0),(.tmp 2,.ref 0 4 0 0)] Q92)] ⟨Qed (fs:=[]) (cs:=[.ref 3 1 0 0,.ref 0 4 0 0]) rfl rfl rfl rfl,tv⟩ ?_
     obtain⟨x19,hf18,h⟩:=bno h
     obtain⟨x21,hf20,h⟩:=bno h
     obtain⟨x23,hf22,h⟩:=bno h
     obtain⟨ha24,h⟩:=cko h
     refine wy1 tbk [(5,rb [(.tmp 44,Q92),(.tmp 46,I p0.Heat)] [(3,.own 1 [[I x14]]),(0,(Qrf p0))] (I x19)),(9,rb [(.tmp 48,Q92),(.tmp 50,I p0.Silica)] [(3,.own 1 [[I x14]]),(0,(Qrf p0))] (I x21)),(13,rb [(.tmp 52,Q92),(.tmp 54,I p0.Gas)] [(3,.own 1 [[I x14]]),(0,(Qrf p0))] (I x23)),(14,rp _ _),(15,rp [(.tmp 56,(.agg [I x14,I x19,I x21,I x23]))] (.dat 4 (([(⟨x14,x19,x21,x23⟩:Qaa)]:List Qaa).map Qac))),(16,⟨[(.tmp 42,(.acc 1 49 4 (y8.map Qac))),(.tmp 57,(.dat 4 (([(⟨x14,x19,x21,x23⟩:Qaa)]:List Qaa).map Qac)))],[(1,.tok),(4,.unused)],(.acc 4 49 4 ((y8++([(⟨x14,x19,x21,x23⟩:Qaa)]):List Qaa).map Qac)),[(1,.dead),(4,.tok)],false⟩)] ⟨Qii (rd':=[(.tmp 44,(Q5f x14 p0)),(.tmp 46,I p0.Heat)]) [(3,1,[[I x14]]),(0,4,[[I p0.Mass,I p0.Heat,I p0.Silica,I p0.Gas]])] ⟨rfl,(Zcb tv ⟨(Qpg 0 rfl (lc (.same _) ln)),(Qpg 1 rfl (lc (.same _) (lc (.same _) (lc (.same _) (lc (.same _) ln))))),tv⟩),rfl,.same _,tv⟩ (by rfl) (.lit _) Qru (Qct (first:=[]) (cap:=[(.dptr [I x14] 0),(.dptr [I p0.Mass,I p0.Heat,I p0.Silica,I p0.Gas] 0)]) (vs:=[I p0.Heat]) (σr:=[]) (σr':=[]) (res':=(I x19)) [] rfl Qve (Qhq N p0.Heat x14 p0.Mass p0.Heat p0.Silica p0.Gas _ hf18) rfl (Qbi (rnc (.plain _ nll) (rnc (.plain _ (NLt.dptr _ _ (nlc nll nl0))) (rnc (.plain _ (NLt.dptr _ _ (nlcc (nlcc nl0)))) rn0)))) Qao Qao (.plain _ nll) rfl rfl rfl),Qii (rd':=[(.tmp 48,(Q5f x14 p0)),(.tmp 50,I p0.Silica)]) [(3,1,[[I x14]]),(0,4,[[I p0.Mass,I p0.Heat,I p0.Silica,I p0.Gas]])] ⟨rfl,(Zcb tv ⟨(Qpg 0 rfl (lc (.same _) ln)),(Qpg 1 rfl (lc (.same _) (lc (.same _) (lc (.same _) (lc (.same _) ln))))),tv⟩),rfl,.same _,tv⟩ (by rfl) (.lit _) Qru (Qct (first:=[]) (cap:=[(.dptr [I x14] 0),(.dptr [I p0.Mass,I p0.Heat,I p0.Silica,I p0.Gas] 0)]) (vs:=[I p0.Silica]) (σr:=[]) (σr':=[]) (res':=(I x21)) [] rfl Qve (Qhq N p0.Silica x14 p0.Mass p0.Heat p0.Silica p0.Gas _ hf20) rfl (Qbi (rnc (.plain _ nll) (rnc (.plain _ (NLt.dptr _ _ (nlc nll nl0))) (rnc (.plain _ (NLt.dptr _ _ (nlcc (nlcc nl0)))) rn0)))) Qao Qao (.plain _ nll) rfl rfl rfl),Qii (rd':=[(.tmp 52,(Q5f x14 p0)),(.tmp 54,I p0.Gas)]) [(3,1,[[I x14]]),(0,4,[[I p0.Mass,I p0.Heat,I p0.Silica,I p0.Gas]])] ⟨rfl,(Zcb tv ⟨(Qpg 0 rfl (lc (.same _) ln)),(Qpg 1 rfl (lc (.same _) (lc (.same _) (lc (.same _) (lc (.same _) ln))))),tv⟩),rfl,.same _,tv⟩ (by rfl) (.lit _) Qru (Qct (first:=[]) (cap:=[(.dptr [I x14] 0),(.dptr [I p0.Mass,I p0.Heat,I p0.Silica,I p0.Gas] 0)]) (vs:=[I p0.Gas]) (σr:=[]) (σr':=[]) (res':=(I x23)) [] rfl Qve (Qhq N p0.Gas x14 p0.Mass p0.Heat p0.Silica p0.Gas _ hf22) rfl (Qbi (rnc (.plain _ nll) (rnc (.plain _ (NLt.dptr _ _ (nlc nll nl0))) (rnc (.plain _ (NLt.dptr _ _ (nlcc (nlcc nl0)))) rn0)))) Qao Qao (.plain _ nll) rfl rfl rfl),Qa8 (vs:=[I x14,I x19,I x21,I x23]) rfl ts49 tz49 rfl (by rfl) rfl,Qbp (vs:=[(.agg [I x14,I x19,I x21,I x23])]) rfl underlying51 ti49 tz49 rfl (by decide) rfl (by decide) (by rfl) (by rfl) (by rfl) rfl,Qf4 rfl underlying51 te49 (Base.acc _ _) rfl rfl (by rfl) (Qis Qac ha24) (Qir Qac ha24 (by decide)) (Qiq Qac) rfl rfl,tv⟩<|bln<|thn<|wxz1<|thn ?_
     exact arm (mto (n:=79) [(2,.ref 0 4 0 0),(4,(.acc 4 49 4 ((y8++([(⟨x14,x19,x21,x23⟩:Qaa)]):List Qaa).map Qac))),(5,.ref 2 3 0 0),(35,(.dat 1 (x7.map Qab))),(36,(I ((x7.length:Int)))),(37,(I (w64 (y9+1))))] [0,4,2] [(Qrf p0),.tok,Qv8] hq (prr (pc (.rn (Qe4 rfl (Qdy Qak _))) (prr (pc (rnd Qaj) (pw (pw pn)))))) (qb (lcc (lcc ln)) (qc .tok (qb (lcc (lc rwl ln)) qn)))) (ih (y8++([(⟨x14,x19,x21,x23⟩:Qaa)]),w64 (y9+1)) h)
    ·exact wfn hc13<|Qbl<|Qaz<|Qaz<|Qbk rfl<|thn<|⟨(y8),h,(mto (n:=79) [(2,.ref 0 4 0 0),(4,(.acc 1 49 4 (y8.map Qac))),(5,.ref 2 3 0 0)] [0,1,2] [(Qrf p0),.tok,Qv8] hq (prr (pc (.rn (Qe4 rfl (Qdy Qak _))) (prr pn))) (qb (lcc (lcc ln)) (qc .tok (qb (lcc (lc rwl ln)) qn))))⟩
  ·skip
   obtain⟨x26,hf25,h⟩:=bno h
   refine hpre (A:=(Q5e p0 x26)) ⟨apv Qvb (Qfj N p0 _ hf25) (nlc (NLt.agg _ (nlcc (nlcc nl0))) nl0) nll,tv⟩ fun q1_=>?_
   refine bfe h (fun hb27 h=>?_) fun hb27 h=>?_
   ·refine wx tbk (hcat (Q5e p0 x26) [(3,rp [(.tmp 14,(B ((!x26))))] (B true))]) (hap q1_ ⟨asb hb27 (amv rfl),tv⟩)<|wtr ?_
    refine wx tbk [(0,rp _ _)] ⟨Qa8 (vs:=[]) rfl Q6c Q3b rfl (by rfl) rfl,tv⟩<|Qaf<|Qal ?_
    obtain rfl:=osi h
    exact fie [Q0q,Q93,I 1] ⟨Qcs (v:=nilS) rot Less.nil,Qb7 (n:=1) (m:=3) (j:=0) (i:=0) (xs:=[[I 0,I 0,I 0]]) (by kernel_rfl) (by kernel_rfl) Q3d (by decide) rfl (nle rfl) rfl,rot,tv⟩
   ·refine hpre (A:=(Q5d p0 x26 p1)) (hap q1_ ⟨asb hb27 (amv rfl),ag_ (alq 1 Qab p1 underlying29),tv⟩) fun q2_=>?_
    refine bfe h (fun hb28 h=>?_) fun hb28 h=>?_
    ·refine wx tbk (hcat (Q5d p0 x26 p1) [(8,rp [(.tmp 19,(B ((decide ((p1.length:Int)>20)))))] (B true))]) (hap q2_ ⟨asb hb28 (amv rfl),tv⟩)<|wtr ?_
     refine wx tbk [(0,rp _ _)] ⟨Qa8 (vs:=[]) rfl Q6c Q3b rfl (by rfl) rfl,tv⟩<|Qaf<|Qal ?_
     obtain rfl:=osi h
     exact fie [Q0q,Q93,I 1] ⟨Qcs (v:=nilS) rot Less.nil,Qb7 (n:=1) (m:=3) (j:=0) (i:=0) (xs:=[[I 0,I 0,I 0]]) (by kernel_rfl) (by kernel_rfl) Q3d (by decide) rfl (nle rfl) rfl,rot,tv⟩
    ·obtain⟨x30,hf29,h⟩:=bno h
     refine hpre (A:=(Q5c p0 x26 p1 x30)) (hap q2_ ⟨asb hb28 (amv rfl),ag_ (acq [(.dat 1 (p1.map Qab)),(.fn (.func 168) [] [])] [] [] (B x30) [] Zbh (Qn3 N p1 _ hf29) (Qbi (rnc (pld Qaj) (rnc (.plain _ (NLt.fn _ _ _ nl0 nl0)) rn0))) Qao Qao (.plain _ nll)),tv⟩) fun q3_=>?_
     refine bfe h (fun hb31 h=>?_) fun hb31 h=>?_
     ·refine wx tbk (hcat (Q5c p0 x26 p1 x30) [(14,rp [(.tmp 25,(B ((!x30))))] (B true))]) (hap q3_ ⟨asb hb31 (amv rfl),tv⟩)<|wtr ?_
      refine wx tbk [(0,rp _ _)] ⟨Qa8 (vs:=[]) rfl Q6c Q3b rfl (by rfl) rfl,tv⟩<|Qaf<|Qal ?_
      obtain rfl:=osi h
      exact fie [Q0q,Q93,I 1] ⟨Qcs (v:=nilS) rot Less.nil,Qb7 (n:=1) (m:=3) (j:=0) (i:=0) (xs:=[[I 0,I 0,I 0]]) (by kernel_rfl) (by kernel_rfl) Q3d (by decide) rfl (nle rfl) rfl,rot,tv⟩
     ·obtain⟨x33,hf32,h⟩:=bno h
      refine wx tbk (hcat (Q5c p0 x26 p1 x30) [(14,rp [(.tmp 25,(B ((!x30))))] (B false)),(16,rp [(.tmp 26,B false),fu 117,(.tmp 27,(.dat 1 (p1.map Qab))),fu 170] (B x33))]) (hap q3_ ⟨asb hb31 (amv rfl),ag_ (acq [(.dat 1 (p1.map Qab)),(.fn (.func 170) [] [])] [] [] (B x33) [] Qpe (Qh4 N p1 _ hf32) (Qbi (rnc (pld Qaj) (rnc (.plain _ (NLt.fn _ _ _ nl0 nl0)) rn0))) Qao Qao (.plain _ nll)),tv⟩) ?_
      refine bfe h (fun hc34 h=>?_) fun hc34 h=>?_
      ·refine wft hc34<|wx tbk [(0,rp _ _)] ⟨Qa8 (vs:=[]) rfl Q6c Q3b rfl (by rfl) rfl,tv⟩<|Qaf<|Qal ?_
       obtain rfl:=osi h
       exact fie [Q0q,Q93,I 1] ⟨Qcs (v:=nilS) rot Less.nil,Qb7 (n:=1) (m:=3) (j:=0) (i:=0) (xs:=[[I 0,I 0,I 0]]) (by kernel_rfl) (by kernel_rfl) Q3d (by decide) rfl (nle rfl) rfl,rot,tv⟩
      ·exact wfn hc34<|Qaq<|thn<|⟨(),h,(mto (n:=79) [(1,(.dat 1 (p1.map Qab))),(2,.ref 0 4 0 0),(4,nilS),(5,.ref 1 3 0 0)] [0,1] [(Qrf p0),Qv8] hq (pc (rnd Qaj) (prr (pw (prr pn)))) (qb (lcc (lcc ln)) (qb (lcc (lc rwl ln)) qn)))⟩
end
end Go.Proofs.YtflmombnmnblnaaGreat
