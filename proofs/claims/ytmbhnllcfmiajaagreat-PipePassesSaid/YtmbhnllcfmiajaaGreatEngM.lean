/-
  The engine, part L: the forms that the printed proofs use. Plain definitions and laws; no conditions.
-/
import Derived.Test.YtmbhnllcfmiajaaGreatEngK
namespace Go.Proofs.YtmbhnllcfmiajaaGreat
open Go.RowKit
def w64 (x:Int):Int:=IntKind.i64.wrap x
abbrev I (x:Int):AV:=.lit (.int .i64 x)
abbrev K (k:IntKind) (x:Int):AV:=.lit (.int k x)
abbrev B (b:Bool):AV:=.lit (.bool b)
abbrev nilS:AV:=.lit (.slice none 0 0)
def getI {α:Type} (l:List α) (i:Int):Option α:=if 0≤i then l[i.toNat]? else none
def chk {β:Type} (b:Bool) (k:Option β):Option β:=bif b then k else none
theorem Qxo {α:Type} {l:List α} {i:Int} {x:α} (h:getI l i=some x):0≤i∧l[i.toNat]? = some x:=by
 unfold getI at h
 split at h
 ·exact ⟨by assumption,h⟩
 ·cases h
theorem Zef {α β:Type} {o:Option α} {f:α→Option β} {r:β} (h:o.bind f=some r):∃ x,o=some x∧f x=some r:=Option.bind_eq_some_iff.1 h
theorem Zka {β:Type} {c:Bool} {o:Option β} {r:β} (h:chk c o=some r):c=true∧o=some r:=by
 cases c
 ·cases h
 ·exact ⟨rfl,h⟩
theorem Zjb {α:Type} {l:List α} {i:Nat} {x:α} (c:α→List AV) (h:l[i]? = some x):(l.map c)[i]? = some (c x):=by simp [h]
def mk (n:Nat) (l:List (Nat×AV)):List AV:=l.foldl (fun r p=>r.set p.1 p.2) (List.replicate n .any)
theorem Q82 (n:Nat) (l:List (Nat×AV)):(mk n l).length=n:=by
 unfold mk
 have:∀ (l:List (Nat×AV)) (r:List AV),(l.foldl (fun r p=>r.set p.1 p.2) r).length=r.length:=by
  intro l
  induction l with
  | nil=>intro r; rfl
  | cons p l ih=>intro r; rw [List.foldl_cons,ih]; simp
 rw [this]; simp
def Qvj:List AV→List AV→List AV
 | a::l,b::k=>(bif b.isAny then .any else a)::Qvj l k
 | _,_=>[]
theorem Qtq:∀ {l k:List AV},Qvj l k=k→l.length=k.length→LessL l k
 | [],[],_,_=>trivial
 | a::l,b::k,h,hl=>by
  simp only [Qvj,List.cons.injEq] at h
  refine ⟨?_,Qtq h.2 (by simpa using hl)⟩
  cases b with
  | any=>exact Less.any
  | _=>simp only [AV.isAny,cond_false] at h; rw [h.1]; exact Less.rfl
 | [],_::_,_,hl=>by simp at hl
 | _::_,[],_,hl=>by simp at hl
def PPw (R:AV→AV→Prop):List (Nat×AV)→List (Nat×AV)→Prop
 | [],[]=>True
 | p::l,q::k=>p.1=q.1∧R p.2 q.2∧PPw R l k
 | _,_=>False
theorem Q87 {R:AV→AV→Prop}:∀ {l k:List AV} (t:Nat) {a b:AV},LPw R l k→R a b→LPw R (l.set t a) (k.set t b)
 | [],[],_,_,_,_,_=>trivial
 | _::_,_::_,0,_,_,h,hr=>⟨hr,h.2⟩
 | _::_,_::_,t+1,_,_,h,hr=>⟨h.1,Q87 t h.2 hr⟩
theorem Qxm {R:AV→AV→Prop} (h0:R .any .any) (n:Nat) {l k:List (Nat×AV)} (h:PPw R l k):LPw R (mk n l) (mk n k):=by
 have key:∀ (l k:List (Nat×AV)) (r q:List AV),PPw R l k→LPw R r q→LPw R (l.foldl (fun r p=>r.set p.1 p.2) r) (k.foldl (fun r p=>r.set p.1 p.2) q):=by
  intro l
  induction l with
  | nil=>intro k r q hp hr; cases k with | nil=>exact hr | cons=>exact hp.elim
  | cons p l ih=>
   intro k r q hp hr
   cases k with
   | nil=>exact hp.elim
   | cons p' k=>
    obtain ⟨h1,h2,h3⟩:=hp
    rw [List.foldl_cons,List.foldl_cons]
    exact ih k _ _ h3 (by rw [h1]; exact Q87 _ hr h2)
 refine key l k _ _ h ?_
 induction n with
 | zero=>exact trivial
 | succ n ih=>rw [List.replicate_succ]; exact ⟨h0,ih⟩
theorem ln {R:AV→AV→Prop}:LPw R [] []:=trivial
theorem lc {R:AV→AV→Prop} {a b:AV} {l k:List AV} (h:R a b) (h':LPw R l k):LPw R (a::l) (b::k):=⟨h,h'⟩
theorem pn {R:AV→AV→Prop}:PPw R [] []:=trivial
theorem pc {R:AV→AV→Prop} {t:Nat} {a b:AV} {l k:List (Nat×AV)} (h:R a b) (h':PPw R l k):PPw R ((t,a)::l) ((t,b)::k):=⟨rfl,h,h'⟩
def QPw (R:AV→AV→Prop):List Slot→List Slot→Prop
 | [],[]=>True
 | s::l,t::k=>SPw R s t∧QPw R l k
 | _,_=>False
theorem qn {R:AV→AV→Prop}:QPw R [] []:=trivial
theorem qc {R:AV→AV→Prop} {a b:Slot} {l k:List Slot} (h:SPw R a b) (h':QPw R l k):QPw R (a::l) (b::k):=⟨h,h'⟩
theorem QPw.spec {R:AV→AV→Prop}:∀ {l k:List Slot},QPw R l k→l.length=k.length∧∀ (i:Nat) s t,l[i]? = some s→k[i]? = some t→SPw R s t
 | [],[],_=>⟨rfl,by simp⟩
 | _::_,_::_,h=>by
  obtain ⟨h1,h2⟩:=QPw.spec h.2
  refine ⟨by simp [h1],fun i s t hs ht=>?_⟩
  cases i with
  | zero=>simp at hs ht; subst hs ht; exact h.1
  | succ i=>exact h2 i s t (by simpa using hs) (by simpa using ht)
def OkR (P:Program) (p:Oper×Rec):Prop:=match p.2.skip with
 | true=>True
 | false=>Qcg P p.1 p.2.rd p.2.bl p.2.r p.2.eff
theorem OkR.step {P:Program} {o:Oper} {c:Rec} (h:OkR P (o,c)) (hs:c.skip=false):Qcg P o c.rd c.bl c.r c.eff:=by
 unfold OkR at h
 simp only [hs] at h
 exact h
def AllOk (P:Program):List (Oper×Rec)→Prop
 | []=>True
 | p::l=>OkR P p∧AllOk P l
theorem AllOk.get {P:Program}:∀ {l:List (Oper×Rec)},AllOk P l→∀ (i:Nat) (o:Oper) (c:Rec),l[i]? = some (o,c)→c.skip=false→Qcg P o c.rd c.bl c.r c.eff
 | _::_,h,0,o,c,hi=>by simp at hi; subst hi; exact h.1.step
 | _::_,h,i+1,o,c,hi=>AllOk.get h.2 i o c (by simpa using hi)
 | [],_,_,_,_,hi=>by simp at hi
abbrev sk (t:Nat) (v:AV):Rec:=⟨[(.tmp t,v)],[],.lit undef,[],true⟩
abbrev mv (t:Nat) (v:AV):Rec:=⟨[(.tmp t,v)],[],v,[],false⟩
abbrev rp (rd:List (Operand×AV)) (r:AV):Rec:=⟨rd,[],r,[],false⟩
abbrev ci (n:Int):Operand×AV:=(.const (.int .i64 n),I n)
abbrev cb (b:Bool):Operand×AV:=(.const (.bool b),B b)
abbrev fu (f:Nat):Operand×AV:=(.func f,.fn (.func f) [] [])
theorem odt {p:Prop} [Decidable p] (h:decide p=true):p:=of_decide_eq_true h
theorem osi {α:Type} {a b:α} (h:some a=some b):a=b:=Option.some.inj h
abbrev rb (rd:List (Operand×AV)) (bl:List (Nat×Slot)) (r:AV):Rec:=⟨rd,bl,r,[],false⟩
section
variable {P : Program} {X : Nat → Nat → Prop} {φ0 : Nat → FSlot} {w0 : World} {ro : Option Nat} {Q : Exit → AS → Prop} {s : AS} {c : Code}
def Met (ops:Array Oper) (recs:List Rec) (s:AS):Prop:=
 (runL (ops.toList.zip recs) s.regs s.own).1=recs.map (fun c=>(c.rd.map (·.2),c.bl.map (·.2)))∧(ops.toList.length==recs.length&&Q2h ops (ops.toList.zip recs) s.regs.length)=true
def after (ops:Array Oper) (recs:List Rec) (s:AS):AS:=⟨(runL (ops.toList.zip recs) s.regs s.own).2.1,(runL (ops.toList.zip recs) s.regs s.own).2.2⟩
theorem Qqq {ops:Array Oper} {recs:List Rec} (hall:AllOk P (ops.toList.zip recs)) (hm:Met ops recs s):Facts none P ops (ops.toList.zip recs) s.regs s.own (after ops recs s).regs (after ops recs s).own:=by
 obtain ⟨h1,h2⟩:=hm
 rw [Bool.and_eq_true] at h2
 obtain ⟨h2,h3⟩:=h2
 have hl:ops.toList.length=recs.length:=by simpa using h2
 refine ⟨by rw [List.map_fst_zip (by omega)],fun i o c hi hs _=>.hard (hall.get i o c hi hs),?_,h3⟩
 have e:(ops.toList.zip recs).map (fun p=>(p.2.rd.map (·.2),p.2.bl.map (·.2)))=recs.map (fun c=>(c.rd.map (·.2),c.bl.map (·.2))):=by
  have:(fun p:Oper×Rec=>(p.2.rd.map (·.2),p.2.bl.map (·.2)))=(fun c:Rec=>(c.rd.map (·.2),c.bl.map (·.2))) ∘ Prod.snd:=rfl
  rw [this,← List.map_map,List.map_snd_zip (by omega)]
 rw [e,← h1]
 rfl
theorem Zkd {id:Nat} {ops:Array Oper} {y:Code} (recs:List Rec) (hall:AllOk P (ops.toList.zip recs)) (h:AWp P X φ0 w0 ro y Q (after ops recs s)) (hm:Met ops recs s:=by exact ⟨by kernel_rfl,by kernel_rfl⟩):AWp P X φ0 w0 ro (.seq (.region id ops false) y) Q s:=Qsd (Qt0 _ (Qqq hall hm) h)
theorem Zei {id:Nat} {ops:Array Oper} {y:Code} (recs:List Rec) (hall:AllOk P (ops.toList.zip recs)) (h:AWp P X φ0 w0 ro y Q (after ops recs s)) (hf:P.follows .mixedOrders=true:=by kernel_rfl) (hm:Met ops recs s:=by exact ⟨by kernel_rfl,by kernel_rfl⟩) (ho:Qfy (ops.toList.zip recs) [] []=true:=by kernel_rfl):AWp P X φ0 w0 ro (.seq (.region id ops true) y) Q s:=Qsd (Qse hf _ (Qqq hall hm) ho h)
theorem Zej {id:Nat} {ops:Array Oper} (recs:List Rec) (hall:AllOk P (ops.toList.zip recs)) (h:Q .normal (after ops recs s)) (hm:Met ops recs s:=by exact ⟨by kernel_rfl,by kernel_rfl⟩):AWp P X φ0 w0 ro (.region id ops false) Q s:=Qt0 _ (Qqq hall hm) h
theorem Zac {id:Nat} {ops:Array Oper} (recs:List Rec) (hall:AllOk P (ops.toList.zip recs)) (h:Q .normal (after ops recs s)) (hf:P.follows .mixedOrders=true:=by kernel_rfl) (hm:Met ops recs s:=by exact ⟨by kernel_rfl,by kernel_rfl⟩) (ho:Qfy (ops.toList.zip recs) [] []=true:=by kernel_rfl):AWp P X φ0 w0 ro (.region id ops true) Q s:=Qse hf _ (Qqq hall hm) ho h
theorem Zel {τ:Type} {x y:Code} (G:τ→Prop) (st:τ→AS) (hrest:∀ t,G t→AWp P X φ0 w0 ro y Q (st t)) (hx:AWp P X φ0 w0 ro x (Qsz (fun s'=>∃ t,G t∧Mor X φ0 w0 s' (st t)) Q) s):AWp P X φ0 w0 ro (.seq x y) Q s:=fun φ a w hs=>
 wpIn_seq (wpIn_mono (hx φ a w hs) fun e a w ⟨φ',s',hs',hq⟩=>by
  cases e with
  | normal=>
   obtain ⟨t,hg,hm⟩:=hq
   obtain ⟨φ'',h1⟩:=hm φ' a w hs'
   exact hrest t hg φ'' a w h1
  | _=>exact ⟨φ',s',hs',hq⟩)
theorem Qn8 {n:Nat} (l:List (Nat×AV)) (hn:s.regs.length=n) (h:Qvj s.regs (mk n l)=mk n l):Mor X φ0 w0 s ⟨mk n l,s.own⟩:=fun φ _ _ hs=>
 ⟨φ,hs.less (Qtq h (by rw [hn,Q82]))⟩
theorem Zma {n:Nat} (l:List (Nat×AV)) (ρ:List Nat) (sel:List Slot) {l':List (Nat×AV)} {own':List Slot} {k0:Nat} (h0:∀ n,k0≤n→φ0 n=.unused) (hr:PPw (RW fun n n'=>ρ[n']? = some n) l l') (ho:QPw (RW fun n n'=>ρ[n']? = some n) sel own')
  (hmask:Qvj s.regs (mk n l)=mk n l:=by kernel_rfl) (hsel:(s.regs.length==n&&decide ρ.Nodup&&((List.range k0).all fun i=>ρ[i]? == some i))=true:=by kernel_rfl) (hs:ρ.map s.slot=sel:=by kernel_rfl):Mor X φ0 w0 s ⟨mk n l',own'⟩:=by
 simp only [Bool.and_eq_true,beq_iff_eq,decide_eq_true_eq] at hsel
 obtain ⟨⟨hn,hnd⟩,hid⟩:=hsel
 obtain ⟨q1,q2⟩:=ho.spec
 refine Mor.trans (Qn8 l hn hmask) (Zi8 ρ hnd h0 (fun i hi=>?_) (Qxm (.any _) n hr) ?_ fun n n' s2 e1 e2=>?_)
 ·have:=List.all_eq_true.1 hid i (by simpa using hi)
  simpa using this
 ·rw [← q1,← hs]; simp
 ·refine q2 n' _ s2 ?_ e2
  rw [← hs,List.getElem?_map,e1]
  rfl
end
end Go.Proofs.YtmbhnllcfmiajaaGreat
namespace Go.Proofs.YtmbhnllcfmiajaaGreat
open Go.RowKit
def Qbp {κ β:Type} (k:κ) (f:κ→Option β):Option β:=f k
theorem Q9c {κ β:Type} {k:κ} {f:κ→Option β} {r:β} (h:Qbp k f=some r):∃ k',k'=k∧f k'=some r:=⟨k,rfl,h⟩
section
variable {P : Program} {X : Nat → Nat → Prop} {φ0 : Nat → FSlot} {w0 : World} {ro : Option Nat} {Q : Exit → AS → Prop} {A : AS → Prop} {s : AS} {i i' : Nat}
theorem Zii (h:A s):Qsz A Q .normal s:=h
theorem Qax (h:Q (.exit i) s):Qsz A Q (.exit i) s:=h
theorem Qag (h:Q .ret s):Qsz A Q .ret s:=h
theorem Zee (h:Q .normal s):Qtx i Q .normal s:=h
theorem Qbh (e:i'=i) (h:Q .normal s):Qtx i Q (.exit i') s:=by simp only [Qtx,e,if_true]; exact h
theorem Qap (h:Q .ret s):Qtx i Q .ret s:=h
theorem Zkf {x y:Code} {o:Operand} {b:Bool} (hb:b=true) (hc:opd s.regs o=.lit (.bool b)) (h:AWp P X φ0 w0 ro x Q s):AWp P X φ0 w0 ro (.cond o x y) Q s:=by subst hb; exact Q25 hc h
theorem Zkg {x y:Code} {o:Operand} {b:Bool} (hb:b=false) (hc:opd s.regs o=.lit (.bool b)) (h:AWp P X φ0 w0 ro y Q s):AWp P X φ0 w0 ro (.cond o x y) Q s:=by subst hb; exact Qx7 hc h
theorem Qrq (n:Nat) (ty:TypeId) (m:Nat) (t:Nat) (h1:s.regs[t]? = some nilS) (h2:s.slot n=.unused):Mor X φ0 w0 s ⟨s.regs.set t (.acc n ty m []),setL s.own n .tok⟩:=
 Q2e n ty m h2 (LPw.set (fun a=>.same a) _ t h1 .nil) (by rw [Qjw,if_pos rfl]) fun k hk=>by
  rw [Qjw,if_neg (fun e=>hk e.symm)]
  exact SPw.refl (fun a=>.same a) _
end
section
variable {P : Program} {o : Oper} {rd rd' : List (Operand × AV)} {bl eff : List (Nat × Slot)} {r : AV}
theorem Qsl {g:Operand×AV} (h:Qcg P o rd bl r eff):Qcg P o (g::rd) bl r eff:=fun X φ a w hr=>h X φ a w fun p hp=>hr p (List.mem_cons_of_mem _ hp)
theorem Zkh {e t:Bool} (hb:e=t) (h:Qcg P o rd bl (B e) eff):Qcg P o rd bl (B t) eff:=hb ▸ h
theorem Qjd {k:IntKind} {e x:Int} (he:some e=some x) (h:Qcg P o rd bl (K k e) eff):Qcg P o rd bl (K k x) eff:=Option.some.inj he ▸ h
theorem Qpm {a b:Int} (h:(a != b)=true):a ≠ b:=by simpa using h
theorem Qei {a b:Bool} (h:(a&&b)=true):a=true∧b=true:=by simpa using h
theorem Q0q {p q r:Prop} [Decidable p] [Decidable q] [Decidable r] (h:(decide p&&decide q&&decide r)=true):p:=by simp at h; exact h.1.1
theorem Q0p {p q r:Prop} [Decidable p] [Decidable q] [Decidable r] (h:(decide p&&decide q&&decide r)=true):q:=by simp at h; exact h.1.2
theorem Zaq {p q r:Prop} [Decidable p] [Decidable q] [Decidable r] (h:(decide p&&decide q&&decide r)=true):r:=by simp at h; exact h.2
theorem Zeo {p q:Prop} [Decidable p] [Decidable q] {α:Type} {l:List α} {hh:Int} (c:α→List AV) (h:(decide p&&decide q&&decide (hh≤(l.length:Int)))=true):hh≤((l.map c).length:Int):=by simp at h; simpa using h.2
theorem Zl1 {α:Type} (c:α→List AV) {e:List α} {l:Int}:((e.map c).drop l.toNat).take (((e.length:Nat):Int).toNat - l.toNat)=(e.drop l.toNat).map c:=by
 rw [← List.map_drop,List.take_of_length_le (by simp)]
theorem Zl0 {α:Type} (c:α→List AV) {e:List α} {hh:Int}:((e.map c).drop (0:Int).toNat).take (hh.toNat - (0:Int).toNat)=(e.take (hh.toNat - 0)).map c:=by
 simp
theorem Qg0 {α:Type} (c:α→List AV) {a b:List α} {n:Nat} (h:decide ((a.length+b.length) * n≤140737488355328)=true):((a.map c).length+(b.map c).length) * n≤140737488355328:=by simpa using h
theorem Qgz {α:Type} (c:α→List AV) {a b:List α} {n:Nat} (h:decide ((a.length+b.length) * n≤140737488355328)=true) (hn:0<n):(a.map c).length+(b.map c).length≤maxLen:=by
 have h1:=of_decide_eq_true h
 have h2:=Nat.le_mul_of_pos_right (a.length+b.length) hn
 simp only [List.length_map,maxLen]
 omega
theorem Q3b {α:Type} (c:α→List AV) {b:List α} {n:Nat} (h:decide ((0+b.length) * n≤140737488355328)=true):(([]:List (List AV)).length+(b.map c).length) * n≤140737488355328:=by simpa using h
theorem Q3a {α:Type} (c:α→List AV) {b:List α} {n:Nat} (h:decide ((0+b.length) * n≤140737488355328)=true) (hn:0<n):([]:List (List AV)).length+(b.map c).length≤maxLen:=by
 have h1:=of_decide_eq_true h
 have h2:=Nat.le_mul_of_pos_right (0+b.length) hn
 simp only [List.length_map,List.length_nil,maxLen]
 omega
theorem Qgy {α:Type} (c:α→List AV) {a b:List α}:a.map c++b.map c=(a++b).map c:=by simp
theorem Ql9 {α:Type} (c:α→List AV) (h:∀ x,(c x).all AV.one=true) (l:List α):((l.map c).all fun y=>y.all AV.one)=true:=by
 induction l with
 | nil=>rfl
 | cons x l ih=>simp only [List.map_cons,List.all_cons,h x,ih,Bool.and_self]
theorem Qtn {k:Nat}:∀ a ∈ ([]:List AV),NLt k a:=by simp
theorem Qlz {k:Nat} {a:AV} {l:List AV} (h:NLt k a) (hl:∀ a ∈ l,NLt k a):∀ b ∈ a::l,NLt k b:=fun b hb=>by
 rcases List.mem_cons.1 hb with rfl | hb
 ·exact h
 ·exact hl b hb
theorem Qbk {k:Nat} {α:Type} {c:α→List AV} (h:∀ x,∀ a ∈ c x,NLt k a) (l:List α):∀ x ∈ l.map c,∀ a ∈ x,NLt k a:=fun x hx=>by
 obtain ⟨y,_,rfl⟩:=List.mem_map.1 hx
 exact h y
theorem Qto {k m:Nat} {α:Type} {c:α→List AV} (h:∀ x,∀ a ∈ c x,NLt k a) (l:List α):NLt k (.dat m (l.map c)):=.dat _ _ (Qbk h l)
theorem Qi2 {k:Nat} {l l':List AV} (h:∀ a ∈ l,NLt k a) (h':∀ a ∈ l',NLt k a):∀ a ∈ l++l',NLt k a:=fun a ha=>by
 rcases List.mem_append.1 ha with ha | ha
 ·exact h a ha
 ·exact h' a ha
theorem Ziy {l l':List AV} (h:l.all AV.one=true) (h':l'.all AV.one=true):(l++l').all AV.one=true:=by simp only [List.all_append,h,h',Bool.and_self]
theorem Q8m {α:Type} (c:α→List AV) {z:α} {zs:List Value} {n:Nat} (hz:c z=zs.map AV.lit):List.replicate n (zs.map AV.lit)=(List.replicate n z).map c:=by simp [hz]
theorem Qgr {α:Type} (c:α→List AV) {e:List α} {x x':α} {i j:Nat} {ys:List AV} (h:Qhf (c x) i ys=c x'):(e.map c).set j (Qhf (c x) i ys)=(e.set j x').map c:=by rw [h,List.map_set]
theorem Q8a {R:AV→AV→Prop} {m:Nat} {x x':List AV} (h:LPw R x x'):SPw R (.own m [x]) (.own m [x']):=.own m _ _ rfl fun j y y' hj hj'=>by
 cases j with
 | zero=>simp at hj hj'; subst hj hj'; exact h
 | succ j=>simp at hj
theorem Zil {M:Nat→Nat→Prop} {m:Nat} {α:Type} {c:α→List AV} {l:List α} (h:∀ x,∀ a ∈ c x,NLt 0 a):SPw (RW M) (.own m (l.map c)) (.own m (l.map c)):=.own m _ _ rfl fun j y y' hj hj'=>by
 rw [hj] at hj'
 cases hj'
 have hy:=Qbk h l y (List.mem_of_getElem? hj)
 clear hj
 induction y with
 | nil=>exact trivial
 | cons a y ih=>exact ⟨.rn (.plain a (hy a (by simp))),ih fun b hb=>hy b (List.mem_cons_of_mem _ hb)⟩
theorem Qbt {M:Nat→Nat→Prop} {l l':List AV} (h:LPw (Rn M) l l'):Rn M (.agg l) (.agg l'):=.agg l l' h.length fun i a a' hi hi'=>by
 obtain ⟨b,hb,hr⟩:=h.get i a' hi'
 rw [hi] at hb; cases hb; exact hr
theorem Zl5 {M:Nat→Nat→Prop} {l l':List AV} (h:LPw (Rn M) l l'):Rn M (.tup l) (.tup l'):=.tup l l' h.length fun i a a' hi hi'=>by
 obtain ⟨b,hb,hr⟩:=h.get i a' hi'
 rw [hi] at hb; cases hb; exact hr
theorem Qbn {M:Nat→Nat→Prop} {f:Fn} {l l' c c':List AV} (h:LPw (Rn M) l l') (h':LPw (Rn M) c c'):Rn M (.fn f l c) (.fn f l' c'):=.fn f l l' c c' h.length h'.length (fun i a a' hi hi'=>by
 obtain ⟨b,hb,hr⟩:=h.get i a' hi'
 rw [hi] at hb; cases hb; exact hr) (fun i a a' hi hi'=>by
 obtain ⟨b,hb,hr⟩:=h'.get i a' hi'
 rw [hi] at hb; cases hb; exact hr)
theorem Q8f {ρ:List Nat} {n n' m j i:Nat} (h:(ρ[n']? == some n)=true):Rn (fun n n'=>ρ[n']? = some n) (.ref n m j i) (.ref n' m j i):=.ref (by simpa using h) _ _ _
theorem Qa5 {ρ:List Nat} {n n' m j i:Nat} (h:(ρ[n']? == some n)=true):Rn (fun n n'=>ρ[n']? = some n) (.own n m j i) (.own n' m j i):=.own (by simpa using h) _ _ _
theorem Qbw {ρ:List Nat} {n n':Nat} {ty:TypeId} {m:Nat} {xs:List (List AV)} (h:(ρ[n']? == some n)=true) (hx:∀ x ∈ xs,∀ a ∈ x,NLt 0 a):Rn (fun n n'=>ρ[n']? = some n) (.acc n ty m xs) (.acc n' ty m xs):=.acc (by simpa using h) _ _ _ hx
theorem rwl {M:Nat→Nat→Prop} {v:Value}:RW M (.lit v) (.lit v):=.rn (.plain _ (.lit v))
theorem nll {k:Nat} {v:Value}:NLt k (.lit v):=.lit v
theorem nle {a b:Nat} (h:Nat.ble a b=true):a≤b:=Nat.le_of_ble_eq_true h
theorem Zio {M:Nat→Nat→Prop}:LPw (Rn M) [] []:=trivial
theorem Qu8 {M:Nat→Nat→Prop} {a a':AV} {l l':List AV} (h:Rn M a a') (hl:LPw (Rn M) l l'):LPw (Rn M) (a::l) (a'::l'):=⟨h,hl⟩
theorem Q47 {α:Type} {c:α→List AV} {l:List α} (h:Qcg P o rd bl (.lit (.int .i64 (((l.map c).length:Nat):Int))) eff):Qcg P o rd bl (I (l.length:Int)) eff:=by simpa using h
def LW:List (Operand×AV)→List (Operand×AV)→Prop
 | [],[]=>True
 | p::l,q::k=>p.1=q.1∧Less p.2 q.2∧LW l k
 | _,_=>False
theorem LW.get:∀ {l k:List (Operand×AV)},LW l k→∀ q ∈ k,∃ p ∈ l,p.1=q.1∧Less p.2 q.2
 | [],[],_,q,hq=>by cases hq
 | p::l,q'::k,h,q,hq=>by
  rcases List.mem_cons.1 hq with rfl | hq
  ·exact ⟨p,by simp,h.1,h.2.1⟩
  ·obtain ⟨p',hp',e⟩:=LW.get h.2.2 q hq
   exact ⟨p',List.mem_cons_of_mem _ hp',e⟩
theorem Q44 (hw:LW rd rd') (h:Qcg P o rd' bl r eff):Qcg P o rd bl r eff:=fun X φ a w hr=>h X φ a w fun q hq=>by
 obtain ⟨p,hp,e1,e2⟩:=hw.get q hq
 rw [← e1]
 exact e2 _ _ _ _ (hr p hp)
theorem Less.acc {n:Nat} {ty:TypeId} {m:Nat} {xs:List (List AV)}:Less (.acc n ty m xs) (.dat m xs):=fun _ _ _ _ h=>by
 cases h with
 | acc _ _ _ _ A len cap g ok hr _ _=>exact .dat m xs A len cap g ok hr
theorem Less.nil {m:Nat}:Less nilS (.dat m []):=fun _ _ _ v h=>by
 have:=Qcf h
 subst this
 exact .dat m [] none 0 0 (fun _ _=>undef) (DatOK.nil m none 0 _ (Nat.zero_le _)) (by simp)
theorem Less.agg {l l':List AV} (h:LPw Less l l'):Less (.agg l) (.agg l'):=fun _ _ _ _ hv=>by
 cases hv with
 | agg _ vs hs hr=>
  refine .agg _ vs (hs.trans h.length) fun i a' hi=>?_
  obtain ⟨b,hb,hlb⟩:=h.get i a' hi
  exact hlb _ _ _ _ (hr i b hb)
theorem Q0h {f:Operand} {xs:Array Operand} {ts:Array TypeId} {g:FuncId} {first cap vs args:List AV} {res:AV} (h:o.op=.call { callee:=.value f,args:=xs,argTypes:=ts }) (hcall:∀ vals w,(callFunc g vals).run P w=.ok (.enter g vals) w) (spec:Spec P g args [] res [])
  (hvl:vs.length=xs.size) (ha:first++vs++cap=args) (hn:∀ a ∈ args,NLt 0 a) (hres:NLt 0 res) (hrd:(f,.fn (.func g) first cap)::xs.toList.zip vs=rd):Qcg P o rd [] res []:=by
 subst ha
 exact Qt6 (σ:=[]) (σr:=[]) (σ':=[]) (σr':=[]) [] List.nodup_nil h hcall spec hvl (.plain _ (.agg _ hn)) rfl (by simp) rfl rfl (Nat.le_refl _) (by simp) (.plain _ hres) rfl rfl hrd
theorem Qc7 {t:TypeId} {n:Nat} (h:(P.info? t).map (·.size)=some n):∃ i,P.info? t=some i∧i.size=n:=by
 cases hi:P.info? t with
 | none=>rw [hi] at h; cases h
 | some i=>rw [hi] at h; exact ⟨i,rfl,by simpa using h⟩
theorem Qu2 {t:TypeId} {m bytes:Nat} (h:(P.info? t).map (fun i=>(i.size,i.bytes,i.zero.map (·.cells.size)))=some (m,bytes,some m)) (hp:0<m):TE P t m bytes:=by
 refine ⟨?_,hp⟩
 cases hi:P.info? t with
 | none=>rw [hi] at h; cases h
 | some i=>
  rw [hi] at h
  simp only [Option.map_some,Option.some.injEq,Prod.mk.injEq] at h
  obtain ⟨h1,h2,h3⟩:=h
  cases hz:i.zero with
  | none=>rw [hz] at h3; cases h3
  | some z=>rw [hz] at h3; exact ⟨i,z,rfl,hz,h1,h2,by simpa using h3⟩
theorem Qhk {t:TypeId} {zs:List Value} (h:((P.info? t).bind (·.zero)).map (·.cells.toList)=some zs):TZ P t zs:=by
 cases hi:P.info? t with
 | none=>rw [hi] at h; cases h
 | some i=>
  cases hz:i.zero with
  | none=>rw [hi] at h; simp [hz] at h
  | some z=>rw [hi] at h; simp only [Option.bind_some,hz,Option.map_some,Option.some.injEq] at h; exact ⟨i,z,hi,hz,h⟩
end
end Go.Proofs.YtmbhnllcfmiajaaGreat
