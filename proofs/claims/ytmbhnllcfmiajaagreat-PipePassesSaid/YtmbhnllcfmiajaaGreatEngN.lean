/-
  The engine, part N: what most operations of a region do is computed, not told: from the state Qje of them and a table of types; only the others are told. No conditions.
-/
import Derived.Test.YtmbhnllcfmiajaaGreatEngW
namespace Go.Proofs.YtmbhnllcfmiajaaGreat
open Go.RowKit
structure Ty where
 g:Bool
 sz:Nat
 z:Option (List Value)
 fl:List (Nat×Bool×Nat)
def FlOk (P:Program):List Field→List (Nat×Bool×Nat)→Prop
 | _,[]=>True
 | f::fs,q::l=>f.offset=q.1∧TI P f.type q.2.1 q.2.2∧FlOk P fs l
 | [],_::_=>False
structure Ty.ok (P:Program) (t:Nat) (v:Ty):Prop where
 ti:TI P t v.g v.sz
 z:match v.z with | some zs=>TZ P t zs | none=>True
 fl:v.fl=[]∨∃ fs:Array Field,P.underlying t=some (.struct fs)∧FlOk P fs.toList v.fl
inductive Tab where
 | nil
 | node (k:Nat) (v:Ty) (l r:Tab)
def Tab.get:Tab→Nat→Option Ty
 | .nil,_=>none
 | .node k v l r,t=>bif Nat.beq t k then some v else bif Nat.blt t k then l.get t else r.get t
def Tab.ok (P:Program):Tab→Prop
 | .nil=>True
 | .node k v l r=>Ty.ok P k v∧l.ok P∧r.ok P
theorem Tab.ok.get {P:Program}:∀ {T:Tab},T.ok P→∀ {t:Nat} {v:Ty},T.get t=some v→Ty.ok P t v
 | .nil,_,_,_,h=>by cases h
 | .node k v l r,hT,t,u,h=>by
  rw [Tab.get] at h
  cases h1:Nat.beq t k with
  | true=>
   rw [h1] at h
   cases h
   rw [Nat.eq_of_beq_eq_true h1]
   exact hT.1
  | false=>
   rw [h1,cond_false] at h
   cases h2:Nat.blt t k with
   | true=>rw [h2] at h; exact Tab.ok.get hT.2.1 h
   | false=>rw [h2] at h; exact Tab.ok.get hT.2.2 h
theorem FlOk.get {P:Program}:∀ {fs:List Field} {l:List (Nat×Bool×Nat)},FlOk P fs l→∀ (f:Nat) {q:Nat×Bool×Nat},l[f]? = some q→∃ fl,fs[f]? = some fl∧fl.offset=q.1∧TI P fl.type q.2.1 q.2.2
 | _,[],_,_,_,h=>by simp at h
 | f::fs,q0::l,hF,0,q,h=>by simp at h; subst h; exact ⟨f,rfl,hF.1,hF.2.1⟩
 | f::fs,q0::l,hF,i+1,q,h=>by
  obtain ⟨fl,h1,h2⟩:=FlOk.get hF.2.2 i (by simpa using h)
  exact ⟨fl,by simpa using h1,h2⟩
 | [],_::_,hF,_,_,_=>hF.elim
abbrev AuR:Type:=List Operand×List Nat×AV×List (Nat×Slot)
def Zf1 (own:List Slot) (n m j:Nat):Option (List AV):=match own.getD n .unused with
 | .own m' xs=>bif Nat.beq m' m then xs[j]? else none
 | _=>none
def Q29 (ty:Ty) (own:List Slot) (x:Operand):AV→Option AuR
 | .ref n m j i=>match Zf1 own n m j with
  | some c=>bif Nat.ble (i+ty.sz) c.length&&(ty.g||Nat.beq ty.sz 1) then some ([x],[n],ldA ty.g ty.sz i c,[]) else none
  | none=>none
 | .dptr c i=>bif Nat.ble (i+ty.sz) c.length&&(ty.g||Nat.beq ty.sz 1) then some ([x],[],ldA ty.g ty.sz i c,[]) else none
 | _=>none
def Q0d (ty:Ty) (own:List Slot) (x y:Operand) (v:AV):AV→Option AuR
 | .ref n m j i=>match own.getD n .unused with
  | .own m' xs=>bif Nat.beq m' m then (match xs[j]? with
   | some c=>bif Nat.beq ty.sz (stA v).length&&((stA v).all AV.one&&Nat.ble (i+(stA v).length) c.length) then some ([x,y],[n],.any,[(n,.own m (xs.set j (Qhf c i (stA v))))]) else none
   | none=>none) else none
  | _=>none
 | _=>none
def Qv1 (q:Nat×Bool×Nat) (own:List Slot) (x:Operand):AV→Option AuR
 | .ref n m j i=>match own.getD n .unused with
  | .own m' _=>bif Nat.beq m' m then some ([x],[n],.ref n m j (i+q.1),[]) else none
  | _=>none
 | .dptr c i=>some ([x],[],.dptr c (i+q.1),[])
 | _=>none
def Zmk (op:BinOp) (x y:Operand):AV→AV→Option AuR
 | .lit (.int k a),.lit (.int k' b)=>if k=k' then (match binI op k a b with | some v=>some ([x,y],[],.lit v,[]) | none=>none) else none
 | _,_=>none
def Zmi (x:Operand):AV→Option AuR
 | .lit (.bool b)=>some ([x],[],.lit (.bool !b),[])
 | _=>none
def Zmj (x:Operand):AV→Option AuR
 | .lit (.int k a)=>some ([x],[],.lit (.int k (k.wrap (0 - a))),[])
 | _=>none
def Zmh (c x y:Operand) (u v:AV):AV→Option AuR
 | .lit (.bool b)=>some ([c,x,y],[],bif b then u else v,[])
 | _=>none
def Qx8 (x:Operand) (i:Nat):AV→Option AuR
 | .tup l=>match l[i]? with | some r=>some ([x],[],r,[]) | none=>none
 | _=>none
def Q0e (q:Nat×Bool×Nat) (x:Operand):AV→Option AuR
 | .agg l=>bif Nat.ble (q.1+q.2.2) l.length&&(q.2.1||Nat.beq q.2.2 1) then some ([x],[],ldA q.2.1 q.2.2 q.1 l,[]) else none
 | _=>none
def au (T:Tab) (op:Op) (v:Operand→AV) (own:List Slot):Option AuR:=match op with
 | .move x=>some ([x],[],v x,[])
 | .assign x=>some ([x],[],v x,[])
 | .pick c x y=>Zmh c x y (v x) (v y) (v c)
 | .binOp op _ x y _=>Zmk op x y (v x) (v y)
 | .unOp .not _ x=>Zmi x (v x)
 | .unOp .neg _ x=>Zmj x (v x)
 | .extract x i=>Qx8 x i (v x)
 | .field t x f=>match (T.get t).bind (·.fl[f]?) with | some q=>Q0e q x (v x) | none=>none
 | .fieldAddr t x f=>match (T.get t).bind (·.fl[f]?) with | some q=>bif Nat.beq q.2.2 0 then none else Qv1 q own x (v x) | none=>none
 | .load t x=>match T.get t with | some ty=>Q29 ty own x (v x) | none=>none
 | .store t x y=>match T.get t with | some ty=>Q0d ty own x y (v y) (v x) | none=>none
 | .alloc t=>match (T.get t).bind (·.z) with | some zs=>some ([],[own.length],.ref own.length zs.length 0 0,[(own.length,.own zs.length [zs.map AV.lit])]) | none=>none
 | .box _ x=>bif (stA (v x)).all AV.one then some ([x],[own.length],.ref own.length (stA (v x)).length 0 0,[(own.length,.own (stA (v x)).length [stA (v x)])]) else none
 | .nilCheck x=>bif Q8x (v x) then some ([x],[],v x,[]) else none
 | _=>none
section
variable {P : Program} {T : Tab} {o : Oper} {v : Operand → AV} {own : List Slot} {q : AuR}
abbrev AuOK (P:Program) (o:Oper) (v:Operand→AV) (own:List Slot) (q:AuR):Prop:=Qcg P o (q.1.map fun x=>(x,v x)) (q.2.1.map fun n=>(n,own.getD n .unused)) q.2.2.1 q.2.2.2
theorem Zap {a b:Bool} (h:(a&&b)=true):a=true∧b=true:=by simpa using h
theorem or_g {g:Bool} {n:Nat} (h:(g||Nat.beq n 1)=true):g=false→n=1:=fun e=>by subst e; exact Nat.eq_of_beq_eq_true h
theorem Zaf {t:TypeId} {ty:Ty} {x:Operand} (ho:o.op=.load t x) (ht:TI P t ty.g ty.sz) (h:Q29 ty own x (v x)=some q):AuOK P o v own q:=by
 cases hv:v x with
 | ref n m j i=>
  rw [hv] at h
  unfold Q29 Zf1 at h
  dsimp only at h
  cases hs:own.getD n .unused with
  | own m' xs=>
   rw [hs] at h
   dsimp only at h
   cases hm:Nat.beq m' m with
   | false=>rw [hm] at h; cases h
   | true=>
    rw [hm,cond_true] at h
    have hm':=Nat.eq_of_beq_eq_true hm
    subst hm'
    cases hc:xs[j]? with
    | none=>rw [hc] at h; cases h
    | some c=>
     rw [hc] at h
     dsimp only at h
     cases hb:Nat.ble (i+ty.sz) c.length&&(ty.g||Nat.beq ty.sz 1) with
     | false=>rw [hb] at h; cases h
     | true=>
      rw [hb] at h
      cases h
      obtain ⟨h1,h2⟩:=Zap hb
      have:=Qt5 (P:=P) (n:=n) (m:=m') ho ht (or_g h2) hc (Nat.le_of_ble_eq_true h1) rfl
      simpa only [AuOK,List.map_cons,List.map_nil,hv,hs] using this
  | _=>rw [hs] at h; cases h
 | dptr c i=>
  rw [hv] at h
  unfold Q29 at h
  dsimp only at h
  cases hb:Nat.ble (i+ty.sz) c.length&&(ty.g||Nat.beq ty.sz 1) with
  | false=>rw [hb] at h; cases h
  | true=>
   rw [hb] at h
   cases h
   obtain ⟨h1,h2⟩:=Zap hb
   have:=Qsk (P:=P) ho ht (or_g h2) (Nat.le_of_ble_eq_true h1) rfl
   simpa only [AuOK,List.map_cons,List.map_nil,hv] using this
 | _=>rw [hv] at h; cases h
theorem Q41 {t:TypeId} {ty:Ty} {x y:Operand} (ho:o.op=.store t x y) (ht:TI P t ty.g ty.sz) (h:Q0d ty own x y (v y) (v x)=some q):AuOK P o v own q:=by
 cases hv:v x with
 | ref n m j i=>
  rw [hv] at h
  unfold Q0d at h
  dsimp only at h
  cases hs:own.getD n .unused with
  | own m' xs=>
   rw [hs] at h
   dsimp only at h
   cases hm:Nat.beq m' m with
   | false=>rw [hm] at h; cases h
   | true=>
    rw [hm,cond_true] at h
    have hm':=Nat.eq_of_beq_eq_true hm
    subst hm'
    cases hc:xs[j]? with
    | none=>rw [hc] at h; cases h
    | some c=>
     rw [hc] at h
     dsimp only at h
     cases hb:Nat.beq ty.sz (stA (v y)).length&&((stA (v y)).all AV.one&&Nat.ble (i+(stA (v y)).length) c.length) with
     | false=>rw [hb] at h; cases h
     | true=>
      rw [hb] at h
      cases h
      obtain ⟨h1,h2⟩:=Zap hb
      obtain ⟨h2,h3⟩:=Zap h2
      have h1':=Nat.eq_of_beq_eq_true h1
      rw [h1'] at ht
      have:=Qsg (P:=P) (n:=n) (m:=m') ho ht h2 hc (Nat.le_of_ble_eq_true h3) rfl
      simpa only [AuOK,List.map_cons,List.map_nil,hv,hs] using this
  | _=>rw [hs] at h; cases h
 | _=>rw [hv] at h; cases h
theorem Zmc (hT:T.ok P) {t:TypeId} {f:Nat} {a:Nat×Bool×Nat} (h:(T.get t).bind (·.fl[f]?)=some a):∃ fs:Array Field,P.underlying t=some (.struct fs)∧∃ fl,fs[f]? = some fl∧fl.offset=a.1∧TI P fl.type a.2.1 a.2.2:=by
 cases hg:T.get t with
 | none=>rw [hg] at h; cases h
 | some ty=>
  rw [hg] at h
  have h':ty.fl[f]? = some a:=h
  rcases (Tab.ok.get hT hg).fl with e | ⟨fs,h1,h2⟩
  ·rw [e] at h'; simp at h'
  ·obtain ⟨fl,h3,h4⟩:=h2.get f h'
   exact ⟨fs,h1,fl,by simpa using h3,h4⟩
theorem Q43 (hT:T.ok P) {t:TypeId} {f:Nat} {a:Nat×Bool×Nat} {x:Operand} (ho:o.op=.fieldAddr t x f) (hq:(T.get t).bind (·.fl[f]?)=some a) (h0:Nat.beq a.2.2 0=false) (h:Qv1 a own x (v x)=some q):AuOK P o v own q:=by
 obtain ⟨fs,h1,fl,h2,h3,h4⟩:=Zmc hT hq
 have hn:a.2.2 ≠ 0:=fun e=>by rw [e] at h0; cases h0
 cases hv:v x with
 | ref n m j i=>
  rw [hv] at h
  unfold Qv1 at h
  dsimp only at h
  cases hs:own.getD n .unused with
  | own m' xs=>
   rw [hs] at h
   dsimp only at h
   cases hm:Nat.beq m' m with
   | false=>rw [hm] at h; cases h
   | true=>
    rw [hm,cond_true] at h
    have hm':=Nat.eq_of_beq_eq_true hm
    subst hm'
    cases h
    have:=Qsm (P:=P) (n:=n) (m:=m') (j:=j) (i:=i) (xs:=xs) ho h1 h2 rfl h4 hn rfl
    rw [h3] at this
    simpa only [AuOK,List.map_cons,List.map_nil,hv,hs] using this
  | _=>rw [hs] at h; cases h
 | dptr c i=>
  rw [hv] at h
  unfold Qv1 at h
  cases h
  have:=Qp0 (P:=P) (c:=c) (i:=i) ho h1 h2 rfl h4 hn rfl
  rw [h3] at this
  simpa only [AuOK,List.map_cons,List.map_nil,hv] using this
 | _=>rw [hv] at h; cases h
theorem Q42 (hT:T.ok P) {t:TypeId} {f:Nat} {a:Nat×Bool×Nat} {x:Operand} (ho:o.op=.field t x f) (hq:(T.get t).bind (·.fl[f]?)=some a) (h:Q0e a x (v x)=some q):AuOK P o v own q:=by
 obtain ⟨fs,h1,fl,h2,h3,h4⟩:=Zmc hT hq
 cases hv:v x with
 | agg l=>
  rw [hv] at h
  unfold Q0e at h
  dsimp only at h
  cases hb:Nat.ble (a.1+a.2.2) l.length&&(a.2.1||Nat.beq a.2.2 1) with
  | false=>rw [hb] at h; cases h
  | true=>
   rw [hb] at h
   cases h
   obtain ⟨b1,b2⟩:=Zap hb
   have:=Q0l (P:=P) (l:=l) ho h1 h2 rfl h4 (by rw [h3]; exact Nat.le_of_ble_eq_true b1) (or_g b2) rfl
   rw [h3] at this
   simpa only [AuOK,List.map_cons,List.map_nil,hv,ldA] using this
 | _=>rw [hv] at h; cases h
theorem Q8u (own:List Slot):own.getD own.length .unused=.unused:=by simp
theorem Znv (hT:T.ok P) (h:au T o.op v own=some q):AuOK P o v own q:=by
 cases ho:o.op with
 | move x=>rw [ho] at h; cases h; exact Qt4 ho
 | assign x=>rw [ho] at h; cases h; exact Qp2 ho
 | pick c x y=>
  rw [ho] at h
  unfold au at h
  dsimp only at h
  cases hc:v c with
  | lit u=>
   rw [hc] at h
   cases u with
   | bool b=>cases h; simpa only [AuOK,List.map_cons,List.map_nil,hc] using Qt2 (P:=P) (u:=v x) (v:=v y) ho rfl
   | _=>cases h
  | _=>rw [hc] at h; cases h
 | binOp op t x y t'=>
  rw [ho] at h
  unfold au Zmk at h
  dsimp only at h
  split at h
  ·next k a k' b hx hy=>
   split at h
   ·next e=>
    subst e
    split at h
    ·next u hu=>
     cases h
     simpa only [AuOK,List.map_cons,List.map_nil,hx,hy] using Zal (P:=P) ho hu
    ·cases h
   ·cases h
  ·cases h
 | unOp op t x=>
  rw [ho] at h
  cases op with
  | not=>
   unfold au Zmi at h
   dsimp only at h
   split at h
   ·next b hx=>cases h; simpa only [AuOK,List.map_cons,List.map_nil,hx] using Qj5 (P:=P) ho
   ·cases h
  | neg=>
   unfold au Zmj at h
   dsimp only at h
   split at h
   ·next k a hx=>cases h; simpa only [AuOK,List.map_cons,List.map_nil,hx] using Zah (P:=P) ho
   ·cases h
  | _=>cases h
 | extract x i=>
  rw [ho] at h
  unfold au Qx8 at h
  dsimp only at h
  split at h
  ·next l hx=>
   split at h
   ·next r hr=>cases h; simpa only [AuOK,List.map_cons,List.map_nil,hx] using Qv3 (P:=P) ho hr
   ·cases h
  ·cases h
 | field t x f=>
  rw [ho] at h
  unfold au at h
  dsimp only at h
  split at h
  ·next a hq=>exact Q42 hT ho hq h
  ·cases h
 | fieldAddr t x f=>
  rw [ho] at h
  unfold au at h
  dsimp only at h
  split at h
  ·next a hq=>
   cases h0:Nat.beq a.2.2 0 with
   | true=>rw [h0] at h; cases h
   | false=>rw [h0] at h; exact Q43 hT ho hq h0 h
  ·cases h
 | load t x=>
  rw [ho] at h
  unfold au at h
  dsimp only at h
  split at h
  ·next ty hq=>exact Zaf ho (Tab.ok.get hT hq).ti h
  ·cases h
 | store t x y=>
  rw [ho] at h
  unfold au at h
  dsimp only at h
  split at h
  ·next ty hq=>exact Q41 ho (Tab.ok.get hT hq).ti h
  ·cases h
 | alloc t=>
  rw [ho] at h
  unfold au at h
  dsimp only at h
  split at h
  ·next zs hq=>
   cases h
   cases hg:T.get t with
   | none=>rw [hg] at hq; cases hq
   | some ty=>
    rw [hg] at hq
    have hz:=(Tab.ok.get hT hg).z
    have hq':ty.z=some zs:=hq
    rw [hq'] at hz
    simpa only [AuOK,List.map_cons,List.map_nil,Q8u] using Q0o (P:=P) (n:=own.length) ho hz rfl
  ·cases h
 | box t x=>
  rw [ho] at h
  unfold au at h
  dsimp only at h
  cases hb:(stA (v x)).all AV.one with
  | false=>rw [hb] at h; cases h
  | true=>
   rw [hb] at h
   cases h
   simpa only [AuOK,List.map_cons,List.map_nil,Q8u] using Zak (P:=P) (n:=own.length) ho hb rfl rfl
 | nilCheck x=>
  rw [ho] at h
  unfold au at h
  dsimp only at h
  cases hb:Q8x (v x) with
  | false=>rw [hb] at h; cases h
  | true=>
   rw [hb] at h
   cases h
   exact Qt3 ho hb
 | _=>rw [ho] at h; cases h
end
def badR:Rec:=⟨[],[],.any,[],true⟩
def toR (g:List (Operand×AV)) (v:Operand→AV) (own:List Slot):Option AuR→Rec
 | some q=>⟨g++q.1.map fun x=>(x,v x),q.2.1.map fun n=>(n,own.getD n .unused),q.2.2.1,q.2.2.2,false⟩
 | none=>badR
def Qkl (T:Tab) (ops:Array Oper) (o:Oper) (regs:List AV) (own:List Slot):Rec:=match o.guard with
 | none=>toR [] (opd regs) own (au T o.op (opd regs) own)
 | some (j,want)=>match (ops[j]?).bind (·.dst) with
  | some d=>match opd regs (.tmp d) with
   | .lit v=>bif Qsb v==some want then toR [(.tmp d,.lit v)] (opd regs) own (au T o.op (opd regs) own) else ⟨[(.tmp d,.lit v)],[],.lit undef,[],true⟩
   | _=>badR
  | none=>badR
def Qrk:List (Nat×Rec)→Nat→Rec→Rec
 | (k,c)::_,i,d=>bif Nat.beq k i then c else d
 | [],_,d=>d
def Qva:List (Nat×Rec)→Nat→List (Nat×Rec)
 | (k,c)::H,i=>bif Nat.beq k i then H else (k,c)::H
 | [],_=>[]
def atH:List (Nat×Rec)→Nat→Bool
 | (k,_)::_,i=>Nat.beq k i
 | [],_=>false
def comp (T:Tab) (ops:Array Oper):List Oper→Nat→List (Nat×Rec)→List AV→List Slot→List Rec
 | [],_,_,_,_=>[]
 | o::l,i,H,regs,own=>match Qrk H i (Qkl T ops o regs own) with
  | ⟨rd,bl,r,eff,s⟩=>⟨rd,bl,r,eff,s⟩::comp T ops l (i+1) (Qva H i) (putA regs o.dst r) (setE own eff)
def exec (T:Tab) (ops:Array Oper):List Oper→Nat→List (Nat×Rec)→List AV→List Slot→AS
 | [],_,_,regs,own=>⟨regs,own⟩
 | o::l,i,H,regs,own=>match Qrk H i (Qkl T ops o regs own) with
  | ⟨_,_,r,eff,_⟩=>exec T ops l (i+1) (Qva H i) (putA regs o.dst r) (setE own eff)
def Q84 (T:Tab) (ops:Array Oper):List Oper→Nat→List (Nat×Rec)→List AV→List Slot→List (List AV×List Slot)
 | [],_,_,_,_=>[]
 | o::l,i,H,regs,own=>match Qrk H i (Qkl T ops o regs own) with
  | ⟨rd,bl,r,eff,_⟩=>bif atH H i
   then (rd.map (fun p=>opd regs p.1),bl.map (fun p=>own.getD p.1 .unused))::Q84 T ops l (i+1) (Qva H i) (putA regs o.dst r) (setE own eff)
   else Q84 T ops l (i+1) (Qva H i) (putA regs o.dst r) (setE own eff)
def good (T:Tab) (ops:Array Oper) (n:Nat):List Oper→Nat→List (Nat×Rec)→List AV→List Slot→Bool
 | [],_,H,_,_=>H.isEmpty
 | o::l,i,H,regs,own=>match Qrk H i (Qkl T ops o regs own) with
  | ⟨rd,bl,r,eff,s⟩=>(Qvq ops o ⟨rd,bl,r,eff,s⟩&&(match o.dst with | some d=>decide (d<n) | none=>true)&&(eff.all fun q=>bl.any fun r=>q.1==r.1))&&good T ops n l (i+1) (Qva H i) (putA regs o.dst r) (setE own eff)
def opAt (ops:Array Oper) (k:Nat):Oper:=(ops[k]?).getD default
def HOk (P:Program) (ops:Array Oper):List (Nat×Rec)→Prop
 | []=>True
 | p::H=>OkR P (opAt ops p.1,p.2)∧HOk P ops H
section
variable {P : Program} {T : Tab} {ops : Array Oper}
theorem Q22:∀ (l:List Oper) (i:Nat) (H:List (Nat×Rec)) (regs:List AV) (own:List Slot),(comp T ops l i H regs own).length=l.length
 | [],_,_,_,_=>rfl
 | o::l,i,H,regs,own=>by
  rw [comp]
  cases Qrk H i (Qkl T ops o regs own) with
  | mk rd bl r eff s=>rw [List.length_cons,List.length_cons,Q22 l]
theorem Q2s:∀ (l:List Oper) (i:Nat) (H:List (Nat×Rec)) (regs:List AV) (own:List Slot),exec T ops l i H regs own=⟨(runL (l.zip (comp T ops l i H regs own)) regs own).2.1,(runL (l.zip (comp T ops l i H regs own)) regs own).2.2⟩
 | [],_,_,_,_=>rfl
 | o::l,i,H,regs,own=>by
  rw [exec,comp]
  cases Qrk H i (Qkl T ops o regs own) with
  | mk rd bl r eff s=>exact Q2s l (i+1) _ _ _
theorem Zae (o:Oper) (regs:List AV) (own:List Slot):(Qkl T ops o regs own).rd.map (fun p=>opd regs p.1)=(Qkl T ops o regs own).rd.map (·.2)∧(Qkl T ops o regs own).bl.map (fun p=>own.getD p.1 .unused)=(Qkl T ops o regs own).bl.map (·.2):=by
 have key:∀ (g:List (Operand×AV)) (q:Option AuR),(∀ p ∈ g,opd regs p.1=p.2)→(toR g (opd regs) own q).rd.map (fun p=>opd regs p.1)=(toR g (opd regs) own q).rd.map (·.2)∧(toR g (opd regs) own q).bl.map (fun p=>own.getD p.1 .unused)=(toR g (opd regs) own q).bl.map (·.2):=by
  intro g q hg
  cases q with
  | none=>exact ⟨rfl,rfl⟩
  | some q=>
   refine ⟨?_,by simp [toR,Function.comp_def]⟩
   simp only [toR,List.map_append,List.map_map]
   rw [List.map_congr_left (f:=fun p:Operand×AV=>opd regs p.1) (g:=fun p:Operand×AV=>p.2) hg]
   rfl
 unfold Qkl
 split
 ·exact key [] _ (fun _ h=>by cases h)
 ·split
  ·next d hd=>
   split
   ·next v hv=>
    cases Qsb v==some _ with
    | true=>exact key _ _ (fun p hp=>by rw [List.mem_singleton] at hp; subst hp; exact hv)
    | false=>exact ⟨by simp [hv],rfl⟩
   ·exact ⟨rfl,rfl⟩
  ·exact ⟨rfl,rfl⟩
theorem Q28 (hT:T.ok P) (o:Oper) (regs:List AV) (own:List Slot):OkR P (o,Qkl T ops o regs own):=by
 have key:∀ (g:List (Operand×AV)),g.length≤1→OkR P (o,toR g (opd regs) own (au T o.op (opd regs) own)):=by
  intro g hg
  cases h:au T o.op (opd regs) own with
  | none=>exact trivial
  | some q=>
   have:=Znv hT h
   unfold OkR toR
   dsimp only
   cases g with
   | nil=>exact this
   | cons a g=>cases g with
    | nil=>exact Qsl this
    | cons _ _=>simp at hg
 unfold Qkl
 split
 ·exact key [] (Nat.zero_le _)
 ·split
  ·split
   ·next v _=>
    cases Qsb v==some _ with
    | true=>exact key _ (Nat.le_refl _)
    | false=>exact trivial
   ·exact trivial
  ·exact trivial
theorem HOk.rest {H:List (Nat×Rec)} (h:HOk P ops H) (i:Nat):HOk P ops (Qva H i):=by
 cases H with
 | nil=>exact trivial
 | cons p H=>
  obtain ⟨k,c⟩:=p
  show HOk P ops (bif Nat.beq k i then H else (k,c)::H)
  cases Nat.beq k i with
  | true=>exact h.2
  | false=>exact h
theorem Zit {H:List (Nat×Rec)} (hT:T.ok P) (h:HOk P ops H) {i:Nat} {o:Oper} (ho:ops[i]? = some o) (regs:List AV) (own:List Slot):OkR P (o,Qrk H i (Qkl T ops o regs own)):=by
 cases H with
 | nil=>exact Q28 hT _ _ _
 | cons p H=>
  obtain ⟨k,c⟩:=p
  show OkR P (o,bif Nat.beq k i then c else Qkl T ops o regs own)
  cases e:Nat.beq k i with
  | true=>
   have:=h.1
   unfold opAt at this
   rw [Nat.eq_of_beq_eq_true e,ho] at this
   exact this
  | false=>exact Q28 hT _ _ _
theorem Q92 (hT:T.ok P):∀ (l:List Oper) (i:Nat) (H:List (Nat×Rec)) (regs:List AV) (own:List Slot),HOk P ops H→(∀ k o,l[k]? = some o→ops[i+k]? = some o)→AllOk P (l.zip (comp T ops l i H regs own))
 | [],_,_,_,_,_,_=>trivial
 | o::l,i,H,regs,own,hH,hl=>by
  have h1:=Zit hT hH (hl 0 o rfl) regs own
  have h2:=fun regs' own'=>Q92 hT l (i+1) (Qva H i) regs' own' (hH.rest i) fun k o' h=>by
   have:=hl (k+1) o' (by simpa using h)
   rwa [show i+(k+1)=i+1+k from by omega] at this
  rw [comp]
  cases hp:Qrk H i (Qkl T ops o regs own) with
  | mk rd bl r eff s=>
   rw [Nat.add_zero,hp] at h1
   rw [List.zip_cons_cons,AllOk]
   exact ⟨h1,h2 _ _⟩
theorem Qvv:∀ (l:List Oper) (i:Nat) (H:List (Nat×Rec)) (regs:List AV) (own:List Slot) (n:Nat),good T ops n l i H regs own=true→Q84 T ops l i H regs own=H.map (fun p=>(p.2.rd.map (·.2),p.2.bl.map (·.2))) →
  (runL (l.zip (comp T ops l i H regs own)) regs own).1=(comp T ops l i H regs own).map (fun c=>(c.rd.map (·.2),c.bl.map (·.2)))
 | [],_,_,_,_,_,_,_=>rfl
 | o::l,i,H,regs,own,n,hg,hm=>by
  have h:=Zae (T:=T) (ops:=ops) o regs own
  rw [comp]
  rw [good] at hg
  rw [Q84] at hm
  have hh:(∃ k c H',H=(k,c)::H'∧Nat.beq k i=true)∨(Qrk H i (Qkl T ops o regs own)=Qkl T ops o regs own∧Qva H i=H∧atH H i=false):=by
   cases H with
   | nil=>exact Or.inr ⟨rfl,rfl,rfl⟩
   | cons p H=>
    obtain ⟨k,c⟩:=p
    cases e:Nat.beq k i with
    | true=>exact Or.inl ⟨k,c,H,rfl,e⟩
    | false=>exact Or.inr ⟨by show (bif Nat.beq k i then c else _)=_; rw [e]; rfl,by show (bif Nat.beq k i then _ else _)=_; rw [e]; rfl,e⟩
  rcases hh with ⟨k,c,H',rfl,e⟩ | ⟨e1,e2,e3⟩
  ·have e1:Qrk ((k,c)::H') i (Qkl T ops o regs own)=c:=by show (bif Nat.beq k i then c else _)=_; rw [e]; rfl
   have e2:Qva ((k,c)::H') i=H':=by show (bif Nat.beq k i then _ else _)=_; rw [e]; rfl
   rw [e1,e2] at hg hm ⊢
   obtain ⟨rd,bl,r,eff,sk⟩:=c
   dsimp only at hg hm ⊢
   rw [Bool.and_eq_true] at hg
   rw [show atH ((k,⟨rd,bl,r,eff,sk⟩)::H') i=true from e,cond_true,List.map_cons,List.cons.injEq] at hm
   exact congr (congrArg List.cons hm.1) (Qvv l (i+1) _ _ _ n hg.2 hm.2)
  ·rw [e1,e2] at hg hm ⊢
   rw [e3] at hm
   clear e1
   revert hg hm h
   generalize Qkl T ops o regs own=R
   intro hg hm h
   obtain ⟨rd,bl,r,eff,sk⟩:=R
   dsimp only at hg hm h ⊢
   rw [Bool.and_eq_true] at hg
   exact congr (congrArg List.cons (Prod.ext h.1 h.2)) (Qvv l (i+1) _ _ _ n hg.2 hm)
theorem Qxx:∀ (l:List Oper) (i:Nat) (H:List (Nat×Rec)) (regs:List AV) (own:List Slot) (n:Nat),good T ops n l i H regs own=true→Q2h ops (l.zip (comp T ops l i H regs own)) n=true
 | [],_,_,_,_,_,_=>rfl
 | o::l,i,H,regs,own,n,hg=>by
  rw [good] at hg
  rw [comp]
  cases hp:Qrk H i (Qkl T ops o regs own) with
  | mk rd bl r eff s=>
   rw [hp] at hg
   dsimp only at hg ⊢
   rw [Bool.and_eq_true] at hg
   have ih:=Qxx l (i+1) _ _ _ n hg.2
   rw [List.zip_cons_cons]
   unfold Q2h at ih ⊢
   rw [List.all_cons,ih,Bool.and_true]
   exact hg.1
variable {X : Nat → Nat → Prop} {φ0 : Nat → FSlot} {w0 : World} {ro : Option Nat} {Q : Exit → AS → Prop} {s : AS} {c : Code}
def Qw5 (T:Tab) (ops:Array Oper) (H:List (Nat×Rec)) (s:AS):List Rec:=comp T ops ops.toList 0 H s.regs s.own
def Qor (T:Tab) (ops:Array Oper) (H:List (Nat×Rec)) (s:AS):AS:=exec T ops ops.toList 0 H s.regs s.own
def MetX (T:Tab) (ops:Array Oper) (H:List (Nat×Rec)) (s:AS):Prop:=Q84 T ops ops.toList 0 H s.regs s.own=H.map (fun p=>(p.2.rd.map (·.2),p.2.bl.map (·.2)))∧good T ops s.regs.length ops.toList 0 H s.regs s.own=true
theorem Qoq (H:List (Nat×Rec)):after ops (Qw5 T ops H s) s=Qor T ops H s:=(Q2s (T:=T) ops.toList 0 H s.regs s.own).symm
theorem Qvr (hT:T.ok P) {H:List (Nat×Rec)} (hH:HOk P ops H) (hm:MetX T ops H s):AllOk P (ops.toList.zip (Qw5 T ops H s))∧Met ops (Qw5 T ops H s) s:=by
 refine ⟨Q92 hT _ 0 _ _ _ hH fun k o h=>by simpa using h,Qvv _ 0 _ _ _ _ hm.2 hm.1,?_⟩
 rw [Bool.and_eq_true]
 exact ⟨by simp [Qw5,Q22],Qxx _ 0 _ _ _ _ hm.2⟩
theorem Zi9 {s s':AS} (own:List Slot) (h:Mor X φ0 w0 ⟨s.regs,own⟩ s') (ho:s.own=own:=by kernel_rfl):Mor X φ0 w0 s s':=by
 subst ho
 exact h
theorem Zmg {id:Nat} {y:Code} (hT:T.ok P) (H:List (Nat×Rec)) (hH:HOk P ops H) (h:AWp P X φ0 w0 ro y Q (Qor T ops H s)) (hm:MetX T ops H s:=by exact ⟨by kernel_rfl,by kernel_rfl⟩):AWp P X φ0 w0 ro (.seq (.region id ops false) y) Q s:=
 have f:=Qvr hT hH hm
 Zkd _ f.1 (Qoq H ▸ h) f.2
theorem Zf3 {id:Nat} (hT:T.ok P) (H:List (Nat×Rec)) (hH:HOk P ops H) (h:Q .normal (Qor T ops H s)) (hm:MetX T ops H s:=by exact ⟨by kernel_rfl,by kernel_rfl⟩):AWp P X φ0 w0 ro (.region id ops false) Q s:=
 have f:=Qvr hT hH hm
 Zej _ f.1 (Qoq H ▸ h) f.2
theorem Zf2 {id:Nat} {y:Code} (hT:T.ok P) (H:List (Nat×Rec)) (hH:HOk P ops H) (h:AWp P X φ0 w0 ro y Q (Qor T ops H s)) (hf:P.follows .mixedOrders=true:=by kernel_rfl) (hm:MetX T ops H s:=by exact ⟨by kernel_rfl,by kernel_rfl⟩) (ho:Qfy (ops.toList.zip (Qw5 T ops H s)) [] []=true:=by kernel_rfl):AWp P X φ0 w0 ro (.seq (.region id ops true) y) Q s:=
 have f:=Qvr hT hH hm
 Zei _ f.1 (Qoq H ▸ h) hf f.2 ho
theorem Q99 {id:Nat} (hT:T.ok P) (H:List (Nat×Rec)) (hH:HOk P ops H) (h:Q .normal (Qor T ops H s)) (hf:P.follows .mixedOrders=true:=by kernel_rfl) (hm:MetX T ops H s:=by exact ⟨by kernel_rfl,by kernel_rfl⟩) (ho:Qfy (ops.toList.zip (Qw5 T ops H s)) [] []=true:=by kernel_rfl):AWp P X φ0 w0 ro (.region id ops true) Q s:=
 have f:=Qvr hT hH hm
 Zac _ f.1 (Qoq H ▸ h) hf f.2 ho
end
theorem fend {P:Program} {fn:Func} {res:AV} {s:AS} (h1:∃ vs,ResL P s fn.results.toList vs∧res=Qw2 vs) (h2:NLt 0 res):Fin P fn 0 res [] s:=⟨h1,h2,Nat.le_refl _,fun n hn=>absurd hn (Nat.not_lt_zero n)⟩
abbrev wx := @Zmg
abbrev wx1 := @Zf3
abbrev wxd := @Zf2
abbrev wy1 := @Q99
def hcat (A B:List (Nat×Rec)):List (Nat×Rec):=A++B
theorem hap {P:Program} {ops:Array Oper}:∀ {A B:List (Nat×Rec)},HOk P ops A→HOk P ops B→HOk P ops (hcat A B)
 | [],_,_,hB=>hB
 | _::_,_,hA,hB=>⟨hA.1,hap hA.2 hB⟩
section
variable {P : Program} {X : Nat → Nat → Prop} {φ0 : Nat → FSlot} {w0 : World} {ro : Option Nat} {Q : Exit → AS → Prop} {s : AS} {A : List (Nat × Rec)} {id : Nat} {ops : Array Oper} {d : Bool} {y : Code}
theorem hpre (hA:HOk P ops A) (h:HOk P ops A→AWp P X φ0 w0 ro (.seq (.region id ops d) y) Q s):AWp P X φ0 w0 ro (.seq (.region id ops d) y) Q s:=h hA
end
theorem tv:True:=trivial
theorem prr {ρ:List Nat} {t n n' m j i:Nat} {l k:List (Nat×AV)} (h':PPw (RW fun n n'=>ρ[n']? = some n) l k) (h:(ρ[n']? == some n)=true:=by rfl):PPw (RW fun n n'=>ρ[n']? = some n) ((t,.ref n m j i)::l) ((t,.ref n' m j i)::k):=pc (.rn (Q8f h)) h'
theorem pw {M:Nat→Nat→Prop} {t:Nat} {u:Value} {l k:List (Nat×AV)} (h:PPw (RW M) l k):PPw (RW M) ((t,.lit u)::l) ((t,.lit u)::k):=pc rwl h
theorem qb {R:AV→AV→Prop} {m:Nat} {x x':List AV} {l k:List Slot} (h:LPw R x x') (h':QPw R l k):QPw R (.own m [x]::l) (.own m [x']::k):=qc (Q8a h) h'
theorem frb {P:Program} {fn:Func} {s:AS} {b r:Bool} (h:some b=some r) (hr:ResL P s fn.results.toList [B b]:=by exact ⟨rot,trivial⟩):Fin P fn 0 (B r) [] s:=by
 cases osi h
 exact fend ⟨[B b],hr,rfl⟩ nll
theorem apv {P:Program} {o:Oper} {rd:List (Operand×AV)} {f:Operand} {xs:Array Operand} {ts:Array TypeId} {g:FuncId} {vs:List AV} {res:AV} (hcall:∀ vals w,(callFunc g vals).run P w=.ok (.enter g vals) w) (spec:Spec P g vs [] res [])
  (hn:∀ a ∈ vs,NLt 0 a) (hres:NLt 0 res) (h:o.op=.call { callee:=.value f,args:=xs,argTypes:=ts }:=by exact rfl) (hvl:vs.length=xs.size:=by exact rfl) (hrd:(f,.fn (.func g) [] [])::xs.toList.zip vs=rd:=by exact rfl):Qcg P o rd [] res []:=
 Q0h (first:=[]) (cap:=[]) h hcall spec hvl (List.append_nil vs) hn hres hrd
end Go.Proofs.YtmbhnllcfmiajaaGreat
