/-
  The engine, part S: small forms for the printed proofs of iterators and of ranges over them; nil opened within a box. Plain laws; no conditions.
-/
import Derived.Test.YtmbhnllcfmiajaaGreatEngR
namespace Go.Proofs.YtmbhnllcfmiajaaGreat
open Go.RowKit
theorem Qgn {P:Program} {s:AS} {rv:ResultVar} {v v':AV} (h:Q5f P s rv v) (hl:Less v v'):Q5f P s rv v':=fun X φ0 w0 φ a w hs=>by
 obtain ⟨u,h1,h2⟩:=h X φ0 w0 φ a w hs
 exact ⟨u,h1,hl _ _ _ _ h2⟩
def yld {α:Type} (x:α) (o:Option (List α)):Option (List α):=o.map (x :: ·)
theorem Qy9 {α:Type} {x:α} {o:Option (List α)} {r:List α} (h:yld x o=some r):∃ r',o=some r'∧r=x::r':=by
 unfold yld at h
 obtain ⟨r',h1,h2⟩:=Option.map_eq_some_iff.1 h
 exact ⟨r',h1,h2.symm⟩
theorem Less.lits (l:List Value):Less (.agg (l.map AV.lit)) (.lit (.agg l.toArray)):=fun X φ w v h=>by
 cases h with
 | agg _ vs hs hr=>
  have:vs=l.toArray:=by
   apply Array.ext
   ·simpa using hs
   ·intro i h1 h2
    have hi:i<l.length:=by simpa using h2
    have:=Qcf (hr i (.lit l[i]) (by simp [hi]))
    simpa [Array.getD_eq_getD_getElem?,h1] using this
  rw [this]; exact .lit _
theorem Less.unlits (l:List Value):Less (.lit (.agg l.toArray)) (.agg (l.map AV.lit)):=fun X φ w v h=>by
 have:=Qcf h
 subst this
 refine .agg _ _ (by simp) fun i a hi=>?_
 rw [List.getElem?_map] at hi
 cases hl:l[i]? with
 | none=>rw [hl] at hi; cases hi
 | some u=>
  rw [hl] at hi
  cases hi
  simp [hl]
  exact .lit u
theorem Qnf {P:Program} {o:Oper} {rd rd':List (Operand×AV)} {bl:List (Nat×Slot)} {r r':AV} {eff eff':List (Nat×Slot)} (hw:LW rd rd') (h:Qmx P o rd' bl r eff r' eff'):Qmx P o rd bl r eff r' eff':=fun X φ a w hr=>h X φ a w fun q hq=>by
 obtain ⟨p,hp,e1,e2⟩:=hw.get q hq
 rw [← e1]
 exact e2 _ _ _ _ (hr p hp)
theorem Ql2 {P:Program} {α:Type} {o:Oper} {f:Operand} {xs:Array Operand} {ts:Array TypeId} {l n:Nat} {J:Far α} {encs:α→List Value} {x:α} {rest:List α} {rd:List (Operand×AV)}
  (h:o.op=.call { callee:=.value f,args:=xs,argTypes:=ts }) (hl:(encs x).length=xs.size) (hy:Qsr P l J encs) (hrd:(f,.lit (.func (.yield l) #[] #[]))::xs.toList.zip ((encs x).map AV.lit)=rd) :
  Qmx P o rd [(n,.far (J (some (x::rest))))] (.lit (.bool true)) [(n,.far (J (some rest)))] (.lit (.bool false)) [(n,.far (J none))]:=hrd ▸ Q0f h hl hy
def Zni (regs:List AV) (ps:Array Tmp) (vs:List AV):List AV:=(ps.toList.zip vs).foldl (fun r p=>r.set p.1 p.2) regs
theorem Qxn:∀ {l k:List AV} (t:Nat) {a b:AV},LessL l k→Less a b→LessL (l.set t a) (k.set t b)
 | [],[],_,_,_,_,_=>trivial
 | _::_,_::_,0,_,_,h,hr=>⟨hr,h.2⟩
 | _::_,_::_,t+1,_,_,h,hr=>⟨h.1,Qxn t h.2 hr⟩
theorem Qts:∀ l:List AV,LessL l l
 | []=>trivial
 | _::l=>⟨Less.rfl,Qts l⟩
theorem Q2j:∀ (ps:List Tmp) (vs:List Value) (us:List AV) (regs regs':List AV),LessL regs regs'→LPw Less (vs.map AV.lit) us→LessL ((ps.zip vs).foldl (fun r p=>r.set p.1 (AV.lit p.2)) regs) ((ps.zip us).foldl (fun r p=>r.set p.1 p.2) regs')
 | [],_,_,_,_,h,_=>by simpa using h
 | p::ps,[],[],_,_,h,_=>by simpa using h
 | p::ps,v::vs,u::us,regs,regs',h,hv=>Q2j ps vs us _ _ (Qxn p h hv.1) hv.2
 | _::_,[],_::_,_,_,_,hv=>hv.elim
 | _::_,_::_,[],_,_,_,hv=>hv.elim
section
variable {P : Program} {X : Nat → Nat → Prop} {φ0 : Nat → FSlot} {w0 : World} {Q : Exit → AS → Prop} {s : AS}
theorem Qt1 {α τ:Type} {g:Operand} {ps:Array Tmp} {assign body:Code} {gf:FuncId} {caps caps':List AV} {σ σr:List Slot} {encs:α→List Value} {L:List α} {kb:Nat} (avs:α→List AV) (ρ:List Nat) (h00:∀ n,kb≤n→φ0 n=.unused) (hdr0:w0.drawn ≠ 1) (seq:Qss P gf caps' σ encs L) (hcall:∀ vals w,(callFunc gf vals).run P w=.ok (.enter gf vals) w)
  (hg:opd s.regs g=.fn (.func gf) [] caps) (hdec:(decide ρ.Nodup&&(ρ.length==σ.length)&&ρ.all (fun n=>Nat.blt n s.own.length)&&σ.all Slot.alive)=true)
  (hcaps:Rn (fun n n'=>ρ[n]? = some n') (.agg caps') (.agg caps)) (hσ:SLw (fun n n'=>ρ[n]? = some n') σ σr) (hs:(ρ.map fun n=>s.slot n)=σr) (hps:∀ x,(encs x).length=ps.size) (havs:∀ x,LPw Less ((encs x).map AV.lit) (avs x)) (hreg:∀ v ∈ s.regs,NLt kb v)
  (own:τ→List Slot) (hk:∀ t,(own t).length=s.own.length) (hnf:∀ t,(own t).all (fun x=>!x.isFar)=true) (G:List α→τ→Prop) (t0:τ) (hG:G L t0) (h0:own t0=Qq9 s.own ρ)
  (hround:∀ l o X φr Wr,(∀ n,s.own.length+1≤n→φr n=.unused)→∀ x rest t,G (x::rest) t→AWp P X φr Wr (some l) assign (Zam P X φr Wr l s.own.length o body (Zfn kb Q s l (G rest) own s.own.length)) ⟨Zni s.regs ps (avs x),own t++[Slot.far (farL l o)]⟩)
  (hdone:∀ t,G [] t→Q .normal ⟨s.regs,own t++[.dead]⟩):AWp P X φ0 w0 none (.rangeFunc g ps assign body) Q s:=
 Zad ρ h00 hdr0 seq hcall hg hdec hcaps hσ hs hps hreg own hk (fun t st hst=>by have:=List.all_eq_true.1 (hnf t) st hst; simpa using this) G t0 hG h0 (fun l o X φr Wr hr x rest t ht=>Zek (Q2j ps.toList (encs x) (avs x) s.regs s.regs (Qts _) (havs x)) (hround l o X φr Wr hr x rest t ht)) hdone
theorem Zfw {kb n:Nat} {l:List (Nat×AV)} (h:∀ p ∈ l,NLt kb p.2):∀ v ∈ mk n l,NLt kb v:=by
 have:∀ (l:List (Nat×AV)) (r:List AV),(∀ v ∈ r,NLt kb v)→(∀ p ∈ l,NLt kb p.2)→∀ v ∈ l.foldl (fun r p=>r.set p.1 p.2) r,NLt kb v:=by
  intro l
  induction l with
  | nil=>intro r h _; exact h
  | cons p l ih=>
   intro r h hp
   refine ih (r.set p.1 p.2) (fun v hv=>?_) fun q hq=>hp q (List.mem_cons_of_mem _ hq)
   rcases List.mem_or_eq_of_mem_set hv with h1 | h1
   ·exact h v h1
   ·rw [h1]; exact hp p (by simp)
 exact this l _ (fun v hv=>by rw [List.eq_of_mem_replicate hv]; exact .any) h
theorem Q8y {kb:Nat}:∀ p ∈ ([]:List (Nat×AV)),NLt kb p.2:=by simp
theorem Qqm {kb t:Nat} {a:AV} {l:List (Nat×AV)} (h:NLt kb a) (hl:∀ p ∈ l,NLt kb p.2):∀ p ∈ (t,a)::l,NLt kb p.2:=fun p hp=>by
 rcases List.mem_cons.1 hp with rfl | hp
 ·exact h
 ·exact hl p hp
theorem Qn7 {n ty m q mq:Nat} {c:List AV} (i:Nat) {s:AS} (hq:s.own.getD q .unused=.own mq [c]) (hc:c[i]? = some (.lit (.slice none 0 0))) (hn:s.own.length=n) (hqn:q<n):Mor X φ0 w0 s ⟨s.regs,(s.own.set q (.own mq [c.set i (.acc n ty m [])]))++[.tok]⟩:=by
 refine Q2e n ty m ?_ (LPw.refl (fun a=>.same a) _) ?_ fun k hk=>?_
 ·simp [AS.slot,← hn]
 ·simp [← hn]
 ·have hke:((s.own.set q (.own mq [c.set i (.acc n ty m [])]))++[Slot.tok]).getD k .unused=(s.own.set q (.own mq [c.set i (.acc n ty m [])])).getD k .unused:=by
   rcases Nat.lt_or_ge k n with h | h
   ·exact Qma (by simpa [hn] using h)
   ·have h1:((s.own.set q (.own mq [c.set i (.acc n ty m [])]))++[Slot.tok])[k]? = none:=List.getElem?_eq_none (by simp; omega)
    have h2:(s.own.set q (.own mq [c.set i (.acc n ty m [])]))[k]? = none:=List.getElem?_eq_none (by simp; omega)
    simp only [List.getD_eq_getElem?_getD,h1,h2]
  rw [hke]
  by_cases e:k=q
  ·subst e
   have:(s.own.set k (.own mq [c.set i (.acc n ty m [])])).getD k .unused=.own mq [c.set i (.acc n ty m [])]:=by
    simp [show k<s.own.length by omega]
   rw [this]
   have e2:s.slot k=.own mq [c]:=hq
   rw [e2]
   refine .own mq _ _ rfl fun j x x' h1 h2=>?_
   cases j with
   | zero=>simp at h1 h2; subst h1 h2; exact LPw.set (fun a=>.same a) c i hc .nil
   | succ j=>simp at h1
  ·have:(s.own.set q (.own mq [c.set i (.acc n ty m [])])).getD k .unused=s.own.getD k .unused:=by
    simp only [List.getD_eq_getElem?_getD]
    rw [List.getElem?_set_ne (fun e'=>e e'.symm)]
   rw [this]
   exact SPw.refl (fun a=>.same a) _
end
end Go.Proofs.YtmbhnllcfmiajaaGreat
