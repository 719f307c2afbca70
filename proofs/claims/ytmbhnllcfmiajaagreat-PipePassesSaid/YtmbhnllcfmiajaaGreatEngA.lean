/-
  The engine, part A: results of several shapes; what panics; deferred calls. Plain definitions and laws; no conditions.
-/
import Derived.Test.YtmbhnllcfmiajaaGreatEngY
import Derived.RecoverIn
namespace Go.Proofs.YtmbhnllcfmiajaaGreat
open Go.RowKit
theorem Zlx {α β γ:Type} {f:α→Option γ} {g:β→Option γ} {a:α} {r:γ} (h:Sum.elim f g (.inl a)=some r):f a=some r:=h
theorem Zlw {α β γ:Type} {f:α→Option γ} {g:β→Option γ} {b:β} {r:γ} (h:Sum.elim f g (.inr b)=some r):g b=some r:=h
theorem Qkd {P:Program} {fn:Func} {k:Nat} {res:AV} {σ':List Slot} {regs vs:List AV} (hr:ResL P ⟨regs,σ'⟩ fn.results.toList vs) (hres:res=Qw2 vs) (hn:NLt k res) (hk:Nat.ble σ'.length k=true) (hs:∀ s ∈ σ',SNLt k s):Fin P fn k res σ' ⟨regs,σ'⟩:=
 ⟨⟨vs,hr,hres⟩,hn,Nat.le_of_ble_eq_true hk,fun n _=>⟨rfl,by
  show SNLt _ (σ'.getD n .unused)
  rcases Nat.lt_or_ge n σ'.length with h | h
  ·simp only [List.getD_eq_getElem?_getD,List.getElem?_eq_getElem h,Option.getD_some]
   exact hs _ (List.getElem_mem h)
  ·simp only [List.getD_eq_getElem?_getD,List.getElem?_eq_none h,Option.getD_none]
   exact .unused⟩⟩
def PStep (P:Program) (o:Oper) (rd:List (Operand×AV)) (bl:List (Nat×Slot)) (pv:Value) (eff:List (Nat×Slot)):Prop:=
 ∀ (X:Nat→Nat→Prop) (φ:Nat→FSlot) (a:Act) (w:World),(∀ p ∈ rd,RelV X φ w p.2 (a.eval p.1))→(∀ p ∈ bl,SlotOK X φ w p.1 p.2)→Qb9 φ→(∀ b off,X b off→b<w.heap.size) →
  (∀ n b,(φ n).lies b→b<w.heap.size) →
  ∀ (next:Act→World→Prop) (Q:Exit→Act→World→Prop),
   (∀ φ' w',(∀ p ∈ eff,SlotOK X φ' w' p.1 p.2)→Qb9 φ'→(∀ n,n ∉ eff.map (·.1)→φ' n=φ n) →
    (∀ b,b<w.heap.size→(∀ p ∈ eff,¬ (φ p.1).lies b)→w'.heap[b]? = w.heap[b]?)→Evo X φ w φ' w'→Q (.panic [{ v:=pv,recovered:=false }]) a w')→Does P o a w next Q
theorem PStep.to {P:Program} {o:Oper} {rd rd2:List (Operand×AV)} {bl:List (Nat×Slot)} {v:Value} {eff:List (Nat×Slot)} (e:rd=rd2) (h:PStep P o rd bl v eff):PStep P o rd2 bl v eff:=e ▸ h
theorem PStep.more {P:Program} {o:Oper} {rd rd':List (Operand×AV)} {bl:List (Nat×Slot)} {pv:Value} {eff:List (Nat×Slot)} (h:PStep P o rd bl pv eff):PStep P o (rd++rd') bl pv eff:=
 fun X φ a w hr hb hd hX hlt=>h X φ a w (fun p hp=>hr p (List.mem_append_left _ hp)) hb hd hX hlt
section
variable {X : Nat → Nat → Prop} {φ0 : Nat → FSlot} {w0 : World} {P : Program} {ex : Option Nat} {ops : Array Oper} {l : List (Oper × Rec)} {regs regs' : List AV} {own own' : List Slot}
theorem RInv.nextP {S:Nat→Bool} {φ:Nat→FSlot} {a:Act} {w:World} (h:RInv X φ0 w0 l regs own S φ a w) (f:Facts ex P ops l regs own regs' own') {i:Nat} {o:Oper} {c:Rec} (hi:l[i]? = some (o,c)) (fit:Fit l S i o c)
  {φ':Nat→FSlot} {w':World} (hr:c.r=.any) (he:∀ p ∈ c.eff,SlotOK X φ' w' p.1 p.2) (hd:Qb9 φ') (hn:∀ n,n ∉ c.eff.map (·.1)→φ' n=φ n)
  (hb:∀ b,b<w.heap.size→(∀ p ∈ c.eff,¬ (φ p.1).lies b)→w'.heap[b]? = w.heap[b]?) (hev:Evo X φ w φ' w'):RInv X φ0 w0 l regs own (Qeb S i) φ' a w':=by
 have:=h.next f hi fit (v:=undef) (φ':=φ') (w':=w') (by rw [hr]; exact .any _) he hd hn hb hev
 refine ⟨this.low,h.defers.evo hev,h.size,fun t ht=>?_,this.slot,this.distinct,this.hid,this.evo⟩
 rw [Qte hi fit]
 split
 ·rw [hr]; exact .any _
 ·exact (h.regs t ht).evo hev
theorem Q2b {S:Nat→Bool} {φ:Nat→FSlot} {a:Act} {w:World} (h:RInv X φ0 w0 l regs own S φ a w) (f:Facts ex P ops l regs own regs' own') {i:Nat} {o:Oper} {c:Rec} (hi:l[i]? = some (o,c)) (fit:Fit l S i o c) (hgd:o.guard=none) (hr:c.r=.any) {pv:Value} (hp:PStep P o c.rd c.bl pv c.eff)
  {K:Act→World→Prop} {Q:Exit→Act→World→Prop} {ro:Option Nat} (k:∀ φ' w',RInv X φ0 w0 l regs own (Qeb S i) φ' a w'→Q (.panic [{ v:=pv,recovered:=false }]) a w'):wpOpIn (FR ro) 0 P ops Q i K a w:=by
 unfold wpOpIn
 rw [f.at hi]
 dsimp only
 rw [if_pos (by unfold Region.wanted; rw [hgd])]
 exact hp X φ a w (h.val f hi fit) (h.blocks f hi fit) h.distinct h.hid h.lt K Q (fun φ' w' he hd hn hb hev=>k φ' w' (h.nextP f hi fit hr he hd hn hb hev)) ro
theorem Qw3 {i0:Nat} {op:Oper} {cp:Rec} (f:Facts (some i0) P ops l regs own regs' own') (hi0:l[i0]? = some (op,cp)) (hlast:i0+1=l.length) (hgd:op.guard=none) (hr:cp.r=.any) {pv:Value} (hp:PStep P op cp.rd cp.bl pv cp.eff) {Q:Exit→Act→World→Prop} {ro:Option Nat}
  (k:∀ φ' a' w',Sim X φ0 w0 φ' ⟨regs',own'⟩ a' w'→Q (.panic [{ v:=pv,recovered:=false }]) a' w'):∀ (m i:Nat),i+m=i0→∀ (φ:Nat→FSlot) (a:Act) (w:World),RInv X φ0 w0 l regs own (fun j=>decide (j<i)) φ a w→wpOpsIn (FR ro) 0 P ops Q (List.range' i (m+1)) a w:=by
 have fitS:∀ (i:Nat) (o:Oper) (c:Rec),Fit l (fun j=>decide (j<i)) i o c:=fun i o c=>⟨by simp,fun j o' c' hj=>⟨fun hlt _=>by simpa using hlt,fun hgt _=>by simp; omega⟩⟩
 have eS:∀ i,Qeb (fun j=>decide (j<i)) i=fun j=>decide (j<i+1):=fun i=>by
  funext j
  simp only [Qeb]
  by_cases h1:j<i
  ·simp [h1]; omega
  ·by_cases h2:j=i
   ·subst h2; simp
   ·have:¬ j<i+1:=by omega
    simp [h1,h2,this]
 intro m
 induction m with
 | zero=>
  intro i hi φ a w h
  obtain rfl:i=i0:=by omega
  rw [List.range'_succ,wpOpsIn_cons]
  refine Q2b h f hi0 (fitS _ _ _) hgd hr hp fun φ' w' h'=>k φ' _ w' (h'.done f fun j hj=>?_)
  rw [eS]
  simp; omega
 | succ m ih=>
  intro i hi φ a w h
  rw [List.range'_succ,wpOpsIn_cons]
  obtain ⟨p,hpi⟩:∃ p,l[i]? = some p:=⟨_,List.getElem?_eq_getElem (by omega)⟩
  obtain ⟨o,c⟩:=p
  refine h.step f hpi (fitS _ _ _) (fun e=>by cases e; omega) fun φ' a' w' h'=>ih (i+1) (by omega) φ' a' w' ?_
  rwa [eS] at h'
theorem Qvb {i0:Nat} {op:Oper} {cp:Rec} (f:Facts (some i0) P ops l regs own regs' own') (hi0:l[i0]? = some (op,cp)) (hlast:i0+1=l.length) (hgd:op.guard=none) (hr:cp.r=.any) (hcl:∀ j o' c',l[j]? = some (o',c')→j<i0→Qln o' c' op cp=true) (hord:Qfy l [] []=true) {pv:Value} (hp:PStep P op cp.rd cp.bl pv cp.eff) {Q:Exit→Act→World→Prop} {ro:Option Nat} (k:∀ φ' a' w',Sim X φ0 w0 φ' ⟨regs',own'⟩ a' w'→Q (.panic [{ v:=pv,recovered:=false }]) a' w'):∀ (fuel:Nat) (listed:Array Bool),listed.size=ops.size→(List.range ops.size).countP (fun j=>!listed.getD j false)≤fuel →
  (∀ (i:Nat) (o:Oper) (c:Rec),l[i]? = some (o,c)→listed.getD i false=true→Qlf (fun j=>listed.getD j false) o)→listed.getD i0 false=false→∀ (φ:Nat→FSlot) (a:Act) (w:World),RInv X φ0 w0 l regs own (fun j=>listed.getD j false) φ a w→wpAnyIn (FR ro) 0 P .any ops Q fuel listed a w:=by
 have hlen:l.length=ops.size:=by
  have:=congrArg List.length f.hops
  simpa using this.symm
 have fin:∀ (listed:Array Bool),listed.size=ops.size→(∀ (i:Nat) (o:Oper) (c:Rec),l[i]? = some (o,c)→listed.getD i false=true→Qlf (fun j=>listed.getD j false) o)→Region.ready .any ops listed=[]→∀ i,i<l.length→listed.getD i false=true:=by
  intro listed hsz closed hr i
  induction i using Nat.strongRecOn with
  | _ i ih=>
   intro hi
   cases hli:listed.getD i false with
   | true=>rfl
   | false=>
    exfalso
    obtain ⟨p,hp⟩:∃ p,l[i]? = some p:=⟨_,List.getElem?_eq_getElem hi⟩
    obtain ⟨o,c⟩:=p
    have h1:=(Qe6 closed l [] [] rfl rfl (fun _ _ _ h=>by simp at h) hord i o c (by simp) hp).1
    have hmem:i ∈ Region.ready .any ops listed:=by
     unfold Region.ready
     rw [List.mem_filter]
     refine ⟨by simp; omega,?_⟩
     rw [f.at hp]
     have hl':listed.getD i true=false:=by
      simp only [Array.getD_eq_getD_getElem?] at hli ⊢
      rw [Array.getElem?_eq_getElem (by omega)] at hli ⊢
      simpa using hli
     simp only [hl',Bool.not_false,Bool.true_and,Option.map_some,Option.getD_some]
     refine Array.all_eq_true'.2 fun e he=>?_
     cases hb:Region.binds .any e with
     | false=>simp
     | true=>
      have hlt:=h1 e (by simpa using he) hb
      simpa using ih e.on hlt (by omega)
    rw [hr] at hmem
    cases hmem
 intro fuel
 induction fuel with
 | zero=>
  intro listed hsz hc closed hex φ a w h
  have hall:∀ i,i<l.length→listed.getD i false=true:=fun i hi=>by
   have:=List.countP_eq_zero.1 (Nat.le_zero.1 hc) i (by simp; omega)
   simpa using this
  exact absurd (hall i0 (by omega)) (by rw [hex]; simp)
 | succ fuel ih=>
  intro listed hsz hc closed hex φ a w h
  refine ⟨fun hr=>absurd (fin listed hsz closed hr i0 (by omega)) (by rw [hex]; simp),fun i hi=>?_⟩
  unfold Region.ready at hi
  rw [List.mem_filter] at hi
  obtain ⟨hir,hi2⟩:=hi
  rw [List.mem_range] at hir
  simp only [Bool.and_eq_true,Bool.not_eq_true'] at hi2
  obtain ⟨hi2,hi3⟩:=hi2
  have hli:listed.getD i false=false:=by
   simp only [Array.getD_eq_getD_getElem?] at hi2 ⊢
   rw [Array.getElem?_eq_getElem (by omega)] at hi2 ⊢
   simpa using hi2
  obtain ⟨c,hpi⟩:=f.get (Array.getElem?_eq_getElem hir)
  rw [Array.getElem?_eq_getElem hir] at hi3
  simp only [Option.map_some,Option.getD_some] at hi3
  generalize ops[i]=o at hpi hi3
  have hpreds:Qlf (fun j=>listed.getD j false) o:=fun e he hb=>by
   have:=Array.all_eq_true'.1 hi3 e (by simpa using he)
   simpa [hb] using this
  have fit:Fit l (fun j=>listed.getD j false) i o c:=⟨hli,fun j o' c' hj=>⟨fun hlt hcl=>(Qe6 closed l [] [] rfl rfl (fun _ _ _ h=>by simp at h) hord i o c (by simp) hpi).2 hpreds j o' c' hlt hj hcl,fun hgt hcl=>by
   cases hS:listed.getD j false with
   | false=>exact hS
   | true=>
    have:=(Qe6 closed l [] [] rfl rfl (fun _ _ _ h=>by simp at h) hord j o' c' (by simp) hj).2 (closed j o' c' hj hS) i o c hgt hpi hcl
    rw [hli] at this
    cases this⟩⟩
  have eS:(fun j=>(listed.setIfInBounds i true).getD j false)=Qeb (fun j=>listed.getD j false) i:=by
   funext j
   simp only [Qeb,Array.getD_eq_getD_getElem?,Array.getElem?_setIfInBounds]
   by_cases e:i=j
   ·subst e; simp [hsz,hir]
   ·have:(j==i)=false:=by simp; omega
    simp [e,this]
  by_cases hie:i=i0
  ·subst hie
   rw [hi0] at hpi
   cases hpi
   refine Q2b h f hi0 fit hgd hr hp fun φ' w' h'=>k φ' _ w' (h'.done f fun j hj=>?_)
   show Qeb _ _ _=true
   simp only [Qeb,Bool.or_eq_true,beq_iff_eq]
   rcases Nat.lt_or_ge j i with h1 | h1
   ·obtain ⟨q,hq⟩:∃ q,l[j]? = some q:=⟨_,List.getElem?_eq_getElem hj⟩
    exact .inl ((fit.2 j q.1 q.2 hq).1 h1 (hcl j q.1 q.2 hq h1))
   ·exact .inr (by omega)
  refine h.step f hpi fit (fun e=>hie (by cases e; rfl)) fun φ' a' w' h'=>ih _ (by simpa using hsz) ?_ ?_ (by rw [show (listed.setIfInBounds i true).getD i0 false=Qeb (fun j=>listed.getD j false) i i0 from congrFun eS i0]; simp only [Qeb,hex,Bool.false_or,beq_eq_false_iff_ne]; exact fun e=>hie e.symm) φ' a' w' (by rw [eS]; exact h')
  ·have hlt:=Qoj (p:=fun j=>!listed.getD j false) (p':=fun j=>!(listed.setIfInBounds i true).getD j false) (List.range ops.size) (fun x _ hx=>by
    rw [show (listed.setIfInBounds i true).getD x false=Qeb (fun j=>listed.getD j false) i x from congrFun eS x] at hx
    simp only [Qeb,Bool.not_or,Bool.and_eq_true] at hx
    exact hx.1) i (by simpa using hir) (by simpa using hli) (by
    rw [show (listed.setIfInBounds i true).getD i false=Qeb (fun j=>listed.getD j false) i i from congrFun eS i]
    simp [Qeb])
   omega
  ·intro j o' c' hj hS e he hb
   have e1:(listed.setIfInBounds i true).getD j false=Qeb (fun j=>listed.getD j false) i j:=congrFun eS j
   have e2:(listed.setIfInBounds i true).getD e.on false=Qeb (fun j=>listed.getD j false) i e.on:=congrFun eS e.on
   show (listed.setIfInBounds i true).getD e.on false=true
   rw [e1] at hS
   rw [e2]
   simp only [Qeb,Bool.or_eq_true,beq_iff_eq] at hS ⊢
   rcases hS with hS | rfl
   ·exact .inl (closed j o' c' hj hS e he hb)
   ·rw [hpi] at hj
    cases hj
    exact .inl (hpreds e he hb)
end
section
variable {P : Program} {X : Nat → Nat → Prop} {φ0 : Nat → FSlot} {w0 : World} {ro : Option Nat} {Q : Exit → AS → Prop} {s : AS}
theorem Zeh {id:Nat} {ops:Array Oper} (i0:Nat) (recs:List Rec) (hm:Met ops recs s) {op:Oper} {cp:Rec} (h1:(ops.toList.zip recs)[i0]? = some (op,cp)) (hd:(i0+1==ops.size&&(op.guard==none:Bool))=true) (hr:cp.r=.any) {pv:Value}
  (hp:PStep P op cp.rd cp.bl pv cp.eff) (ha:AllOkE P i0 0 (ops.toList.zip recs)) (k:Q (.panic [{ v:=pv,recovered:=false }]) (after ops recs s)):AWp P X φ0 w0 ro (.region id ops false) Q s:=fun φ a w hs=>by
 have e1:=hm.2
 simp only [Bool.and_eq_true,beq_iff_eq] at e1 hd
 have hl1:(ops.toList.zip recs).length=ops.size:=by simp; have:=e1.1; simp at this; omega
 refine wpIn_region ?_
 have:=Qw3 (ro:=ro) (X:=X) (φ0:=φ0) (w0:=w0) (Qk0 ha hm) h1 (by rw [hl1]; exact hd.1) hd.2 hr hp (Q:=conc X φ0 w0 Q) (fun φ' a' w' hs'=>⟨φ',_,hs',k⟩) i0 0 (by omega) φ a w (by
  have:=RInv.start (l:=ops.toList.zip recs) (regs:=s.regs) (own:=s.own) hs
  simpa using this)
 rw [hd.1,← List.range_eq_range'] at this
 exact this
theorem Zab {id:Nat} {ops:Array Oper} (i0:Nat) (recs:List Rec) (hm:Met ops recs s) {op:Oper} {cp:Rec} (h1:(ops.toList.zip recs)[i0]? = some (op,cp)) (hd:(i0+1==ops.size&&(op.guard==none:Bool))=true) (hr:cp.r=.any) {pv:Value}
  (hp:PStep P op cp.rd cp.bl pv cp.eff) (ha:AllOkE P i0 0 (ops.toList.zip recs)) (k:Q (.panic [{ v:=pv,recovered:=false }]) (after ops recs s)) (hf:P.follows .mixedOrders=true) (ho:Qfy (ops.toList.zip recs) [] []=true) (hc:(((ops.toList.zip recs).take i0).all fun q=>Qln q.1 q.2 op cp)=true):AWp P X φ0 w0 ro (.region id ops true) Q s:=fun φ a w hs=>by
 have e1:=hm.2
 simp only [Bool.and_eq_true,beq_iff_eq] at e1 hd
 have hl1:(ops.toList.zip recs).length=ops.size:=by simp; have:=e1.1; simp at this; omega
 refine wpIn_region_any hf (Qvb (Qk0 ha hm) h1 (by rw [hl1]; exact hd.1) hd.2 hr (fun j o' c' hj hlt=>?_) ho hp (Q:=conc X φ0 w0 Q) (fun φ' a' w' hs'=>⟨φ',_,hs',k⟩) ops.size _ (by simp) ?_ ?_ ?_ φ a _ ?_)
 ·exact List.all_eq_true.1 hc (o',c') (List.mem_of_getElem? (i:=j) (by rw [List.getElem?_take,if_pos hlt]; exact hj))
 ·exact Nat.le_trans List.countP_le_length (by simp)
 ·intro i o c hi hl
  simp only [Array.getD_eq_getD_getElem?,Array.getElem?_replicate] at hl
  split at hl<;>simp at hl
 ·simp only [Array.getD_eq_getD_getElem?,Array.getElem?_replicate]
  split<;>rfl
 ·have:=RInv.start (l:=ops.toList.zip recs) (regs:=s.regs) (own:=s.own) hs.drawn
  have e:(fun j=>(Array.replicate ops.size false).getD j false)=fun _=>false:=by
   funext j
   simp only [Array.getD_eq_getD_getElem?,Array.getElem?_replicate]
   split<;>rfl
  rw [e]
  exact this
end
theorem Qz8 {P:Program} {o:Oper} {a:Act} {w w':World} {next:Act→World→Prop} {Q:Exit→Act→World→Prop} {f:FuncId} {args:Array Value} {ch:List PanicEntry} (h:(execOp a.eval o).run P w=.ok (.enter f args) w') (k:Calls P f args w' fun e w''=>e=.panicked ch∧Q (.panic ch) a w''):Does P o a w next Q:=fun ro=>by
 refine ⟨fun _ _=>trivial,?_⟩
 rw [Oper.semAt_eq _ _ _ (Qjx h fun d e=>by cases e),h]
 refine ⟨fun e=>(by cases e),Qpl.2 (k.mono ?_)⟩
 rintro e w2 ⟨rfl,hk⟩
 exact hk
theorem Qzn {P:Program} {o:Oper} {x:Operand} {t:TypeId} {v:Value} (h:o.op=.panic x):PStep P o [(x,.lit (.iface t v))] [] (.iface t v) []:=by
 intro X φ a w hr hb hd hX hlt next Q k ro
 have h1:a.eval x=.iface t v:=Qcf (hr (x,.lit (.iface t v)) (by simp))
 have he:(execOp a.eval o).run P w=.halt (.panic (.iface t v)) w:=by
  simp only [execOp,h,h1]
  rfl
 refine ⟨fun _ _=>trivial,?_⟩
 rw [Oper.semAt_eq _ _ _ (fun c e=>by rw [h] at e; cases e),he]
 exact k φ w (by simp) hd (fun _ _=>rfl) (fun _ _ _=>rfl) Evo.refl
theorem Q0k {P:Program} {o:Oper} {t:TypeId} {x:Operand} {v:Value} {f:Array Field} (h:o.op=.makeInterface t x) (ht:P.underlying t=some (.struct f)):Qcg P o [(x,.lit v)] [] (.lit (.iface t v)) []:=Qbv fun X φ a w hr _=>by
 have h1:a.eval x=v:=Qcf (hr (x,.lit v) (by simp))
 exact ⟨_,by simp [execOp,h,h1,Instr.makeInterface,run_underlying ht],.lit _⟩
theorem Q88 {u v:Value}:Less (.lit (.tuple #[u,v])) (.tup [.lit u,.lit v]):=fun X φ w z h=>by
 cases h
 refine .tup _ _ rfl fun i a hi=>?_
 match i,hi with
 | 0,hi=>simp at hi; subst hi; exact .lit _
 | 1,hi=>simp at hi; subst hi; exact .lit _
 | i+2,hi=>simp at hi
theorem Q89 {l:List Value}:Less (.lit (.agg l.toArray)) (.agg (l.map .lit)):=fun X φ w z h=>by
 cases h
 refine .agg _ _ (by simp) fun i a hi=>?_
 rw [List.getElem?_map] at hi
 cases hv:l[i]? with
 | none=>rw [hv] at hi; cases hi
 | some v=>
  rw [hv] at hi
  cases hi
  have:l.toArray.getD i undef=v:=by simp [Array.getD_eq_getD_getElem?,hv]
  rw [this]
  exact .lit _
inductive Out where
 | ret (res:AV) (σ':List Slot)
 | pan (pv:Value)
def panE (pv:Value):Value→Ending→Prop:=fun _ e=>e=.panicked [{ v:=pv,recovered:=false }]
def Zet (P:Program) (f:FuncId) (args:List AV) (σ:List Slot) (pv:Value):Prop:=Zaw (Calls P f) (panE pv) args σ .any (σ.map fun _=>.dead)
def Zml (P:Program) (f:FuncId) (args:List AV) (σ:List Slot):Out→Prop
 | .ret res σ'=>Spec P f args σ res σ'
 | .pan pv=>Zet P f args σ pv
def finP (pv:Value):Exit→AS→Prop
 | .panic ch,_=>ch=[{ v:=pv,recovered:=false }]
 | _,_=>False
def finO (P:Program) (X:Nat→Nat→Prop) (φ0:Nat→FSlot) (w0:World) (fn:Func) (k:Nat):Out→Exit→AS→Prop
 | .ret res σ'=>finM P X φ0 w0 fn k res σ'
 | .pan pv=>finP pv
theorem Zcx {X:Nat→Nat→Prop} {φ φ':Nat→FSlot} {w w':World} {σ:List Slot} (hφ:∀ n,σ.length≤n→φ n=.unused) (hh:∀ b off,X b off→b<w'.heap.size) (E:Evo X φ w φ' w') :
  EnvOK X (fun n=>if n<σ.length then .dead else .unused) w' (fun n=>(σ.map fun _=>Slot.dead).getD n .unused)∧Evo X φ w (fun n=>if n<σ.length then .dead else .unused) w':=by
 have no:∀ (n:Nat) (f:FSlot),(if n<σ.length then FSlot.dead else .unused)=f→f=.dead∨f=.unused:=fun n f e=>by
  split at e
  ·exact .inl e.symm
  ·exact .inr e.symm
 have nl:∀ n b,¬ (if n<σ.length then FSlot.dead else .unused).lies b:=fun n b h=>by
  split at h
  ·exact Qa0 h
  ·exact Qdp h
 have lt:∀ n,φ n ≠ .unused→n<σ.length:=fun n h=>by
  rcases Nat.lt_or_ge n σ.length with h1 | h1
  ·exact h1
  ·exact absurd (hφ n h1) h
 have dd:∀ n,φ n ≠ .unused→(if n<σ.length then FSlot.dead else .unused)=.dead:=fun n h=>if_pos (lt n h)
 refine ⟨⟨fun n=>?_,fun n n' b h=>absurd h (nl n b),hh⟩,E.os,E.tape,E.output,E.size,E.blk,fun b ⟨n,h⟩=>absurd h (nl n b),fun b off hd=>?_,fun n h=>dd n (by rw [h]; simp),fun n b h=>.inr (dd n (by rw [h]; simp)),fun n t h=>.inl (dd n (by rw [h]; simp)),fun n Y h=>.inl (dd n (by rw [h]; simp)),fun n bs h=>.inl (dd n (by rw [h]; simp)),fun n b h h'=>?_⟩
 ·by_cases h:n<σ.length
  ·simp only [List.getD_eq_getElem?_getD,List.getElem?_map,List.getElem?_eq_getElem h,Option.map_some,Option.getD_some]
   exact if_pos h
  ·simp only [List.getD_eq_getElem?_getD,List.getElem?_map,List.getElem?_eq_none (Nat.le_of_not_lt h),Option.map_none,Option.getD_none]
   exact if_neg h
 ·obtain ⟨h1,h2⟩:=E.dat b off hd
  exact ⟨⟨h1.lt,h1.hid,fun n e=>(by rcases no n _ e with e | e<;>cases e),fun n L e=>(by rcases no n _ e with e | e<;>cases e),fun n Y e=>(by rcases no n _ e with e | e<;>cases e),fun n bs k e=>(by rcases no n _ e with e | e<;>cases e)⟩,h2⟩
 ·rcases no n _ h' with e | e<;>cases e
theorem Qwy {P:Program} {f:FuncId} {fn:Func} {c:Code} (hf:P.funcs[f]? = some fn) (hb:fn.body=some c) {args:List AV} {σ:List Slot} {pv:Value}
  (h:∀ X φ0 w0,(∀ n,σ.length≤n→φ0 n=.unused)→w0.drawn ≠ 1→AWp P X φ0 w0 none c (finP pv) ⟨args++List.replicate (fn.ntmps - args.length) .any,σ⟩):Zet P f args σ pv:=by
 intro X φ w vals hsz hargs henv
 have hφ0:=Qmb henv
 refine callsIn_wide.1 (callsIn_of_wp_marks (F:=FR none) (n:=0) hf hb trivial (wpIn_mono (h X φ { w with drawn:=0 } hφ0 (fun e=>by cases e) φ _ w (Qny (k:=0) (Nat.zero_le _) hsz hargs henv)) fun e a w' ⟨φ',s,hs,hq⟩=>?_))
 cases e with
 | panic ch=>
  have hq':ch=[{ v:=pv,recovered:=false }]:=hq
  subst hq'
  refine Ql0 (by simp) hs fun w'' hs2=>?_
  rw [Qmc rfl] at hs2 ⊢
  obtain ⟨h1,h2⟩:=Zcx hφ0 hs2.env.hid hs2.evo.of_at
  exact ⟨undef,_,rfl,.any _,h1,h2⟩
 | normal=>exact hq.elim
 | ret=>exact hq.elim
 | exit=>exact hq.elim
 | goto=>exact hq.elim
 | outgrown=>exact hq.elim
theorem Qww {P:Program} {f:FuncId} {fn:Func} {c:Code} (hf:P.funcs[f]? = some fn) (hb:fn.body=some c) {args:List AV} {σ:List Slot} {out:Out} (k:Nat) (hσ:σ.length≤k)
  (h:∀ X φ0 w0,(∀ n,σ.length≤n→φ0 n=.unused)→w0.drawn ≠ 1→AWp P X φ0 w0 none c (finO P X φ0 w0 fn k out) ⟨args++List.replicate (fn.ntmps - args.length) .any,σ⟩):Zml P f args σ out:=by
 cases out with
 | ret res σ'=>exact Qah hf hb k hσ fun X φ0 w0 h1 h2=>Qbx (h X φ0 w0 h1 h2)
 | pan pv=>exact Qwy hf hb h
theorem Qzo {P:Program} {o:Oper} {f:Operand} {xs:Array Operand} {ts:Array TypeId} {g:FuncId} {first cap vs args:List AV} {σ σr:List Slot} {pv:Value} (ρ:List Nat) (h:o.op=.call { callee:=.value f,args:=xs,argTypes:=ts })
  (hcall:∀ vals w,(callFunc g vals).run P w=.ok (.enter g vals) w) (spec:Zet P g args σ pv)
  (hdec:(decide ρ.Nodup&&(vs.length==xs.size)&&(σ.length==ρ.length)&&σ.all Slot.alive)=true)
  (hargs:Rn (fun n n'=>ρ[n]? = some n'∧n<σ.length) (.agg args) (.agg (first++vs++cap)))
  (hσ:SLw (fun n n'=>ρ[n]? = some n'∧n<σ.length) σ σr)
  {bl eff:List (Nat×Slot)} (hbl:ρ.zip σr=bl) (heff:ρ.map (fun n=>(n,Slot.dead))=eff) {rd:List (Operand×AV)} (hrd:(f,.fn (.func g) first cap)::xs.toList.zip vs=rd) :
  PStep P o rd bl pv eff:=by
 simp only [Bool.and_eq_true,decide_eq_true_eq,beq_iff_eq] at hdec
 obtain ⟨⟨⟨h1,h2⟩,h3⟩,h5⟩:=hdec
 obtain ⟨q1,q2⟩:=hσ.spec
 subst hbl heff hrd
 intro X φ a w hr hb hd hX hlt next Q K
 obtain ⟨vals,e1,e2⟩:=Qx1 h hcall h2 hr
 have hz:ρ.zip (σ.map fun _=>Slot.dead)=ρ.map (fun n=>(n,Slot.dead)):=by
  apply List.ext_getElem?
  intro i
  rw [List.getElem?_map]
  rcases Nat.lt_or_ge i ρ.length with h | h
  ·rw [List.getElem?_eq_getElem h,Option.map_some,List.getElem?_zip_eq_some]
   exact ⟨List.getElem?_eq_getElem h,by rw [List.getElem?_map,List.getElem?_eq_getElem (by omega)]; rfl⟩
  ·rw [List.getElem?_eq_none h,Option.map_none,List.getElem?_eq_none]
   simp; omega
 have core:=Qok (C:=Calls P g) (fun _ _ _ _ hR h=>h.mono hR) (E:=panE pv) (σ':=σ.map fun _=>.dead) (σr':=σ.map fun _=>.dead) (res':=.any) ρ h1 spec hargs q1.symm (fun n s s' hs hs'=>⟨⟨fun e=>?_,fun e=>?_⟩,q2 n s s' hs hs'⟩) (by simp [h3]) (by simp [h3]) (Nat.le_of_eq h3) (fun n s s' hs hs'=>?_) (.plain _ .any) e2 (fun p hp=>hb p ?_) hd hX hlt
 ·refine Qz8 (ch:=[{ v:=pv,recovered:=false }]) e1 (core.mono ?_)
  rintro e w' ⟨v,φ',rfl,_,h4,h5,h6,h7,h8⟩
  rw [hz] at h4 h6 h7
  exact ⟨rfl,K φ' w' h4 h5 h6 h7 h8⟩
 ·subst e
  have:=List.all_eq_true.1 h5 _ (List.mem_of_getElem? hs)
  cases this
 ·subst e
  have:=List.all_eq_true.1 h5 _ (List.mem_of_getElem? hs)
  cases this
 ·simp only [List.getElem?_map,Option.map_eq_some_iff] at hs hs'
  obtain ⟨_,_,rfl⟩:=hs
  obtain ⟨_,_,rfl⟩:=hs'
  exact .dead
 ·simp only [h3,List.take_length,List.drop_length,List.map_nil,List.append_nil] at hp
  exact hp
def endR (X:Nat→Nat→Prop) (φ:Nat→FSlot) (w:World) (res:AV) (σ':List Slot):Ending→World→Prop:=fun e w'=>∃ v φ',e=.returned v∧RelV X φ' w' res v∧EnvOK X φ' w' (fun n=>σ'.getD n .unused)∧Evo X φ w φ' w'
def AWpF (P:Program) (X:Nat→Nat→Prop) (φ0:Nat→FSlot) (w0:World) (fn:Func) (res:AV) (σ':List Slot) (c:Code) (s:AS):Prop:=∀ φ a w,Sim X φ0 w0 φ s a w→c.wpIn (FR none) 0 P (bodyPostM (FR none) 0 P fn (endR X φ0 w0 res σ')) a w
theorem Qwx {P:Program} {f:FuncId} {fn:Func} {c:Code} (hf:P.funcs[f]? = some fn) (hb:fn.body=some c) {args:List AV} {σ:List Slot} {res:AV} {σ':List Slot}
  (h:∀ X φ0 w0,(∀ n,σ.length≤n→φ0 n=.unused)→w0.drawn=1→AWpF P X φ0 w0 fn res σ' c ⟨args++List.replicate (fn.ntmps - args.length) .any,σ⟩):Spec P f args σ res σ':=by
 intro X φ w vals hsz hargs henv
 have:=h X φ { w with drawn:=1 } (Qmb henv) rfl φ _ w (Qny (k:=1) (n:=fn.ntmps) (Nat.le_refl _) hsz hargs henv)
 refine callsIn_wide.1 (CallsIn.mono (callsIn_of_wp_marks (F:=FR none) (n:=0) hf hb trivial this) ?_)
 rintro e w' ⟨v,φ',rfl,h1,h2,h3⟩
 exact ⟨v,φ',rfl,h1,h2,h3.of_at⟩
section
variable {P : Program} {X : Nat → Nat → Prop} {φ0 : Nat → FSlot} {w0 : World} {fn : Func} {res : AV} {σ' : List Slot} {s : AS}
theorem Q8k {φ:Nat→FSlot} {a:Act} {w:World} {k:Nat} (hd:w0.drawn=1) (hk:∀ n,k≤n→φ0 n=.unused) (hs:Sim X φ0 w0 φ s a w) (hq:∃ s',Mor X φ0 w0 s s'∧Fin P fn k res σ' s'):LeavesInM (FR none) 0 P fn a.tmps (endR X φ0 w0 res σ') a.defers .returning w:=by
 obtain ⟨s2,hm,hf⟩:=hq
 obtain ⟨φ2,h2⟩:=hm _ _ _ hs
 refine Ql0 (by simp) h2 fun w'' hs2=>?_
 rw [Ql1 (by omega)] at hs2 ⊢
 obtain ⟨v,h1,v',φ3,h3,h4,h5,h6⟩:=Qz4 hk hs2 hf
 exact ⟨v,h1,v',φ3,h3,h4,h5,h6⟩
theorem Q27 {x y:Code} {k:Nat} (hd:w0.drawn=1) (hk:∀ n,k≤n→φ0 n=.unused) (h:AWp P X φ0 w0 none x (Qsz (AWpF P X φ0 w0 fn res σ' y) (finM P X φ0 w0 fn k res σ')) s):AWpF P X φ0 w0 fn res σ' (.seq x y) s:=fun φ a w hs=>
 wpIn_seq (wpIn_mono (h φ a w hs) fun e a w ⟨φ',s',hs',hq⟩=>by
  cases e with
  | normal=>exact hq φ' a w hs'
  | ret=>exact Q8k hd hk hs' hq
  | exit=>exact hq.elim
  | goto=>exact hq.elim
  | panic=>exact hq.elim
  | outgrown=>exact hq.elim)
def Q8o:Nat→List Nat→List AV
 | _,[]=>[]
 | i,m::ms=>.ref i m 0 0::Q8o (i+1) ms
def Qt8 (ms:List Nat):List Slot:=ms.map fun m=>.own m [List.replicate m .any]
def Qlh:List Nat→List (List AV)→List Slot
 | m::ms,c::cs=>.own m [c]::Qlh ms cs
 | _,_=>[]
def DRet (P:Program) (g:FuncId) (ms:List Nat):Prop:=
 Zaw (fun vals w R=>CallsDIn (FR none) 0 P g vals .returning w fun e u' w'=>u'=.returning∧R e w') (fun v e=>e=.returned v) (ms.map fun _=>.any) [] (.tup []) []
def DPan (P:Program) (g:FuncId) (ms:List Nat) (pv:Value) (cs:List (List AV)):Prop:=
 Zaw (fun vals w R=>CallsDIn (FR none) 0 P g vals (.panicking [{ v:=pv,recovered:=false }]) w fun e u' w'=>u'=.panicking [{ v:=pv,recovered:=true }]∧R e w') (fun v e=>e=.returned v) (Q8o 0 ms) (Qt8 ms) (.tup []) (Qlh ms cs)
theorem Qpy {g:FuncId} {gfn:Func} {id:Nat} {o:Oper} {y:Code} {t:Tmp} (hf:P.funcs[g]? = some gfn) (hb:gfn.body=some (.seq (.region id #[o] false) y)) (hrec:∀ ρ w,(execOp ρ o).run P w=.ok .recover w) (hdst:(o.dst==some t&&(o.guard==none:Bool))=true)
  {u u':FrameMode} {rv:Value} (hu:∀ (c:Frame) cs,c.mode=u→(match recoverD (c::cs) with | some (v,cs')=>v=rv∧cs'={ c with mode:=u' }::cs | none=>rv=.nilIface∧u'=u))
  {args:List AV} {σ:List Slot} {res:AV} {σ':List Slot} (k:Nat) (hσ:σ.length≤k)
  (h:∀ X φ0 w0,(∀ n,σ.length≤n→φ0 n=.unused)→AWp P X φ0 w0 none y (finA P gfn k res σ') ⟨(args++List.replicate (gfn.ntmps - args.length) AV.any).set t (.lit rv),σ⟩) :
  Zaw (fun vals w R=>CallsDIn (FR none) 0 P g vals u w fun e m w'=>m=u'∧R e w') (fun v e=>e=.returned v) args σ res σ':=by
 simp only [Bool.and_eq_true,beq_iff_eq] at hdst
 intro X φ w vals hsz hargs henv
 have hφ0:=Qmb henv
 have hs0:=Qny (k:=1) (n:=gfn.ntmps) (Nat.le_refl _) hsz hargs henv
 refine callsDIn_of_wpSIn hf hb trivial fun c₀ cs hc=>wpSIn_seq (wpSIn_region ?_)
 have hput:Sim X φ { w with drawn:=1 } φ ⟨(args++List.replicate (gfn.ntmps - args.length) AV.any).set t (.lit rv),σ⟩ (Act.put { tmps:=vals++Array.replicate (gfn.ntmps - vals.size) undef,defers:=[] } o.dst rv) w:=by
  refine ⟨hs0.low,by rw [Qo7]; exact hs0.defers,by rw [Qve]; exact hs0.size.trans (by simp),fun q v hv=>?_,hs0.env,hs0.evo⟩
  rw [hdst.1]
  have hq:q<(args++List.replicate (gfn.ntmps - args.length) AV.any).length:=by
   have:=(List.getElem?_eq_some_iff.1 hv).1
   simpa using this
  rw [Qqh _ _ _ _ (by rw [hs0.size]; exact hq)]
  rw [List.getElem?_set] at hv
  by_cases e:t=q
  ·subst e
   rw [if_pos rfl,if_pos hq] at hv
   cases hv
   simp only [beq_self_eq_true,if_true]
   exact .lit _
  ·rw [if_neg e] at hv
   have:(some t==some q)=false:=by simpa using e
   rw [this]
   exact hs0.regs q v hv
 have hrest:∀ cs',cs'={ c₀ with mode:=u' }::cs→y.wpSIn (FR none) 0 P (bodyPostS P gfn c₀ cs fun e m w'=>m=u'∧∃ v φ',e=.returned v∧RelV X φ' w' res v∧EnvOK X φ' w' (fun n=>σ'.getD n .unused)∧Evo X φ w φ' w') (Act.put { tmps:=vals++Array.replicate (gfn.ntmps - vals.size) undef,defers:=[] } o.dst rv) cs' w:=fun cs' ecs=>by
  refine wpSIn_of_wpIn rfl (wpIn_mono (h X φ { w with drawn:=1 } hφ0 φ _ w hput) fun e a w' ⟨φ',s',hs',hq⟩=>?_)
  have fin:Fin P gfn k res σ' s'→bodyPostS P gfn c₀ cs (fun e m w'=>m=u'∧∃ v φ',e=.returned v∧RelV X φ' w' res v∧EnvOK X φ' w' (fun n=>σ'.getD n .unused)∧Evo X φ w φ' w') .ret a cs' w':=fun hq=>by
   obtain ⟨l,e1,e2,_⟩:=hs'.defers
   have e3:a.defers=[]:=by rw [e1,e2 rfl,Ql1 (Nat.le_refl _)]; rfl
   obtain ⟨v,h1,v',φ2,h2,h3,h4,h5⟩:=Qz4 (fun n hn=>hφ0 n (Nat.le_trans hσ hn)) hs' hq
   exact ⟨e3,u',ecs,v,h1,rfl,v',φ2,h2,h3,h4,h5.of_at⟩
  cases e with
  | normal=>exact fin hq
  | ret=>exact fin hq
  | exit=>exact hq.elim
  | goto=>exact hq.elim
  | panic=>exact hq.elim
  | outgrown=>exact hq.elim
 have hw:Region.wanted o (yielded #[o] (vals++Array.replicate (gfn.ntmps - vals.size) undef))=true:=by unfold Region.wanted; rw [hdst.2]
 have hr:=hu c₀ cs hc
 show wpOpsSIn (FR none) 0 P #[o] _ [0] _ _ _
 unfold wpOpsSIn
 refine ⟨fun _ _=>trivial,?_⟩
 have hw':Region.wanted #[o][0] (yielded #[o] (vals++Array.replicate (gfn.ntmps - vals.size) undef))=true:=hw
 rw [if_pos hw',show (execOp _ #[o][0]).run P w=_ from hrec _ _]
 dsimp only
 cases hm:recoverD (c₀::cs) with
 | some p=>
  obtain ⟨v,cs'⟩:=p
  rw [hm] at hr
  obtain ⟨rfl,e2⟩:=hr
  exact hrest cs' e2
 | none=>
  rw [hm] at hr
  obtain ⟨rfl,rfl⟩:=hr
  exact hrest (c₀::cs) (by rw [← hc])
theorem Ziq (c:Frame) (cs:List Frame) (h:c.mode=.returning):match recoverD (c::cs) with | some (v,cs')=>v=Value.nilIface∧cs'={ c with mode:=.returning }::cs | none=>Value.nilIface=.nilIface∧FrameMode.returning=.returning:=by
 simp [recoverD,h]
theorem Zir {pv:Value} (c:Frame) (cs:List Frame) (h:c.mode=.panicking [{ v:=pv,recovered:=false }]):match recoverD (c::cs) with | some (v,cs')=>v=pv∧cs'={ c with mode:=.panicking [{ v:=pv,recovered:=true }] }::cs | none=>pv=.nilIface∧FrameMode.panicking [{ v:=pv,recovered:=true }]=.panicking [{ v:=pv,recovered:=false }]:=by
 simp [recoverD,h]
end
theorem Sim.beside {X:Nat→Nat→Prop} {φ0 φ φ':Nat→FSlot} {w0 w w':World} {s:AS} {a:Act} {eff:List (Nat×Slot)} (hs:Sim X φ0 w0 φ s a w) (he:∀ p ∈ eff,SlotOK X φ' w' p.1 p.2) (hd:Qb9 φ') (hn:∀ n,n ∉ eff.map (·.1)→φ' n=φ n)
  (hb:∀ b,b<w.heap.size→(∀ p ∈ eff,¬ (φ p.1).lies b)→w'.heap[b]? = w.heap[b]?) (hev:Evo X φ w φ' w'):Sim X φ0 w0 φ' ⟨s.regs,setE s.own eff⟩ a w':=by
 refine ⟨hs.low,hs.defers.evo hev,hs.size,fun t v hv=>(hs.regs t v hv).evo hev,⟨fun n=>?_,hd,fun b off hx=>Nat.lt_of_lt_of_le (hs.env.hid b off hx) hev.size⟩,hs.evo.trans hev⟩
 show SlotOK X φ' w' n ((setE s.own eff).getD n .unused)
 rw [Qnz]
 by_cases hm:n ∈ eff.map (·.1)
 ·exact he _ (Qr7 hm)
 ·rw [Qib hm]
  refine (hs.env.slot n).evo hev (hn n hm) fun b hb'=>hb b ((hs.env.slot n).lt hb') fun p hp hp'=>?_
  have e:=hs.env.distinct n p.1 b hb' hp'
  exact hm (e ▸ List.mem_map.2 ⟨p,hp,rfl⟩)
theorem Sim.home {X:Nat→Nat→Prop} {φ0 φ φ':Nat→FSlot} {w0 w w':World} {k:Nat} {s s':AS} {a a':Act} (h0:Sim X φ0 w0 φ s a w) (hd:w0.drawn=1) (h:Sim X φ { w with drawn:=k } φ' s' a' w'):Sim X φ0 w0 φ' s' { a' with defers:=[] } w':=
 ⟨h0.low,.nil1 _ _ (by omega),h.size,h.regs,h.env,h0.evo.trans h.evo.of_at⟩
def boxB (m:Nat):Slot→Bool
 | .own m' [c]=>m'==m&&c.length==m
 | _=>false
def refL (ns:List (Nat×Nat)):List AV:=ns.map fun p=>.ref p.1 p.2 0 0
def finD (P:Program) (X:Nat→Nat→Prop) (φ0:Nat→FSlot) (w0:World) (fn:Func) (k:Nat) (res:AV) (σ':List Slot) (g:FuncId) (ns:List (Nat×Nat)):Exit→AS→Prop
 | .normal,s | .ret,s=>∃ s',Mor X φ0 w0 s s'∧Fin P fn k res σ' s'
 | .panic ch,s=>∃ pv cs,ch=[{ v:=pv,recovered:=false }]∧DPan P g (ns.map (·.2)) pv cs∧(∀ c ∈ cs,∀ a ∈ c,NLt 0 a)∧(cs.length==ns.length&&ns.all (fun p=>boxB p.2 (s.slot p.1))&&decide (ns.map (·.1)).Nodup)=true ∧
   ∃ s',Mor X φ0 w0 ⟨s.regs,setE s.own ((ns.map (·.1)).zip (Qlh (ns.map (·.2)) cs))⟩ s'∧Fin P fn k res σ' s'
 | _,_=>False
theorem Q8n {M:Nat→Nat→Prop}:∀ (ns:List (Nat×Nat)) (i:Nat),(∀ j p,ns[j]? = some p→M (i+j) p.1)→LPw (Rn M) (Q8o i (ns.map (·.2))) (refL ns)
 | [],_,_=>trivial
 | p::ns,i,h=>⟨.ref (h 0 p rfl) _ _ _,Q8n ns (i+1) fun j q hj=>by
  have:=h (j+1) q (by simpa using hj)
  rwa [show i+(j+1)=i+1+j from by omega] at this⟩
theorem Q3c {ms:List Nat} {i:Nat} {s:Slot} (h:(Qt8 ms)[i]? = some s):∃ m,ms[i]? = some m∧s=.own m [List.replicate m .any]:=by
 unfold Qt8 at h
 rw [List.getElem?_map,Option.map_eq_some_iff] at h
 obtain ⟨m,h1,rfl⟩:=h
 exact ⟨m,h1,rfl⟩
theorem Qrm:∀ (ms:List Nat) (cs:List (List AV)),cs.length=ms.length→(Qlh ms cs).length=ms.length
 | [],[],_=>rfl
 | m::ms,c::cs,h=>by simp [Qlh,Qrm ms cs (by simpa using h)]
 | [],_::_,h=>by simp at h
 | _::_,[],h=>by simp at h
theorem Q2c:∀ (ms:List Nat) (cs:List (List AV)) (i:Nat) (s:Slot),(Qlh ms cs)[i]? = some s→∃ m c,c ∈ cs∧s=.own m [c]
 | m::ms,c::cs,0,s,h=>by simp [Qlh] at h; exact ⟨m,c,by simp,h.symm⟩
 | m::ms,c::cs,i+1,s,h=>by
  obtain ⟨m',c',h1,h2⟩:=Q2c ms cs i s (by simpa [Qlh] using h)
  exact ⟨m',c',List.mem_cons_of_mem _ h1,h2⟩
 | [],_,_,_,h=>by simp [Qlh] at h
 | _::_,[],_,_,h=>by simp [Qlh] at h
theorem Qxa {c:List AV} (h:∀ a ∈ c,NLt 0 a):∀ x ∈ [c],∀ a ∈ x,NLt 0 a:=fun x hx a ha=>by
 rw [List.mem_singleton.1 hx] at ha
 exact h a ha
theorem Qx0 {X:Nat→Nat→Prop} {φ:Nat→FSlot} {w:World} {s:AS} {a:Act} {ev:Operand→Value} (henv:EnvOK X φ w s.slot):∀ (caps:List Operand) (ns:List (Nat×Nat)),caps.map (fun x=>opd s.regs x)=refL ns→(∀ x ∈ caps,RelV X φ w (opd s.regs x) (ev x))→(ns.all fun p=>boxB p.2 (s.slot p.1))=true →
  ∃ bs:List Nat,caps.map ev=bs.map (fun b=>Value.pointer (some ⟨b,0,none⟩))∧bs.length=ns.length∧∀ (i:Nat) (p:Nat×Nat) b,ns[i]? = some p→bs[i]? = some b→φ p.1=.own b
 | [],[],_,_,_=>⟨[],rfl,rfl,by simp⟩
 | x::caps,p::ns,h,hr,hb=>by
  simp only [List.map_cons,refL,List.cons.injEq] at h
  rw [List.all_cons,Bool.and_eq_true] at hb
  obtain ⟨bs,h1,h2,h3⟩:=Qx0 (a:=a) (ev:=ev) henv caps ns h.2 (fun y hy=>hr y (List.mem_cons_of_mem _ hy)) hb.2
  have hx:=hr x (by simp)
  rw [h.1] at hx
  have hslot:=henv.slot p.1
  obtain ⟨b,hn⟩:∃ b,φ p.1=.own b:=by
   have hb1:=hb.1
   cases hs:s.slot p.1 with
   | own m xs=>rw [hs] at hslot; obtain ⟨b,e,_⟩:=hslot; exact ⟨b,e⟩
   | _=>rw [hs] at hb1; cases hb1
  generalize hv:ev x=v at hx
  cases hx with
  | ref _ _ _ _ A _ hA=>
   have:=hA b hn
   refine ⟨b::bs,by rw [List.map_cons,List.map_cons,h1,hv,this]; simp,by simp [h2],fun i q c hi hc=>?_⟩
   cases i with
   | zero=>simp at hi hc; subst hi hc; exact hn
   | succ i=>exact h3 i q c (by simpa using hi) (by simpa using hc)
 | [],_::_,h,_,_=>by simp [refL] at h
 | _::_,[],h,_,_=>by simp [refL] at h
theorem Qwr {F:Fence} {n:Nat} {P:Program} {ops:Array Oper} {Q:Exit→Act→World→Prop} {i:Nat} {K:Act→World→Prop} {a:Act} {w:World} {o:Oper} (h:ops[i]? = some o) :
  wpOpIn F n P ops Q i K a w=if Region.wanted o (yielded ops a.tmps) then o.wpIn F n P a w K Q else (∀ f,o.about P w a.eval=some f→F.fn f)∧K (a.put o.dst undef) w:=by
 unfold wpOpIn
 rw [h]
theorem Q40 {P:Program} {X:Nat→Nat→Prop} {φ0:Nat→FSlot} {w0:World} {fn:Func} {res:AV} {σ':List Slot} {s:AS} {id k:Nat} {mk df:Oper} {y:Code} {t:Tmp} {g:FuncId} {caps:Array Operand} (ns:List (Nat×Nat)) (hd:w0.drawn=1) (hk:∀ n,k≤n→φ0 n=.unused)
  (hcall:∀ vals w,(callFunc g vals).run P w=.ok (.enter g vals) w)
  (hmk:mk.op=.makeFunc (.func g) #[] caps) (hdf:df.op=.defer { callee:=.value (.tmp t),args := #[],argTypes := #[] }) (hg:(mk.dst==some t&&(mk.guard==none:Bool)&&(df.dst==none:Bool)&&(df.guard==none:Bool)&&Nat.blt t s.regs.length)=true)
  (hcaps:caps.toList.map (fun x=>opd s.regs x)=refL ns) (hown:(ns.all fun p=>boxB p.2 (s.slot p.1))=true) (hret:DRet P g (ns.map (·.2)))
  (h:∀ φ1 w1,(∀ n,s.own.length≤n→φ1 n=.unused)→w1.drawn ≠ 1→AWp P X φ1 w1 none y (finD P X φ0 w0 fn k res σ' g ns) ⟨s.regs.set t .any,s.own⟩):AWpF P X φ0 w0 fn res σ' (.seq (.region id #[mk,df] false) y) s:=by
 simp only [Bool.and_eq_true,beq_iff_eq,Nat.blt_eq] at hg
 obtain ⟨⟨⟨⟨g1,g2⟩,g3⟩,g4⟩,g5⟩:=hg
 intro φ a w hs
 obtain ⟨bs,hb1,hb2,hb3⟩:=Qx0 (a:=a) (ev:=a.eval) hs.env caps.toList ns hcaps (fun x _=>hs.opd x) hown
 have hcv:caps.map a.eval=(bs.map fun b=>Value.pointer (some ⟨b,0,none⟩)).toArray:=by
  rw [← hb1]
  apply Array.ext'
  simp
 obtain ⟨l,el,el0,_⟩:=hs.defers
 have hdef:a.defers=[]:=by rw [el,el0 hd,Ql1 (by omega)]; rfl
 let a1:Act:=a.put (some t) (.func (.func g) #[] (caps.map a.eval))
 let a2:Act:={ a1 with defers:=dclo g bs::a1.defers }
 have hs2:Sim X φ { w with drawn:=Qoh g bs } φ ⟨s.regs.set t .any,s.own⟩ a2 w:=by
  refine ⟨fun n b hb=>(hs.env.slot n).lt hb,?_,?_,fun q v hv=>?_,hs.env,Evo.refl.to_at⟩
  ·have:a2.defers=Qom { w with drawn:=Qoh g bs }:=by rw [Qtz rfl]; show dclo g bs::a1.defers=_; rw [Qo7,hdef]
   rw [this]
   exact .base _ _ _
  ·show a1.tmps.size=_
   rw [Qve]
   exact hs.size.trans (by simp)
  ·show RelV X φ w v (a1.tmps.getD q undef)
   have hq:q<s.regs.length:=by
    have:=(List.getElem?_eq_some_iff.1 hv).1
    simpa using this
   rw [Qqh _ _ _ _ (by rw [hs.size]; exact hq)]
   rw [List.getElem?_set] at hv
   by_cases e:t=q
   ·subst e
    rw [if_pos rfl,if_pos hq] at hv
    cases hv
    exact .any _
   ·rw [if_neg e] at hv
    have:(some t==some q)=false:=by simpa using e
    rw [this]
    exact hs.regs q v hv
 have hw1:({ w with drawn:=Qoh g bs }:World).drawn ≠ 1:=by show Qoh g bs ≠ 1; unfold Qoh; omega
 have hrun:=h φ { w with drawn:=Qoh g bs } (fun n hn=>by
  have:=hs.env.slot n
  have e:s.slot n=.unused:=by unfold AS.slot; simp [List.getD_eq_getElem?_getD,List.getElem?_eq_none hn]
  rw [e] at this
  exact this) hw1 φ a2 w hs2
 have hpos:∀ (ops:Array Oper) (o:Oper) (q:Act),o.guard=none→Region.wanted o (yielded ops q.tmps)=true:=fun ops o q e=>by unfold Region.wanted; rw [e]
 have he1:(execOp a.eval mk).run P w=.ok (.value (.func (.func g) #[] (caps.map a.eval))) w:=by
  simp [execOp,hmk,Instr.makeFunc]
 have he2:(execOp a1.eval df).run P w=.ok (.defer (dclo g bs)) w:=by
  have ht:a1.eval (.tmp t)=.func (.func g) #[] (caps.map a.eval):=by
   show a1.tmps.getD t undef=_
   rw [Qqh _ _ _ _ (by rw [hs.size]; exact g5)]
   simp
  simp [execOp,hdf,resolve,ht,Deferred.ofValue,hcv,dclo]
 refine wpIn_seq (wpIn_region ?_)
 show wpOpsIn (FR none) 0 P #[mk,df] _ [0,1] a w
 rw [wpOpsIn_cons,Qwr (o:=mk) rfl,if_pos (hpos _ _ _ g2)]
 have hval:=Qgp (P:=P) (next:=wpOpsIn (FR none) 0 P #[mk,df] (Exit.then (fun a w=>y.wpIn (FR none) 0 P (bodyPostM (FR none) 0 P fn (endR X φ0 w0 res σ')) a w) (bodyPostM (FR none) 0 P fn (endR X φ0 w0 res σ'))) [1]) (Q:=Exit.then (fun a w=>y.wpIn (FR none) 0 P (bodyPostM (FR none) 0 P fn (endR X φ0 w0 res σ')) a w) (bodyPostM (FR none) 0 P fn (endR X φ0 w0 res σ'))) he1 ?_ none
 ·exact hval
 rw [g1,wpOpsIn_cons,Qwr (o:=df) rfl,if_pos (hpos _ _ _ g4)]
 refine ⟨fun _ _=>trivial,?_⟩
 have hsem:df.semAt (FR none).round a1.eval=execOp a1.eval df:=Oper.semAt_none _ _
 rw [hsem,he2,Oper.uponIn_defer,g3]
 show y.wpIn (FR none) 0 P _ a2 w
 refine wpIn_mono hrun fun e a3 w3 ⟨φ3,s3,hs3,hq⟩=>?_
 have go:∀ (u u':FrameMode) (eff:List (Nat×Slot)) (hu:u ≠ .run) (hset:settle u'=.returning) (hfin:∃ s',Mor X φ0 w0 ⟨s3.regs,setE s3.own eff⟩ s'∧Fin P fn k res σ' s')
   (hcl:∀ w4,Sim X φ { w with drawn:=Qoh g bs } φ3 s3 { a3 with defers:=Qom { w with drawn:=Qoh g bs } } w4→CallsDIn (FR none) 0 P g (bs.map fun b=>Value.pointer (some ⟨b,0,none⟩)).toArray u w4 fun e m w5=>m=u'∧(∃ v,e=.returned v)∧∃ φ5,(∀ p ∈ eff,SlotOK X φ5 w5 p.1 p.2)∧Qb9 φ5∧(∀ n,n ∉ eff.map (·.1)→φ5 n=φ3 n) ∧
    (∀ b,b<w4.heap.size→(∀ p ∈ eff,¬ (φ3 p.1).lies b)→w5.heap[b]? = w4.heap[b]?)∧Evo X φ3 w4 φ5 w5),LeavesInM (FR none) 0 P fn a3.tmps (endR X φ0 w0 res σ') a3.defers u w3:=by
  intro u u' eff hu hset hfin hcl
  refine Ql0 hu hs3 fun w4 hs4=>?_
  have hc4:=hcl w4 hs4
  rw [Qtz rfl] at hs4 ⊢
  refine ⟨hu,.inr ⟨fun e=>(by cases e),_,_,g,_,rfl,?_,fun _ _=>trivial,CallsDIn.mono hc4 ?_⟩⟩
  ·show (callFunc g (#[]++_)).run P w4=_
   rw [hcall,Array.empty_append]
  ·rintro e m w5 ⟨rfl,⟨v,rfl⟩,φ5,p1,p2,p3,p4,p5⟩
   dsimp only
   rw [hset]
   have h5:=(hs4.beside p1 p2 p3 p4 p5)
   have h6:=Sim.home (a':={ a3 with defers:=[dclo g bs] }) hs hd h5
   have:=Q8k (P:=P) (fn:=fn) (res:=res) (σ':=σ') hd hk h6 hfin
   exact this
 have hret':∀ w4,Sim X φ { w with drawn:=Qoh g bs } φ3 s3 { a3 with defers:=Qom { w with drawn:=Qoh g bs } } w4→CallsDIn (FR none) 0 P g (bs.map fun b=>Value.pointer (some ⟨b,0,none⟩)).toArray .returning w4 fun e m w5=>m=.returning∧(∃ v,e=.returned v)∧∃ φ5,(∀ p ∈ ([]:List (Nat×Slot)),SlotOK X φ5 w5 p.1 p.2)∧Qb9 φ5∧(∀ n,n ∉ ([]:List (Nat×Slot)).map (·.1)→φ5 n=φ3 n) ∧
    (∀ b,b<w4.heap.size→(∀ p ∈ ([]:List (Nat×Slot)),¬ (φ3 p.1).lies b)→w5.heap[b]? = w4.heap[b]?)∧Evo X φ3 w4 φ5 w5:=fun w4 hs4=>by
  have core:=Qok (C:=fun vals w R=>CallsDIn (FR none) 0 P g vals .returning w fun e u' w'=>u'=.returning∧R e w') (fun _ _ _ _ hR h=>CallsDIn.mono h fun e u' w' ⟨h1,h2⟩=>⟨h1,hR _ _ h2⟩) (E:=fun v e=>e=.returned v) (σr:=[]) (σr':=[]) (res':=.tup []) (argr:=(ns.map (·.2)).map fun _=>AV.any) (vals:=(bs.map fun b=>Value.pointer (some ⟨b,0,none⟩)).toArray) (X:=X) (φ:=φ3) (w:=w4) [] List.nodup_nil hret
   (.plain _ (.agg _ fun a ha=>by obtain ⟨_,_,rfl⟩:=List.mem_map.1 ha; exact .any)) rfl (fun n s s' h=>by simp at h) rfl rfl (Nat.le_refl _) (fun n s s' h=>by simp at h) (.plain _ (.tup _ (by simp)))
   (.agg _ _ (by simp [hb2]) fun i a ha=>by
    rw [List.getElem?_map,Option.map_eq_some_iff] at ha
    obtain ⟨_,_,rfl⟩:=ha
    exact .any _) (by simp) hs4.env.distinct hs4.env.hid fun n b hb=>(hs4.env.slot n).lt hb
  refine CallsDIn.mono core ?_
  rintro e m w5 ⟨h1,v,φ5,h2,_,h4,h5,h6,h7,h8⟩
  exact ⟨h1,⟨v,h2⟩,φ5,h4,h5,h6,h7,h8⟩
 cases e with
 | normal=>exact go .returning .returning [] (by simp) rfl hq hret'
 | ret=>exact go .returning .returning [] (by simp) rfl hq hret'
 | panic ch=>
  obtain ⟨pv,cs,rfl,hpan,hpl,hck,hfin⟩:=hq
  simp only [Bool.and_eq_true,beq_iff_eq,decide_eq_true_eq] at hck
  obtain ⟨⟨c1,c2⟩,c3⟩:=hck
  refine go _ (.panicking [{ v:=pv,recovered:=true }]) _ (by simp) rfl hfin fun w4 hs4=>?_
  have hml:(ns.map (·.2)).length=ns.length:=by simp
  have hal:(Qt8 (ns.map (·.2))).length=ns.length:=by simp [Qt8]
  have hrl:(ns.map (·.1)).length=ns.length:=by simp
  have hol:(Qlh (ns.map (·.2)) cs).length=ns.length:=(Qrm _ _ (c1.trans hml.symm)).trans hml
  have hbox:∀ p ∈ ns,∃ c b,φ3 p.1=.own b∧c.length=p.2∧OwnOK X φ3 w4 b p.2 [c]:=fun p hp=>by
   have h1:=List.all_eq_true.1 c2 p hp
   have h2:=hs4.env.slot p.1
   unfold boxB at h1
   split at h1
   ·rename_i m' c hsl
    simp only [Bool.and_eq_true,beq_iff_eq] at h1
    rw [hsl] at h2
    obtain ⟨b,h3,h4⟩:=h2
    exact ⟨c,b,h3,h1.2,h1.1 ▸ h4⟩
   ·cases h1
  have hblk:∀ (i:Nat) (p:Nat×Nat) b,ns[i]? = some p→bs[i]? = some b→φ3 p.1=.own b:=fun i p b hi hb=>by
   obtain ⟨c,b',h1,_,_⟩:=hbox p (List.mem_of_getElem? hi)
   have h2:=hb3 i p b hi hb
   rcases hs4.evo.own p.1 b h2 with h3 | h3
   ·exact h3
   ·rw [h3] at h1; cases h1
  have core:=Qok (C:=fun vals w R=>CallsDIn (FR none) 0 P g vals (.panicking [{ v:=pv,recovered:=false }]) w fun e u' w'=>u'=.panicking [{ v:=pv,recovered:=true }]∧R e w') (fun _ _ _ _ hR h=>CallsDIn.mono h fun e u' w' ⟨h1,h2⟩=>⟨h1,hR _ _ h2⟩) (E:=fun v e=>e=.returned v)
   (σr:=Qt8 (ns.map (·.2))) (σr':=Qlh (ns.map (·.2)) cs) (res':=.tup []) (argr:=refL ns) (vals:=(bs.map fun b=>Value.pointer (some ⟨b,0,none⟩)).toArray) (X:=X) (φ:=φ3) (w:=w4) (ns.map (·.1)) c3 hpan
   (Qbt (Q8n ns 0 fun j p hj=>⟨by rw [List.getElem?_map,Nat.zero_add,hj]; rfl,by rw [hal,Nat.zero_add]; exact (List.getElem?_eq_some_iff.1 hj).1⟩)) rfl
   (fun n s s' h1 h2=>by
    rw [h1] at h2; cases h2
    obtain ⟨m,_,rfl⟩:=Q3c h1
    exact ⟨⟨by simp,by simp⟩,.plain (Qxa fun a ha=>by rw [List.eq_of_mem_replicate ha]; exact .any)⟩)
   (hol.trans hrl.symm) (hol.trans hrl.symm) (by rw [hal,hrl]; exact Nat.le_refl _)
   (fun n s s' h1 h2=>by
    rw [h1] at h2; cases h2
    obtain ⟨m,c,hc,rfl⟩:=Q2c _ _ _ _ h1
    exact .plain (Qxa (hpl c hc)))
   (.plain _ (.tup _ (by simp)))
   (.agg _ _ (by simp [refL,hb2]) fun i av ha=>by
    unfold refL at ha
    rw [List.getElem?_map,Option.map_eq_some_iff] at ha
    obtain ⟨p,hp,rfl⟩:=ha
    have hi:i<bs.length:=by rw [hb2]; exact (List.getElem?_eq_some_iff.1 hp).1
    have hv:(bs.map fun b=>Value.pointer (some ⟨b,0,none⟩)).toArray.getD i undef=.pointer (some ⟨bs[i],0,none⟩):=by simp [Array.getD_eq_getD_getElem?,hi]
    rw [hv]
    have hφ:=hblk i p bs[i] hp (List.getElem?_eq_getElem hi)
    refine .ref _ _ _ _ _ (by rw [hφ]; simp) fun b hb=>?_
    rw [hφ] at hb
    cases hb
    simp)
   (fun p hp=>by
    rw [hal,← hrl,List.take_length,List.drop_length,List.map_nil,List.append_nil] at hp
    obtain ⟨i,hi⟩:=List.getElem?_of_mem hp
    obtain ⟨n,sl⟩:=p
    rw [List.getElem?_zip_eq_some] at hi
    obtain ⟨i1,i2⟩:=hi
    rw [List.getElem?_map,Option.map_eq_some_iff] at i1
    obtain ⟨q,hq1,rfl⟩:=i1
    obtain ⟨m,hm,rfl⟩:=Q3c i2
    rw [List.getElem?_map,hq1] at hm
    cases hm
    obtain ⟨c,b,h1,h2,⟨⟨cur,ty,k1,k2,k3,k4⟩,k5⟩⟩:=hbox q (List.mem_of_getElem? hq1)
    exact ⟨b,h1,⟨cur,ty,k1,by simpa using k2,fun x hx=>by rw [List.mem_singleton.1 hx]; simp,fun j x hj i a hi=>by
     have:x=List.replicate q.2 AV.any:=by
      have:=List.mem_of_getElem? hj
      simpa using this
     subst this
     have:=List.mem_of_getElem? hi
     rw [List.eq_of_mem_replicate this]
     exact .any _⟩,k5⟩)
   hs4.env.distinct hs4.env.hid fun n b hb=>(hs4.env.slot n).lt hb
  refine CallsDIn.mono core ?_
  rintro e m w5 ⟨h1,v,φ5,h2,_,h4,h5,h6,h7,h8⟩
  exact ⟨h1,⟨v,h2⟩,φ5,h4,h5,h6,h7,h8⟩
 | exit=>exact hq.elim
 | goto=>exact hq.elim
 | outgrown=>exact hq.elim
theorem Zis:∀ c ∈ ([]:List (List AV)),∀ a ∈ c,NLt 0 a:=by simp
theorem Q18 {c:List AV} {cs:List (List AV)} (h:∀ a ∈ c,NLt 0 a) (hs:∀ c ∈ cs,∀ a ∈ c,NLt 0 a):∀ d ∈ c::cs,∀ a ∈ d,NLt 0 a:=fun d hd=>by
 rcases List.mem_cons.1 hd with rfl | hd
 ·exact h
 ·exact hs d hd
theorem Zcw {P:Program} {tt tx:TypeId} {v:Value} {ms:Array (String×TypeId)} (ht:P.underlying tx=some (.interface ms)) (w:World):(binOp .eql tx (.iface tt v) .nilIface).run P w=.ok (.bool false) w:=by
 have h1:(Op.equal tx (.iface tt v) .nilIface).run P w=.ok false w:=by
  show (Op.equalIn (9999+1) tx (.iface tt v) .nilIface).run P w=_
  rw [Op.equalIn]
  simp only [Sem.run_bind,run_underlying ht,Result.andThen_ok]
  rfl
 show (do pure (.bool (← Op.equal tx (.iface tt v) .nilIface)):Sem Value).run P w=_
 simp only [Sem.run_bind,h1,Result.andThen_ok]
 rfl
theorem Q9p {P:Program} {tx:TypeId} {ms:Array (String×TypeId)} (ht:P.underlying tx=some (.interface ms)) (w:World):(binOp .eql tx .nilIface .nilIface).run P w=.ok (.bool true) w:=by
 have h1:(Op.equal tx .nilIface .nilIface).run P w=.ok true w:=by
  show (Op.equalIn (9999+1) tx .nilIface .nilIface).run P w=_
  rw [Op.equalIn]
  simp only [Sem.run_bind,run_underlying ht,Result.andThen_ok]
  rfl
 show (do pure (.bool (← Op.equal tx .nilIface .nilIface)):Sem Value).run P w=_
 simp only [Sem.run_bind,h1,Result.andThen_ok]
 rfl
theorem Q0j {P:Program} {o:Oper} {x y:Operand} {tt tx t':TypeId} {v:Value} {ms:Array (String×TypeId)} (h:o.op=.binOp .eql tx x y t') (ht:P.underlying tx=some (.interface ms)):Qcg P o [(x,.lit (.iface tt v)),(y,.lit .nilIface)] [] (.lit (.bool false)) []:=Qbv fun X φ a w hr _=>by
 have h1:a.eval x=.iface tt v:=Qcf (hr (x,.lit (.iface tt v)) (by simp))
 have h2:a.eval y=.nilIface:=Qcf (hr (y,.lit .nilIface) (by simp))
 refine ⟨.bool false,?_,.lit _⟩
 simp only [execOp,h,h1,h2,Sem.run_bind]
 have e:(eqGuard .eql tx x y (.iface tt v) .nilIface).run P w=.ok () w:=rfl
 simp only [e,Result.andThen_ok,Zcw ht]
 rfl
theorem Qya {P:Program} {o:Oper} {x:Operand} {c:Value} {tx t':TypeId} {ms:Array (String×TypeId)} (h:o.op=.binOp .eql tx x (.const c) t') (ht:P.underlying tx=some (.interface ms)):Qcg P o [(x,.lit .nilIface),(.const c,.lit .nilIface)] [] (.lit (.bool true)) []:=Qbv fun X φ a w hr _=>by
 have h1:a.eval x=.nilIface:=Qcf (hr (x,.lit .nilIface) (by simp))
 have h2:a.eval (.const c)=.nilIface:=Qcf (hr (.const c,.lit .nilIface) (by simp))
 refine ⟨.bool true,?_,.lit _⟩
 simp only [execOp,h,h1,h2,Sem.run_bind]
 have e:(eqGuard .eql tx x (.const c) .nilIface .nilIface).run P w=.ok () w:=by cases x<;>rfl
 simp only [e,Result.andThen_ok,Q9p ht]
 rfl
theorem Qv2 {P:Program} {o:Oper} {x:Operand} {tx t:TypeId} {f:Array Field} {v:Value} (h:o.op=.typeAssert x tx t true) (ht:P.underlying t=some (.struct f)):Qcg P o [(x,.lit (.iface t v))] [] (.lit (.tuple #[v,.bool true])) []:=Qbv fun X φ a w hr _=>by
 have h1:a.eval x=.iface t v:=Qcf (hr (x,.lit (.iface t v)) (by simp))
 exact ⟨_,by simp [execOp,h,h1,Instr.typeAssert,run_underlying ht],.lit _⟩
theorem Qjp {P:Program} {o:Oper} {x y:Operand} {av:AV} {k:IntKind} {q c:Int} {bl:List (Nat×Slot)} {r:AV} (hb:(q==c)=true) (h:Qcg P o [(x,av),(y,.lit (.int k c))] bl r []):Qcg P o [(x,av),(y,.lit (.int k q))] bl r []:=by
 rw [beq_iff_eq] at hb
 rw [hb]
 exact h
theorem Zai {P:Program} {o:Oper} {rd:List (Operand×AV)} {bl:List (Nat×Slot)} {r:AV} {α:Type} {c:α→List AV} {v:α} {n m k:Nat} {z:List AV} (hz:LPw Less z (c v)) (h:Qcg P o rd bl r [(n,.own m (List.replicate k z))]):Qcg P o rd bl r [(n,.own m ((List.replicate k v).map c))]:=by
 intro X φ a w hr hb hd hX hlt next Q K
 refine h X φ a w hr hb hd hX hlt next Q fun u φ' w' h1 h2 h3 h4 h5 h6=>K u φ' w' h1 (fun p hp=>?_) h3 h4 (fun b hb' hp=>h5 b hb' fun p hp'=>?_) h6
 ·rw [List.mem_singleton.1 hp]
  obtain ⟨b,e,⟨cur,ty,k1,k2,k3,k4⟩,k5⟩:=h2 (n,.own m (List.replicate k z)) (by simp)
  have hl:z.length=(c v).length:=hz.length
  refine ⟨b,e,⟨cur,ty,k1,by simpa using k2,fun x hx=>?_,fun j x hj i a hi=>?_⟩,k5⟩
  ·obtain ⟨y,hy,rfl⟩:=List.mem_map.1 hx
   obtain ⟨hy1,rfl⟩:=List.mem_replicate.1 hy
   rw [← hl]
   exact k3 z (List.mem_replicate.2 ⟨hy1,rfl⟩)
  ·rw [List.getElem?_map,Option.map_eq_some_iff] at hj
   obtain ⟨y,hy,rfl⟩:=hj
   rw [List.getElem?_replicate] at hy
   split at hy
   ·cases hy
    obtain ⟨b',hb1,hb2⟩:=hz.get i a hi
    exact hb2 _ _ _ _ (k4 j z (by rw [List.getElem?_replicate,if_pos (by assumption)]) i b' hb1)
   ·cases hy
 ·rw [List.mem_singleton.1 hp']
  exact hp (n,.own m ((List.replicate k v).map c)) (List.mem_singleton.2 rfl)
theorem nlt0 {k:Nat} {l:List AV} (h:∀ a ∈ l,NLt 0 a):∀ a ∈ l,NLt k a:=fun a ha=>(h a ha).of0
theorem Less.trans {a b c:AV} (h:Less a b) (k:Less b c):Less a c:=fun X φ w v hv=>k X φ w v (h X φ w v hv)
section
variable {P : Program} {X : Nat → Nat → Prop} {φ0 : Nat → FSlot} {w0 : World} {ro : Option Nat} {Q : Exit → AS → Prop} {s : AS}
theorem Q91 {ops:Array Oper} {listed:Array Bool} {i:Nat} (hsz:listed.size=ops.size) (hir:i<ops.size):(fun j=>(listed.setIfInBounds i true).getD j false)=Qeb (fun j=>listed.getD j false) i:=by
 funext j
 simp only [Qeb,Array.getD_eq_getD_getElem?,Array.getElem?_setIfInBounds]
 by_cases e:i=j
 ·subst e; simp [hsz,hir]
 ·have:(j==i)=false:=by simp; omega
  simp [e,this]
theorem Qr9 {ops:Array Oper} {listed:Array Bool} {i fuel:Nat} (hsz:listed.size=ops.size) (hir:i<ops.size) (hli:listed.getD i false=false) (hc:(List.range ops.size).countP (fun j=>!listed.getD j false)≤fuel+1):(List.range ops.size).countP (fun j=>!(listed.setIfInBounds i true).getD j false)≤fuel:=by
 have eS:=Q91 hsz hir
 have hlt:=Qoj (p:=fun j=>!listed.getD j false) (p':=fun j=>!(listed.setIfInBounds i true).getD j false) (List.range ops.size) (fun x _ hx=>by
  rw [show (listed.setIfInBounds i true).getD x false=Qeb (fun j=>listed.getD j false) i x from congrFun eS x] at hx
  simp only [Qeb,Bool.not_or,Bool.and_eq_true] at hx
  exact hx.1) i (by simpa using hir) (by simpa using hli) (by
  rw [show (listed.setIfInBounds i true).getD i false=Qeb (fun j=>listed.getD j false) i i from congrFun eS i]
  simp [Qeb])
 omega
theorem Qpk {ops:Array Oper} {l:List (Oper×Rec)} {listed:Array Bool} {i:Nat} {o:Oper} {c:Rec} (hsz:listed.size=ops.size) (hir:i<ops.size) (hp:l[i]? = some (o,c)) (closed:∀ (i:Nat) (o:Oper) (c:Rec),l[i]? = some (o,c)→listed.getD i false=true→Qlf (fun j=>listed.getD j false) o) (hpreds:Qlf (fun j=>listed.getD j false) o) :
  ∀ (j:Nat) (o:Oper) (c:Rec),l[j]? = some (o,c)→(listed.setIfInBounds i true).getD j false=true→Qlf (fun j=>(listed.setIfInBounds i true).getD j false) o:=by
 have eS:=Q91 hsz hir
 intro j o' c' hj hS e he hb
 have e1:(listed.setIfInBounds i true).getD j false=Qeb (fun j=>listed.getD j false) i j:=congrFun eS j
 have e2:(listed.setIfInBounds i true).getD e.on false=Qeb (fun j=>listed.getD j false) i e.on:=congrFun eS e.on
 show (listed.setIfInBounds i true).getD e.on false=true
 rw [e1] at hS
 rw [e2]
 simp only [Qeb,Bool.or_eq_true,beq_iff_eq] at hS ⊢
 rcases hS with hS | rfl
 ·exact .inl (closed j o' c' hj hS e he hb)
 ·rw [hp] at hj
  cases hj
  exact .inl (hpreds e he hb)
theorem Qr2 {l:List (Oper×Rec)} {S:Nat→Bool} (hord:Qfy l [] []=true) (closed:∀ (i:Nat) (o:Oper) (c:Rec),l[i]? = some (o,c)→S i=true→Qlf S o) {i:Nat} {o:Oper} {c:Rec} (hp:l[i]? = some (o,c)) (hli:S i=false) (hpreds:Qlf S o):Fit l S i o c:=
 ⟨hli,fun j o' c' hj=>⟨fun hlt hcl=>(Qe6 closed l [] [] rfl rfl (fun _ _ _ h=>by simp at h) hord i o c (by simp) hp).2 hpreds j o' c' hlt hj hcl,fun hgt hcl=>by
  cases hS:S j with
  | false=>rfl
  | true=>
   have:=(Qe6 closed l [] [] rfl rfl (fun _ _ _ h=>by simp at h) hord j o' c' (by simp) hj).2 (closed j o' c' hj hS) i o c hgt hp hcl
   rw [hli] at this
   cases this⟩⟩
theorem Zca {ops:Array Oper} {listed:Array Bool} {i:Nat} (hsz:listed.size=ops.size) (hi:i ∈ Region.ready .any ops listed):i<ops.size∧listed.getD i false=false∧∀ o,ops[i]? = some o→Qlf (fun j=>listed.getD j false) o:=by
 unfold Region.ready at hi
 rw [List.mem_filter] at hi
 obtain ⟨hir,hi2⟩:=hi
 rw [List.mem_range] at hir
 simp only [Bool.and_eq_true,Bool.not_eq_true'] at hi2
 obtain ⟨hi2,hi3⟩:=hi2
 refine ⟨hir,?_,fun o ho=>?_⟩
 ·simp only [Array.getD_eq_getD_getElem?] at hi2 ⊢
  rw [Array.getElem?_eq_getElem (by omega)] at hi2 ⊢
  simpa using hi2
 ·rw [ho] at hi3
  simp only [Option.map_some,Option.getD_some] at hi3
  intro e he hb
  have:=Array.all_eq_true'.1 hi3 e (by simpa using he)
  simpa [hb] using this
theorem Q8q {ops:Array Oper} {l:List (Oper×Rec)} {listed:Array Bool} (hops:ops.toList=l.map (·.1)) (hlen:l.length=ops.size) (hord:Qfy l [] []=true) (hsz:listed.size=ops.size) (closed:∀ (i:Nat) (o:Oper) (c:Rec),l[i]? = some (o,c)→listed.getD i false=true→Qlf (fun j=>listed.getD j false) o) (hr:Region.ready .any ops listed=[]):∀ i,i<l.length→listed.getD i false=true:=by
 intro i
 induction i using Nat.strongRecOn with
 | _ i ih=>
  intro hi
  cases hli:listed.getD i false with
  | true=>rfl
  | false=>
   exfalso
   obtain ⟨p,hp⟩:∃ p,l[i]? = some p:=⟨_,List.getElem?_eq_getElem hi⟩
   obtain ⟨o,c⟩:=p
   have h1:=(Qe6 closed l [] [] rfl rfl (fun _ _ _ h=>by simp at h) hord i o c (by simp) hp).1
   have ho:ops[i]? = some o:=by
    have:(l.map (·.1))[i]? = some o:=by rw [List.getElem?_map,hp]; rfl
    rw [← hops] at this
    simpa using this
   have hmem:i ∈ Region.ready .any ops listed:=by
    unfold Region.ready
    rw [List.mem_filter]
    refine ⟨by simp; omega,?_⟩
    rw [ho]
    have hl':listed.getD i true=false:=by
     simp only [Array.getD_eq_getD_getElem?] at hli ⊢
     rw [Array.getElem?_eq_getElem (by omega)] at hli ⊢
     simpa using hli
    simp only [hl',Bool.not_false,Bool.true_and,Option.map_some,Option.getD_some]
    refine Array.all_eq_true'.2 fun e he=>?_
    cases hb:Region.binds .any e with
    | false=>simp
    | true=>
     have hlt:=h1 e (by simpa using he) hb
     simpa using ih e.on hlt (by omega)
   rw [hr] at hmem
   cases hmem
theorem Qvc {ops:Array Oper} {l1 l2:List (Oper×Rec)} {i0:Nat} {regs r1 r2:List AV} {own o1 o2:List Slot} {oy:Oper} {c1 c2:Rec} (f1:Facts (some i0) P ops l1 regs own r1 o1) (f2:Facts (some i0) P ops l2 regs own r2 o2) (pre:∀ j,j<i0→l1[j]? = l2[j]?)
  (h1:l1[i0]? = some (oy,c1)) (h2:l2[i0]? = some (oy,c2)) (hg:c1.skip=false) (hy:Qmx P oy c1.rd c1.bl c1.r c1.eff c2.r c2.eff) (hlen:l1.length=l2.length) (hops:ops.toList=l1.map (·.1)) (hops2:ops.toList=l2.map (·.1)) (ha:∀ j o' c',l1[j]? = some (o',c')→i0<j→Qln oy c1 o' c'=true) (hord1:Qfy l1 [] []=true) (hord2:Qfy l2 [] []=true) {K:Exit→Act→World→Prop}
  (k1:∀ φ' a' w',Sim X φ0 w0 φ' ⟨r1,o1⟩ a' w'→K .normal a' w') (k2:∀ φ' a' w',Sim X φ0 w0 φ' ⟨r2,o2⟩ a' w'→K .normal a' w'):∀ (fuel:Nat) (listed:Array Bool),listed.size=ops.size→(List.range ops.size).countP (fun j=>!listed.getD j false)≤fuel →
  (∀ (i:Nat) (o:Oper) (c:Rec),l1[i]? = some (o,c)→listed.getD i false=true→Qlf (fun j=>listed.getD j false) o)→listed.getD i0 false=false→∀ (φ:Nat→FSlot) (a:Act) (w:World),RInv X φ0 w0 l1 regs own (fun j=>listed.getD j false) φ a w→RInv X φ0 w0 l2 regs own (fun j=>listed.getD j false) φ a w→wpAnyIn (FR ro) 0 P .any ops K fuel listed a w:=by
 have hl1:l1.length=ops.size:=by have:=congrArg List.length hops; simpa using this.symm
 have hi0:i0<l1.length:=(List.getElem?_eq_some_iff.1 h1).1
 have same:∀ (i:Nat) (o:Oper) (c:Rec),l2[i]? = some (o,c)→∃ c',l1[i]? = some (o,c'):=fun i o c h=>by
  have e1:(l1.map (·.1))[i]? = (l2.map (·.1))[i]? := by rw [← hops,← hops2]
  rw [List.getElem?_map,List.getElem?_map,h] at e1
  cases hq:l1[i]? with
  | none=>rw [hq] at e1; cases e1
  | some p=>
   rw [hq] at e1
   obtain ⟨o',c'⟩:=p
   simp only [Option.map_some,Option.some.injEq] at e1
   exact ⟨c',by rw [← e1]⟩
 intro fuel
 induction fuel with
 | zero=>
  intro listed hsz hc _ hex
  have:=List.countP_eq_zero.1 (Nat.le_zero.1 hc) i0 (by simp; omega)
  rw [hex] at this
  simp at this
 | succ fuel ih=>
  intro listed hsz hc closed hex φ a w q1 q2
  have closed2:∀ (i:Nat) (o:Oper) (c:Rec),l2[i]? = some (o,c)→listed.getD i false=true→Qlf (fun j=>listed.getD j false) o:=fun i o c h=>by
   obtain ⟨c',h'⟩:=same i o c h
   exact closed i o c' h'
  refine ⟨fun hr=>?_,fun i hi=>?_⟩
  ·have:=Q8q hops hl1 hord1 hsz closed hr i0 hi0
   rw [hex] at this
   cases this
  obtain ⟨hir,hli,hpr⟩:=Zca hsz hi
  obtain ⟨c,hp⟩:=f1.get (Array.getElem?_eq_getElem hir)
  have hpreds:=hpr _ (Array.getElem?_eq_getElem hir)
  generalize ops[i]=o at hp hpreds
  have fit1:=Qr2 hord1 closed hp hli hpreds
  have eS:=Q91 hsz hir
  rcases Nat.lt_trichotomy i i0 with hlt | rfl | hgt
  ·have hp2:l2[i]? = some (o,c):=by rw [← pre i hlt]; exact hp
   have fit2:=Qr2 hord2 closed2 hp2 hli hpreds
   refine q1.step' f1 hp fit1 (fun e=>by cases e; omega) fun v φ' w' hr he hd hn hb hev=>ih _ (by simpa using hsz) (Qr9 hsz hir hli hc) (Qpk hsz hir hp closed hpreds) ?_ φ' _ w' ?_ ?_
   ·rw [show (listed.setIfInBounds i true).getD i0 false=Qeb (fun j=>listed.getD j false) i i0 from congrFun eS i0]
    simp only [Qeb,hex,Bool.false_or,beq_eq_false_iff_ne]
    omega
   ·rw [eS]; exact q1.next f1 hp fit1 hr he hd hn hb hev
   ·rw [eS]; exact q2.next f2 hp2 fit2 hr he hd hn hb hev
  ·rw [h1] at hp
   cases hp
   have fit2:=Qr2 hord2 closed2 h2 hli hpreds
   unfold wpOpIn
   rw [f1.at h1]
   dsimp only
   rw [if_pos (q1.wants f1 h1 fit1 hg)]
   refine hy X φ a w (q1.val f1 h1 fit1) (q1.blocks f1 h1 fit1) q1.distinct q1.hid q1.lt _ K (fun v φ' w' hr he hd hn hb hev=>?_) (fun v φ' w' hr he hd hn hb hev=>?_) ro
   ·refine Qlv f1 hord1 k1 fuel _ (by simpa using hsz) (Qr9 hsz hir hli hc) (Qpk hsz hir h1 closed hpreds) (fun j e=>?_) φ' _ w' (by rw [eS]; exact q1.next f1 h1 fit1 hr he hd hn hb hev)
    cases e
    rw [show (listed.setIfInBounds i true).getD i false=Qeb (fun j=>listed.getD j false) i i from congrFun eS i]
    simp [Qeb]
   ·refine Qlv f2 hord2 k2 fuel _ (by simpa using hsz) (Qr9 hsz hir hli hc) (Qpk hsz hir h2 closed2 hpreds) (fun j e=>?_) φ' _ w' (by rw [eS]; exact q2.next f2 h2 fit2 hr he hd hn hb hev)
    cases e
    rw [show (listed.setIfInBounds i true).getD i false=Qeb (fun j=>listed.getD j false) i i from congrFun eS i]
    simp [Qeb]
  ·have:listed.getD i0 false=true:=(fit1.2 i0 oy c1 h1).1 hgt (ha i o c hp hgt)
   rw [hex] at this
   cases this
theorem Qx6 {id:Nat} {ops:Array Oper} {y:Code} (i0:Nat) (recs1 recs2:List Rec) {oy:Oper} {c1 c2:Rec} (hm1:Met ops recs1 s) (hm2:Met ops recs2 s) (hp:recs1.take i0=recs2.take i0) (h1:(ops.toList.zip recs1)[i0]? = some (oy,c1)) (h2:(ops.toList.zip recs2)[i0]? = some (oy,c2)) (hg:c1.skip=false)
  (hy:Qmx P oy c1.rd c1.bl c1.r c1.eff c2.r c2.eff) (ha1:AllOkE P i0 0 (ops.toList.zip recs1)) (ha2:AllOkE P i0 0 (ops.toList.zip recs2)) (k1:AWp P X φ0 w0 ro y Q (after ops recs1 s)) (k2:AWp P X φ0 w0 ro y Q (after ops recs2 s))
  (hf:P.follows .mixedOrders=true:=by kernel_rfl) (ho1:Qfy (ops.toList.zip recs1) [] []=true:=by kernel_rfl) (ho2:Qfy (ops.toList.zip recs2) [] []=true:=by kernel_rfl) (hc:(((ops.toList.zip recs1).drop (i0+1)).all fun q=>Qln oy c1 q.1 q.2)=true:=by kernel_rfl):AWp P X φ0 w0 ro (.seq (.region id ops true) y) Q s:=by
 refine Qsd fun φ a w hs=>?_
 have e1:=hm1.2
 have e2:=hm2.2
 simp only [Bool.and_eq_true,beq_iff_eq] at e1 e2
 have hl1:ops.toList.length=recs1.length:=e1.1
 have hl2:ops.toList.length=recs2.length:=e2.1
 have start:∀ recs:List Rec,RInv X φ0 w0 (ops.toList.zip recs) s.regs s.own (fun j=>(Array.replicate ops.size false).getD j false) φ a { w with drawn:=w.drawn+1 }:=fun recs=>by
  have:=RInv.start (l:=ops.toList.zip recs) (regs:=s.regs) (own:=s.own) hs.drawn
  have e:(fun j=>(Array.replicate ops.size false).getD j false)=fun _=>false:=by
   funext j
   simp only [Array.getD_eq_getD_getElem?,Array.getElem?_replicate]
   split<;>rfl
  rw [e]
  exact this
 refine wpIn_region_any hf (Qvc (Qk0 ha1 hm1) (Qk0 ha2 hm2) (fun j hj=>?_) h1 h2 hg hy (by simp [List.length_zip]; omega) (List.map_fst_zip (by omega)).symm (List.map_fst_zip (by omega)).symm (fun j o' c' hj hlt=>?_) ho1 ho2 (K:=conc X φ0 w0 (Qsz (AWp P X φ0 w0 ro y Q) Q)) (fun φ' a' w' hs'=>⟨φ',_,hs',k1⟩) (fun φ' a' w' hs'=>⟨φ',_,hs',k2⟩) ops.size _ (by simp) ?_ ?_ ?_ φ a _ (start recs1) (start recs2))
 ·have hr:recs1[j]? = recs2[j]? := by
   have:=congrArg (fun l=>l[j]?) hp
   simpa [List.getElem?_take,hj] using this
  simp only [List.zip,List.getElem?_zipWith,hr]
 ·exact List.all_eq_true.1 hc (o',c') (List.mem_of_getElem? (i:=j - (i0+1)) (by rw [List.getElem?_drop,show i0+1+(j - (i0+1))=j from by omega]; exact hj))
 ·exact Nat.le_trans List.countP_le_length (by simp)
 ·intro i o c hi hl
  simp only [Array.getD_eq_getD_getElem?,Array.getElem?_replicate] at hl
  split at hl<;>simp at hl
 ·simp only [Array.getD_eq_getD_getElem?,Array.getElem?_replicate]
  split<;>rfl
end
end Go.Proofs.YtmbhnllcfmiajaaGreat
