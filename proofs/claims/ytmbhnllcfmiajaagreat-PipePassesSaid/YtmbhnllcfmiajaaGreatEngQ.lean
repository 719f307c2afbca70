/-
  The engine, part Q: an iterator's frame: the call of yield, after which it goes on or stops; a region that holds one such call. Plain definitions and laws; no conditions.
-/
import Derived.Test.YtmbhnllcfmiajaaGreatEngO
namespace Go.Proofs.YtmbhnllcfmiajaaGreat
open Go.RowKit
structure Kept (Y Y':Nat→Nat→Prop) (W W':World):Prop where
 os:W'.os=W.os
 tape:W'.tape=W.tape
 output:W'.output=W.output
 size:W.heap.size≤W'.heap.size
 blk:∀ b,b<W.heap.size→(∀ off,¬ Y b off)→W'.heap[b]? = W.heap[b]?
 cell:∀ b off,b<W.heap.size→¬ Y b off→¬ Y' b off∧W'.cell? ⟨b,off,none⟩=W.cell? ⟨b,off,none⟩
 new:∀ b off,Y' b off→(∃ off,Y b off)∨W.heap.size≤b
def grow (D Y:Nat→Nat→Prop) (W W':World):Nat→Nat→Prop:=fun b off=>D b off∨(∃ off',Y b off')∨(W.heap.size≤b∧b<W'.heap.size)
abbrev Far (α:Type):=Option (List α)→(Nat→Nat→Prop)→(Nat→Nat→Prop)→World→Prop
def Qsr (P:Program) {α:Type} (l:Nat) (J:Far α) (encs:α→List Value):Prop:=
 ∀ (x:α) (rest:List α) (X:Nat→Nat→Prop) (φ:Nat→FSlot) (Y D:Nat→Nat→Prop) (B W:World),J (some (x::rest)) Y D B→FarAt X φ W Y D B→(∀ b off,X b off→b<W.heap.size) →
  YieldAt (FR none) 0 P l (encs x).toArray W fun e W'=>∃ Y',Kept Y Y' W W'∧(∀ b off,Y' b off→b<W'.heap.size)∧((e=.returned (.bool true)∧J (some rest) Y' (grow D Y W W') W')∨(e=.returned (.bool false)∧J none Y' (grow D Y W W') W'))
def Qmx (P:Program) (o:Oper) (rd:List (Operand×AV)) (bl:List (Nat×Slot)) (r:AV) (eff:List (Nat×Slot)) (r':AV) (eff':List (Nat×Slot)):Prop:=
 ∀ (X:Nat→Nat→Prop) (φ:Nat→FSlot) (a:Act) (w:World),(∀ p ∈ rd,RelV X φ w p.2 (a.eval p.1))→(∀ p ∈ bl,SlotOK X φ w p.1 p.2)→Qb9 φ→(∀ b off,X b off→b<w.heap.size) →
  (∀ n b,(φ n).lies b→b<w.heap.size) →
  ∀ (next:Act→World→Prop) (Q:Exit→Act→World→Prop),
   (∀ v φ' w',RelV X φ' w' r v→(∀ p ∈ eff,SlotOK X φ' w' p.1 p.2)→Qb9 φ'→(∀ n,n ∉ eff.map (·.1)→φ' n=φ n) →
    (∀ b,b<w.heap.size→(∀ p ∈ eff,¬ (φ p.1).lies b)→w'.heap[b]? = w.heap[b]?)→Evo X φ w φ' w'→next (a.put o.dst v) w') →
   (∀ v φ' w',RelV X φ' w' r' v→(∀ p ∈ eff',SlotOK X φ' w' p.1 p.2)→Qb9 φ'→(∀ n,n ∉ eff'.map (·.1)→φ' n=φ n) →
    (∀ b,b<w.heap.size→(∀ p ∈ eff',¬ (φ p.1).lies b)→w'.heap[b]? = w.heap[b]?)→Evo X φ w φ' w'→next (a.put o.dst v) w')→Does P o a w next Q
theorem Q0f {P:Program} {α:Type} {o:Oper} {f:Operand} {xs:Array Operand} {ts:Array TypeId} {l n:Nat} {J:Far α} {encs:α→List Value} {x:α} {rest:List α}
  (h:o.op=.call { callee:=.value f,args:=xs,argTypes:=ts }) (hl:(encs x).length=xs.size) (hy:Qsr P l J encs) :
  Qmx P o ((f,.lit (.func (.yield l) #[] #[]))::xs.toList.zip ((encs x).map AV.lit)) [(n,.far (J (some (x::rest))))] (.lit (.bool true)) [(n,.far (J (some rest)))] (.lit (.bool false)) [(n,.far (J none))]:=by
 intro X φ a w hr hb hd hX hlt next Q k1 k2
 obtain ⟨Y,D,B,hn,hJ,hF⟩:=hb (n,.far (J (some (x::rest)))) (by simp)
 dsimp only at hn
 have hf:a.eval f=.func (.yield l) #[] #[]:=Qcf (hr (f,_) (by simp))
 have hargs:xs.map a.eval=(encs x).toArray:=by
  apply Array.ext
  ·simp [hl]
  ·intro i h1 h2
   have hi:i<xs.size:=by simpa using h1
   have hi':i<(encs x).length:=by omega
   have:=hr (xs[i],.lit (encs x)[i]) (List.mem_cons_of_mem _ (List.mem_of_getElem? (i:=i) (by rw [List.getElem?_zip_eq_some]; exact ⟨by simp [hi],by simp [hi']⟩)))
   simpa using Qcf this
 obtain ⟨fn,tmps,assign,body,hrun,hround⟩:=hy x rest X φ Y D B w hJ hF hX
 have hexec:(execOp a.eval o).run P w=.ok (.round l fn tmps assign body) w:=by
  have:(Instr.yield l (xs.map a.eval)).run P w=.ok (.round l fn tmps assign body) w:=by rw [hargs]; exact hrun
  simp only [execOp,h,resolve,hf,Deferred.ofValue,invoke,Sem.run_bind,Sem.run_pure,Result.andThen_ok]
  simpa using this
 intro ro
 refine ⟨fun _ _=>trivial,?_⟩
 rw [Oper.semAt_eq _ _ _ (Qjx hexec fun d e=>by cases e),hexec]
 refine ⟨fun e=>(by cases e),RoundIn.mono (R:=_) hround ?_⟩
 rintro e w' ⟨Y',hk,hlt',hcase⟩
 let φ':Nat→FSlot:=fun q=>if q=n then .far Y' else φ q
 have hin:∀ q,q ≠ n→φ' q=φ q:=fun q hq=>if_neg hq
 have hnn:φ' n=.far Y':=if_pos rfl
 have notY:∀ q b,q ≠ n→(φ q).lies b→∀ off,¬ Y b off:=fun q b hq hlb off hy=>hq (hd q n b hlb (.far hn hy))
 have hHold:∀ b,b<w.heap.size→¬ Qi7 φ b→∀ off,¬ Y b off:=fun b _ hh off hy=>hh ⟨n,.far hn hy⟩
 have evo:Evo X φ w φ' w':=by
  refine ⟨hk.os,hk.tape,hk.output,hk.size,fun b hb hh=>hk.blk b hb (hHold b hb hh),fun b ⟨q,hq⟩=>?_,fun b off hdat=>?_,fun q hq=>?_,fun q b hq=>?_,fun q t hq=>?_,fun q Y0 hq=>?_,fun q bs hq=>?_,fun q b hq hq'=>?_⟩
  ·by_cases e:q=n
   ·subst e
    rw [hnn] at hq
    obtain ⟨off,hy'⟩:=Qlb hq
    rcases hk.new b off hy' with ⟨off',h1⟩ | h1
    ·exact .inl ⟨q,.far hn h1⟩
    ·exact .inr h1
   ·rw [hin q e] at hq; exact .inl ⟨q,hq⟩
  ·obtain ⟨h1,h2⟩:=hk.cell b off hdat.lt (hdat.far n Y hn)
   refine ⟨⟨Nat.lt_of_lt_of_le hdat.lt hk.size,hdat.hid,fun q hq=>?_,fun q L hq=>?_,fun q Y0 hq=>?_,fun q bs z hq=>?_⟩,h2⟩
   ·by_cases e:q=n
    ·subst e; rw [hnn] at hq; cases hq
    ·rw [hin q e] at hq; exact hdat.own q hq
   ·by_cases e:q=n
    ·subst e; rw [hnn] at hq; cases hq
    ·rw [hin q e] at hq; exact hdat.tok q L hq
   ·by_cases e:q=n
    ·subst e; rw [hnn] at hq; cases hq; exact h1
    ·rw [hin q e] at hq; exact hdat.far q Y0 hq
   ·by_cases e:q=n
    ·subst e; rw [hnn] at hq; cases hq
    ·rw [hin q e] at hq; exact hdat.mat q bs z hq
  ·have e:q ≠ n:=fun e=>by subst e; rw [hn] at hq; cases hq
   rw [hin q e]; exact hq
  ·have e:q ≠ n:=fun e=>by subst e; rw [hn] at hq; cases hq
   rw [hin q e]; exact .inl hq
  ·have e:q ≠ n:=fun e=>by subst e; rw [hn] at hq; cases hq
   rw [hin q e]
   exact .inr ⟨hq,fun b L hb'=>hk.blk b (hlt q b (.tok (L:=L) (by rw [hq,hb']))) (notY q b e (.tok (L:=L) (by rw [hq,hb'])))⟩
  ·by_cases e:q=n
   ·subst e; exact .inr ⟨Y',hnn⟩
   ·rw [hin q e]; exact .inr ⟨Y0,hq⟩
  ·have e:q ≠ n:=fun e=>by subst e; rw [hn] at hq; cases hq
   rw [hin q e]; exact .inr ⟨bs,hq,.refl bs⟩
  ·have e:q ≠ n:=fun e=>by subst e; rw [hn] at hq; cases hq
   exact .same (hk.blk b (hlt q b (.own hq)) (notY q b e (.own hq)))
 have hd':Qb9 φ':=fun q q' b h1 h2=>by
  have old:∀ p,(φ' p).lies b→p ≠ n→(φ p).lies b:=fun p hp e=>by rwa [hin p e] at hp
  by_cases e:q=n<;>by_cases e':q'=n
  ·rw [e,e']
  ·exfalso
   subst e
   rw [hnn] at h1
   obtain ⟨off,hy'⟩:=Qlb h1
   have h3:=old q' h2 e'
   rcases hk.new b off hy' with ⟨off',h4⟩ | h4
   ·exact notY q' b e' h3 off' h4
   ·have:=hlt q' b h3; omega
  ·exfalso
   subst e'
   rw [hnn] at h2
   obtain ⟨off,hy'⟩:=Qlb h2
   have h3:=old q h1 e
   rcases hk.new b off hy' with ⟨off',h4⟩ | h4
   ·exact notY q b e h3 off' h4
   ·have:=hlt q b h3; omega
  ·exact hd q q' b (old q h1 e) (old q' h2 e')
 have hslot:∀ {o:Option (List α)},J o Y' (grow D Y w w') w'→SlotOK X φ' w' n (.far (J o)):=fun {o} hJ'=>⟨Y',_,w',hnn,hJ',⟨fun b off hy'=>⟨hlt' b off hy',rfl,fun off' hx=>?_⟩,fun b off hD hy'=>⟨?_,rfl⟩,rfl,rfl,rfl,Nat.le_refl _⟩⟩
 ·have hfr:∀ (s:Slot) b,b<w.heap.size→(∀ p ∈ [(n,s)],¬ (φ p.1).lies b)→w'.heap[b]? = w.heap[b]? := fun s b hb hp=>hk.blk b hb fun off hy=>hp (n,s) (by simp) (.far hn hy)
  have hrest:∀ (s:Slot) q,q ∉ [(n,s)].map (·.1)→φ' q=φ q:=fun s q hq=>hin q (by simpa using hq)
  rcases hcase with ⟨rfl,hJ'⟩ | ⟨rfl,hJ'⟩
  ·exact k1 _ φ' w' (.lit _) (fun p hp=>by simp at hp; subst hp; exact hslot hJ') hd' (hrest _) (hfr _) evo
  ·exact k2 _ φ' w' (.lit _) (fun p hp=>by simp at hp; subst hp; exact hslot hJ') hd' (hrest _) (hfr _) evo
 ·rcases hk.new b off hy' with ⟨off2,h1⟩ | h1
  ·exact (hF.own b off2 h1).2.2 off' hx
  ·have:=hX b off' hx; omega
 ·rcases hD with h1 | ⟨off',h1⟩ | ⟨h1,h2⟩
  ·by_cases hy:Y b off
   ·have hF':=hF.own b off hy
    refine ⟨Nat.lt_of_lt_of_le hF'.1 hk.size,hF'.2.2 off,fun q hq=>?_,fun q L hq=>?_,fun q Y0 hq=>?_,fun q bs z hq=>?_⟩
    ·by_cases e:q=n
     ·subst e; rw [hnn] at hq; cases hq
     ·rw [hin q e] at hq; exact notY q b e (.own hq) off hy
    ·by_cases e:q=n
     ·subst e; rw [hnn] at hq; cases hq
     ·rw [hin q e] at hq; exact absurd hy (notY q b e (.tok hq) off)
    ·by_cases e:q=n
     ·subst e; rw [hnn] at hq; cases hq; exact hy'
     ·rw [hin q e] at hq; exact fun hy0=>notY q b e (.far hq hy0) off hy
    ·by_cases e:q=n
     ·subst e; rw [hnn] at hq; cases hq
     ·rw [hin q e] at hq; exact fun hz=>notY q b e (.mat hq hz) off hy
   ·exact (evo.dat b off (hF.dat b off h1 hy).1).1
  ·have hF':=hF.own b off' h1
   refine ⟨Nat.lt_of_lt_of_le hF'.1 hk.size,hF'.2.2 off,fun q hq=>?_,fun q L hq=>?_,fun q Y0 hq=>?_,fun q bs z hq=>?_⟩
   ·by_cases e:q=n
    ·subst e; rw [hnn] at hq; cases hq
    ·rw [hin q e] at hq; exact notY q b e (.own hq) off' h1
   ·by_cases e:q=n
    ·subst e; rw [hnn] at hq; cases hq
    ·rw [hin q e] at hq; exact absurd h1 (notY q b e (.tok hq) off')
   ·by_cases e:q=n
    ·subst e; rw [hnn] at hq; cases hq; exact hy'
    ·rw [hin q e] at hq; exact fun hy0=>notY q b e (.far hq hy0) off' h1
   ·by_cases e:q=n
    ·subst e; rw [hnn] at hq; cases hq
    ·rw [hin q e] at hq; exact fun hz=>notY q b e (.mat hq hz) off' h1
  ·refine ⟨h2,fun hx=>?_,fun q hq=>?_,fun q L hq=>?_,fun q Y0 hq=>?_,fun q bs z hq=>?_⟩
   ·have:=hX b off hx; omega
   ·by_cases e:q=n
    ·subst e; rw [hnn] at hq; cases hq
    ·rw [hin q e] at hq; have:=hlt q b (.own hq); omega
   ·by_cases e:q=n
    ·subst e; rw [hnn] at hq; cases hq
    ·rw [hin q e] at hq; have:=hlt q b (.tok hq); omega
   ·by_cases e:q=n
    ·subst e; rw [hnn] at hq; cases hq; exact hy'
    ·rw [hin q e] at hq; exact fun hy0=>by have:=hlt q b (.far hq hy0); omega
   ·by_cases e:q=n
    ·subst e; rw [hnn] at hq; cases hq
    ·rw [hin q e] at hq; exact fun hz=>by have:=hlt q b (.mat hq hz); omega
section
variable {P : Program} {X : Nat → Nat → Prop} {φ0 : Nat → FSlot} {w0 : World} {ro : Option Nat} {Q : Exit → AS → Prop} {s : AS}
theorem Qyd {o:Oper} {rd:List (Operand×AV)} {bl:List (Nat×Slot)} {r r':AV} {eff eff':List (Nat×Slot)} {g:Operand×AV} (h:Qmx P o rd bl r eff r' eff'):Qmx P o (g::rd) bl r eff r' eff':=fun X φ a w hr=>h X φ a w fun p hp=>hr p (List.mem_cons_of_mem _ hp)
theorem Qw4 {ops:Array Oper} {l1 l2:List (Oper×Rec)} {i0:Nat} {regs r1 r2:List AV} {own o1 o2:List Slot} {oy:Oper} {c1 c2:Rec} (f1:Facts (some i0) P ops l1 regs own r1 o1) (f2:Facts (some i0) P ops l2 regs own r2 o2) (pre:∀ j,j<i0→l1[j]? = l2[j]?)
  (h1:l1[i0]? = some (oy,c1)) (h2:l2[i0]? = some (oy,c2)) (hg:c1.skip=false) (hy:Qmx P oy c1.rd c1.bl c1.r c1.eff c2.r c2.eff) (hlen:l1.length=l2.length) {K:Exit→Act→World→Prop}
  (k1:∀ φ' a' w',Sim X φ0 w0 φ' ⟨r1,o1⟩ a' w'→K .normal a' w') (k2:∀ φ' a' w',Sim X φ0 w0 φ' ⟨r2,o2⟩ a' w'→K .normal a' w'):∀ (m i:Nat),i+m=i0→∀ (φ:Nat→FSlot) (a:Act) (w:World),
  RInv X φ0 w0 l1 regs own (fun j=>decide (j<i)) φ a w→RInv X φ0 w0 l2 regs own (fun j=>decide (j<i)) φ a w→wpOpsIn (FR ro) 0 P ops K (List.range' i (l1.length - i)) a w:=by
 have hlt:=(List.getElem?_eq_some_iff.1 h1).1
 have fitS:∀ (l:List (Oper×Rec)) (i:Nat) (o:Oper) (c:Rec),Fit l (fun j=>decide (j<i)) i o c:=fun l i o c=>⟨by simp,fun j o' c' hj=>⟨fun hlt _=>by simpa using hlt,fun hgt _=>by simp; omega⟩⟩
 have eS:∀ i,Qeb (fun j=>decide (j<i)) i=fun j=>decide (j<i+1):=fun i=>by
  funext j
  simp only [Qeb]
  by_cases h1:j<i
  ·simp [h1]; omega
  ·by_cases h2:j=i
   ·subst h2; simp
   ·have:¬ j<i+1:=by omega
    simp [h1,h2,this]
 intro m
 induction m with
 | zero=>
  intro i hi φ a w q1 q2
  obtain rfl:i=i0:=by omega
  rw [show l1.length - i=(l1.length - (i+1))+1 by omega,List.range'_succ,wpOpsIn_cons]
  unfold wpOpIn
  rw [f1.at h1]
  dsimp only
  rw [if_pos (q1.wants f1 h1 (fitS _ _ _ _) hg)]
  refine hy X φ a w (q1.val f1 h1 (fitS _ _ _ _)) (q1.blocks f1 h1 (fitS _ _ _ _)) q1.distinct q1.hid q1.lt _ K (fun v φ' w' hr he hd hn hb hev=>?_) (fun v φ' w' hr he hd hn hb hev=>?_) ro
  ·have:=q1.next f1 h1 (fitS _ _ _ _) hr he hd hn hb hev
   rw [eS] at this
   exact Qk7 f1 (l1.length - (i+1)) (i+1) (by omega) (fun j hj e=>by cases e; omega) φ' _ w' this k1
  ·have:=q2.next f2 h2 (fitS _ _ _ _) hr he hd hn hb hev
   rw [eS] at this
   rw [hlen]
   exact Qk7 f2 (l2.length - (i+1)) (i+1) (by omega) (fun j hj e=>by cases e; omega) φ' _ w' this k2
 | succ m ih=>
  intro i hi φ a w q1 q2
  rw [show l1.length - i=(l1.length - (i+1))+1 by omega,List.range'_succ,wpOpsIn_cons]
  obtain ⟨p,hp⟩:∃ p,l1[i]? = some p:=⟨_,List.getElem?_eq_getElem (by omega)⟩
  obtain ⟨o,c⟩:=p
  have hp2:l2[i]? = some (o,c):=by rw [← pre i (by omega)]; exact hp
  refine q1.step' f1 hp (fitS _ _ _ _) (fun e=>by cases e; omega) fun v φ' w' hr he hd hn hb hev=>ih (i+1) (by omega) φ' _ w' ?_ ?_
  ·have:=q1.next f1 hp (fitS _ _ _ _) hr he hd hn hb hev
   rwa [eS] at this
  ·have:=q2.next f2 hp2 (fitS _ _ _ _) hr he hd hn hb hev
   rwa [eS] at this
def AllOkE (P:Program) (ex:Nat):Nat→List (Oper×Rec)→Prop
 | _,[]=>True
 | i,p::l=>(p.2.skip=false→ex ≠ i→Qcg P p.1 p.2.rd p.2.bl p.2.r p.2.eff)∧AllOkE P ex (i+1) l
theorem AllOkE.get {ex:Nat}:∀ {l:List (Oper×Rec)} {k:Nat},AllOkE P ex k l→∀ (i:Nat) (o:Oper) (c:Rec),l[i]? = some (o,c)→c.skip=false→ex ≠ k+i→Qcg P o c.rd c.bl c.r c.eff
 | _::_,_,h,0,o,c,hi=>by simp at hi; subst hi; exact h.1
 | _::_,k,h,i+1,o,c,hi=>fun hs he=>AllOkE.get h.2 i o c (by simpa using hi) hs (by omega)
 | [],_,_,_,_,_,hi=>by simp at hi
theorem Qk0 {ops:Array Oper} {recs:List Rec} {i0:Nat} (hall:AllOkE P i0 0 (ops.toList.zip recs)) (hm:Met ops recs s):Facts (some i0) P ops (ops.toList.zip recs) s.regs s.own (after ops recs s).regs (after ops recs s).own:=by
 obtain ⟨h1,h2⟩:=hm
 rw [Bool.and_eq_true] at h2
 obtain ⟨h2,h3⟩:=h2
 have hl:ops.toList.length=recs.length:=by simpa using h2
 refine ⟨by rw [List.map_fst_zip (by omega)],fun i o c hi hs hx=>.hard (hall.get i o c hi hs (fun e=>hx (by rw [e,Nat.zero_add]))),?_,h3⟩
 have e:(ops.toList.zip recs).map (fun p=>(p.2.rd.map (·.2),p.2.bl.map (·.2)))=recs.map (fun c=>(c.rd.map (·.2),c.bl.map (·.2))):=by
  have:(fun p:Oper×Rec=>(p.2.rd.map (·.2),p.2.bl.map (·.2)))=(fun c:Rec=>(c.rd.map (·.2),c.bl.map (·.2))) ∘ Prod.snd:=rfl
  rw [this,← List.map_map,List.map_snd_zip (by omega)]
 rw [e,← h1]
 rfl
theorem Zeg {id:Nat} {ops:Array Oper} {y:Code} (i0:Nat) (recs1 recs2:List Rec) {oy:Oper} {c1 c2:Rec} (hm1:Met ops recs1 s) (hm2:Met ops recs2 s) (hp:recs1.take i0=recs2.take i0) (h1:(ops.toList.zip recs1)[i0]? = some (oy,c1)) (h2:(ops.toList.zip recs2)[i0]? = some (oy,c2)) (hg:c1.skip=false)
  (hy:Qmx P oy c1.rd c1.bl c1.r c1.eff c2.r c2.eff) (ha1:AllOkE P i0 0 (ops.toList.zip recs1)) (ha2:AllOkE P i0 0 (ops.toList.zip recs2)) (k1:AWp P X φ0 w0 ro y Q (after ops recs1 s)) (k2:AWp P X φ0 w0 ro y Q (after ops recs2 s)):AWp P X φ0 w0 ro (.seq (.region id ops false) y) Q s:=by
 refine Qsd fun φ a w hs=>wpIn_region ?_
 have e1:=hm1.2
 have e2:=hm2.2
 simp only [Bool.and_eq_true,beq_iff_eq] at e1 e2
 have hl1:(ops.toList.zip recs1).length=ops.size:=by simp; have:=e1.1; simp at this; omega
 have hl2:(ops.toList.zip recs2).length=ops.size:=by simp; have:=e2.1; simp at this; omega
 have:=Qw4 (ro:=ro) (X:=X) (φ0:=φ0) (w0:=w0) (Qk0 ha1 hm1) (Qk0 ha2 hm2) (fun j hj=>?_) h1 h2 hg hy (by rw [hl1,hl2]) (K:=conc X φ0 w0 (Qsz (AWp P X φ0 w0 ro y Q) Q)) (fun φ' a' w' hs'=>⟨φ',_,hs',k1⟩) (fun φ' a' w' hs'=>⟨φ',_,hs',k2⟩) i0 0 (by omega) φ a w (by
  have:=RInv.start (l:=ops.toList.zip recs1) (regs:=s.regs) (own:=s.own) hs
  simpa using this) (by
  have:=RInv.start (l:=ops.toList.zip recs2) (regs:=s.regs) (own:=s.own) hs
  simpa using this)
 ·rw [hl1,Nat.sub_zero,← List.range_eq_range'] at this
  exact this
 ·have hr:recs1[j]? = recs2[j]? := by
   have:=congrArg (fun l=>l[j]?) hp
   simpa [List.getElem?_take,hj] using this
  simp only [List.zip,List.getElem?_zipWith,hr]
end
end Go.Proofs.YtmbhnllcfmiajaaGreat
