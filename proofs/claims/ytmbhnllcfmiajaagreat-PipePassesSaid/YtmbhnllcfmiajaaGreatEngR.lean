/-
  The engine, part R: a range over a function: the iterator's contract, and the loop as a recursion over what it yields. Plain definitions and laws; no conditions.
-/
import Derived.Test.YtmbhnllcfmiajaaGreatEngQ
import Derived.RangeFuncNested
namespace Go.Proofs.YtmbhnllcfmiajaaGreat
open Go.RowKit
def Qss (P:Program) (gf:FuncId) (caps:List AV) (σ:List Slot) {α:Type} (encs:α→List Value) (L:List α):Prop:=
 ∀ (X:Nat→Nat→Prop) (φ:Nat→FSlot) (w:World) (vals:Array Value) (l:Nat) (J:Far α),vals.size=caps.length→(∀ i v,caps[i]? = some v→RelV X φ w v (vals.getD i undef))→EnvOK X φ w (fun n=>(σ++[Slot.far (J (some L))]).getD n .unused)→Qsr P l J encs →
  Calls P gf (#[.func (.yield l) #[] #[]]++vals) w fun e w'=>(∃ v,e=.returned v)∧∃ φ',Evo X φ w φ' w'∧Qb9 φ'∧(SlotOK X φ' w' σ.length (.far (J (some [])))∨SlotOK X φ' w' σ.length (.far (J none)))
def finI {α:Type} (J:Far α) (k:Nat):Exit→AS→Prop
 | .normal,s | .ret,s=>s.slot k=.far (J (some []))∨s.slot k=.far (J none)
 | _,_=>False
theorem Qth {P:Program} {gf:FuncId} {fn:Func} {c:Code} (hf:P.funcs[gf]? = some fn) (hb:fn.body=some c) (hres:fn.results = #[]) {caps:List AV} {σ:List Slot} {α:Type} {encs:α→List Value} {L:List α}
  (h:∀ X φ0 w0 l (J:Far α),(∀ n,σ.length+1≤n→φ0 n=.unused)→Qsr P l J encs→AWp P X φ0 w0 none c (finI J σ.length) ⟨AV.lit (.func (.yield l) #[] #[])::(caps++List.replicate (fn.ntmps - (caps.length+1)) AV.any),σ++[Slot.far (J (some L))]⟩):Qss P gf caps σ encs L:=by
 intro X φ w vals l J hsz hargs henv hy
 have hφ0:∀ n,σ.length+1≤n→φ n=.unused:=fun n hn=>by
  have:=henv.slot n
  simp only [List.getD_eq_getElem?_getD,List.getElem?_eq_none (show (σ++[Slot.far (J (some L))]).length≤n by simp; omega),Option.getD_none] at this
  exact this
 have hs0:Sim X φ { w with drawn:=0 } φ ⟨AV.lit (.func (.yield l) #[] #[])::(caps++List.replicate (fn.ntmps - (caps.length+1)) AV.any),σ++[Slot.far (J (some L))]⟩ { tmps:=(#[.func (.yield l) #[] #[]]++vals)++Array.replicate (fn.ntmps - (#[Value.func (.yield l) #[] #[]]++vals).size) undef,defers:=[] } w:=by
  refine ⟨fun n b hb=>(henv.slot n).lt hb,.nil0 _ _ rfl,?_,fun t v hv=>?_,henv,Evo.refl.to_at⟩
  ·simp [hsz]; omega
  ·simp only [Array.getD_eq_getD_getElem?]
   cases t with
   | zero=>
    simp only [List.getElem?_cons_zero,Option.some.injEq] at hv
    subst hv
    rw [Array.getElem?_append_left (by simp; try omega),Array.getElem?_append_left (by simp)]
    exact .lit _
   | succ t=>
    by_cases ht:t<caps.length
    ·simp only [List.getElem?_cons_succ,List.getElem?_append_left ht] at hv
     have:=hargs t v hv
     simp only [Array.getD_eq_getD_getElem?] at this
     rw [Array.getElem?_append_left (by simp; omega),Array.getElem?_append_right (by simp)]
     simpa using this
    ·simp only [List.getElem?_cons_succ,List.getElem?_append_right (Nat.le_of_not_lt ht),List.getElem?_replicate] at hv
     split at hv
     ·cases hv; exact .any _
     ·cases hv
 refine callsIn_wide.1 (callsIn_of_wp_marks (F:=FR none) (n:=0) hf hb trivial (wpIn_mono (h X φ { w with drawn:=0 } l J hφ0 hy φ _ w hs0) fun e a w' ⟨φ',s,hs,hq⟩=>?_))
 ·have fin:finI J σ.length .ret s→LeavesInM (FR none) 0 P fn a.tmps (fun e w'=>(∃ v,e=.returned v)∧∃ φ',Evo X φ w φ' w'∧Qb9 φ'∧(SlotOK X φ' w' σ.length (.far (J (some [])))∨SlotOK X φ' w' σ.length (.far (J none)))) a.defers .returning w':=fun hq=>by
   refine Ql0 (by simp) hs fun w'' hs2=>?_
   rw [Qmc rfl] at hs2 ⊢
   refine ⟨.tuple #[],?_,⟨_,rfl⟩,φ',hs2.evo.of_at,hs2.env.distinct,?_⟩
   ·simp [results,hres]
   ·have h1:=hs2.env.slot σ.length
    rcases hq with hq | hq<;>rw [hq] at h1
    ·exact .inl h1
    ·exact .inr h1
  cases e with
  | normal=>exact fin hq
  | ret=>exact fin hq
  | exit=>exact hq.elim
  | goto=>exact hq.elim
  | panic=>exact hq.elim
  | outgrown=>exact hq.elim
structure Evo1 (X:Nat→Nat→Prop) (φ:Nat→FSlot) (w:World) (X':Nat→Nat→Prop) (φ':Nat→FSlot) (w':World):Prop where
 dat:∀ b off,DataAt X φ w b off→DataAt X' φ' w' b off∧w'.cell? ⟨b,off,none⟩=w.cell? ⟨b,off,none⟩
 unus:∀ n,φ n ≠ .unused→φ' n ≠ .unused
 own:∀ n b,φ n ≠ .unused→φ' n=.own b→φ n=.own b
 tok:∀ n t,φ n ≠ .unused→φ' n=.tok t→φ n=.tok t∧∀ b L,t=some (b,L)→w'.heap[b]? = w.heap[b]?
 shape:∀ n b,φ n=.own b→φ' n=.own b→Shape w w' b
 mat:∀ n bs',φ n ≠ .unused→φ' n=.mat bs'→∃ bs,φ n=.mat bs∧MatLe bs bs'
section
variable {X X' : Nat → Nat → Prop} {φ φ' : Nat → FSlot} {w w' : World}
theorem DatOK.evo1 {m:Nat} {xs:List (List AV)} {A:Option Addr} {len cap:Nat} {g:Nat→Nat→Value} (h:DatOK X φ w m xs A len cap g) (e:Evo1 X φ w X' φ' w'):DatOK X' φ' w' m xs A len cap g:=
 ⟨h.hlen,h.hcap,h.hmost,h.hsize,fun hx=>by
  obtain ⟨b,o,hA,hc⟩:=h.hcells hx
  exact ⟨b,o,hA,fun j x hj i hi=>by
   obtain ⟨h1,h2⟩:=hc j x hj i hi
   obtain ⟨e1,e2⟩:=e.dat _ _ h1
   exact ⟨e1,e2.trans h2⟩⟩⟩
theorem RelV.evo1 {a:AV} {v:Value} (h:RelV X φ w a v) (e:Evo1 X φ w X' φ' w'):RelV X' φ' w' a v:=by
 induction h with
 | any v=>exact .any v
 | lit v=>exact .lit v
 | agg l vs hs _ ih=>exact .agg l vs hs ih
 | tup l vs hs _ ih=>exact .tup l vs hs ih
 | fn f first cap us vs hu hv _ _ ih1 ih2=>exact .fn f first cap us vs hu hv ih1 ih2
 | dat m xs A len cap g ok _ ih=>exact .dat m xs A len cap g (ok.evo1 e) ih
 | dptr cs i b o g hc _ ih=>
  refine .dptr cs i b o g (fun k hk=>?_) ih
  obtain ⟨h1,h2⟩:=hc k hk
  obtain ⟨e1,e2⟩:=e.dat _ _ h1
  exact ⟨e1,e2.trans h2⟩
 | ref n m j i A hn h=>exact .ref n m j i A (e.unus n hn) (fun b hb=>h b (e.own n b hn hb))
 | own n m j len A cap hc hm hn h=>exact .own n m j len A cap hc hm (e.unus n hn) (fun b hb=>h b (e.own n b hn hb))
 | acc n ty m xs A len cap g ok _ hn ht ih=>
  refine .acc n ty m xs A len cap g (ok.evo1 e) ih (e.unus n hn) (fun t hb=>?_)
  obtain ⟨h1,h2⟩:=e.tok n t hn hb
  have:=ht t h1
  unfold Tip at this ⊢
  cases t with
  | none=>exact this
  | some p=>
   obtain ⟨b,L⟩:=p
   obtain ⟨k1,k2,cur,k3,k4⟩:=this
   exact ⟨k1,k2,cur,(h2 b L rfl).trans k3,k4⟩
 | gro n ty m len A cap hc hm hn hv h=>
  refine .gro n ty m len A cap hc hm (e.unus n hn) (fun hb=>hv (e.tok n none hn hb).1) (fun b hb=>?_)
  obtain ⟨h1,cur,h2,h3⟩:=h b (e.own n b hn hb)
  obtain ⟨cur',h4,h5⟩:=e.shape n b (e.own n b hn hb) hb cur ty _ h2
  exact ⟨h1,cur',h4,h5.trans h3⟩
 | row n k m j len A cap hc hm hn h=>
  refine .row n k m j len A cap hc hm (e.unus n hn) fun h0 bs' hb=>?_
  obtain ⟨bs,h1,h2⟩:=e.mat n bs' hn hb
  exact ⟨Nat.lt_of_lt_of_le (h h0 bs h1).1 h2.1,fun b hk=>(h h0 bs h1).2 b (h2.2 k b (h h0 bs h1).1 hk)⟩
 | rowp n k m j i A hn h=>
  refine .rowp n k m j i A (e.unus n hn) fun bs' hb=>?_
  obtain ⟨bs,h1,h2⟩:=e.mat n bs' hn hb
  exact ⟨Nat.lt_of_lt_of_le (h bs h1).1 h2.1,fun b hk=>(h bs h1).2 b (h2.2 k b (h bs h1).1 hk)⟩
 | mp n A hn h=>exact .mp n A (e.unus n hn) (fun b hb=>h b (e.own n b hn hb))
def Slot.isFar:Slot→Bool
 | .far _=>true
 | _=>false
theorem SlotOK.evo1 {n:Nat} {s:Slot} (h:SlotOK X φ w n s) (hf:s.isFar=false) (e:Evo1 X φ w X' φ' w') (hn:φ' n=φ n) (hb:∀ b,(φ n).lies b→w'.heap[b]? = w.heap[b]? ∧ ∀ off,¬ X' b off):SlotOK X' φ' w' n s:=by
 cases s with
 | unused=>exact hn.trans h
 | dead=>exact hn.trans h
 | own m xs=>
  obtain ⟨b,h1,⟨cur,ty,h2,h3,h4,h5⟩,h6⟩:=h
  exact ⟨b,hn.trans h1,⟨cur,ty,(hb b (.inl h1)).1.trans h2,h3,h4,fun j x hj i a hi=>(h5 j x hj i a hi).evo1 e⟩,(hb b (.inl h1)).2⟩
 | tok=>
  obtain ⟨t,h1,h2⟩:=h
  exact ⟨t,hn.trans h1,fun b L hbl=>⟨by rw [(hb b (.tok (L:=L) (by rw [h1,hbl]))).1]; exact (h2 b L hbl).1,(hb b (.tok (L:=L) (by rw [h1,hbl]))).2⟩⟩
 | gro m xs=>
  rcases h with ⟨h1,h2⟩ | ⟨b,h1,⟨cur,ty,h2,h3,h4,h5⟩,h6⟩
  ·exact .inl ⟨h1,hn.trans h2⟩
  ·exact .inr ⟨b,hn.trans h1,⟨cur,ty,(hb b (.inl h1)).1.trans h2,h3,h4,fun j x hj i a hi=>(h5 j x hj i a hi).evo1 e⟩,(hb b (.inl h1)).2⟩
 | far J=>cases hf
 | mat m rows=>
  obtain ⟨bs,h1,h2,h3,h4⟩:=h
  refine ⟨bs,hn.trans h1,h2,h3,fun k xs hx=>?_⟩
  rcases h4 k xs hx with h5 | ⟨b,hk,⟨cur,ty,c2,c3,c4,c5⟩,c6⟩
  ·exact .inl h5
  ·exact .inr ⟨b,hk,⟨cur,ty,(hb b (.mat h1 hk)).1.trans c2,c3,c4,fun j x hj i a hi=>(c5 j x hj i a hi).evo1 e⟩,(hb b (.mat h1 hk)).2⟩
 | mp es clock=>
  obtain ⟨b,h1,h2,h3⟩:=h
  exact ⟨b,hn.trans h1,(hb b (.inl h1)).1.trans h2,(hb b (.inl h1)).2⟩
end
def farL (l:Nat) (o:Obj):(Nat→Nat→Prop)→(Nat→Nat→Prop)→World→Prop:=fun Y _ B=>Y=(fun b _=>b=l)∧B.heap[l]? = some o
def Yof (φ:Nat→FSlot) (D0:Nat):Nat→Nat→Prop:=fun b off=>(∃ n,φ n=.own b)∨(∃ n L,φ n=.tok (some (b,L))∧L≤off)∨(∃ n Y,φ n=.far Y∧Y b off)∨(∃ (n:Nat) (bs:List (Option Nat)) (k:Nat),φ n=.mat bs∧bs[k]? = some (some b))∨b=D0
def XH (Y D:Nat→Nat→Prop) (B:World):Nat→Nat→Prop:=fun b off=>b<B.heap.size∧¬ D b off∧∀ off',¬ Y b off'
structure EvoN (kb:Nat) (φ:Nat→FSlot) (w:World) (φ':Nat→FSlot) (w':World):Prop where
 dead:∀ n,n<kb→φ n=.dead→φ' n=.dead
 own:∀ n b,n<kb→φ n=.own b→φ' n=.own b∨φ' n=.dead
 tok:∀ n t,n<kb→φ n=.tok t→φ' n=.dead∨(φ' n=.tok t∧∀ b L,t=some (b,L)→w'.heap[b]? = w.heap[b]?)
 far:∀ n Y,n<kb→φ n=.far Y→φ' n=.dead∨∃ Y',φ' n=.far Y'
 shape:∀ n b,n<kb→φ n=.own b→φ' n=.own b→Shape w w' b
 mat:∀ n bs,n<kb→φ n=.mat bs→φ' n=.dead∨∃ bs',φ' n=.mat bs'∧MatLe bs bs'
theorem Qji {φ:Nat→FSlot} {D0 n b:Nat} (h:(φ n).lies b):∃ off,Yof φ D0 b off:=by
 rcases h with h | ⟨L,h⟩ | ⟨Y,h,off,hy⟩ | ⟨bs,h,k,hk⟩
 ·exact ⟨0,.inl ⟨n,h⟩⟩
 ·exact ⟨L,.inr (.inl ⟨n,L,h,Nat.le_refl _⟩)⟩
 ·exact ⟨off,.inr (.inr (.inl ⟨n,Y,h,hy⟩))⟩
 ·exact ⟨0,.inr (.inr (.inr (.inl ⟨n,bs,k,h,hk⟩)))⟩
theorem Qoz {φ:Nat→FSlot} {D0 b off:Nat} (h:Yof φ D0 b off):Qi7 φ b∨b=D0:=by
 rcases h with ⟨n,h⟩ | ⟨n,L,h,_⟩ | ⟨n,Y,h,hy⟩ | ⟨n,bs,k,h,hk⟩ | h
 ·exact .inl ⟨n,.inl h⟩
 ·exact .inl ⟨n,.tok h⟩
 ·exact .inl ⟨n,.far h hy⟩
 ·exact .inl ⟨n,.mat h hk⟩
 ·exact .inr h
theorem Qbu {w:World} {l b:Nat} {o:Obj} (h:b ≠ l):(w.putObj l o).heap[b]? = w.heap[b]? := World.putObj_heap_other h
theorem Qk8 {w:World} {l:Nat} {o:Obj} (h:l<w.heap.size):(w.putObj l o).heap[l]? = some o:=World.putObj_heap_same h
theorem Qhd {w:World} {l:Nat} {o:Obj}:(w.putObj l o).heap.size=w.heap.size:=by simp
theorem Qk9 {w:World} {l:Nat} {o o':Obj} (h:w.heap[l]? = some o) (ho:o.isCells=false) (ho':o'.isCells=false) (b off:Nat):(w.putObj l o').cell? ⟨b,off,none⟩=w.cell? ⟨b,off,none⟩:=by
 unfold World.cell?
 dsimp only
 by_cases e:b=l
 ·subst e
  rw [Qk8 (Array.getElem?_eq_some_iff.1 h).1,h]
  cases o<;>cases o'<;>first | rfl | (cases ho; done) | (cases ho'; done)
 ·rw [Qbu e]
section
variable {P : Program} {X : Nat → Nat → Prop} {φ0 φ φ' : Nat → FSlot} {w0 w w' : World} {ro : Option Nat} {Q : Exit → AS → Prop} {s : AS}
theorem Sim.turnL {k l:Nat} {o o':Obj} {regs:List AV} {own:List Slot} {a:Act} (h:Sim X φ0 w0 φ ⟨regs,own⟩ a w) (hd0:Qb9 φ0) (h0:(φ0 k).lies l) (hk:own[k]? = some (.far (farL l o))) (ho:o.isCells=false) (ho':o'.isCells=false) :
  w.heap[l]? = some o∧Sim X φ0 w0 φ ⟨regs,own.set k (.far (farL l o'))⟩ a (w.putObj l o'):=by
 have hslot:=h.env.slot k
 have hkl:k<own.length:=(List.getElem?_eq_some_iff.1 hk).1
 have e:AS.slot ⟨regs,own⟩ k=.far (farL l o):=by simp [AS.slot,hk]
 rw [e] at hslot
 obtain ⟨Y,D,B,h1,⟨rfl,h2⟩,h3⟩:=hslot
 have hY:=h3.own l 0 rfl
 have hl:w.heap[l]? = some o:=hY.2.1.trans h2
 have hne:∀ n b,n ≠ k→(φ n).lies b→b ≠ l:=fun n b hn hb e=>hn (h.env.distinct n k b hb (.far (off:=0) h1 e))
 have ev:Evo0 X φ w φ (w.putObj l o'):=by
  refine ⟨rfl,rfl,rfl,by simp,fun b off hd=>⟨⟨by simpa using hd.lt,hd.hid,hd.own,hd.tok,hd.far,hd.mat⟩,Qk9 hl ho ho' b off⟩,fun _ h=>h,fun _ _ h=>.inl h,fun n t ht=>.inr ⟨ht,fun b L e=>Qbu (hne n b (fun e'=>?_) (.tok (L:=L) (by rw [ht,e])))⟩,fun _ Y h=>.inr ⟨Y,h⟩,fun _ bs h=>.inr ⟨bs,h,.refl bs⟩,fun n b hn _=>.same (Qbu (hne n b (fun e'=>?_) (.own hn)))⟩
  ·subst e'; rw [h1] at ht; cases ht
  ·subst e'; rw [h1] at hn; cases hn
 refine ⟨hl,h.low,h.defers.to fun D hD hn=>⟨Qbu fun e=>hn ⟨k,by subst e; exact .far (off:=0) h1 rfl⟩,hn⟩,h.size,fun t v hv=>(h.regs t v hv).evo0 ev,⟨fun n=>?_,h.env.distinct,fun b off hx=>by simpa using h.env.hid b off hx⟩,?_⟩
 ·by_cases en:n=k
  ·subst en
   have e2:AS.slot ⟨regs,own.set n (.far (farL l o'))⟩ n=.far (farL l o'):=by simp [AS.slot,hkl]
   rw [e2]
   exact ⟨_,fun _ _=>False,_,h1,⟨rfl,Qk8 hY.1⟩,⟨fun b off hb=>⟨by have hb':b=l:=hb; subst hb'; simpa using hY.1,rfl,fun off'=>by have hb':b=l:=hb; subst hb'; exact hY.2.2 off'⟩,fun b off hf=>hf.elim,rfl,rfl,rfl,Nat.le_refl _⟩⟩
  ·have e2:AS.slot ⟨regs,own.set k (.far (farL l o'))⟩ n=AS.slot ⟨regs,own⟩ n:=by
    simp only [AS.slot,List.getD_eq_getElem?_getD]
    rw [List.getElem?_set_ne (fun e=>en e.symm)]
   rw [e2]
   exact (h.env.slot n).evo0 ev rfl fun b hb=>Qbu (hne n b en hb)
 ·have hb0:∀ n b,n ≠ k→(φ0 n).lies b→b ≠ l:=fun n b hn hb e=>hn (hd0 n k b hb (e ▸ h0))
  have E:=h.evo
  refine ⟨E.os,E.tape,E.output,by simpa using E.size,fun b hb hh=>(Qbu fun e=>hh ⟨k,by subst e; exact h0⟩).trans (E.blk b hb hh),E.new,fun b off hd=>?_,E.dead,E.own,fun n t hn=>?_,E.far,E.mat,fun n b hn hn'=>(E.shape n b hn hn').trans (ev.shape n b hn' hn')⟩
  ·obtain ⟨d1,d2⟩:=E.dat b off hd
   exact ⟨(ev.dat b off d1).1,(ev.dat b off d1).2.trans d2⟩
  ·rcases E.tok n t hn with e1 | ⟨e1,e2⟩
   ·exact .inl e1
   ·refine .inr ⟨e1,fun b L hb=>?_⟩
    rcases ev.tok n t e1 with e3 | ⟨_,e3⟩
    ·rw [e1] at e3; cases e3
    ·exact (e3 b L hb).trans (e2 b L hb)
theorem EvoN.refl {kb:Nat}:EvoN kb φ w φ w:=⟨fun _ _ h=>h,fun _ _ _ h=>.inl h,fun _ _ _ h=>.inr ⟨h,fun _ _ _=>rfl⟩,fun _ Y _ h=>.inr ⟨Y,h⟩,fun _ _ _ _ _=>.same rfl,fun _ bs _ h=>.inr ⟨bs,h,.refl bs⟩⟩
theorem EvoN.trans {kb:Nat} {φ'':Nat→FSlot} {w'':World} (h:EvoN kb φ w φ' w') (k:EvoN kb φ' w' φ'' w''):EvoN kb φ w φ'' w'':=by
 refine ⟨fun n hk hn=>k.dead n hk (h.dead n hk hn),fun n b hk hn=>?_,fun n t hk hn=>?_,fun n Y hk hn=>?_,fun n b hk hn hn2=>?_,fun n bs hk hn=>?_⟩
 ·rcases h.own n b hk hn with h1 | h1
  ·exact k.own n b hk h1
  ·exact .inr (k.dead n hk h1)
 ·rcases h.tok n t hk hn with h1 | ⟨h1,h2⟩
  ·exact .inl (k.dead n hk h1)
  ·rcases k.tok n t hk h1 with k1 | ⟨k1,k2⟩
   ·exact .inl k1
   ·exact .inr ⟨k1,fun b L e=>(k2 b L e).trans (h2 b L e)⟩
 ·rcases h.far n Y hk hn with h1 | ⟨Y',h1⟩
  ·exact .inl (k.dead n hk h1)
  ·exact k.far n Y' hk h1
 ·rcases h.own n b hk hn with h1 | h1
  ·exact (h.shape n b hk hn h1).trans (k.shape n b hk h1 hn2)
  ·rw [k.dead n hk h1] at hn2; cases hn2
 ·rcases h.mat n bs hk hn with h1 | ⟨bs',h1,hl⟩
  ·exact .inl (k.dead n hk h1)
  ·rcases k.mat n bs' hk h1 with k1 | ⟨bs'',k1,kl⟩
   ·exact .inl k1
   ·exact .inr ⟨bs'',k1,hl.trans kl⟩
theorem Evo.toN {kb:Nat} (h:Evo X φ w φ' w'):EvoN kb φ w φ' w':=⟨fun n _=>h.dead n,fun n b _=>h.own n b,fun n t _=>h.tok n t,fun n Y _=>h.far n Y,fun n b _=>h.shape n b,fun n bs _=>h.mat n bs⟩
theorem Qxr {kb:Nat} (h:∀ n b,(φ n).lies b→w'.heap[b]? = w.heap[b]?):EvoN kb φ w φ w':=⟨fun _ _ h=>h,fun _ _ _ h=>.inl h,fun n t _ ht=>.inr ⟨ht,fun b L e=>h n b (.tok (L:=L) (by rw [ht,e]))⟩,fun _ Y _ h=>.inr ⟨Y,h⟩,fun n b _ hn _=>.same (h n b (.own hn)),fun _ bs _ h=>.inr ⟨bs,h,.refl bs⟩⟩
theorem Zcv {kb:Nat} (h:∀ n,n<kb→φ' n=φ n):EvoN kb φ w φ' w:=⟨fun n hk hn=>(h n hk).trans hn,fun n _ hk hn=>.inl ((h n hk).trans hn),fun n _ hk hn=>.inr ⟨(h n hk).trans hn,fun _ _ _=>rfl⟩,fun n Y hk hn=>.inr ⟨Y,(h n hk).trans hn⟩,fun _ _ _ _ _=>.same rfl,fun n bs hk hn=>.inr ⟨bs,(h n hk).trans hn,.refl bs⟩⟩
def Ren (kb:Nat) (own own':List Slot):Prop:=∀ (X:Nat→Nat→Prop) (φ:Nat→FSlot) (w:World),EnvOK X φ w (fun n=>own.getD n .unused)→∃ φ',EnvOK X φ' w (fun n=>own'.getD n .unused)∧(∀ n,n<kb→φ' n=φ n)∧(∀ b,Qi7 φ' b→Qi7 φ b)∧∀ b off,DataAt X φ w b off→DataAt X φ' w b off
theorem Zfq {kb:Nat} {own own':List Slot} (ρ:List Nat) (sel:List Slot) (hdec:(decide ρ.Nodup&&((List.range kb).all fun i=>ρ[i]? == some i))=true) (hs:(ρ.map fun n=>own.getD n .unused)=sel) (ho:QPw (RW fun n n'=>ρ[n']? = some n) sel own'):Ren kb own own':=by
 intro X φ w henv
 simp only [Bool.and_eq_true,decide_eq_true_eq] at hdec
 obtain ⟨hnd,hid⟩:=hdec
 obtain ⟨q1,q2⟩:=ho.spec
 obtain ⟨φ',hφ'⟩:∃ φ':Nat→FSlot,φ'=fun n'=>match ρ[n']? with | some n=>φ n | none=>.unused:=⟨_,rfl⟩
 have hM:∀ n n',ρ[n']? = some n→φ' n'=φ n:=fun n n' e=>by rw [hφ']; simp only [e]
 have inv:∀ n' b,(φ' n').lies b→∃ n,ρ[n']? = some n∧(φ n).lies b:=fun n' b hb=>by
  cases e:ρ[n']? with
  | none=>rw [hφ'] at hb; simp only [e] at hb; exact (Qdp hb).elim
  | some n=>rw [hM n n' e] at hb; exact ⟨n,rfl,hb⟩
 have fwd:∀ b off,DataAt X φ w b off→DataAt X φ' w b off:=fun b off hd=>⟨hd.lt,hd.hid,fun n' hn=>by
  obtain ⟨n,e,_⟩:=inv n' b (.own hn)
  exact hd.own n ((hM n n' e) ▸ hn),fun n' L hn=>by
  obtain ⟨n,e,_⟩:=inv n' b (.tok hn)
  exact hd.tok n L ((hM n n' e) ▸ hn),fun n' Y hn hy=>by
  obtain ⟨n,e,_⟩:=inv n' b (.far hn hy)
  exact hd.far n Y ((hM n n' e) ▸ hn) hy,fun n' bs k hn hk=>by
  obtain ⟨n,e,_⟩:=inv n' b (.mat hn hk)
  exact hd.mat n bs k ((hM n n' e) ▸ hn) hk⟩
 have hR:∀ a a' v,RW (fun n n'=>ρ[n']? = some n) a a'→RelV X φ w a v→RelV X φ' w a' v:=fun a a' v hra=>by
  induction hra generalizing v with
  | agg l l' hl _ ih=>
   intro hv
   cases hv with
   | agg _ vs hs h=>
    refine .agg _ vs (hs.trans hl) fun i a' hi=>?_
    have hlt:=(List.getElem?_eq_some_iff.1 hi).1
    exact ih i _ a' (List.getElem?_eq_getElem (by omega)) hi _ (h i _ (List.getElem?_eq_getElem (by omega)))
  | any=>exact fun _=>.any v
  | rn hrn=>exact RelV.ren fwd hM hrn
  | dat n ty m xs hx=>
   intro hv
   cases hv with
   | acc _ _ _ _ A len cap g ok hr hu ht=>exact .dat m xs A len cap g (ok.env fwd) (fun j x hj i a hi=>(hr j x hj i a hi).env (k:=0) (fun n hn=>absurd hn (Nat.not_lt_zero n)) fwd (hx x (List.mem_of_getElem? hj) a (List.mem_of_getElem? hi)))
  | nil m=>
   intro hv
   have:=Qcf hv
   subst this
   exact .dat m [] none 0 0 (fun _ _=>undef) (DatOK.nil m none 0 _ (Nat.zero_le _)) (by simp)
 have inj:∀ (n1 n2 n':Nat),ρ[n1]? = some n'→ρ[n2]? = some n'→n1=n2:=fun n1 n2 n' h1 h2=>by
  obtain ⟨l1,e1⟩:=List.getElem?_eq_some_iff.1 h1
  obtain ⟨l2,e2⟩:=List.getElem?_eq_some_iff.1 h2
  exact (List.getElem_inj hnd).1 (e1.trans e2.symm)
 refine ⟨φ',⟨fun n'=>?_,fun n1 n2 b h1 h2=>?_,henv.hid⟩,fun n hn=>?_,fun b ⟨n',hb⟩=>?_,fwd⟩
 ·show SlotOK X φ' w n' (own'.getD n' .unused)
  cases e:ρ[n']? with
  | none=>
   have hge:own'.length≤n':=by rw [← q1,← hs,List.length_map]; exact List.getElem?_eq_none_iff.1 e
   simp only [List.getD_eq_getElem?_getD,List.getElem?_eq_none hge,Option.getD_none]
   show φ' n'=.unused
   rw [hφ']; simp only [e]
  | some n=>
   have hlt:n'<own'.length:=by rw [← q1,← hs,List.length_map]; exact (List.getElem?_eq_some_iff.1 e).1
   have hg:=List.getElem?_eq_getElem hlt
   have hsp:=q2 n' (own.getD n .unused) _ (by rw [← hs,List.getElem?_map,e]; rfl) hg
   simp only [List.getD_eq_getElem?_getD,hg,Option.getD_some]
   have hok:=henv.slot n
   (try dsimp only at hok)
   generalize own.getD n .unused=s1 at hsp hok
   generalize own'[n']=s2 at hsp
   cases hsp with
   | unused=>exact (hM n n' e).trans hok
   | dead=>exact (hM n n' e).trans hok
   | tok=>obtain ⟨t,ht,ht'⟩:=hok; exact ⟨t,(hM n n' e).trans ht,ht'⟩
   | own m xs xs' hl' hp=>obtain ⟨b,hb,hown⟩:=hok; exact ⟨b,(hM n n' e).trans hb,hown.pw hR hl' hp⟩
   | gro m xs xs' hl' hp=>
    rcases hok with ⟨h1,h2⟩ | ⟨b,hb,hown⟩
    ·exact .inl ⟨List.eq_nil_of_length_eq_zero (by rw [← hl',h1]; rfl),(hM n n' e).trans h2⟩
    ·exact .inr ⟨b,(hM n n' e).trans hb,hown.pw hR hl' hp⟩
   | far J=>
    obtain ⟨Y,D,B,f1,f2,f3⟩:=hok
    exact ⟨Y,D,B,(hM n n' e).trans f1,f2,f3.own,fun b off hx hy=>⟨fwd b off (f3.dat b off hx hy).1,(f3.dat b off hx hy).2⟩,f3.os,f3.tape,f3.output,f3.size⟩
   | mat m rows hp=>
    obtain ⟨bs,m1,m2,m3,m4⟩:=hok
    refine ⟨bs,(hM n n' e).trans m1,m2,m3,fun k xs hk=>?_⟩
    rcases m4 k xs hk with m5 | ⟨b,m5,m6⟩
    ·exact .inl m5
    ·exact .inr ⟨b,m5,m6.pw hR rfl fun j x x' h1 h2=>by rw [h1] at h2; cases h2; exact hp xs (List.mem_of_getElem? hk) x (List.mem_of_getElem? h1)⟩
   | mp es clock=>obtain ⟨b,hb,hown⟩:=hok; exact ⟨b,(hM n n' e).trans hb,hown⟩
 ·obtain ⟨m1,e1,h3⟩:=inv n1 b h1
  obtain ⟨m2,e2,h4⟩:=inv n2 b h2
  have:=henv.distinct m1 m2 b h3 h4
  subst this
  exact inj n1 n2 m1 e1 e2
 ·have:=List.all_eq_true.1 hid n (by simpa using hn)
  exact hM n n (by simpa using this)
 ·obtain ⟨n,_,h⟩:=inv n' b hb
  exact ⟨n,h⟩
structure Mid (kb:Nat) (s:AS) (a:Act) (l D0:Nat) (φ1:Nat→FSlot) (W1:World) (own1:List Slot) (o:Obj) (φ:Nat→FSlot) (Y D:Nat→Nat→Prop) (B:World):Prop where
 hY:Y=Yof φ D0
 regs:∀ i v,s.regs[i]? = some v→RelV (XH Y D B) φ B v (a.tmps.getD i undef)
 slot:∀ n,SlotOK (XH Y D B) φ B n ((own1++[Slot.far (farL l o)]).getD n .unused)
 distinct:Qb9 φ
 mark:B.heap[D0]? = some (.deferred (some []))
 free:¬ Qi7 φ D0
 names:EvoN kb φ1 W1 φ B
theorem Qj3 {own1:List Slot} {x:Slot}:(own1++[x]).getD own1.length .unused=x:=by simp
theorem Qma {own1:List Slot} {x:Slot} {n:Nat} (h:n<own1.length):(own1++[x]).getD n .unused=own1.getD n .unused:=by simp [List.getElem?_append_left h]
theorem Qkz {own1:List Slot} {x:Slot} {n:Nat} (h:own1.length<n):(own1++[x]).getD n .unused=.unused:=by
 have:(own1++[x])[n]? = none:=List.getElem?_eq_none (by simp; omega)
 simp [List.getD_eq_getElem?_getD,this]
section
variable {kb : Nat} {a : Act} {l D0 : Nat} {φ1 : Nat → FSlot} {W1 : World} {own1 : List Slot} {o : Obj} {Y D : Nat → Nat → Prop} {B : World}
theorem Mid.far (m:Mid kb s a l D0 φ1 W1 own1 o φ Y D B):φ own1.length=.far (fun b _=>b=l)∧B.heap[l]? = some o∧l<B.heap.size:=by
 have:=m.slot own1.length
 rw [Qj3] at this
 obtain ⟨Y0,D',B',h1,⟨rfl,h2⟩,h3⟩:=this
 exact ⟨h1,(h3.own l 0 rfl).2.1.trans h2,(h3.own l 0 rfl).1⟩
theorem Mid.shift (m:Mid kb s a l D0 φ1 W1 own1 o φ Y D B) {Xi:Nat→Nat→Prop} {φi:Nat→FSlot} (hF:FarAt Xi φi w Y D B):Evo1 (XH Y D B) φ B (XH Y D w) φ w:=by
 have hb:∀ n b,(φ n).lies b→w.heap[b]? = B.heap[b]? := fun n b h=>by
  obtain ⟨off,hy⟩:=Qji (D0:=D0) h
  exact (hF.own b off (by rw [m.hY]; exact hy)).2.1
 refine ⟨fun b off hd=>⟨⟨Nat.lt_of_lt_of_le hd.lt hF.size,fun hx=>hd.hid ⟨hd.lt,hx.2⟩,hd.own,hd.tok,hd.far,hd.mat⟩,?_⟩,fun _ h=>h,fun _ _ _ h=>h,fun n t _ h=>⟨h,fun b L e=>hb n b (.tok (L:=L) (by rw [h,e]))⟩,fun n b h _=>.same (hb n b (.own h)),fun _ bs _ h=>⟨bs,h,.refl bs⟩⟩
 by_cases hy:∃ off',Y b off'
 ·obtain ⟨off',hy⟩:=hy
  exact World.cell?_of_block (hF.own b off' hy).2.1
 ·have hD:D b off:=Classical.byContradiction fun hD=>hd.hid ⟨hd.lt,hD,fun off' h=>hy ⟨off',h⟩⟩
  exact (hF.dat b off hD fun h=>hy ⟨off,h⟩).2
theorem Mid.sim (m:Mid kb s a l D0 φ1 W1 own1 o φ Y D B) (hnf:∀ st ∈ own1,st.isFar=false) {Xi:Nat→Nat→Prop} {φi:Nat→FSlot} (hF:FarAt Xi φi w Y D B) :
  (∀ i v,s.regs[i]? = some v→RelV (XH Y D w) φ w v (a.tmps.getD i undef))∧EnvOK (XH Y D w) φ w (fun n=>(own1++[Slot.far (farL l o)]).getD n .unused)∧w.heap[l]? = some o:=by
 have e:=m.shift hF
 have hlie:∀ n b,(φ n).lies b→w.heap[b]? = B.heap[b]? ∧ ∀ off,¬ XH Y D w b off:=fun n b h=>by
  obtain ⟨off,hy⟩:=Qji (D0:=D0) h
  exact ⟨(hF.own b off (by rw [m.hY]; exact hy)).2.1,fun off' hx=>hx.2.2 off (by rw [m.hY]; exact hy)⟩
 obtain ⟨f1,f2,f3⟩:=m.far
 have hl:w.heap[l]? = some o:=(hlie _ l (.far (off:=0) f1 rfl)).1.trans f2
 refine ⟨fun i v hv=>(m.regs i v hv).evo1 e,⟨fun n=>?_,m.distinct,fun b off hx=>hx.1⟩,hl⟩
 have hn:=m.slot n
 show SlotOK _ _ _ n ((own1++[Slot.far (farL l o)]).getD n .unused)
 rcases Nat.lt_trichotomy n own1.length with h | rfl | h
 ·rw [Qma h] at hn ⊢
  exact hn.evo1 (hnf _ (by simp [h])) e rfl fun b hb=>hlie n b hb
 ·rw [Qj3]
  exact ⟨_,fun _ _=>False,w,f1,⟨rfl,hl⟩,⟨fun b off hb=>⟨by have hb':b=l:=hb; subst hb'; exact (Array.getElem?_eq_some_iff.1 hl).1,rfl,fun off'=>by have hb':b=l:=hb; subst hb'; exact (hlie _ b (.far (off:=0) f1 rfl)).2 off'⟩,fun b off hf=>hf.elim,rfl,rfl,rfl,Nat.le_refl _⟩⟩
 ·rw [Qkz h] at hn ⊢
  exact hn
theorem Mid.back {own2 own3:List Slot} {o' o'':Obj} {regs3:List AV} {a2:Act} {w2:World} {Xi:Nat→Nat→Prop} {φi φ3:Nat→FSlot} (m:Mid kb s a l D0 φ1 W1 own1 o φ Y D B) (hnf:∀ st ∈ own1,st.isFar=false) (hF:FarAt Xi φi w Y D B) (hreg:∀ v ∈ s.regs,NLt kb v)
  (hnf2:∀ st ∈ own2,st.isFar=false) (hlen:own2.length=own1.length) (hs:Sim (XH Y D w) φ { w with drawn:=0 } φ3 ⟨regs3,own3⟩ a2 w2) (hren:Ren kb own3 (own2++[Slot.far (farL l o')])) (ho':o'.isCells=false) (ho'':o''.isCells=false) :
  ∃ φ2,w2.heap[l]? = some o'∧Kept Y (Yof φ2 D0) w (w2.putObj l o'')∧(∀ b off,Yof φ2 D0 b off→b<(w2.putObj l o'').heap.size)∧Mid kb s a l D0 φ1 W1 own2 o'' φ2 (Yof φ2 D0) (grow D Y w (w2.putObj l o'')) (w2.putObj l o''):=by
 obtain ⟨hregs,henv,hl⟩:=m.sim hnf hF
 obtain ⟨f1,_,_⟩:=m.far
 have E:=hs.evo.of_at
 obtain ⟨φ2,henv2,hlow2,hsub,hfwd⟩:=hren _ φ3 w2 hs.env
 refine ⟨φ2,?_⟩
 have hk2:φ2 own1.length=.far (fun b _=>b=l)∧w2.heap[l]? = some o':=by
  have:=henv2.slot own1.length
  have e:(own2++[Slot.far (farL l o')]).getD own1.length .unused=.far (farL l o'):=by rw [← hlen]; exact Qj3
  (try dsimp only at this)
  rw [e] at this
  obtain ⟨Y0,D',B',h1,⟨rfl,h2⟩,h3⟩:=this
  exact ⟨h1,(h3.own l 0 rfl).2.1.trans h2⟩
 obtain ⟨k1,k2⟩:=hk2
 have hlt2:l<w2.heap.size:=(Array.getElem?_eq_some_iff.1 k2).1
 have hcell:=Qk9 k2 ho' ho''
 have hYl:∀ off,Y l off:=fun off=>by rw [m.hY]; exact .inr (.inr (.inl ⟨_,_,f1,rfl⟩))
 have hYD:∀ off,Y D0 off:=fun off=>by rw [m.hY]; exact .inr (.inr (.inr (.inr rfl)))
 have hlD:D0 ≠ l:=fun e=>m.free ⟨own1.length,.far (off:=0) f1 e⟩
 have hD0:D0<w.heap.size:=(hF.own D0 0 (hYD 0)).1
 have noY:∀ b,(∀ off,¬ Y b off)→¬ Qi7 φ b:=fun b h ⟨n,hn⟩=>by
  obtain ⟨off,hy⟩:=Qji (D0:=D0) hn
  exact h off (by rw [m.hY]; exact hy)
 have hne:∀ n b,n ≠ own1.length→(φ2 n).lies b→b ≠ l:=fun n b hn hb e=>hn (henv2.distinct n _ b hb (.far (off:=0) k1 e))
 have hbl:∀ b,b<w.heap.size→(∀ off,¬ Y b off)→(w2.putObj l o'').heap[b]? = w.heap[b]? := fun b hb h=>(Qbu fun e=>h 0 (by subst e; exact hYl 0)).trans (E.blk b hb (noY b h))
 have hdat:∀ b off,b<w.heap.size→¬ Y b off→(∃ off',Y b off')→DataAt (XH Y D w) φ w b off:=fun b off hb hy ⟨off',hy'⟩=>by
  rw [m.hY] at hy
  refine ⟨hb,fun hx=>hx.2.2 off' hy',fun n hn=>hy (.inl ⟨n,hn⟩),fun n L hn=>?_,fun n Y0 hn hy0=>hy (.inr (.inr (.inl ⟨n,Y0,hn,hy0⟩))),fun n bs z hn hz=>hy (.inr (.inr (.inr (.inl ⟨n,bs,z,hn,hz⟩))))⟩
  rcases Nat.lt_or_ge off L with h | h
  ·exact h
  ·exact absurd (.inr (.inl ⟨n,L,hn,h⟩)) hy
 have hnew:∀ b off,Yof φ2 D0 b off→(∃ off,Y b off)∨w.heap.size≤b:=fun b off hy=>by
  rcases Qoz hy with hh | rfl
  ·rcases E.new b (hsub b hh) with ⟨n,hn⟩ | h1
   ·obtain ⟨off',h2⟩:=Qji (D0:=D0) hn
    exact .inl ⟨off',by rw [m.hY]; exact h2⟩
   ·exact .inr h1
  ·exact .inl ⟨0,hYD 0⟩
 have e2:Evo1 (XH Y D w) φ2 w2 (XH (Yof φ2 D0) (grow D Y w (w2.putObj l o'')) (w2.putObj l o'')) φ2 (w2.putObj l o''):=by
  refine ⟨fun b off hd=>⟨⟨by simpa using hd.lt,fun hx=>?_,hd.own,hd.tok,hd.far,hd.mat⟩,hcell b off⟩,fun _ h=>h,fun _ _ _ h=>h,fun n t _ h=>⟨h,fun b L e=>Qbu (hne n b (fun en=>by subst en; rw [k1] at h; cases h) (.tok (L:=L) (by rw [h,e])))⟩,fun n b h _=>.same (Qbu (hne n b (fun en=>by subst en; rw [k1] at h; cases h) (.own h))),fun _ bs _ h=>⟨bs,h,.refl bs⟩⟩
  obtain ⟨h1,h2,h3⟩:=hx
  have hlt:b<w.heap.size:=Classical.byContradiction fun h=>h2 (.inr (.inr ⟨Nat.le_of_not_lt h,h1⟩))
  exact hd.hid ⟨hlt,fun h=>h2 (.inl h),fun off' h=>h2 (.inr (.inl ⟨off',h⟩))⟩
 have hbound:∀ b off,Yof φ2 D0 b off→b<(w2.putObj l o'').heap.size:=fun b off hy=>by
  rw [Qhd]
  rcases Qoz hy with ⟨n,hn⟩ | rfl
  ·exact (henv2.slot n).lt hn
  ·exact Nat.lt_of_lt_of_le hD0 E.size
 have hlie2:∀ n b,(φ2 n).lies b→∀ off,¬ XH (Yof φ2 D0) (grow D Y w (w2.putObj l o'')) (w2.putObj l o'') b off:=fun n b h off hx=>by
  obtain ⟨off',hy⟩:=Qji (D0:=D0) h
  exact hx.2.2 off' hy
 refine ⟨k2,⟨E.os,E.tape,E.output,by rw [Qhd]; exact E.size,hbl,fun b off hb hy=>?_,hnew⟩,hbound,⟨rfl,fun i v hv=>(((hregs i v hv).evo E).env (k:=kb) hlow2 hfwd (hreg v (List.mem_of_getElem? hv))).evo1 e2,fun n=>?_,henv2.distinct,?_,?_,?_⟩⟩
 ·by_cases hyy:∃ off',Y b off'
  ·obtain ⟨d1,d2⟩:=E.dat b off (hdat b off hb hy hyy)
   have d1:=hfwd b off d1
   refine ⟨fun hy'=>?_,(hcell b off).trans d2⟩
   rcases hy' with ⟨n,h⟩ | ⟨n,L,h,hL⟩ | ⟨n,Y0,h,h0⟩ | ⟨n,bs,z,h,hz⟩ | rfl
   ·exact d1.own n h
   ·have:=d1.tok n L h; omega
   ·exact d1.far n Y0 h h0
   ·exact d1.mat n bs z h hz
   ·exact hy (hYD off)
  ·have hno:∀ off',¬ Y b off':=fun off' h=>hyy ⟨off',h⟩
   refine ⟨fun hy'=>?_,World.cell?_of_block (hbl b hb hno)⟩
   rcases hnew b off hy' with ⟨off',h⟩ | h
   ·exact hno off' h
   ·omega
 ·have hn:=henv2.slot n
  (try dsimp only at hn)
  show SlotOK _ _ _ n ((own2++[Slot.far (farL l o'')]).getD n .unused)
  rcases Nat.lt_trichotomy n own2.length with h | rfl | h
  ·rw [Qma h] at hn ⊢
   exact hn.evo1 (hnf2 _ (by simp [h])) e2 rfl fun b hb=>⟨Qbu (hne n b (by omega) hb),hlie2 n b hb⟩
  ·rw [Qj3]
   exact ⟨_,fun _ _=>False,w2.putObj l o'',by rw [hlen]; exact k1,⟨rfl,Qk8 hlt2⟩,⟨fun b off hb=>⟨by have hb':b=l:=hb; subst hb'; rw [Qhd]; exact hlt2,rfl,fun off'=>by have hb':b=l:=hb; subst hb'; exact hlie2 _ b (.far (off:=0) k1 rfl) off'⟩,fun b off hf=>hf.elim,rfl,rfl,rfl,Nat.le_refl _⟩⟩
  ·rw [Qkz h] at hn ⊢
   exact hn
 ·rw [Qbu hlD,E.blk D0 hD0 m.free,(hF.own D0 0 (hYD 0)).2.1]
  exact m.mark
 ·intro hh
  rcases E.new D0 (hsub D0 hh) with h | h
  ·exact m.free h
  ·omega
 ·have n1:EvoN kb φ B φ w:=Qxr fun n b h=>by
   obtain ⟨off,hy⟩:=Qji (D0:=D0) h
   exact (hF.own b off (by rw [m.hY]; exact hy)).2.1
  refine m.names.trans (n1.trans (E.toN.trans ((Zcv hlow2).trans ?_)))
  exact ⟨fun _ _ h=>h,fun _ _ _ h=>.inl h,fun n t _ ht=>.inr ⟨ht,fun b L e=>Qbu (hne n b (fun en=>by subst en; rw [k1] at ht; cases ht) (.tok (L:=L) (by rw [ht,e])))⟩,fun _ Y _ h=>.inr ⟨Y,h⟩,fun n b _ h _=>.same (Qbu (hne n b (fun en=>by subst en; rw [k1] at h; cases h) (.own h))),fun _ bs _ h=>.inr ⟨bs,h,.refl bs⟩⟩
end
def Zl4 (regs:List AV) (ps:Array Tmp) (vs:List Value):List AV:=(ps.toList.zip vs).foldl (fun r p=>r.set p.1 (.lit p.2)) regs
theorem Qw1 {X:Nat→Nat→Prop} {φ:Nat→FSlot} {w:World}:∀ (l:List (Tmp×Value)) (regs:List AV) (tmps:Array Value),tmps.size=regs.length→(∀ i v,regs[i]? = some v→RelV X φ w v (tmps.getD i undef)) →
  (l.foldl (fun t p=>t.setIfInBounds p.1 p.2) tmps).size=(l.foldl (fun r p=>r.set p.1 (AV.lit p.2)) regs).length∧∀ i v,(l.foldl (fun r p=>r.set p.1 (AV.lit p.2)) regs)[i]? = some v→RelV X φ w v ((l.foldl (fun t p=>t.setIfInBounds p.1 p.2) tmps).getD i undef)
 | [],_,_,hs,h=>⟨hs,h⟩
 | p::l,regs,tmps,hs,h=>by
  refine Qw1 l (regs.set p.1 (AV.lit p.2)) (tmps.setIfInBounds p.1 p.2) (by simpa using hs) fun i v hi=>?_
  rw [List.getElem?_set] at hi
  simp only [Array.getD_eq_getD_getElem?,Array.getElem?_setIfInBounds]
  split at hi
  ·rename_i e
   subst e
   split at hi
   ·rename_i hlt
    cases hi
    simp [hs,hlt]
    exact .lit _
   ·cases hi
  ·rename_i e
   rw [if_neg e]
   have:=h i v hi
   rwa [Array.getD_eq_getD_getElem?] at this
def Zfn (kb:Nat) (Q:Exit→AS→Prop) (s:AS) (l:Nat) {τ:Type} (G:τ→Prop) (own:τ→List Slot) (k:Nat) (o:Obj):Exit→AS→Prop
 | .normal,s'=>∃ t,G t∧Ren kb s'.own (own t++[Slot.far (farL l o)])
 | .ret,s'=>∃ own2,(own2.length==k&&own2.all (fun x=>!x.isFar))=true∧Q .ret ⟨s.regs,own2++[.dead]⟩∧Ren kb s'.own (own2++[Slot.far (farL l o)])
 | .exit id,s'=>∃ own2,(own2.length==k&&own2.all (fun x=>!x.isFar))=true∧Q (.exit id) ⟨s.regs,own2++[.dead]⟩∧Ren kb s'.own (own2++[Slot.far (farL l o)])
 | _,_=>False
def Zam (P:Program) (X:Nat→Nat→Prop) (φr:Nat→FSlot) (Wr:World) (l:Nat) (k:Nat) (o:Obj) (body:Code) (K:Obj→Exit→AS→Prop):Exit→AS→Prop
 | .normal,s1=>s1.own[k]? = some (.far (farL l o))∧∀ o',AWp P X φr Wr (some l) body (K o') ⟨s1.regs,s1.own.set k (.far (farL l o'))⟩
 | _,_=>False
def Qq9 (own:List Slot) (ρ:List Nat):List Slot:=ρ.foldl (fun o n=>o.set n .dead) own
theorem Qm4:∀ (ρ:List Nat) (own:List Slot) (n:Nat),n<own.length→(Qq9 own ρ).getD n .unused=if n ∈ ρ then .dead else own.getD n .unused
 | [],own,n,_=>by simp [Qq9]
 | q::ρ,own,n,h=>by
  have:=Qm4 ρ (own.set q .dead) n (by simpa using h)
  show (Qq9 (own.set q .dead) ρ).getD n .unused=_
  rw [this]
  by_cases h1:n ∈ ρ
  ·simp [h1]
  ·by_cases h2:n=q
   ·subst h2; simp [h1,h]
   ·have:q ≠ n:=fun e=>h2 e.symm
    simp [h1,h2,List.getElem?_set_ne this]
section
variable {P : Program} {X : Nat → Nat → Prop} {φ0 φ : Nat → FSlot} {w0 w : World} {Q : Exit → AS → Prop} {s : AS}
theorem Mid.finish {kb:Nat} {a:Act} {own2:List Slot} {o o':Obj} {φi φ2 φe:Nat→FSlot} {Y D:Nat→Nat→Prop} {B w2 W1:World} {φ1:Nat→FSlot} {ρ:List Nat} (h:Sim X φ0 w0 φ s a w) (h00:∀ n,kb≤n→φ0 n=.unused) (hdr0:w0.drawn ≠ 1) (hk:own2.length=s.own.length)
  (hφ1:∀ n,φ1 n=if n ∈ ρ then .dead else if n=s.own.length then .far (fun b _=>b=w.heap.size+1) else φ n)
  (hW1:∃ r,W1=(w.alloc (.deferred (some []))).alloc (.loop r))
  (m:Mid kb s a (w.heap.size+1) w.heap.size φ1 W1 own2 o φe Y D B) (hnf:∀ st ∈ own2,st.isFar=false) (ho:o.isCells=false) (ho':o'.isCells=false)
  (hF:FarAt X φ2 w2 Y D B) {q:Nat} (hq:φ2 q=.far Y) (E:Evo X φi W1 φ2 w2) (hi:∀ b,Qi7 φi b→Qi7 φ b∨w.heap.size≤b) (hid:∀ b off,DataAt X φ w b off→DataAt X φi W1 b off) :
  w2.heap[w.heap.size+1]? = some o∧Sim X φ0 w0 (fun n=>if n=s.own.length then .dead else φe n) ⟨s.regs,own2++[.dead]⟩ { a with defers:={ target:=.collected w.heap.size,args := #[] }::a.defers } (w2.putObj (w.heap.size+1) o'):=by
 obtain ⟨r,hW1⟩:=hW1
 have hsz1:W1.heap.size=w.heap.size+2:=by subst hW1; simp
 have hold:∀ b,b<w.heap.size→W1.heap[b]? = w.heap[b]? := fun b hb=>by
  subst hW1
  exact (heap_alloc_old _ _ (by simp; omega)).trans (heap_alloc_old w _ hb)
 obtain ⟨hregs,henv,hl⟩:=m.sim hnf hF
 refine ⟨hl,?_⟩
 obtain ⟨f1,_,_⟩:=m.far
 rw [hk] at f1
 have hlt2:w.heap.size+1<w2.heap.size:=(Array.getElem?_eq_some_iff.1 hl).1
 have hcell:=Qk9 (o':=o') hl ho ho'
 have hu:φ s.own.length=.unused:=by
  have:=h.env.slot s.own.length
  have e:s.slot s.own.length=.unused:=by simp [AS.slot]
  rw [e] at this
  exact this
 have hYof:∀ n b,(φe n).lies b→∃ off,Y b off:=fun n b hn=>by
  obtain ⟨off,hy⟩:=Qji (D0:=w.heap.size) hn
  exact ⟨off,by rw [m.hY]; exact hy⟩
 have hne:∀ n b,n ≠ s.own.length→(φe n).lies b→b ≠ w.heap.size+1:=fun n b hn hb e=>hn (m.distinct n _ b hb (.far (off:=0) f1 e))
 have hH:∀ b,Qi7 φe b→b<w.heap.size→Qi7 φ b:=fun b ⟨n,hn⟩ hb=>by
  obtain ⟨off,hy⟩:=hYof n b hn
  rcases E.new b ⟨q,.far hq hy⟩ with h1 | h1
  ·rcases hi b h1 with h2 | h2
   ·exact h2
   ·omega
  ·omega
 have keep:∀ b,b<w.heap.size→¬ Qi7 φ b→(w2.putObj (w.heap.size+1) o').heap[b]? = w.heap[b]? := fun b hb hh=>by
  rw [Qbu (by omega),E.blk b (by omega) fun h1=>?_,hold b hb]
  rcases hi b h1 with h2 | h2
  ·exact hh h2
  ·omega
 have n1:EvoN kb φ1 W1 φe w2:=m.names.trans (Qxr fun n b hb=>by
  obtain ⟨off,hy⟩:=hYof n b hb
  exact (hF.own b off hy).2.1)
 have uns:∀ n,φ n ≠ .unused→n ≠ s.own.length:=fun n hn e=>hn (e ▸ hu)
 have same1:∀ n,n ∉ ρ→n ≠ s.own.length→φ1 n=φ n:=fun n h1 h2=>by rw [hφ1,if_neg h1,if_neg h2]
 have E0:=h.evo
 have lk:∀ n,φ0 n ≠ .unused→n<kb:=fun n hn=>Classical.byContradiction fun h1=>hn (h00 n (by omega))
 have dead1:∀ n,n<kb→n ∈ ρ→(if n=s.own.length then FSlot.dead else φe n)=.dead:=fun n hkn h1=>by
  split
  ·rfl
  ·exact n1.dead n hkn (by rw [hφ1,if_pos h1])
 have step:∀ n,n<kb→φ n ≠ .unused→(n ∈ ρ∧(if n=s.own.length then FSlot.dead else φe n)=.dead)∨(φ1 n=φ n∧(if n=s.own.length then FSlot.dead else φe n)=φe n):=fun n hkn hn=>by
  by_cases hr:n ∈ ρ
  ·exact .inl ⟨hr,dead1 n hkn hr⟩
  ·have hne':=uns n hn
   exact .inr ⟨same1 n hr hne',if_neg hne'⟩
 have evo2:Evo X φ0 w0 (fun n=>if n=s.own.length then .dead else φe n) (w2.putObj (w.heap.size+1) o'):=by
  have w1w:W1.os=w.os∧W1.tape=w.tape∧W1.output=w.output:=by subst hW1; exact ⟨rfl,rfl,rfl⟩
  have hsz:=E0.size
  refine ⟨(E.os.trans w1w.1).trans E0.os,(E.tape.trans w1w.2.1).trans E0.tape,(E.output.trans w1w.2.2).trans E0.output,by rw [Qhd]; omega,fun b hb hh=>(keep b (by omega) fun h1=>?_).trans (E0.blk b hb hh),fun b ⟨n,hn⟩=>?_,fun b off hd=>?_,fun n hn=>?_,fun n b hn=>?_,fun n t hn=>?_,fun n Y0 hn=>?_,fun n bs hn=>?_,fun n b hn hn2=>?_⟩
  ·rcases E0.new b h1 with h2 | h2
   ·exact hh h2
   ·omega
  ·dsimp only at hn
   split at hn
   ·exact (Qa0 hn).elim
   ·rcases Nat.lt_or_ge b w.heap.size with h1 | h1
    ·exact E0.new b (hH b ⟨n,hn⟩ h1)
    ·exact .inr (by omega)
  ·obtain ⟨c1,c2⟩:=E0.dat b off hd
   obtain ⟨d1,d2⟩:=E.dat b off (hid b off c1)
   have hny:¬ Y b off:=d1.far q Y hq
   refine ⟨⟨by rw [Qhd]; exact d1.lt,d1.hid,fun n hn=>?_,fun n L hn=>?_,fun n Y0 hn hy=>?_,fun n bs z hn hz=>?_⟩,(hcell b off).trans (d2.trans ((World.cell?_of_block (hold b c1.lt)).trans c2))⟩
   ·split at hn
    ·cases hn
    ·exact hny (by rw [m.hY]; exact .inl ⟨n,hn⟩)
   ·split at hn
    ·cases hn
    ·rcases Nat.lt_or_ge off L with h1 | h1
     ·exact h1
     ·exact absurd (by rw [m.hY]; exact .inr (.inl ⟨n,L,hn,h1⟩)) hny
   ·split at hn
    ·cases hn
    ·exact hny (by rw [m.hY]; exact .inr (.inr (.inl ⟨n,Y0,hn,hy⟩)))
   ·split at hn
    ·cases hn
    ·exact hny (by rw [m.hY]; exact .inr (.inr (.inr (.inl ⟨n,bs,z,hn,hz⟩))))
  ·have hkn:=lk n (by rw [hn]; simp)
   have h1:=E0.dead n hn
   rcases step n hkn (by rw [h1]; simp) with ⟨_,h2⟩ | ⟨h2,h3⟩
   ·exact h2
   ·exact h3.trans (n1.dead n hkn (h2.trans h1))
  ·have hkn:=lk n (by rw [hn]; simp)
   rcases E0.own n b hn with h1 | h1
   ·rcases step n hkn (by rw [h1]; simp) with ⟨_,h2⟩ | ⟨h2,h3⟩
    ·exact .inr h2
    ·rcases n1.own n b hkn (h2.trans h1) with h4 | h4
     ·exact .inl (h3.trans h4)
     ·exact .inr (h3.trans h4)
   ·rcases step n hkn (by rw [h1]; simp) with ⟨_,h2⟩ | ⟨h2,h3⟩
    ·exact .inr h2
    ·exact .inr (h3.trans (n1.dead n hkn (h2.trans h1)))
  ·have hkn:=lk n (by rw [hn]; simp)
   rcases E0.tok n t hn with h1 | ⟨h1,h1'⟩
   ·rcases step n hkn (by rw [h1]; simp) with ⟨_,h2⟩ | ⟨h2,h3⟩
    ·exact .inl h2
    ·exact .inl (h3.trans (n1.dead n hkn (h2.trans h1)))
   ·rcases step n hkn (by rw [h1]; simp) with ⟨_,h2⟩ | ⟨h2,h3⟩
    ·exact .inl h2
    ·rcases n1.tok n t hkn (h2.trans h1) with h4 | ⟨h4,h5⟩
     ·exact .inl (h3.trans h4)
     ·refine .inr ⟨h3.trans h4,fun b L e=>?_⟩
      have hb:=(h.env.slot n).lt (FSlot.lies.tok (L:=L) (show φ n=_ by rw [h1,e]))
      rw [Qbu (by omega),h5 b L e,hold b hb]
      exact h1' b L e
  ·have hkn:=lk n (by rw [hn]; simp)
   rcases E0.far n Y0 hn with h1 | ⟨Y',h1⟩
   ·rcases step n hkn (by rw [h1]; simp) with ⟨_,h2⟩ | ⟨h2,h3⟩
    ·exact .inl h2
    ·exact .inl (h3.trans (n1.dead n hkn (h2.trans h1)))
   ·rcases step n hkn (by rw [h1]; simp) with ⟨_,h2⟩ | ⟨h2,h3⟩
    ·exact .inl h2
    ·rcases n1.far n Y' hkn (h2.trans h1) with h4 | ⟨Y2,h4⟩
     ·exact .inl (h3.trans h4)
     ·exact .inr ⟨Y2,h3.trans h4⟩
  ·have hkn:=lk n (by rw [hn]; simp)
   rcases E0.mat n bs hn with h1 | ⟨bs',h1,hl1⟩
   ·rcases step n hkn (by rw [h1]; simp) with ⟨_,h2⟩ | ⟨h2,h3⟩
    ·exact .inl h2
    ·exact .inl (h3.trans (n1.dead n hkn (h2.trans h1)))
   ·rcases step n hkn (by rw [h1]; simp) with ⟨_,h2⟩ | ⟨h2,h3⟩
    ·exact .inl h2
    ·rcases n1.mat n bs' hkn (h2.trans h1) with h4 | ⟨bs2,h4,hl2⟩
     ·exact .inl (h3.trans h4)
     ·exact .inr ⟨bs2,h3.trans h4,hl1.trans hl2⟩
  ·have hkn:=lk n (by rw [hn]; simp)
   rcases E0.own n b hn with h1 | h1
   ·rcases step n hkn (by rw [h1]; simp) with ⟨_,h2⟩ | ⟨h2,h3⟩
    ·rw [h2] at hn2; cases hn2
    ·rw [h3] at hn2
     have hb:=(h.env.slot n).lt (FSlot.lies.own h1)
     exact (E0.shape n b hn h1).trans ((Shape.same (hold b hb)).trans ((n1.shape n b hkn (h2.trans h1) hn2).trans (.same (Qbu (by omega)))))
   ·rcases step n hkn (by rw [h1]; simp) with ⟨_,h2⟩ | ⟨h2,h3⟩
    ·rw [h2] at hn2; cases hn2
    ·rw [h3,n1.dead n hkn (h2.trans h1)] at hn2; cases hn2
 have e3:Evo1 (XH Y D w2) φe w2 X (fun n=>if n=s.own.length then .dead else φe n) (w2.putObj (w.heap.size+1) o'):=by
  refine ⟨fun b off hd=>⟨⟨by rw [Qhd]; exact hd.lt,?_,fun n hn=>?_,fun n L hn=>?_,fun n Y0 hn=>?_,fun n bs z hn=>?_⟩,hcell b off⟩,fun n hn=>?_,fun n b hn hb=>?_,fun n t hn ht=>?_,fun n b hn hn2=>?_,fun n bs hn hb=>?_⟩
  ·by_cases hy:∃ off',Y b off'
   ·obtain ⟨off',hy⟩:=hy
    exact (hF.own b off' hy).2.2 off
   ·have hD:D b off:=Classical.byContradiction fun hD=>hd.hid ⟨hd.lt,hD,fun off' h=>hy ⟨off',h⟩⟩
    exact (hF.dat b off hD fun h=>hy ⟨off,h⟩).1.hid
  ·split at hn
   ·cases hn
   ·exact hd.own n hn
  ·split at hn
   ·cases hn
   ·exact hd.tok n L hn
  ·split at hn
   ·cases hn
   ·exact hd.far n Y0 hn
  ·split at hn
   ·cases hn
   ·exact hd.mat n bs z hn
  ·split
   ·simp
   ·exact hn
  ·split at hb
   ·cases hb
   ·exact hb
  ·split at ht
   ·cases ht
   ·rename_i hne'
    exact ⟨ht,fun b L e=>Qbu (hne n b hne' (.tok (L:=L) (by rw [ht,e])))⟩
  ·split at hn2
   ·cases hn2
   ·rename_i hne'
    exact .same (Qbu (hne n b hne' (.own hn)))
  ·split at hb
   ·cases hb
   ·exact ⟨bs,hb,.refl bs⟩
 obtain ⟨hm1,hm2,_,hm3⟩:=h.defers
 have hYD:Y w.heap.size 0:=by rw [m.hY]; exact .inr (.inr (.inr (.inr rfl)))
 refine ⟨h.low,⟨w.heap.size::hm1,by rw [hm2]; rfl,fun e=>absurd e hdr0,?_,?_⟩,h.size,fun t v hv=>(hregs t v hv).evo1 e3,⟨fun n=>?_,fun n n' b h1 h2=>?_,fun b off hx=>?_⟩,evo2⟩
 ·refine List.nodup_cons.2 ⟨fun hD=>?_,hm3.1⟩
  have:=(Array.getElem?_eq_some_iff.1 (hm3.2 _ hD).2.1).1
  omega
 ·intro D' hD
  rcases List.mem_cons.1 hD with rfl | hD
  ·refine ⟨h.evo.size,?_,fun ⟨n,hn⟩=>?_⟩
   ·rw [Qbu (by omega),(hF.own _ 0 hYD).2.1]
    exact m.mark
   ·(try dsimp only at hn)
    split at hn
    ·exact Qa0 hn
    ·exact m.free ⟨n,hn⟩
  ·obtain ⟨d1,d2,d3⟩:=hm3.2 D' hD
   have hlt:=(Array.getElem?_eq_some_iff.1 d2).1
   refine ⟨d1,(keep D' hlt d3).trans d2,fun ⟨n,hn⟩=>?_⟩
   (try dsimp only at hn)
   split at hn
   ·exact Qa0 hn
   ·exact d3 (hH D' ⟨n,hn⟩ hlt)
 ·have hn:=henv.slot n
  show SlotOK _ _ _ n ((own2++[Slot.dead]).getD n .unused)
  (try dsimp only at hn)
  rcases Nat.lt_trichotomy n own2.length with h1 | rfl | h1
  ·rw [Qma h1] at hn ⊢
   exact hn.evo1 (hnf _ (by simp [h1])) e3 (if_neg (by omega)) fun b hb=>⟨Qbu (hne n b (by omega) hb),fun off hx=>by
    obtain ⟨off',hy⟩:=hYof n b hb
    exact (hF.own b off' hy).2.2 off hx⟩
  ·rw [Qj3]
   exact if_pos hk
  ·rw [Qkz h1] at hn ⊢
   exact (if_neg (by omega)).trans hn
 ·(try dsimp only at h1 h2)
  split at h1
  ·exact (Qa0 h1).elim
  ·split at h2
   ·exact (Qa0 h2).elim
   ·exact m.distinct n n' b h1 h2
 ·have:=h.env.hid b off hx
  rw [Qhd]
  omega
theorem Zad {α τ:Type} {g:Operand} {ps:Array Tmp} {assign body:Code} {gf:FuncId} {caps caps':List AV} {σ σr:List Slot} {encs:α→List Value} {L:List α} {kb:Nat} (ρ:List Nat) (h00:∀ n,kb≤n→φ0 n=.unused) (hdr0:w0.drawn ≠ 1) (seq:Qss P gf caps' σ encs L) (hcall:∀ vals w,(callFunc gf vals).run P w=.ok (.enter gf vals) w)
  (hg:opd s.regs g=.fn (.func gf) [] caps) (hdec:(decide ρ.Nodup&&(ρ.length==σ.length)&&ρ.all (fun n=>Nat.blt n s.own.length)&&σ.all Slot.alive)=true)
  (hcaps:Rn (fun n n'=>ρ[n]? = some n') (.agg caps') (.agg caps)) (hσ:SLw (fun n n'=>ρ[n]? = some n') σ σr) (hs:(ρ.map fun n=>s.slot n)=σr) (hps:∀ x,(encs x).length=ps.size) (hreg:∀ v ∈ s.regs,NLt kb v)
  (own:τ→List Slot) (hk:∀ t,(own t).length=s.own.length) (hnf:∀ t,∀ st ∈ own t,st.isFar=false) (G:List α→τ→Prop) (t0:τ) (hG:G L t0) (h0:own t0=Qq9 s.own ρ)
  (hround:∀ l o X φr Wr,(∀ n,s.own.length+1≤n→φr n=.unused)→∀ x rest t,G (x::rest) t→AWp P X φr Wr (some l) assign (Zam P X φr Wr l s.own.length o body (Zfn kb Q s l (G rest) own s.own.length)) ⟨Zl4 s.regs ps (encs x),own t++[Slot.far (farL l o)]⟩)
  (hdone:∀ t,G [] t→Q .normal ⟨s.regs,own t++[.dead]⟩):AWp P X φ0 w0 none (.rangeFunc g ps assign body) Q s:=by
 intro φ a w h
 simp only [Bool.and_eq_true,decide_eq_true_eq,beq_iff_eq,List.all_eq_true,Nat.blt_eq] at hdec
 obtain ⟨⟨⟨hnd,hlen⟩,hlow⟩,halive⟩:=hdec
 refine wpIn_rangeFunc ?_
 intro fn hfn
 obtain ⟨rec,hrec⟩:∃ rec:LoopState→Option Code→Loop,rec=fun st pe=>{ state:=st,pending:=pe,fn,tmps:=a.tmps,params:=ps,assign,body,defers:=w.heap.size }:=⟨_,rfl⟩
 obtain ⟨W1,hW1⟩:∃ W1,(w.alloc (.deferred (some []))).alloc (.loop (rec .ready none))=W1:=⟨_,rfl⟩
 have hgv:∃ cs:Array Value,a.eval g=.func (.func gf) #[] cs∧cs.size=caps.length∧∀ i v,caps[i]? = some v→RelV X φ w v (cs.getD i undef):=by
  have:=h.opd g
  rw [hg] at this
  cases hv:a.eval g with
  | func f us cs=>
   rw [hv] at this
   cases this with
   | fn _ _ _ _ _ hu hc h1 h2=>
    obtain rfl:us = #[]:=Array.eq_empty_of_size_eq_zero hu
    exact ⟨cs,rfl,hc,h2⟩
  | _=>rw [hv] at this; cases this
 obtain ⟨cs,hge,hcs,hcr⟩:=hgv
 have hlt:∀ n b,(φ n).lies b→b<w.heap.size:=fun n b hb=>(h.env.slot n).lt hb
 have hsz1:W1.heap.size=w.heap.size+2:=by subst hW1; simp
 have hold:∀ b,b<w.heap.size→W1.heap[b]? = w.heap[b]? := fun b hb=>by
  subst hW1
  exact (heap_alloc_old _ _ (by simp; omega)).trans (heap_alloc_old w _ hb)
 have hD1:W1.heap[w.heap.size]? = some (.deferred (some [])):=by
  subst hW1
  exact (heap_alloc_old _ _ (by simp)).trans (heap_alloc_new w _)
 have hL1:W1.heap[w.heap.size+1]? = some (.loop (rec .ready none)):=by
  subst hW1
  have:=heap_alloc_new (w.alloc (.deferred (some []))) (.loop (rec .ready none))
  rwa [World.size_alloc] at this
 have hu:∀ n,s.own.length≤n→φ n=.unused:=fun n hn=>by
  have:=h.env.slot n
  have e:s.slot n=.unused:=by simp [AS.slot,List.getElem?_eq_none hn]
  rw [e] at this
  exact this
 have inj:∀ (n1 n2 n':Nat),ρ[n1]? = some n'→ρ[n2]? = some n'→n1=n2:=fun n1 n2 n' h1 h2=>by
  obtain ⟨l1,e1⟩:=List.getElem?_eq_some_iff.1 h1
  obtain ⟨l2,e2⟩:=List.getElem?_eq_some_iff.1 h2
  exact (List.getElem_inj hnd).1 (e1.trans e2.symm)
 obtain ⟨φ1,hφ1⟩:∃ φ1:Nat→FSlot,φ1=fun n=>if n ∈ ρ then .dead else if n=s.own.length then .far (fun b _=>b=w.heap.size+1) else φ n:=⟨_,rfl⟩
 have hφ1':∀ n,φ1 n=if n ∈ ρ then .dead else if n=s.own.length then .far (fun b _=>b=w.heap.size+1) else φ n:=fun n=>by rw [hφ1]
 have hlies1:∀ n b,(φ1 n).lies b→(n=s.own.length∧b=w.heap.size+1)∨(n ∉ ρ∧n ≠ s.own.length∧φ1 n=φ n∧(φ n).lies b):=fun n b hb=>by
  by_cases h1:n ∈ ρ
  ·rw [hφ1',if_pos h1] at hb; exact (Qa0 hb).elim
  ·by_cases h2:n=s.own.length
   ·rw [hφ1',if_neg h1,if_pos h2] at hb
    obtain ⟨_,hb⟩:=Qlb hb
    exact .inl ⟨h2,hb⟩
   ·have e:φ1 n=φ n:=by rw [hφ1',if_neg h1,if_neg h2]
    exact .inr ⟨h1,h2,e,e ▸ hb⟩
 have hinj1:∀ n b,(φ1 n).lies b→n ≠ s.own.length→(φ n).lies b∧n ∉ ρ:=fun n b hb hn=>by
  rcases hlies1 n b hb with ⟨h1,_⟩ | ⟨h1,_,_,h2⟩
  ·exact absurd h1 hn
  ·exact ⟨h2,h1⟩
 have notY:∀ b off,DataAt X φ w b off→¬ Yof φ1 w.heap.size b off:=fun b off hd hy=>by
  have hb:=hd.lt
  rcases hy with ⟨n,e⟩ | ⟨n,L,e,hL⟩ | ⟨n,Y0,e,h0⟩ | ⟨n,bs,z,e,hz⟩ | e
  ·rcases hlies1 n b (.own e) with ⟨_,h1⟩ | ⟨_,_,h1,_⟩
   ·omega
   ·exact hd.own n (h1 ▸ e)
  ·rcases hlies1 n b (.tok e) with ⟨_,h1⟩ | ⟨_,_,h1,_⟩
   ·omega
   ·have:=hd.tok n L (h1 ▸ e); omega
  ·rcases hlies1 n b (.far e h0) with ⟨_,h1⟩ | ⟨_,_,h1,_⟩
   ·omega
   ·exact hd.far n Y0 (h1 ▸ e) h0
  ·rcases hlies1 n b (.mat e hz) with ⟨_,h1⟩ | ⟨_,_,h1,_⟩
   ·omega
   ·exact hd.mat n bs z (h1 ▸ e) hz
  ·omega
 have hXo:∀ n b,(φ n).lies b→∀ off,¬ X b off:=fun n b hb off hx=>by
  have hsl:=h.env.slot n
  generalize s.slot n=sl at hsl
  cases sl with
  | unused=>have h':φ n=.unused:=hsl; rw [h'] at hb; exact Qdp hb
  | dead=>have h':φ n=.dead:=hsl; rw [h'] at hb; exact Qa0 hb
  | own m xs=>
   obtain ⟨b',h1,h2⟩:=hsl
   rw [h1] at hb
   obtain rfl:=Qfh hb
   exact h2.hid off hx
  | tok=>
   obtain ⟨t,h1,h2⟩:=hsl
   rw [h1] at hb
   obtain ⟨L',rfl⟩:=Qla hb
   exact (h2 b L' rfl).2 off hx
  | gro m xs=>
   rcases hsl with ⟨_,h2⟩ | ⟨b',h1,h2⟩
   ·rw [h2] at hb; exact Qc1 hb
   ·rw [h1] at hb
    obtain rfl:=Qfh hb
    exact h2.hid off hx
  | far J=>
   obtain ⟨Y0,D0,B0,h1,h2,h3⟩:=hsl
   rw [h1] at hb
   obtain ⟨off',hy⟩:=Qlb hb
   exact (h3.own b off' hy).2.2 off hx
  | mat m rows=>
   obtain ⟨bs,m1,m2,m3,m4⟩:=hsl
   rw [m1] at hb
   obtain ⟨k,hk⟩:=Qvl hb
   have hkl:k<rows.length:=m2 ▸ (List.getElem?_eq_some_iff.1 hk).1
   rcases m4 k _ (List.getElem?_eq_getElem hkl) with ⟨_,m5⟩ | ⟨b',m5,m6⟩
   ·rw [m5] at hk; cases hk
   ·rw [m5] at hk; cases hk; exact m6.hid off hx
  | mp es clock=>
   obtain ⟨b',h1,h2⟩:=hsl
   rw [h1] at hb
   obtain rfl:=Qfh hb
   exact h2.hid off hx
 have hXl:∀ b off,w.heap.size≤b→¬ X b off:=fun b off hb hx=>by have:=h.env.hid b off hx; omega
 have e0:Evo1 X φ w (XH (Yof φ1 w.heap.size) (fun b off=>DataAt X φ w b off) W1) φ1 W1:=by
  refine ⟨fun b off hd=>⟨⟨by have:=hd.lt; omega,fun hx=>hx.2.1 hd,fun n hn=>?_,fun n L hn=>?_,fun n Y0 hn h0=>?_,fun n bs z hn hz=>?_⟩,World.cell?_of_block (hold b hd.lt)⟩,fun n hn=>?_,fun n b hn hb=>?_,fun n t hn ht=>?_,fun n b hn _=>.same (hold b (hlt n b (.own hn))),fun n bs hn hb=>?_⟩
  ·exact notY b off hd (.inl ⟨n,hn⟩)
  ·rcases Nat.lt_or_ge off L with h1 | h1
   ·exact h1
   ·exact absurd (.inr (.inl ⟨n,L,hn,h1⟩)) (notY b off hd)
  ·exact notY b off hd (.inr (.inr (.inl ⟨n,Y0,hn,h0⟩)))
  ·exact notY b off hd (.inr (.inr (.inr (.inl ⟨n,bs,z,hn,hz⟩))))
  ·rw [hφ1']
   split
   ·simp
   ·split
    ·simp
    ·exact hn
  ·rcases hlies1 n b (.own hb) with ⟨h1,_⟩ | ⟨_,_,h1,_⟩
   ·exact absurd (hu n (by omega)) hn
   ·exact h1 ▸ hb
  ·by_cases h1:n ∈ ρ
   ·rw [hφ1',if_pos h1] at ht; cases ht
   ·by_cases h2:n=s.own.length
    ·exact absurd (hu n (by omega)) hn
    ·rw [hφ1',if_neg h1,if_neg h2] at ht
     exact ⟨ht,fun b L e=>hold b (hlt n b (.tok (L:=L) (by rw [ht,e])))⟩
  ·by_cases h1:n ∈ ρ
   ·rw [hφ1',if_pos h1] at hb; cases hb
   ·by_cases h2:n=s.own.length
    ·exact absurd (hu n (by omega)) hn
    ·rw [hφ1',if_neg h1,if_neg h2] at hb
     exact ⟨bs,hb,.refl bs⟩
 have hfree:¬ Qi7 φ1 w.heap.size:=fun ⟨n,hn⟩=>by
  rcases hlies1 n _ hn with ⟨_,h1⟩ | ⟨_,_,_,h1⟩
  ·omega
  ·have:=hlt n _ h1; omega
 have hd1:Qb9 φ1:=fun n n' b h1 h2=>by
  rcases hlies1 n b h1 with ⟨a1,a2⟩ | ⟨_,_,_,a2⟩<;>rcases hlies1 n' b h2 with ⟨b1,b2⟩ | ⟨_,_,_,b2⟩
  ·rw [a1,b1]
  ·have:=hlt n' b b2; omega
  ·have:=hlt n b a2; omega
  ·exact h.env.distinct n n' b a2 b2
 have m0:Mid kb s a (w.heap.size+1) w.heap.size φ1 W1 (own t0) (.loop (rec .ready none)) φ1 (Yof φ1 w.heap.size) (fun b off=>DataAt X φ w b off) W1:=by
  refine ⟨rfl,fun i v hv=>(h.regs i v hv).evo1 e0,fun n=>?_,hd1,hD1,hfree,EvoN.refl⟩
  have hk0:=hk t0
  rcases Nat.lt_trichotomy n s.own.length with h1 | h1 | h1
  ·rw [Qma (by omega),h0,Qm4 ρ _ n h1]
   by_cases hr:n ∈ ρ
   ·rw [if_pos hr]
    show φ1 n=.dead
    rw [hφ1',if_pos hr]
   ·rw [if_neg hr]
    have e:φ1 n=φ n:=by rw [hφ1',if_neg hr,if_neg (by omega)]
    refine (h.env.slot n).evo1 ?_ e0 e fun b hb=>⟨hold b (hlt n b hb),fun off hx=>?_⟩
    ·have:=hnf t0 ((own t0)[n]'(by omega)) (List.getElem_mem _)
     have e2:(own t0).getD n .unused=s.own.getD n .unused:=by rw [h0,Qm4 ρ _ n h1,if_neg hr]
     have e3:(own t0)[n]'(by omega)=s.slot n:=by
      rw [List.getD_eq_getElem?_getD,List.getElem?_eq_getElem (by omega)] at e2
      exact e2
     rwa [e3] at this
    ·obtain ⟨off',hy⟩:=Qji (φ:=φ1) (D0:=w.heap.size) (n:=n) (b:=b) (by rw [e]; exact hb)
     exact hx.2.2 off' hy
  ·have:n=(own t0).length:=by omega
   subst this
   rw [Qj3]
   refine ⟨_,fun _ _=>False,W1,by rw [hφ1',if_neg (fun hr=>by have:=hlow _ hr; omega),if_pos (by omega)],⟨rfl,hL1⟩,⟨fun b off hb=>?_,fun b off hf=>hf.elim,rfl,rfl,rfl,Nat.le_refl _⟩⟩
   have hb':b=w.heap.size+1:=hb
   subst hb'
   refine ⟨by omega,rfl,fun off' hx=>?_⟩
   obtain ⟨off2,hy⟩:=Qji (φ:=φ1) (D0:=w.heap.size) (n:=s.own.length) (b:=w.heap.size+1) (.far (Y:=fun b _=>b=w.heap.size+1) (off:=0) (by rw [hφ1',if_neg (fun hr=>by have:=hlow _ hr; omega),if_pos rfl]) rfl)
   exact hx.2.2 off2 hy
  ·rw [Qkz (by omega)]
   show φ1 n=.unused
   rw [hφ1',if_neg (fun hr=>by have:=hlow _ hr; omega),if_neg (by omega)]
   exact hu n (by omega)
 obtain ⟨J,hJ⟩:∃ J:Far α,J=fun o Y D B=>match o with
  | some rest=>∃ φe t,G rest t∧Mid kb s a (w.heap.size+1) w.heap.size φ1 W1 (own t) (.loop (rec .ready none)) φe Y D B
  | none=>∃ φe c own2,own2.length=s.own.length∧(∀ st ∈ own2,st.isFar=false)∧((c=.ret∧Q .ret ⟨s.regs,own2++[.dead]⟩)∨∃ id,c=.exit id∧Q (.exit id) ⟨s.regs,own2++[.dead]⟩)∧Mid kb s a (w.heap.size+1) w.heap.size φ1 W1 own2 (.loop (rec .done (some c))) φe Y D B:=⟨_,rfl⟩
 have hy:Qsr P (w.heap.size+1) J encs:=by
  intro x rest Xi φi Y D B W hj hF hXi
  rw [hJ] at hj
  obtain ⟨φe,t,hGt,m⟩:=hj
  obtain ⟨hregs,henv,hl⟩:=m.sim (hnf t) hF
  have hyl:=run_yield (P:=P) (args:=(encs x).toArray) hl (by rw [hrec]; simp [hps x])
  rw [hrec] at hyl
  refine ⟨fn,_,assign,body,hyl,roundIn_of_wpIn hfn ?_⟩
  obtain ⟨f1,_,_⟩:=m.far
  rw [hk t] at f1
  have hfold:(ps.zip (encs x).toArray).foldl (fun t (p,v)=>t.setIfInBounds p v) a.tmps=((ps.toList.zip (encs x)).foldl (fun t p=>t.setIfInBounds p.1 p.2) a.tmps):=by
   rw [← Array.foldl_toList,Array.toList_zip]
  have hset:=Qw1 (X:=XH Y D W) (φ:=φe) (w:=W) (ps.toList.zip (encs x)) s.regs a.tmps h.size hregs
  have hs0:Sim (XH Y D W) φe { W with drawn:=0 } φe ⟨Zl4 s.regs ps (encs x),own t++[Slot.far (farL (w.heap.size+1) (.loop (rec .ready none)))]⟩ { tmps:=(ps.zip (encs x).toArray).foldl (fun t (p,v)=>t.setIfInBounds p v) a.tmps,defers:=[] } W:=
   ⟨fun n b hb=>(henv.slot n).lt hb,.nil0 _ _ rfl,by rw [hfold]; exact hset.1,fun i v hv=>by rw [hfold]; exact hset.2 i v hv,henv,Evo.refl.to_at⟩
  have hub:∀ n,s.own.length+1≤n→φe n=.unused:=fun n hn=>by
   have:=henv.slot n
   (try dsimp only at this)
   rw [Qkz (by rw [hk t]; omega)] at this
   exact this
  refine wpIn_mono (hround _ _ (XH Y D W) φe { W with drawn:=0 } hub x rest t hGt φe _ W hs0) ?_
  rintro e a1 w1 ⟨φ2,s1,hs1,hq1⟩
  cases e with
  | normal=>
   obtain ⟨hk1,hbody⟩:=hq1
   obtain ⟨hl1,hs2⟩:=hs1.turnL (o':=.loop (rec .busy none)) m.distinct (.far (off:=0) f1 rfl) hk1 rfl rfl
   refine ⟨w1.putObj (w.heap.size+1) (.loop (rec .busy none)),by rw [hrec] at hl1 ⊢; exact run_beginRound hl1 rfl,?_⟩
   refine wpIn_mono (hbody _ φ2 _ _ hs2) ?_
   rintro e a3 w3 ⟨φ3,s3,hs3,hq3⟩
   have fin:∀ (jump:Option Code) (own2:List Slot),own2.length=s.own.length→(∀ st ∈ own2,st.isFar=false)→Ren kb s3.own (own2++[Slot.far (farL (w.heap.size+1) (.loop (rec .busy none)))]) →
     ∃ φ4,(Instr.endRound (w.heap.size+1) jump).run P w3=.ok (.bool jump.isNone) (w3.putObj (w.heap.size+1) (.loop (rec (if jump.isNone then .ready else .done) jump)))∧Kept Y (Yof φ4 w.heap.size) W (w3.putObj (w.heap.size+1) (.loop (rec (if jump.isNone then .ready else .done) jump))) ∧
      (∀ b off,Yof φ4 w.heap.size b off→b<(w3.putObj (w.heap.size+1) (.loop (rec (if jump.isNone then .ready else .done) jump))).heap.size) ∧
      Mid kb s a (w.heap.size+1) w.heap.size φ1 W1 own2 (.loop (rec (if jump.isNone then .ready else .done) jump)) φ4 (Yof φ4 w.heap.size) (grow D Y W (w3.putObj (w.heap.size+1) (.loop (rec (if jump.isNone then .ready else .done) jump)))) (w3.putObj (w.heap.size+1) (.loop (rec (if jump.isNone then .ready else .done) jump))):=fun jump own2 h1 h2 hm=>by
    obtain ⟨φ4,b1,b2,b3,b4⟩:=m.back (own2:=own2) (own3:=s3.own) (o':=.loop (rec .busy none)) (o'':=.loop (rec (if jump.isNone then .ready else .done) jump)) (hnf t) hF hreg h2 (by rw [hk t,h1]) hs3 hm rfl rfl
    refine ⟨φ4,?_,b2,b3,b4⟩
    rw [hrec] at b1 ⊢
    exact run_endRound jump b1
   have two:∀ {own2:List Slot},(own2.length==s.own.length&&own2.all (fun x=>!x.isFar))=true→own2.length=s.own.length∧∀ st ∈ own2,st.isFar=false:=fun h=>by
    simp only [Bool.and_eq_true,beq_iff_eq,List.all_eq_true,Bool.not_eq_true'] at h
    exact h
   cases e with
   | normal=>
    obtain ⟨t',hG',hm⟩:=hq3
    obtain ⟨φ4,r1,r2,r3,r4⟩:=fin none (own t') (hk t') (hnf t') hm
    exact ⟨_,_,r1,_,r2,r3,.inl ⟨rfl,by rw [hJ]; exact ⟨φ4,t',hG',r4⟩⟩⟩
   | ret=>
    obtain ⟨own2,h1,hq,hm⟩:=hq3
    obtain ⟨φ4,r1,r2,r3,r4⟩:=fin (some .ret) own2 (two h1).1 (two h1).2 hm
    exact ⟨_,_,r1,_,r2,r3,.inr ⟨rfl,by rw [hJ]; exact ⟨φ4,.ret,own2,(two h1).1,(two h1).2,.inl ⟨rfl,hq⟩,r4⟩⟩⟩
   | exit id=>
    obtain ⟨own2,h1,hq,hm⟩:=hq3
    obtain ⟨φ4,r1,r2,r3,r4⟩:=fin (some (.exit id)) own2 (two h1).1 (two h1).2 hm
    exact ⟨_,_,r1,_,r2,r3,.inr ⟨rfl,by rw [hJ]; exact ⟨φ4,.exit id,own2,(two h1).1,(two h1).2,.inr ⟨id,rfl,hq⟩,r4⟩⟩⟩
   | goto=>exact hq3.elim
   | panic=>exact hq3.elim
   | outgrown=>exact hq3.elim
  | ret=>exact hq1.elim
  | exit=>exact hq1.elim
  | goto=>exact hq1.elim
  | panic=>exact hq1.elim
  | outgrown=>exact hq1.elim
 obtain ⟨φi,hφi⟩:∃ φi:Nat→FSlot,φi=fun n=>if n<σ.length then (match ρ[n]? with | some n'=>φ n' | none=>.unused) else if n=σ.length then .far (Yof φ1 w.heap.size) else .unused:=⟨_,rfl⟩
 have iM:∀ n n',ρ[n]? = some n'→φi n=φ n':=fun n n' e=>by
  have:n<σ.length:=by rw [← hlen]; exact (List.getElem?_eq_some_iff.1 e).1
  rw [hφi]
  simp only [this,if_true,e]
 have iF:φi σ.length=.far (Yof φ1 w.heap.size):=by rw [hφi]; simp
 have iU:∀ n,σ.length<n→φi n=.unused:=fun n hn=>by
  rw [hφi]
  simp only [show ¬ n<σ.length by omega,show n ≠ σ.length by omega,if_false]
 have iInv:∀ n b,(φi n).lies b→(∃ n',ρ[n]? = some n'∧(φ n').lies b)∨(n=σ.length∧∃ off,Yof φ1 w.heap.size b off):=fun n b hb=>by
  rcases Nat.lt_trichotomy n σ.length with h1 | h1 | h1
  ·obtain ⟨n',e⟩:∃ n',ρ[n]? = some n':=⟨_,List.getElem?_eq_getElem (by omega)⟩
   rw [iM n n' e] at hb
   exact .inl ⟨n',e,hb⟩
  ·subst h1
   rw [iF] at hb
   exact .inr ⟨rfl,Qlb hb⟩
  ·rw [iU n h1] at hb; exact (Qdp hb).elim
 have fwd:∀ b off,DataAt X φ w b off→DataAt X φi w b off:=fun b off hd=>by
  refine ⟨hd.lt,hd.hid,fun n hn=>?_,fun n L' hn=>?_,fun n Y0 hn h0'=>?_,fun n bs z hn hz=>?_⟩
  ·rcases iInv n b (.own hn) with ⟨n',e,_⟩ | ⟨rfl,_⟩
   ·exact hd.own n' ((iM n n' e) ▸ hn)
   ·rw [iF] at hn; cases hn
  ·rcases iInv n b (.tok hn) with ⟨n',e,_⟩ | ⟨rfl,_⟩
   ·exact hd.tok n' L' ((iM n n' e) ▸ hn)
   ·rw [iF] at hn; cases hn
  ·rcases iInv n b (.far hn h0') with ⟨n',e,_⟩ | ⟨rfl,_⟩
   ·exact hd.far n' Y0 ((iM n n' e) ▸ hn) h0'
   ·rw [iF] at hn; cases hn; exact notY b off hd h0'
  ·rcases iInv n b (.mat hn hz) with ⟨n',e,_⟩ | ⟨rfl,_⟩
   ·exact hd.mat n' bs z ((iM n n' e) ▸ hn) hz
   ·rw [iF] at hn; cases hn
 have ei:Evo1 X φi w X φi W1:=by
  have hb:∀ n b,(φi n).lies b→n ≠ σ.length→W1.heap[b]? = w.heap[b]? := fun n b h1 h2=>by
   rcases iInv n b h1 with ⟨n',_,h3⟩ | ⟨h3,_⟩
   ·exact hold b (hlt n' b h3)
   ·exact absurd h3 h2
  refine ⟨fun b off hd=>⟨⟨by have:=hd.lt; omega,hd.hid,hd.own,hd.tok,hd.far,hd.mat⟩,World.cell?_of_block (hold b hd.lt)⟩,fun _ h=>h,fun _ _ _ h=>h,fun n t _ ht=>⟨ht,fun b L' e=>hb n b (.tok (L:=L') (by rw [ht,e])) (fun e'=>by subst e'; rw [iF] at ht; cases ht)⟩,fun n b hn _=>.same (hb n b (.own hn) fun e'=>by subst e'; rw [iF] at hn; cases hn),fun _ bs _ h=>⟨bs,h,.refl bs⟩⟩
 have fwd1:∀ b off,DataAt X φ w b off→DataAt X φi W1 b off:=fun b off hd=>(ei.dat b off (fwd b off hd)).1
 have hYlt:∀ b off,Yof φ1 w.heap.size b off→b<W1.heap.size:=fun b off hy'=>by
  rcases Qoz hy' with ⟨n,hn⟩ | e
  ·rcases hlies1 n b hn with ⟨_,e⟩ | ⟨_,_,_,h1⟩
   ·omega
   ·have:=hlt n b h1; omega
  ·omega
 have hYX:∀ b off,Yof φ1 w.heap.size b off→∀ off',¬ X b off':=fun b off hy' off'=>by
  rcases Qoz hy' with ⟨n,hn⟩ | e
  ·rcases hlies1 n b hn with ⟨_,e⟩ | ⟨_,_,_,h1⟩
   ·exact hXl b off' (by omega)
   ·exact hXo n b h1 off'
  ·exact hXl b off' (by omega)
 have henvi:EnvOK X φi W1 (fun n=>(σ++[Slot.far (J (some L))]).getD n .unused):=by
  refine ⟨fun n=>?_,fun n n' b h1 h2=>?_,fun b off hx=>by have:=h.env.hid b off hx; omega⟩
  ·show SlotOK X φi W1 n ((σ++[Slot.far (J (some L))]).getD n .unused)
   rcases Nat.lt_trichotomy n σ.length with h1 | h1 | h1
   ·rw [Qma h1]
    obtain ⟨n',e⟩:∃ n',ρ[n]? = some n':=⟨_,List.getElem?_eq_getElem (by omega)⟩
    have hsl:=h.env.slot n'
    have hr:σr[n]? = some (s.slot n'):=by rw [← hs]; simp [e]
    obtain ⟨q1,q2⟩:=hσ.spec
    have hst:=q2 n σ[n] (s.slot n') (List.getElem?_eq_getElem h1) hr
    have hal:=halive σ[n] (List.getElem_mem h1)
    have e2:σ.getD n .unused=σ[n]:=by simp [h1]
    rw [e2]
    have hof:∀ b,(φi n).lies b→W1.heap[b]? = w.heap[b]? ∧ ∀ off,¬ X b off:=fun b hb=>by
     rw [iM n n' e] at hb
     exact ⟨hold b (hlt n' b hb),hXo n' b hb⟩
    generalize σ[n]=st at hst hal ⊢
    generalize s.slot n'=st' at hst hsl
    cases hst with
    | dead=>cases hal
    | tok=>cases hal
    | own m xs xs' hl hx hr'=>
     obtain ⟨b,b1,b2⟩:=hsl
     have:SlotOK X φi w n (.own m xs):=⟨b,(iM n n' e).trans b1,OwnOK.ren fwd (M:=fun n' n=>ρ[n]? = some n') (fun n' n hM=>iM n n' hM) b2 (.own m xs' xs hl.symm (fun j x x' h1 h2=>(hx j x' x h2 h1).symm) fun j x x' h1 h2 i a a' h3 h4=>(hr' j x' x h2 h1 i a' a h4 h3).symm) b2.hid⟩
     exact this.evo1 rfl ei rfl hof
    | gro m xs xs' hl hx hr'=>
     have:SlotOK X φi w n (.gro m xs):=by
      rcases hsl with ⟨b1,b2⟩ | ⟨b,b1,b2⟩
      ·exact .inl ⟨List.eq_nil_of_length_eq_zero (by rw [hl,b1]; rfl),(iM n n' e).trans b2⟩
      ·exact .inr ⟨b,(iM n n' e).trans b1,OwnOK.ren fwd (M:=fun n' n=>ρ[n]? = some n') (fun n' n hM=>iM n n' hM) b2 (.own m xs' xs hl.symm (fun j x x' h1 h2=>(hx j x' x h2 h1).symm) fun j x x' h1 h2 i a a' h3 h4=>(hr' j x' x h2 h1 i a' a h4 h3).symm) b2.hid⟩
     exact this.evo1 rfl ei rfl hof
    | mat m rows hx=>
     obtain ⟨bs,m1,m2,m3,m4⟩:=hsl
     have:SlotOK X φi w n (.mat m rows):=by
      refine ⟨bs,(iM n n' e).trans m1,m2,m3,fun k xs hk=>?_⟩
      rcases m4 k xs hk with m5 | ⟨b,m5,m6⟩
      ·exact .inl m5
      ·exact .inr ⟨b,m5,OwnOK.ren fwd (M:=fun n' n=>ρ[n]? = some n') (fun n' n hM=>iM n n' hM) m6 (.plain (hx xs (List.mem_of_getElem? hk))) m6.hid⟩
     exact this.evo1 rfl ei rfl hof
    | mp es clock=>
     obtain ⟨b,b1,b2⟩:=hsl
     have:SlotOK X φi w n (.mp es clock):=⟨b,(iM n n' e).trans b1,b2⟩
     exact this.evo1 rfl ei rfl hof
   ·subst h1
    rw [Qj3]
    exact ⟨_,_,W1,iF,by rw [hJ]; exact ⟨φ1,t0,hG,m0⟩,⟨fun b off hy'=>⟨hYlt b off hy',rfl,hYX b off hy'⟩,fun b off hd _=>⟨fwd1 b off hd,rfl⟩,rfl,rfl,rfl,Nat.le_refl _⟩⟩
   ·rw [Qkz h1]
    exact iU n h1
  ·have mix:∀ (n1 b:Nat),(∃ n':Nat,ρ[n1]? = some n'∧(φ n').lies b)→(∃ off,Yof φ1 w.heap.size b off)→False:=fun n1 b hmix ⟨off,hy'⟩=>by
    obtain ⟨n',e,hb⟩:=hmix
    rcases Qoz hy' with ⟨q,hq⟩ | e'
    ·rcases hlies1 q b hq with ⟨_,e'⟩ | ⟨hq1,_,_,hq2⟩
     ·have:=hlt n' b hb; omega
     ·have:=h.env.distinct n' q b hb hq2
      subst this
      exact hq1 (List.mem_of_getElem? e)
    ·have:=hlt n' b hb; omega
   rcases iInv n b h1 with g1 | ⟨g1,g2⟩<;>rcases iInv n' b h2 with g3 | ⟨g3,g4⟩
   ·obtain ⟨p1,e1,l1⟩:=g1
    obtain ⟨p2,e2,l2⟩:=g3
    have:=h.env.distinct p1 p2 b l1 l2
    subst this
    exact inj n n' p1 e1 e2
   ·exact (mix n b g1 g4).elim
   ·exact (mix n' b g3 g2).elim
   ·rw [g1,g3]
 have hcapi:caps'.length=caps.length∧∀ i v,caps'[i]? = some v→RelV X φi W1 v (cs.getD i undef):=by
  have hv:RelV X φ w (.agg caps) (.agg cs):=.agg _ _ hcs hcr
  have:=(RelV.ren fwd (fun n' n hM=>iM n n' hM) hcaps.symm hv).evo1 ei
  cases this with
  | agg _ _ h1 h2=>exact ⟨by rw [← h1,hcs],h2⟩
 refine ⟨w.heap.size+1,[{ target:=.collected w.heap.size,args := #[] }],W1,{ target:=.fn (.func gf) cs,args := #[.func (.yield (w.heap.size+1)) #[] #[]] },W1,gf,
  #[.func (.yield (w.heap.size+1)) #[] #[]]++cs,W1,?_,?_,fun _ _=>trivial,?_,fun e=>(by cases e),?_⟩
 ·rw [← hW1,hrec]; exact run_enterLoop_outer _ _ _ _ _
 ·simp only [resolve,hge]
  simp [go_sem]
 ·simp [invoke,go_sem,hcall]
 ·refine Qpl.2 ((seq X φi W1 cs (w.heap.size+1) J (by rw [hcs,hcapi.1]) hcapi.2 henvi hy).mono ?_)
  rintro e w2 ⟨⟨v,rfl⟩,φ2,E,_,hend⟩
  have hiH:∀ b,Qi7 φi b→Qi7 φ b∨w.heap.size≤b:=fun b ⟨n,hn⟩=>by
   rcases iInv n b hn with ⟨n',_,hb⟩ | ⟨_,off,hy'⟩
   ·exact .inl ⟨n',hb⟩
   ·rcases Qoz hy' with ⟨q,hq⟩ | e'
    ·rcases hlies1 q b hq with ⟨_,e'⟩ | ⟨_,_,_,hq2⟩
     ·exact .inr (by omega)
     ·exact .inl ⟨q,hq2⟩
    ·exact .inr (by omega)
  have hends:∀ {o:Option (List α)},SlotOK X φ2 w2 σ.length (.far (J o))→∃ Y D B,φ2 σ.length=.far Y∧J o Y D B∧FarAt X φ2 w2 Y D B:=fun h=>h
  rcases hend with hend | hend
  ·obtain ⟨Y,D,B,q1,q2,q3⟩:=hends hend
   rw [hJ] at q2
   obtain ⟨φe,t,hGt,m⟩:=q2
   obtain ⟨r1,r2⟩:=m.finish (o':=.loop (rec .exhausted none)) h h00 hdr0 (hk t) hφ1' ⟨_,hW1.symm⟩ (hnf t) rfl rfl q3 q1 E hiH fwd1
   refine ⟨none,w2.putObj (w.heap.size+1) (.loop (rec .exhausted none)),by have:=run_endLoop (P:=P) r1 (by rw [hrec]; simp); rw [hrec] at this ⊢; exact this,?_⟩
   exact ⟨_,_,r2,hdone t hGt⟩
  ·obtain ⟨Y,D,B,q1,q2,q3⟩:=hends hend
   rw [hJ] at q2
   obtain ⟨φe,c,own2,hl2,hf2,hc,m⟩:=q2
   obtain ⟨r1,r2⟩:=m.finish (o':=.loop (rec .exhausted (some c))) h h00 hdr0 hl2 hφ1' ⟨_,hW1.symm⟩ hf2 rfl rfl q3 q1 E hiH fwd1
   refine ⟨some c,w2.putObj (w.heap.size+1) (.loop (rec .exhausted (some c))),by have:=run_endLoop (P:=P) r1 (by rw [hrec]; simp); rw [hrec] at this ⊢; exact this,?_⟩
   rcases hc with ⟨rfl,hq⟩ | ⟨id,rfl,hq⟩
   ·exact wpIn_ret ⟨_,_,r2,hq⟩
   ·exact wpIn_exit ⟨_,_,r2,hq⟩
end
end
end Go.Proofs.YtmbhnllcfmiajaaGreat
