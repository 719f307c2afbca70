/-
  The texts EngR, EngS, EngT, EngU, EngV, EngW, EngX, EngY, EngA, EngC, EngSt, EngN, EngG, EngJ, Xt, EngZ, Xo, X1, EngOb of the proof, one behind the other. No conditions.
-/
import Derived.Test.YtmocejncmhbfaaaG1
import Derived.RangeFuncNested
import Derived.Lib.SliceRun
import Derived.Scope
import Derived.RecoverIn
import Derived.MapKept
import Derived.WideKeyRuns
import Derived.Laws.BytesArg
import Derived.Laws.Concat
import Derived.Laws.Strings
import Derived.Conc.MuLone
import Derived.Test.YtmocejncmhbfaaaRows
import Derived.ProofKit
import Derived.Deep.Slices
import Derived.Deep.Fields
import Derived.ChangeSame
import Derived.Lib.SmallJoins
import Derived.SizedLaws
import Derived.OpenShut
namespace Go.Proofs.Ytmocejncmhbfaaa
open _root_.Go.Proofs.Try
open Go.RowKit
set_option maxRecDepth 100000
set_option maxHeartbeats 4000000
set_option synthInstance.maxSize 4000
set_option synthInstance.maxHeartbeats 400000
section
def Qjq (P:Program) (gf:FuncId) (caps:List AV) (σ:List Slot) {α:Type}(encs:α→List AV) (L:List α):Prop:=
 ∀(X:Nat→Nat→Prop) (φ:Nat→FSlot) (w:World) (vals:Array Value) (l:Nat) (J:Far α),vals.size=caps.length→(∀i v,caps[i]? = some v→RelV X φ w v (vals.getD i undef))→Qf7 X φ w (fun n=>(σ++[Slot.far (J (some L))]).getD n .unused)→Qjp P l J encs →
  Calls P gf (#[.func (.yield l) #[] #[]]++vals) w fun e w'=>(∃v,e=.returned v)∧∃φ',Evo X φ w φ' w'∧Qbq φ'∧(SlotOK X φ' w' σ.length (.far (J (some [])))∨SlotOK X φ' w' σ.length (.far (J none)))
def finI {α:Type}(J:Far α) (k:Nat):Exit→AS→Prop
 |.normal,s |.ret,s=>s.slot k=.far (J (some []))∨s.slot k=.far (J none)
 |_,_=>False
theorem Qjx {P:Program}{gf:FuncId}{fn:Func}{c:Code}(hf:P.funcs[gf]? = some fn) (hb:fn.body=some c) (hres:fn.results = #[]) {caps:List AV}{σ:List Slot}{α:Type}{encs:α→List AV}{L:List α}
  (h:∀X φ0 w0 l (J:Far α),(∀n,σ.length+1≤n→φ0 n=.unused)→w0.drawn≠1→Qjp P l J encs→AWp P X φ0 w0 none c (finI J σ.length) ⟨AV.lit (.func (.yield l) #[] #[])::(caps++List.replicate (fn.ntmps-(caps.length+1)) AV.any),σ++[Slot.far (J (some L))]⟩):Qjq P gf caps σ encs L:=by
 intro X φ w vals l J hsz hargs henv hy
 have hφ0:∀n,σ.length+1≤n→φ n=.unused:=fun n hn=>by
  have:=henv.slot n
  simp only[List.getD_eq_getElem?_getD,List.getElem?_eq_none (show(σ++[Slot.far (J (some L))]).length≤n by simp;omega),Option.getD_none] at this
  exact this
 have hs0:Sim X φ { w with drawn:=0 } φ ⟨AV.lit (.func (.yield l) #[] #[])::(caps++List.replicate (fn.ntmps-(caps.length+1)) AV.any),σ++[Slot.far (J (some L))]⟩ { tmps:=(#[.func (.yield l) #[] #[]]++vals)++Array.replicate (fn.ntmps-(#[Value.func (.yield l) #[] #[]]++vals).size) undef,defers:=[] } w:=by
  refine⟨fun n b hb=>(henv.slot n).lt hb,.nil0 _ _ rfl,?_,fun t v hv=>?_,henv,Evo.refl.to_at⟩
  ·simp[hsz];omega
  ·simp only[Array.getD_eq_getD_getElem?]
   cases t with
   |zero=>
    simp only[List.getElem?_cons_zero,Option.some.injEq] at hv
    subst hv
    rw[Array.getElem?_append_left (by simp;try omega),Array.getElem?_append_left (by simp)]
    exact .lit _
   |succ t=>
    by_cases ht:t<caps.length
    ·simp only[List.getElem?_cons_succ,List.getElem?_append_left ht] at hv
     have:=hargs t v hv
     simp only[Array.getD_eq_getD_getElem?] at this
     rw[Array.getElem?_append_left (by simp;omega),Array.getElem?_append_right (by simp)]
     simpa using this
    ·simp only[List.getElem?_cons_succ,List.getElem?_append_right (Nat.le_of_not_lt ht),List.getElem?_replicate] at hv
     split at hv
     ·cases hv;exact .any _
     ·cases hv
 refine callsIn_wide.1 (callsIn_of_wp_marks (F:=FR none) (n:=0) hf hb trivial (wpIn_mono (h X φ { w with drawn:=0 } l J hφ0 (fun e=>by cases e) hy φ _ w hs0) fun e a w' ⟨φ',s,hs,hq⟩=>?_))
 ·have fin:finI J σ.length .ret s→LeavesInM (FR none) 0 P fn a.tmps (fun e w'=>(∃v,e=.returned v)∧∃φ',Evo X φ w φ' w'∧Qbq φ'∧(SlotOK X φ' w' σ.length (.far (J (some [])))∨SlotOK X φ' w' σ.length (.far (J none)))) a.defers .returning w':=fun hq=>by
   refine Ql2 (by simp) hs fun w'' hs2=>?_
   rw[Qh3 rfl] at hs2 ⊢
   refine⟨.tuple #[],?_,⟨_,rfl⟩,φ',hs2.evo.of_at,hs2.env.distinct,?_⟩
   ·simp[results,hres]
   ·have h1:=hs2.env.slot σ.length
    rcases hq with hq |hq<;>rw[hq] at h1
    ·exact .inl h1
    ·exact .inr h1
  cases e with
  |normal=>exact fin hq
  |ret=>exact fin hq
  |exit=>exact hq.elim
  |goto=>exact hq.elim
  |panic=>exact hq.elim
  |outgrown=>exact hq.elim
structure Evo1 (X:Nat→Nat→Prop) (φ:Nat→FSlot) (w:World) (X':Nat→Nat→Prop) (φ':Nat→FSlot) (w':World):Prop where
 dat:∀b off,DataAt X φ w b off→DataAt X' φ' w' b off∧w'.cell? ⟨b,off,none⟩=w.cell? ⟨b,off,none⟩
 unus:∀n,φ n≠.unused→φ' n≠.unused
 own:∀n b,φ n≠.unused→φ' n=.own b→φ n=.own b
 tok:∀n t,φ n≠.unused→φ' n=.tok t→φ n=.tok t∧∀b L,t=some (b,L)→w'.heap[b]? = w.heap[b]?
 shape:∀n b,φ n=.own b→φ' n=.own b→Shape w w' b
 mat:∀n bs',φ n≠.unused→φ' n=.mat bs'→∃bs,φ n=.mat bs∧MatLe bs bs'
 rest:w'.os=w.os∧w'.tape=w.tape∧w'.output=w.output∧w.heap.size≤w'.heap.size
section
variable {X X' : Nat → Nat → Prop} {φ φ' : Nat → FSlot} {w w' : World}
theorem DatOK.evo1 {m:Nat}{xs:List (List AV)}{A:Option Addr}{len cap:Nat}{g:Nat→Nat→Value}(h:DatOK X φ w m xs A len cap g) (e:Evo1 X φ w X' φ' w'):DatOK X' φ' w' m xs A len cap g:=
 ⟨h.hlen,h.hcap,h.hmost,h.hsize,fun hx=>by
  obtain⟨b,o,hA,hc⟩:=h.hcells hx
  exact⟨b,o,hA,fun j x hj i hi=>by
   obtain⟨h1,h2⟩:=hc j x hj i hi
   obtain⟨e1,e2⟩:=e.dat _ _ h1
   exact⟨e1,e2.trans h2⟩⟩⟩
theorem RelV.evo1 {a:AV}{v:Value}(h:RelV X φ w a v) (e:Evo1 X φ w X' φ' w'):RelV X' φ' w' a v:=by
 induction h with
 |any v=>exact .any v
 |lit v=>exact .lit v
 |agg l vs hs _ ih=>exact .agg l vs hs ih
 |tup l vs hs _ ih=>exact .tup l vs hs ih
 |fn f first cap us vs hu hv _ _ ih1 ih2=>exact .fn f first cap us vs hu hv ih1 ih2
 |dat m xs A len cap g ok _ ih=>exact .dat m xs A len cap g (ok.evo1 e) ih
 |dptr cs i b o g hc _ ih=>
  refine .dptr cs i b o g (fun k hk=>?_) ih
  obtain⟨h1,h2⟩:=hc k hk
  obtain⟨e1,e2⟩:=e.dat _ _ h1
  exact⟨e1,e2.trans h2⟩
 |ref n m j i A hn h=>exact .ref n m j i A (e.unus n hn) (fun b hb=>h b (e.own n b hn hb))
 |own n m j len A cap hc hm hn h=>exact .own n m j len A cap hc hm (e.unus n hn) (fun b hb=>h b (e.own n b hn hb))
 |acc n ty m xs A len cap g ok _ hn ht ih=>
  refine .acc n ty m xs A len cap g (ok.evo1 e) ih (e.unus n hn) (fun t hb=>?_)
  obtain⟨h1,h2⟩:=e.tok n t hn hb
  have:=ht t h1
  unfold Tip at this ⊢
  cases t with
  |none=>exact this
  |some p=>
   obtain⟨b,L⟩:=p
   obtain⟨k1,k2,cur,k3,k4⟩:=this
   exact⟨k1,k2,cur,(h2 b L rfl).trans k3,k4⟩
 |gro n ty m len A cap hc hm hn hv h=>
  refine .gro n ty m len A cap hc hm (e.unus n hn) (fun hb=>hv (e.tok n none hn hb).1) (fun b hb=>?_)
  obtain⟨h1,cur,h2,h3⟩:=h b (e.own n b hn hb)
  obtain⟨cur',h4,h5⟩:=e.shape n b (e.own n b hn hb) hb cur ty _ h2
  exact⟨h1,cur',h4,h5.trans h3⟩
 |row n k m j len A cap hc hm hn h=>
  refine .row n k m j len A cap hc hm (e.unus n hn) fun h0 bs' hb=>?_
  obtain⟨bs,h1,h2⟩:=e.mat n bs' hn hb
  exact⟨Nat.lt_of_lt_of_le (h h0 bs h1).1 h2.1,fun b hk=>(h h0 bs h1).2 b (h2.2 k b (h h0 bs h1).1 hk)⟩
 |rowp n k m j i A hn h=>
  refine .rowp n k m j i A (e.unus n hn) fun bs' hb=>?_
  obtain⟨bs,h1,h2⟩:=e.mat n bs' hn hb
  exact⟨Nat.lt_of_lt_of_le (h bs h1).1 h2.1,fun b hk=>(h bs h1).2 b (h2.2 k b (h bs h1).1 hk)⟩
 |mp n A hn h=>exact .mp n A (e.unus n hn) (fun b hb=>h b (e.own n b hn hb))
theorem SlotOK.evo1 {n:Nat}{s:Slot}(h:SlotOK X φ w n s) (e:Evo1 X φ w X' φ' w') (hn:φ' n=φ n) (hb:∀b,(φ n).lies b→w'.heap[b]? = w.heap[b]? ∧ ∀off,¬X' b off):SlotOK X' φ' w' n s:=by
 cases s with
 |unused=>exact hn.trans h
 |dead=>exact hn.trans h
 |own m xs=>
  obtain⟨b,h1,⟨cur,ty,h2,h3,h4,h5⟩,h6⟩:=h
  exact⟨b,hn.trans h1,⟨cur,ty,(hb b (.inl h1)).1.trans h2,h3,h4,fun j x hj i a hi=>(h5 j x hj i a hi).evo1 e⟩,(hb b (.inl h1)).2⟩
 |tok=>
  obtain⟨t,h1,h2⟩:=h
  exact⟨t,hn.trans h1,fun b L hbl=>⟨by rw[(hb b (.tok (L:=L) (by rw[h1,hbl]))).1];exact(h2 b L hbl).1,(hb b (.tok (L:=L) (by rw[h1,hbl]))).2⟩⟩
 |gro m xs=>
  rcases h with ⟨h1,h2⟩ |⟨b,h1,⟨cur,ty,h2,h3,h4,h5⟩,h6⟩
  ·exact .inl ⟨h1,hn.trans h2⟩
  ·exact .inr ⟨b,hn.trans h1,⟨cur,ty,(hb b (.inl h1)).1.trans h2,h3,h4,fun j x hj i a hi=>(h5 j x hj i a hi).evo1 e⟩,(hb b (.inl h1)).2⟩
 |far J=>
  obtain⟨Y,D,B,h1,h2,h3⟩:=h
  obtain⟨r1,r2,r3,r4⟩:=e.rest
  refine⟨Y,D,B,hn.trans h1,h2,⟨fun b off hy=>?_,fun b off hD hy=>?_,r1.trans h3.os,r2.trans h3.tape,r3.trans h3.output,Nat.le_trans h3.size r4⟩⟩
  ·obtain⟨g1,g2⟩:=hb b (.far h1 hy)
   obtain⟨k1,k2,_⟩:=h3.own b off hy
   exact⟨Nat.lt_of_lt_of_le k1 r4,g1.trans k2,g2⟩
  ·obtain⟨k1,k2⟩:=h3.dat b off hD hy
   obtain⟨e1,e2⟩:=e.dat b off k1
   exact⟨e1,e2.trans k2⟩
 |mat m rows=>
  obtain⟨bs,h1,h2,h3,h4⟩:=h
  refine⟨bs,hn.trans h1,h2,h3,fun k xs hx=>?_⟩
  rcases h4 k xs hx with h5 |⟨b,hk,⟨cur,ty,c2,c3,c4,c5⟩,c6⟩
  ·exact .inl h5
  ·exact .inr ⟨b,hk,⟨cur,ty,(hb b (.mat h1 hk)).1.trans c2,c3,c4,fun j x hj i a hi=>(c5 j x hj i a hi).evo1 e⟩,(hb b (.mat h1 hk)).2⟩
 |mp es clock=>
  obtain⟨b,h1,h2,h3⟩:=h
  exact⟨b,hn.trans h1,(hb b (.inl h1)).1.trans h2,(hb b (.inl h1)).2⟩
end
def farL (l:Nat) (o:Obj):(Nat→Nat→Prop)→(Nat→Nat→Prop)→World→Prop:=fun Y _ B=>Y=(fun b _=>b=l)∧B.heap[l]? = some o
def Yof (φ:Nat→FSlot) (D0:Nat):Nat→Nat→Prop:=fun b off=>(∃n,φ n=.own b)∨(∃n L,φ n=.tok (some (b,L))∧L≤off)∨(∃n Y,φ n=.far Y∧Y b off)∨(∃(n:Nat) (bs:List (Option Nat)) (k:Nat),φ n=.mat bs∧bs[k]? = some (some b))∨b=D0
def XH (Y D:Nat→Nat→Prop) (B:World):Nat→Nat→Prop:=fun b off=>b<B.heap.size∧¬D b off∧∀off',¬Y b off'
structure EvoN (kb:Nat) (φ:Nat→FSlot) (w:World) (φ':Nat→FSlot) (w':World):Prop where
 dead:∀n,n<kb→φ n=.dead→φ' n=.dead
 own:∀n b,n<kb→φ n=.own b→φ' n=.own b∨φ' n=.dead
 tok:∀n t,n<kb→φ n=.tok t→φ' n=.dead∨(φ' n=.tok t∧∀b L,t=some (b,L)→w'.heap[b]? = w.heap[b]?)
 far:∀n Y,n<kb→φ n=.far Y→φ' n=.dead∨∃Y',φ' n=.far Y'
 shape:∀n b,n<kb→φ n=.own b→φ' n=.own b→Shape w w' b
 mat:∀n bs,n<kb→φ n=.mat bs→φ' n=.dead∨∃bs',φ' n=.mat bs'∧MatLe bs bs'
theorem Qel {φ:Nat→FSlot}{D0 n b:Nat}(h:(φ n).lies b):∃off,Yof φ D0 b off:=by
 rcases h with h |⟨L,h⟩ |⟨Y,h,off,hy⟩ |⟨bs,h,k,hk⟩
 ·exact⟨0,.inl ⟨n,h⟩⟩
 ·exact⟨L,.inr (.inl ⟨n,L,h,Nat.le_refl _⟩)⟩
 ·exact⟨off,.inr (.inr (.inl ⟨n,Y,h,hy⟩))⟩
 ·exact⟨0,.inr (.inr (.inr (.inl ⟨n,bs,k,h,hk⟩)))⟩
theorem Qhr {φ:Nat→FSlot}{D0 b off:Nat}(h:Yof φ D0 b off):Qe8 φ b∨b=D0:=by
 rcases h with ⟨n,h⟩ |⟨n,L,h,_⟩ |⟨n,Y,h,hy⟩ |⟨n,bs,k,h,hk⟩ |h
 ·exact .inl ⟨n,.inl h⟩
 ·exact .inl ⟨n,.tok h⟩
 ·exact .inl ⟨n,.far h hy⟩
 ·exact .inl ⟨n,.mat h hk⟩
 ·exact .inr h
theorem Qaz {w:World}{l b:Nat}{o:Obj}(h:b≠l):(w.putObj l o).heap[b]? = w.heap[b]? := World.putObj_heap_other h
theorem Qfx {w:World}{l:Nat}{o:Obj}(h:l<w.heap.size):(w.putObj l o).heap[l]? = some o:=World.putObj_heap_same h
theorem Qdj {w:World}{l:Nat}{o:Obj}:(w.putObj l o).heap.size=w.heap.size:=by simp
theorem Qfy {w:World}{l:Nat}{o o':Obj}(h:w.heap[l]? = some o) (ho:o.isCells=false) (ho':o'.isCells=false) (b off:Nat):(w.putObj l o').cell? ⟨b,off,none⟩=w.cell? ⟨b,off,none⟩:=by
 unfold World.cell?
 dsimp only
 by_cases e:b=l
 ·subst e
  rw[Qfx (Array.getElem?_eq_some_iff.1 h).1,h]
  cases o<;>cases o'<;>first |rfl |(cases ho;done) |(cases ho';done)
 ·rw[Qaz e]
section
variable {P : Program} {X : Nat → Nat → Prop} {φ0 φ φ' : Nat → FSlot} {w0 w w' : World} {ro : Option Nat} {Q : Exit → AS → Prop} {s : AS}
theorem Sim.turnL {k l:Nat}{o o':Obj}{regs:List AV}{own:List Slot}{a:Act}(h:Sim X φ0 w0 φ ⟨regs,own⟩ a w) (hd0:Qbq φ0) (h0:(φ0 k).lies l) (hk:own[k]? = some (.far (farL l o))) (ho:o.isCells=false) (ho':o'.isCells=false) :
  w.heap[l]? = some o∧Sim X φ0 w0 φ ⟨regs,own.set k (.far (farL l o'))⟩ a (w.putObj l o'):=by
 have hslot:=h.env.slot k
 have hkl:k<own.length:=(List.getElem?_eq_some_iff.1 hk).1
 have e:AS.slot ⟨regs,own⟩ k=.far (farL l o):=by simp[AS.slot,hk]
 rw[e] at hslot
 obtain⟨Y,D,B,h1,⟨rfl,h2⟩,h3⟩:=hslot
 have hY:=h3.own l 0 rfl
 have hl:w.heap[l]? = some o:=hY.2.1.trans h2
 have hne:∀n b,n≠k→(φ n).lies b→b≠l:=fun n b hn hb e=>hn (h.env.distinct n k b hb (.far (off:=0) h1 e))
 have ev:Evo0 X φ w φ (w.putObj l o'):=by
  refine⟨rfl,rfl,rfl,by simp,fun b off hd=>⟨⟨by simpa using hd.lt,hd.hid,hd.own,hd.tok,hd.far,hd.mat⟩,Qfy hl ho ho' b off⟩,fun _ h=>h,fun _ _ h=>.inl h,fun n t ht=>.inr ⟨ht,fun b L e=>Qaz (hne n b (fun e'=>?_) (.tok (L:=L) (by rw[ht,e])))⟩,fun _ Y h=>.inr ⟨Y,h⟩,fun _ bs h=>.inr ⟨bs,h,.refl bs⟩,fun n b hn _=>.same (Qaz (hne n b (fun e'=>?_) (.own hn)))⟩
  ·subst e';rw[h1] at ht;cases ht
  ·subst e';rw[h1] at hn;cases hn
 refine⟨hl,h.low,h.defers.to fun D hD hn=>⟨Qaz fun e=>hn ⟨k,by subst e;exact .far (off:=0) h1 rfl⟩,hn⟩,h.size,fun t v hv=>(h.regs t v hv).evo0 ev,⟨fun n=>?_,h.env.distinct,fun b off hx=>by simpa using h.env.hid b off hx⟩,?_⟩
 ·by_cases en:n=k
  ·subst en
   have e2:AS.slot ⟨regs,own.set n (.far (farL l o'))⟩ n=.far (farL l o'):=by simp[AS.slot,hkl]
   rw[e2]
   exact⟨_,fun _ _=>False,_,h1,⟨rfl,Qfx hY.1⟩,⟨fun b off hb=>⟨by have hb':b=l:=hb;subst hb';simpa using hY.1,rfl,fun off'=>by have hb':b=l:=hb;subst hb';exact hY.2.2 off'⟩,fun b off hf=>hf.elim,rfl,rfl,rfl,Nat.le_refl _⟩⟩
  ·have e2:AS.slot ⟨regs,own.set k (.far (farL l o'))⟩ n=AS.slot ⟨regs,own⟩ n:=by
    simp only[AS.slot,List.getD_eq_getElem?_getD]
    rw[List.getElem?_set_ne (fun e=>en e.symm)]
   rw[e2]
   exact(h.env.slot n).evo0 ev rfl fun b hb=>Qaz (hne n b en hb)
 ·have hb0:∀n b,n≠k→(φ0 n).lies b→b≠l:=fun n b hn hb e=>hn (hd0 n k b hb (e▸h0))
  have E:=h.evo
  refine⟨E.os,E.tape,E.output,by simpa using E.size,fun b hb hh=>(Qaz fun e=>hh ⟨k,by subst e;exact h0⟩).trans (E.blk b hb hh),E.new,fun b off hd=>?_,E.dead,E.own,fun n t hn=>?_,E.far,E.mat,fun n b hn hn'=>(E.shape n b hn hn').trans (ev.shape n b hn' hn')⟩
  ·obtain⟨d1,d2⟩:=E.dat b off hd
   exact⟨(ev.dat b off d1).1,(ev.dat b off d1).2.trans d2⟩
  ·rcases E.tok n t hn with e1 |⟨e1,e2⟩
   ·exact .inl e1
   ·refine .inr ⟨e1,fun b L hb=>?_⟩
    rcases ev.tok n t e1 with e3 |⟨_,e3⟩
    ·rw[e1] at e3;cases e3
    ·exact(e3 b L hb).trans (e2 b L hb)
theorem EvoN.refl {kb:Nat}:EvoN kb φ w φ w:=⟨fun _ _ h=>h,fun _ _ _ h=>.inl h,fun _ _ _ h=>.inr ⟨h,fun _ _ _=>rfl⟩,fun _ Y _ h=>.inr ⟨Y,h⟩,fun _ _ _ _ _=>.same rfl,fun _ bs _ h=>.inr ⟨bs,h,.refl bs⟩⟩
theorem EvoN.trans {kb:Nat}{φ'':Nat→FSlot}{w'':World}(h:EvoN kb φ w φ' w') (k:EvoN kb φ' w' φ'' w''):EvoN kb φ w φ'' w'':=by
 refine⟨fun n hk hn=>k.dead n hk (h.dead n hk hn),fun n b hk hn=>?_,fun n t hk hn=>?_,fun n Y hk hn=>?_,fun n b hk hn hn2=>?_,fun n bs hk hn=>?_⟩
 ·rcases h.own n b hk hn with h1 |h1
  ·exact k.own n b hk h1
  ·exact .inr (k.dead n hk h1)
 ·rcases h.tok n t hk hn with h1 |⟨h1,h2⟩
  ·exact .inl (k.dead n hk h1)
  ·rcases k.tok n t hk h1 with k1 |⟨k1,k2⟩
   ·exact .inl k1
   ·exact .inr ⟨k1,fun b L e=>(k2 b L e).trans (h2 b L e)⟩
 ·rcases h.far n Y hk hn with h1 |⟨Y',h1⟩
  ·exact .inl (k.dead n hk h1)
  ·exact k.far n Y' hk h1
 ·rcases h.own n b hk hn with h1 |h1
  ·exact(h.shape n b hk hn h1).trans (k.shape n b hk h1 hn2)
  ·rw[k.dead n hk h1] at hn2;cases hn2
 ·rcases h.mat n bs hk hn with h1 |⟨bs',h1,hl⟩
  ·exact .inl (k.dead n hk h1)
  ·rcases k.mat n bs' hk h1 with k1 |⟨bs'',k1,kl⟩
   ·exact .inl k1
   ·exact .inr ⟨bs'',k1,hl.trans kl⟩
theorem Evo.toN {kb:Nat}(h:Evo X φ w φ' w'):EvoN kb φ w φ' w':=⟨fun n _=>h.dead n,fun n b _=>h.own n b,fun n t _=>h.tok n t,fun n Y _=>h.far n Y,fun n b _=>h.shape n b,fun n bs _=>h.mat n bs⟩
theorem Qi6 {kb:Nat}(h:∀n b,(φ n).lies b→w'.heap[b]? = w.heap[b]?):EvoN kb φ w φ w':=⟨fun _ _ h=>h,fun _ _ _ h=>.inl h,fun n t _ ht=>.inr ⟨ht,fun b L e=>h n b (.tok (L:=L) (by rw[ht,e]))⟩,fun _ Y _ h=>.inr ⟨Y,h⟩,fun n b _ hn _=>.same (h n b (.own hn)),fun _ bs _ h=>.inr ⟨bs,h,.refl bs⟩⟩
theorem Qto {kb:Nat}(h:∀n,n<kb→φ' n=φ n):EvoN kb φ w φ' w:=⟨fun n hk hn=>(h n hk).trans hn,fun n _ hk hn=>.inl ((h n hk).trans hn),fun n _ hk hn=>.inr ⟨(h n hk).trans hn,fun _ _ _=>rfl⟩,fun n Y hk hn=>.inr ⟨Y,(h n hk).trans hn⟩,fun _ _ _ _ _=>.same rfl,fun n bs hk hn=>.inr ⟨bs,(h n hk).trans hn,.refl bs⟩⟩
def Ren (kb:Nat) (own own':List Slot):Prop:=∀(X:Nat→Nat→Prop) (φ:Nat→FSlot) (w:World),Qf7 X φ w (fun n=>own.getD n .unused)→∃φ',Qf7 X φ' w (fun n=>own'.getD n .unused)∧(∀n,n<kb→φ' n=φ n)∧(∀b,Qe8 φ' b→Qe8 φ b)∧∀b off,DataAt X φ w b off→DataAt X φ' w b off
theorem Qlo {kb:Nat}{own own':List Slot}(ρ:List Nat) (sel:List Slot) (hdec:(decide ρ.Nodup&&((List.range kb).all fun i=>ρ[i]? == some i))=true) (hs:(ρ.map fun n=>own.getD n .unused)=sel) (ho:QPw (RW fun n n'=>ρ[n']? = some n) sel own'):Ren kb own own':=by
 intro X φ w henv
 simp only[Bool.and_eq_true,decide_eq_true_eq] at hdec
 obtain⟨hnd,hid⟩:=hdec
 obtain⟨q1,q2⟩:=ho.spec
 obtain⟨φ',hφ'⟩:∃φ':Nat→FSlot,φ'=fun n'=>match ρ[n']? with |some n=>φ n |none=>.unused:=⟨_,rfl⟩
 have hM:∀n n',ρ[n']? = some n→φ' n'=φ n:=fun n n' e=>by rw[hφ'];simp only[e]
 have inv:∀n' b,(φ' n').lies b→∃n,ρ[n']? = some n∧(φ n).lies b:=fun n' b hb=>by
  cases e:ρ[n']? with
  |none=>rw[hφ'] at hb;simp only[e] at hb;exact(Qcg hb).elim
  |some n=>rw[hM n n' e] at hb;exact⟨n,rfl,hb⟩
 have fwd:∀b off,DataAt X φ w b off→DataAt X φ' w b off:=fun b off hd=>⟨hd.lt,hd.hid,fun n' hn=>by
  obtain⟨n,e,_⟩:=inv n' b (.own hn)
  exact hd.own n ((hM n n' e)▸hn),fun n' L hn=>by
  obtain⟨n,e,_⟩:=inv n' b (.tok hn)
  exact hd.tok n L ((hM n n' e)▸hn),fun n' Y hn hy=>by
  obtain⟨n,e,_⟩:=inv n' b (.far hn hy)
  exact hd.far n Y ((hM n n' e)▸hn) hy,fun n' bs k hn hk=>by
  obtain⟨n,e,_⟩:=inv n' b (.mat hn hk)
  exact hd.mat n bs k ((hM n n' e)▸hn) hk⟩
 have hR:∀a a' v,RW (fun n n'=>ρ[n']? = some n) a a'→RelV X φ w a v→RelV X φ' w a' v:=fun a a' v hra=>by
  induction hra generalizing v with
  |agg l l' hl _ ih=>
   intro hv
   cases hv with
   |agg _ vs hs h=>
    refine .agg _ vs (hs.trans hl) fun i a' hi=>?_
    have hlt:=(List.getElem?_eq_some_iff.1 hi).1
    exact ih i _ a' (List.getElem?_eq_getElem (by omega)) hi _ (h i _ (List.getElem?_eq_getElem (by omega)))
  |any=>exact fun _=>.any v
  |rn hrn=>exact RelV.ren fwd hM hrn
  |dat n ty m xs hx=>
   intro hv
   cases hv with
   |acc _ _ _ _ A len cap g ok hr hu ht=>exact .dat m xs A len cap g (ok.env fwd) (fun j x hj i a hi=>(hr j x hj i a hi).env (k:=0) (fun n hn=>absurd hn (Nat.not_lt_zero n)) fwd (hx x (List.mem_of_getElem? hj) a (List.mem_of_getElem? hi)))
  |nil m=>
   intro hv
   have:=Qbo hv
   subst this
   exact .dat m [] none 0 0 (fun _ _=>undef) (DatOK.nil m none 0 _ (Nat.zero_le _)) (by simp)
 have inj:∀(n1 n2 n':Nat),ρ[n1]? = some n'→ρ[n2]? = some n'→n1=n2:=fun n1 n2 n' h1 h2=>by
  obtain⟨l1,e1⟩:=List.getElem?_eq_some_iff.1 h1
  obtain⟨l2,e2⟩:=List.getElem?_eq_some_iff.1 h2
  exact(List.getElem_inj hnd).1 (e1.trans e2.symm)
 refine⟨φ',⟨fun n'=>?_,fun n1 n2 b h1 h2=>?_,henv.hid⟩,fun n hn=>?_,fun b ⟨n',hb⟩=>?_,fwd⟩
 ·show SlotOK X φ' w n' (own'.getD n' .unused)
  cases e:ρ[n']? with
  |none=>
   have hge:own'.length≤n':=by rw[←q1,←hs,List.length_map];exact List.getElem?_eq_none_iff.1 e
   simp only[List.getD_eq_getElem?_getD,List.getElem?_eq_none hge,Option.getD_none]
   show φ' n'=.unused
   rw[hφ'];simp only[e]
  |some n=>
   have hlt:n'<own'.length:=by rw[←q1,←hs,List.length_map];exact(List.getElem?_eq_some_iff.1 e).1
   have hg:=List.getElem?_eq_getElem hlt
   have hsp:=q2 n' (own.getD n .unused) _ (by rw[←hs,List.getElem?_map,e];rfl) hg
   simp only[List.getD_eq_getElem?_getD,hg,Option.getD_some]
   have hok:=henv.slot n
   (try dsimp only at hok)
   generalize own.getD n .unused=s1 at hsp hok
   generalize own'[n']=s2 at hsp
   cases hsp with
   |unused=>exact(hM n n' e).trans hok
   |dead=>exact(hM n n' e).trans hok
   |tok=>obtain⟨t,ht,ht'⟩:=hok;exact⟨t,(hM n n' e).trans ht,ht'⟩
   |own m xs xs' hl' hp=>obtain⟨b,hb,hown⟩:=hok;exact⟨b,(hM n n' e).trans hb,hown.pw hR hl' hp⟩
   |gro m xs xs' hl' hp=>
    rcases hok with ⟨h1,h2⟩ |⟨b,hb,hown⟩
    ·exact .inl ⟨List.eq_nil_of_length_eq_zero (by rw[←hl',h1];rfl),(hM n n' e).trans h2⟩
    ·exact .inr ⟨b,(hM n n' e).trans hb,hown.pw hR hl' hp⟩
   |far J=>
    obtain⟨Y,D,B,f1,f2,f3⟩:=hok
    exact⟨Y,D,B,(hM n n' e).trans f1,f2,f3.own,fun b off hx hy=>⟨fwd b off (f3.dat b off hx hy).1,(f3.dat b off hx hy).2⟩,f3.os,f3.tape,f3.output,f3.size⟩
   |mat m rows hp=>
    obtain⟨bs,m1,m2,m3,m4⟩:=hok
    refine⟨bs,(hM n n' e).trans m1,m2,m3,fun k xs hk=>?_⟩
    rcases m4 k xs hk with m5 |⟨b,m5,m6⟩
    ·exact .inl m5
    ·exact .inr ⟨b,m5,m6.pw hR rfl fun j x x' h1 h2=>by rw[h1] at h2;cases h2;exact hp xs (List.mem_of_getElem? hk) x (List.mem_of_getElem? h1)⟩
   |mp es clock=>obtain⟨b,hb,hown⟩:=hok;exact⟨b,(hM n n' e).trans hb,hown⟩
 ·obtain⟨m1,e1,h3⟩:=inv n1 b h1
  obtain⟨m2,e2,h4⟩:=inv n2 b h2
  have:=henv.distinct m1 m2 b h3 h4
  subst this
  exact inj n1 n2 m1 e1 e2
 ·have:=List.all_eq_true.1 hid n (by simpa using hn)
  exact hM n n (by simpa using this)
 ·obtain⟨n,_,h⟩:=inv n' b hb
  exact⟨n,h⟩
structure Mid (kb:Nat) (s:AS) (a:Act) (l D0:Nat) (φ1:Nat→FSlot) (W1:World) (own1:List Slot) (o:Obj) (φ:Nat→FSlot) (Y D:Nat→Nat→Prop) (B:World):Prop where
 hY:Y=Yof φ D0
 regs:∀i v,s.regs[i]? = some v→RelV (XH Y D B) φ B v (a.tmps.getD i undef)
 slot:∀n,SlotOK (XH Y D B) φ B n ((own1++[Slot.far (farL l o)]).getD n .unused)
 distinct:Qbq φ
 mark:B.heap[D0]? = some (.deferred (some []))
 free:¬Qe8 φ D0
 names:EvoN kb φ1 W1 φ B
theorem Qff {own1:List Slot}{x:Slot}:(own1++[x]).getD own1.length .unused=x:=by simp
theorem Qgw {own1:List Slot}{x:Slot}{n:Nat}(h:n<own1.length):(own1++[x]).getD n .unused=own1.getD n .unused:=by simp[List.getElem?_append_left h]
theorem Qfr {own1:List Slot}{x:Slot}{n:Nat}(h:own1.length<n):(own1++[x]).getD n .unused=.unused:=by
 have:(own1++[x])[n]? = none:=List.getElem?_eq_none (by simp;omega)
 simp[List.getD_eq_getElem?_getD,this]
section
variable {kb : Nat} {a : Act} {l D0 : Nat} {φ1 : Nat → FSlot} {W1 : World} {own1 : List Slot} {o : Obj} {Y D : Nat → Nat → Prop} {B : World}
theorem Mid.far (m:Mid kb s a l D0 φ1 W1 own1 o φ Y D B):φ own1.length=.far (fun b _=>b=l)∧B.heap[l]? = some o∧l<B.heap.size:=by
 have:=m.slot own1.length
 rw[Qff] at this
 obtain⟨Y0,D',B',h1,⟨rfl,h2⟩,h3⟩:=this
 exact⟨h1,(h3.own l 0 rfl).2.1.trans h2,(h3.own l 0 rfl).1⟩
theorem Mid.shift (m:Mid kb s a l D0 φ1 W1 own1 o φ Y D B) {Xi:Nat→Nat→Prop}{φi:Nat→FSlot}(hF:Qle Xi φi w Y D B):Evo1 (XH Y D B) φ B (XH Y D w) φ w:=by
 have hb:∀n b,(φ n).lies b→w.heap[b]? = B.heap[b]? := fun n b h=>by
  obtain⟨off,hy⟩:=Qel (D0:=D0) h
  exact(hF.own b off (by rw[m.hY];exact hy)).2.1
 refine⟨fun b off hd=>⟨⟨Nat.lt_of_lt_of_le hd.lt hF.size,fun hx=>hd.hid ⟨hd.lt,hx.2⟩,hd.own,hd.tok,hd.far,hd.mat⟩,?_⟩,fun _ h=>h,fun _ _ _ h=>h,fun n t _ h=>⟨h,fun b L e=>hb n b (.tok (L:=L) (by rw[h,e]))⟩,fun n b h _=>.same (hb n b (.own h)),fun _ bs _ h=>⟨bs,h,.refl bs⟩,⟨hF.os,hF.tape,hF.output,hF.size⟩⟩
 by_cases hy:∃off',Y b off'
 ·obtain⟨off',hy⟩:=hy
  exact World.cell?_of_block (hF.own b off' hy).2.1
 ·have hD:D b off:=Classical.byContradiction fun hD=>hd.hid ⟨hd.lt,hD,fun off' h=>hy ⟨off',h⟩⟩
  exact(hF.dat b off hD fun h=>hy ⟨off,h⟩).2
theorem Mid.sim (m:Mid kb s a l D0 φ1 W1 own1 o φ Y D B) {Xi:Nat→Nat→Prop}{φi:Nat→FSlot}(hF:Qle Xi φi w Y D B) :
  (∀i v,s.regs[i]? = some v→RelV (XH Y D w) φ w v (a.tmps.getD i undef))∧Qf7 (XH Y D w) φ w (fun n=>(own1++[Slot.far (farL l o)]).getD n .unused)∧w.heap[l]? = some o:=by
 have e:=m.shift hF
 have hlie:∀n b,(φ n).lies b→w.heap[b]? = B.heap[b]? ∧ ∀off,¬XH Y D w b off:=fun n b h=>by
  obtain⟨off,hy⟩:=Qel (D0:=D0) h
  exact⟨(hF.own b off (by rw[m.hY];exact hy)).2.1,fun off' hx=>hx.2.2 off (by rw[m.hY];exact hy)⟩
 obtain⟨f1,f2,f3⟩:=m.far
 have hl:w.heap[l]? = some o:=(hlie _ l (.far (off:=0) f1 rfl)).1.trans f2
 refine⟨fun i v hv=>(m.regs i v hv).evo1 e,⟨fun n=>?_,m.distinct,fun b off hx=>hx.1⟩,hl⟩
 have hn:=m.slot n
 show SlotOK _ _ _ n ((own1++[Slot.far (farL l o)]).getD n .unused)
 rcases Nat.lt_trichotomy n own1.length with h |rfl |h
 ·rw[Qgw h] at hn ⊢
  exact hn.evo1 e rfl fun b hb=>hlie n b hb
 ·rw[Qff]
  exact⟨_,fun _ _=>False,w,f1,⟨rfl,hl⟩,⟨fun b off hb=>⟨by have hb':b=l:=hb;subst hb';exact(Array.getElem?_eq_some_iff.1 hl).1,rfl,fun off'=>by have hb':b=l:=hb;subst hb';exact(hlie _ b (.far (off:=0) f1 rfl)).2 off'⟩,fun b off hf=>hf.elim,rfl,rfl,rfl,Nat.le_refl _⟩⟩
 ·rw[Qfr h] at hn ⊢
  exact hn
theorem Mid.seen (m:Mid kb s a l D0 φ1 W1 own1 o φ Y D B) {Xi:Nat→Nat→Prop}{φi:Nat→FSlot}{q:Nat}(hq:φi q=.far Y) (b off:Nat) (hd:DataAt Xi φi w b off):DataAt (XH Y (wide Xi φi w D) w) φ w b off:=by
 have hy:¬Y b off:=hd.far q Y hq
 rw[m.hY] at hy
 refine⟨hd.lt,fun hx=>hx.2.1 (.inr hd),fun n hn=>hy (.inl ⟨n,hn⟩),fun n L hn=>?_,fun n Y0 hn h0=>hy (.inr (.inr (.inl ⟨n,Y0,hn,h0⟩))),fun n bs z hn hz=>hy (.inr (.inr (.inr (.inl ⟨n,bs,z,hn,hz⟩))))⟩
 rcases Nat.lt_or_ge off L with h |h
 ·exact h
 ·exact absurd (.inr (.inl ⟨n,L,hn,h⟩)) hy
theorem Mid.vals (m:Mid kb s a l D0 φ1 W1 own1 o φ Y D B) {Xi:Nat→Nat→Prop}{φi:Nat→FSlot}{q:Nat}(hq:φi q=.far Y) {es:List AV}{vals:Array Value}(hne:∀v∈es,NLt 0 v) (hv:∀i v,es[i]? = some v→RelV Xi φi w v (vals.getD i undef)) (i:Nat) (v:AV) (u:Value) (h1:es[i]? = some v) (h2:vals.toList[i]? = some u):RelV (XH Y (Proofs.Ytmocejncmhbfaaa.wide Xi φi w D) w) φ w v u:=by
 have h3:=hv i v h1
 have e:vals.getD i undef=u:=by
  rw[Array.getElem?_toList] at h2
  rw[Array.getD_eq_getD_getElem?,h2];rfl
 rw[e] at h3
 exact h3.env (k:=0) (fun n hn=>absurd hn (Nat.not_lt_zero n)) (fun b off hd=>m.seen hq b off hd) (hne v (List.mem_of_getElem? h1))
theorem Mid.wide (m:Mid kb s a l D0 φ1 W1 own1 o φ Y D B) {Xi:Nat→Nat→Prop}{φi:Nat→FSlot}(hF:Qle Xi φi w Y D B):Mid kb s a l D0 φ1 W1 own1 o φ Y (Proofs.Ytmocejncmhbfaaa.wide Xi φi w D) w∧Qle Xi φi w Y (Proofs.Ytmocejncmhbfaaa.wide Xi φi w D) w:=by
 obtain⟨hregs,henv,hl⟩:=m.sim hF
 have hYb:∀n b,(φ n).lies b→w.heap[b]? = B.heap[b]? ∧ ∃off,Y b off:=fun n b h=>by
  obtain⟨off,hy⟩:=Qel (D0:=D0) h
  rw[←m.hY] at hy
  exact⟨(hF.own b off hy).2.1,off,hy⟩
 have e:Evo1 (XH Y D w) φ w (XH Y (Proofs.Ytmocejncmhbfaaa.wide Xi φi w D) w) φ w:=⟨fun b off hd=>⟨⟨hd.lt,fun hx=>hd.hid ⟨hx.1,fun h=>hx.2.1 (.inl h),hx.2.2⟩,hd.own,hd.tok,hd.far,hd.mat⟩,rfl⟩,fun _ h=>h,fun _ _ _ h=>h,fun n t _ h=>⟨h,fun _ _ _=>rfl⟩,fun _ _ _ _=>.same rfl,fun _ bs _ h=>⟨bs,h,.refl bs⟩,⟨rfl,rfl,rfl,Nat.le_refl _⟩⟩
 refine⟨⟨m.hY,fun i v hv=>(hregs i v hv).evo1 e,fun n=>(henv.slot n).evo1 e rfl fun b hb=>⟨rfl,fun off hx=>?_⟩,m.distinct,?_,m.free,?_⟩,⟨fun b off hy=>⟨(hF.own b off hy).1,rfl,(hF.own b off hy).2.2⟩,fun b off hD hy=>⟨?_,rfl⟩,rfl,rfl,rfl,Nat.le_refl _⟩⟩
 ·obtain⟨_,off',hy⟩:=hYb n b hb
  exact hx.2.2 off' hy
 ·rw[(hF.own D0 0 (by rw[m.hY];exact .inr (.inr (.inr (.inr rfl))))).2.1]
  exact m.mark
 ·exact m.names.trans (Qi6 fun n b hb=>(hYb n b hb).1)
 ·rcases hD with hD |hD
  ·exact(hF.dat b off hD hy).1
  ·exact hD
theorem Mid.back {own2 own3:List Slot}{o' o'':Obj}{regs3:List AV}{a2:Act}{w2:World}{Xi:Nat→Nat→Prop}{φi φ3:Nat→FSlot}(m:Mid kb s a l D0 φ1 W1 own1 o φ Y D B) (hF:Qle Xi φi w Y D B) (hreg:∀v∈s.regs,NLt kb v)
  (hlen:own2.length=own1.length) (hs:Sim (XH Y D w) φ { w with drawn:=0 } φ3 ⟨regs3,own3⟩ a2 w2) (hren:Ren kb own3 (own2++[Slot.far (farL l o')])) (ho':o'.isCells=false) (ho'':o''.isCells=false) :
  ∃φ2,w2.heap[l]? = some o'∧Kept Y (Yof φ2 D0) w (w2.putObj l o'')∧(∀b off,Yof φ2 D0 b off→b<(w2.putObj l o'').heap.size)∧Mid kb s a l D0 φ1 W1 own2 o'' φ2 (Yof φ2 D0) (grow D Y w (w2.putObj l o'')) (w2.putObj l o''):=by
 obtain⟨hregs,henv,hl⟩:=m.sim hF
 obtain⟨f1,_,_⟩:=m.far
 have E:=hs.evo.of_at
 obtain⟨φ2,henv2,hlow2,hsub,hfwd⟩:=hren _ φ3 w2 hs.env
 refine⟨φ2,?_⟩
 have hk2:φ2 own1.length=.far (fun b _=>b=l)∧w2.heap[l]? = some o':=by
  have:=henv2.slot own1.length
  have e:(own2++[Slot.far (farL l o')]).getD own1.length .unused=.far (farL l o'):=by rw[←hlen];exact Qff
  (try dsimp only at this)
  rw[e] at this
  obtain⟨Y0,D',B',h1,⟨rfl,h2⟩,h3⟩:=this
  exact⟨h1,(h3.own l 0 rfl).2.1.trans h2⟩
 obtain⟨k1,k2⟩:=hk2
 have hlt2:l<w2.heap.size:=(Array.getElem?_eq_some_iff.1 k2).1
 have hcell:=Qfy k2 ho' ho''
 have hYl:∀off,Y l off:=fun off=>by rw[m.hY];exact .inr (.inr (.inl ⟨_,_,f1,rfl⟩))
 have hYD:∀off,Y D0 off:=fun off=>by rw[m.hY];exact .inr (.inr (.inr (.inr rfl)))
 have hlD:D0≠l:=fun e=>m.free ⟨own1.length,.far (off:=0) f1 e⟩
 have hD0:D0<w.heap.size:=(hF.own D0 0 (hYD 0)).1
 have noY:∀b,(∀off,¬Y b off)→¬Qe8 φ b:=fun b h ⟨n,hn⟩=>by
  obtain⟨off,hy⟩:=Qel (D0:=D0) hn
  exact h off (by rw[m.hY];exact hy)
 have hne:∀n b,n≠own1.length→(φ2 n).lies b→b≠l:=fun n b hn hb e=>hn (henv2.distinct n _ b hb (.far (off:=0) k1 e))
 have hbl:∀b,b<w.heap.size→(∀off,¬Y b off)→(w2.putObj l o'').heap[b]? = w.heap[b]? := fun b hb h=>(Qaz fun e=>h 0 (by subst e;exact hYl 0)).trans (E.blk b hb (noY b h))
 have hdat:∀b off,b<w.heap.size→¬Y b off→(∃off',Y b off')→DataAt (XH Y D w) φ w b off:=fun b off hb hy ⟨off',hy'⟩=>by
  rw[m.hY] at hy
  refine⟨hb,fun hx=>hx.2.2 off' hy',fun n hn=>hy (.inl ⟨n,hn⟩),fun n L hn=>?_,fun n Y0 hn hy0=>hy (.inr (.inr (.inl ⟨n,Y0,hn,hy0⟩))),fun n bs z hn hz=>hy (.inr (.inr (.inr (.inl ⟨n,bs,z,hn,hz⟩))))⟩
  rcases Nat.lt_or_ge off L with h |h
  ·exact h
  ·exact absurd (.inr (.inl ⟨n,L,hn,h⟩)) hy
 have hnew:∀b off,Yof φ2 D0 b off→(∃off,Y b off)∨w.heap.size≤b:=fun b off hy=>by
  rcases Qhr hy with hh |rfl
  ·rcases E.new b (hsub b hh) with ⟨n,hn⟩ |h1
   ·obtain⟨off',h2⟩:=Qel (D0:=D0) hn
    exact .inl ⟨off',by rw[m.hY];exact h2⟩
   ·exact .inr h1
  ·exact .inl ⟨0,hYD 0⟩
 have e2:Evo1 (XH Y D w) φ2 w2 (XH (Yof φ2 D0) (grow D Y w (w2.putObj l o'')) (w2.putObj l o'')) φ2 (w2.putObj l o''):=by
  refine⟨fun b off hd=>⟨⟨by simpa using hd.lt,fun hx=>?_,hd.own,hd.tok,hd.far,hd.mat⟩,hcell b off⟩,fun _ h=>h,fun _ _ _ h=>h,fun n t _ h=>⟨h,fun b L e=>Qaz (hne n b (fun en=>by subst en;rw[k1] at h;cases h) (.tok (L:=L) (by rw[h,e])))⟩,fun n b h _=>.same (Qaz (hne n b (fun en=>by subst en;rw[k1] at h;cases h) (.own h))),fun _ bs _ h=>⟨bs,h,.refl bs⟩,⟨rfl,rfl,rfl,by rw[Qdj];exact Nat.le_refl _⟩⟩
  obtain⟨h1,h2,h3⟩:=hx
  have hlt:b<w.heap.size:=Classical.byContradiction fun h=>h2 (.inr (.inr ⟨Nat.le_of_not_lt h,h1⟩))
  exact hd.hid ⟨hlt,fun h=>h2 (.inl h),fun off' h=>h2 (.inr (.inl ⟨off',h⟩))⟩
 have hbound:∀b off,Yof φ2 D0 b off→b<(w2.putObj l o'').heap.size:=fun b off hy=>by
  rw[Qdj]
  rcases Qhr hy with ⟨n,hn⟩ |rfl
  ·exact(henv2.slot n).lt hn
  ·exact Nat.lt_of_lt_of_le hD0 E.size
 have hlie2:∀n b,(φ2 n).lies b→∀off,¬XH (Yof φ2 D0) (grow D Y w (w2.putObj l o'')) (w2.putObj l o'') b off:=fun n b h off hx=>by
  obtain⟨off',hy⟩:=Qel (D0:=D0) h
  exact hx.2.2 off' hy
 refine⟨k2,⟨E.os,E.tape,E.output,by rw[Qdj];exact E.size,hbl,fun b off hb hy=>?_,hnew⟩,hbound,⟨rfl,fun i v hv=>(((hregs i v hv).evo E).env (k:=kb) hlow2 hfwd (hreg v (List.mem_of_getElem? hv))).evo1 e2,fun n=>?_,henv2.distinct,?_,?_,?_⟩⟩
 ·by_cases hyy:∃off',Y b off'
  ·obtain⟨d1,d2⟩:=E.dat b off (hdat b off hb hy hyy)
   have d1:=hfwd b off d1
   refine⟨fun hy'=>?_,(hcell b off).trans d2⟩
   rcases hy' with ⟨n,h⟩ |⟨n,L,h,hL⟩ |⟨n,Y0,h,h0⟩ |⟨n,bs,z,h,hz⟩ |rfl
   ·exact d1.own n h
   ·have:=d1.tok n L h;omega
   ·exact d1.far n Y0 h h0
   ·exact d1.mat n bs z h hz
   ·exact hy (hYD off)
  ·have hno:∀off',¬Y b off':=fun off' h=>hyy ⟨off',h⟩
   refine⟨fun hy'=>?_,World.cell?_of_block (hbl b hb hno)⟩
   rcases hnew b off hy' with ⟨off',h⟩ |h
   ·exact hno off' h
   ·omega
 ·have hn:=henv2.slot n
  (try dsimp only at hn)
  show SlotOK _ _ _ n ((own2++[Slot.far (farL l o'')]).getD n .unused)
  rcases Nat.lt_trichotomy n own2.length with h |rfl |h
  ·rw[Qgw h] at hn ⊢
   exact hn.evo1 e2 rfl fun b hb=>⟨Qaz (hne n b (by omega) hb),hlie2 n b hb⟩
  ·rw[Qff]
   exact⟨_,fun _ _=>False,w2.putObj l o'',by rw[hlen];exact k1,⟨rfl,Qfx hlt2⟩,⟨fun b off hb=>⟨by have hb':b=l:=hb;subst hb';rw[Qdj];exact hlt2,rfl,fun off'=>by have hb':b=l:=hb;subst hb';exact hlie2 _ b (.far (off:=0) k1 rfl) off'⟩,fun b off hf=>hf.elim,rfl,rfl,rfl,Nat.le_refl _⟩⟩
  ·rw[Qfr h] at hn ⊢
   exact hn
 ·rw[Qaz hlD,E.blk D0 hD0 m.free,(hF.own D0 0 (hYD 0)).2.1]
  exact m.mark
 ·intro hh
  rcases E.new D0 (hsub D0 hh) with h |h
  ·exact m.free h
  ·omega
 ·have n1:EvoN kb φ B φ w:=Qi6 fun n b h=>by
   obtain⟨off,hy⟩:=Qel (D0:=D0) h
   exact(hF.own b off (by rw[m.hY];exact hy)).2.1
  refine m.names.trans (n1.trans (E.toN.trans ((Qto hlow2).trans ?_)))
  exact⟨fun _ _ h=>h,fun _ _ _ h=>.inl h,fun n t _ ht=>.inr ⟨ht,fun b L e=>Qaz (hne n b (fun en=>by subst en;rw[k1] at ht;cases ht) (.tok (L:=L) (by rw[ht,e])))⟩,fun _ Y _ h=>.inr ⟨Y,h⟩,fun n b _ h _=>.same (Qaz (hne n b (fun en=>by subst en;rw[k1] at h;cases h) (.own h))),fun _ bs _ h=>.inr ⟨bs,h,.refl bs⟩⟩
end
def Qva (regs:List AV) (ps:Array Tmp) (vs:List AV):List AV:=(ps.toList.zip vs).foldl (fun r p=>r.set p.1 p.2) regs
theorem Qlm {X:Nat→Nat→Prop}{φ:Nat→FSlot}{w:World}:∀(ps:List Tmp) (vs:List AV) (us:List Value) (regs:List AV) (tmps:Array Value),us.length=vs.length→(∀(i:Nat) v u,vs[i]? = some v→us[i]? = some u→RelV X φ w v u)→tmps.size=regs.length→(∀i v,regs[i]? = some v→RelV X φ w v (tmps.getD i undef)) →
  ((ps.zip us).foldl (fun t p=>t.setIfInBounds p.1 p.2) tmps).size=((ps.zip vs).foldl (fun r p=>r.set p.1 p.2) regs).length∧∀i v,((ps.zip vs).foldl (fun r p=>r.set p.1 p.2) regs)[i]? = some v→RelV X φ w v (((ps.zip us).foldl (fun t p=>t.setIfInBounds p.1 p.2) tmps).getD i undef)
 |[],_,_,_,_,_,_,hs,h=>by simp only[List.zip_nil_left,List.foldl_nil];exact⟨hs,h⟩
 |_::_,[],[],_,_,_,_,hs,h=>by simp only[List.zip_nil_right,List.foldl_nil];exact⟨hs,h⟩
 |_::_,_::_,[],_,_,he,_,_,_=>by simp at he
 |_::_,[],_::_,_,_,he,_,_,_=>by simp at he
 |p::ps,v::vs,u::us,regs,tmps,he,hv,hs,h=>by
  refine Qlm ps vs us (regs.set p v) (tmps.setIfInBounds p u) (by simpa using he) (fun i v' u' h1 h2=>hv (i+1) v' u' h1 h2) (by simpa using hs) fun i v' hi=>?_
  rw[List.getElem?_set] at hi
  simp only[Array.getD_eq_getD_getElem?,Array.getElem?_setIfInBounds]
  split at hi
  ·rename_i e
   subst e
   split at hi
   ·rename_i hlt
    cases hi
    simp[hs,hlt]
    exact hv 0 v u rfl rfl
   ·cases hi
  ·rename_i e
   rw[if_neg e]
   have:=h i v' hi
   rwa [Array.getD_eq_getD_getElem?] at this
def Qt6 (kb:Nat) (Q:Exit→AS→Prop) (s:AS) (l:Nat) {τ:Type}(G:τ→Prop) (own:τ→List Slot) (k:Nat) (o:Obj):Exit→AS→Prop
 |.normal,s'=>∃t,G t∧Ren kb s'.own (own t++[Slot.far (farL l o)])
 |.ret,s'=>∃own2,(own2.length==k)=true∧Q .ret ⟨s.regs,own2++[.dead]⟩∧Ren kb s'.own (own2++[Slot.far (farL l o)])
 |.exit id,s'=>∃own2,(own2.length==k)=true∧Q (.exit id) ⟨s.regs,own2++[.dead]⟩∧Ren kb s'.own (own2++[Slot.far (farL l o)])
 |_,_=>False
def Qsg (P:Program) (X:Nat→Nat→Prop) (φr:Nat→FSlot) (Wr:World) (l:Nat) (k:Nat) (o:Obj) (body:Code) (K:Obj→Exit→AS→Prop):Exit→AS→Prop
 |.normal,s1=>s1.own[k]? = some (.far (farL l o))∧∀o',AWp P X φr Wr (some l) body (K o') ⟨s1.regs,s1.own.set k (.far (farL l o'))⟩
 |_,_=>False
def Qiv (own:List Slot) (ρ:List Nat):List Slot:=ρ.foldl (fun o n=>o.set n .dead) own
theorem Qiu:∀(ρ:List Nat) (own:List Slot) (n:Nat),n<own.length→(Qiv own ρ).getD n .unused=if n∈ρ then .dead else own.getD n .unused
 |[],own,n,_=>by simp[Qiv]
 |q::ρ,own,n,h=>by
  have:=Qiu ρ (own.set q .dead) n (by simpa using h)
  show(Qiv (own.set q .dead) ρ).getD n .unused=_
  rw[this]
  by_cases h1:n∈ρ
  ·simp[h1]
  ·by_cases h2:n=q
   ·subst h2;simp[h1,h]
   ·have:q≠n:=fun e=>h2 e.symm
    simp[h1,h2,List.getElem?_set_ne this]
section
variable {P : Program} {X : Nat → Nat → Prop} {φ0 φ : Nat → FSlot} {w0 w : World} {Q : Exit → AS → Prop} {s : AS}
theorem Mid.finish {kb:Nat}{a:Act}{own2:List Slot}{o o':Obj}{φi φ2 φe:Nat→FSlot}{Y D:Nat→Nat→Prop}{B w2 W1:World}{φ1:Nat→FSlot}{ρ:List Nat}(h:Sim X φ0 w0 φ s a w) (h00:∀n,kb≤n→φ0 n=.unused) (hdr0:w0.drawn≠1) (hk:own2.length=s.own.length)
  (hφ1:∀n,φ1 n=if n∈ρ then .dead else if n=s.own.length then .far (fun b _=>b=w.heap.size+1) else φ n)
  (hW1:∃r,W1=(w.alloc (.deferred (some []))).alloc (.loop r))
  (m:Mid kb s a (w.heap.size+1) w.heap.size φ1 W1 own2 o φe Y D B) (ho:o.isCells=false) (ho':o'.isCells=false)
  (hF:Qle X φ2 w2 Y D B) {q:Nat}(hq:φ2 q=.far Y) (E:Evo X φi W1 φ2 w2) (hi:∀b,Qe8 φi b→Qe8 φ b∨w.heap.size≤b) (hid:∀b off,DataAt X φ w b off→DataAt X φi W1 b off) :
  w2.heap[w.heap.size+1]? = some o∧Sim X φ0 w0 (fun n=>if n=s.own.length then .dead else φe n) ⟨s.regs,own2++[.dead]⟩ { a with defers:={ target:=.collected w.heap.size,args := #[] }::a.defers } (w2.putObj (w.heap.size+1) o'):=by
 obtain⟨r,hW1⟩:=hW1
 have hsz1:W1.heap.size=w.heap.size+2:=by subst hW1;simp
 have hold:∀b,b<w.heap.size→W1.heap[b]? = w.heap[b]? := fun b hb=>by
  subst hW1
  exact(heap_alloc_old _ _ (by simp;omega)).trans (heap_alloc_old w _ hb)
 obtain⟨hregs,henv,hl⟩:=m.sim hF
 refine⟨hl,?_⟩
 obtain⟨f1,_,_⟩:=m.far
 rw[hk] at f1
 have hlt2:w.heap.size+1<w2.heap.size:=(Array.getElem?_eq_some_iff.1 hl).1
 have hcell:=Qfy (o':=o') hl ho ho'
 have hu:φ s.own.length=.unused:=by
  have:=h.env.slot s.own.length
  have e:s.slot s.own.length=.unused:=by simp[AS.slot]
  rw[e] at this
  exact this
 have hYof:∀n b,(φe n).lies b→∃off,Y b off:=fun n b hn=>by
  obtain⟨off,hy⟩:=Qel (D0:=w.heap.size) hn
  exact⟨off,by rw[m.hY];exact hy⟩
 have hne:∀n b,n≠s.own.length→(φe n).lies b→b≠w.heap.size+1:=fun n b hn hb e=>hn (m.distinct n _ b hb (.far (off:=0) f1 e))
 have hH:∀b,Qe8 φe b→b<w.heap.size→Qe8 φ b:=fun b ⟨n,hn⟩ hb=>by
  obtain⟨off,hy⟩:=hYof n b hn
  rcases E.new b ⟨q,.far hq hy⟩ with h1 |h1
  ·rcases hi b h1 with h2 |h2
   ·exact h2
   ·omega
  ·omega
 have keep:∀b,b<w.heap.size→¬Qe8 φ b→(w2.putObj (w.heap.size+1) o').heap[b]? = w.heap[b]? := fun b hb hh=>by
  rw[Qaz (by omega),E.blk b (by omega) fun h1=>?_,hold b hb]
  rcases hi b h1 with h2 |h2
  ·exact hh h2
  ·omega
 have n1:EvoN kb φ1 W1 φe w2:=m.names.trans (Qi6 fun n b hb=>by
  obtain⟨off,hy⟩:=hYof n b hb
  exact(hF.own b off hy).2.1)
 have uns:∀n,φ n≠.unused→n≠s.own.length:=fun n hn e=>hn (e▸hu)
 have same1:∀n,n∉ρ→n≠s.own.length→φ1 n=φ n:=fun n h1 h2=>by rw[hφ1,if_neg h1,if_neg h2]
 have E0:=h.evo
 have lk:∀n,φ0 n≠.unused→n<kb:=fun n hn=>Classical.byContradiction fun h1=>hn (h00 n (by omega))
 have dead1:∀n,n<kb→n∈ρ→(if n=s.own.length then FSlot.dead else φe n)=.dead:=fun n hkn h1=>by
  split
  ·rfl
  ·exact n1.dead n hkn (by rw[hφ1,if_pos h1])
 have step:∀n,n<kb→φ n≠.unused→(n∈ρ∧(if n=s.own.length then FSlot.dead else φe n)=.dead)∨(φ1 n=φ n∧(if n=s.own.length then FSlot.dead else φe n)=φe n):=fun n hkn hn=>by
  by_cases hr:n∈ρ
  ·exact .inl ⟨hr,dead1 n hkn hr⟩
  ·have hne':=uns n hn
   exact .inr ⟨same1 n hr hne',if_neg hne'⟩
 have evo2:Evo X φ0 w0 (fun n=>if n=s.own.length then .dead else φe n) (w2.putObj (w.heap.size+1) o'):=by
  have w1w:W1.os=w.os∧W1.tape=w.tape∧W1.output=w.output:=by subst hW1;exact⟨rfl,rfl,rfl⟩
  have hsz:=E0.size
  refine⟨(E.os.trans w1w.1).trans E0.os,(E.tape.trans w1w.2.1).trans E0.tape,(E.output.trans w1w.2.2).trans E0.output,by rw[Qdj];omega,fun b hb hh=>(keep b (by omega) fun h1=>?_).trans (E0.blk b hb hh),fun b ⟨n,hn⟩=>?_,fun b off hd=>?_,fun n hn=>?_,fun n b hn=>?_,fun n t hn=>?_,fun n Y0 hn=>?_,fun n bs hn=>?_,fun n b hn hn2=>?_⟩
  ·rcases E0.new b h1 with h2 |h2
   ·exact hh h2
   ·omega
  ·dsimp only at hn
   split at hn
   ·exact(Qa2 hn).elim
   ·rcases Nat.lt_or_ge b w.heap.size with h1 |h1
    ·exact E0.new b (hH b ⟨n,hn⟩ h1)
    ·exact .inr (by omega)
  ·obtain⟨c1,c2⟩:=E0.dat b off hd
   obtain⟨d1,d2⟩:=E.dat b off (hid b off c1)
   have hny:¬Y b off:=d1.far q Y hq
   refine⟨⟨by rw[Qdj];exact d1.lt,d1.hid,fun n hn=>?_,fun n L hn=>?_,fun n Y0 hn hy=>?_,fun n bs z hn hz=>?_⟩,(hcell b off).trans (d2.trans ((World.cell?_of_block (hold b c1.lt)).trans c2))⟩
   ·split at hn
    ·cases hn
    ·exact hny (by rw[m.hY];exact .inl ⟨n,hn⟩)
   ·split at hn
    ·cases hn
    ·rcases Nat.lt_or_ge off L with h1 |h1
     ·exact h1
     ·exact absurd (by rw[m.hY];exact .inr (.inl ⟨n,L,hn,h1⟩)) hny
   ·split at hn
    ·cases hn
    ·exact hny (by rw[m.hY];exact .inr (.inr (.inl ⟨n,Y0,hn,hy⟩)))
   ·split at hn
    ·cases hn
    ·exact hny (by rw[m.hY];exact .inr (.inr (.inr (.inl ⟨n,bs,z,hn,hz⟩))))
  ·have hkn:=lk n (by rw[hn];simp)
   have h1:=E0.dead n hn
   rcases step n hkn (by rw[h1];simp) with ⟨_,h2⟩ |⟨h2,h3⟩
   ·exact h2
   ·exact h3.trans (n1.dead n hkn (h2.trans h1))
  ·have hkn:=lk n (by rw[hn];simp)
   rcases E0.own n b hn with h1 |h1
   ·rcases step n hkn (by rw[h1];simp) with ⟨_,h2⟩ |⟨h2,h3⟩
    ·exact .inr h2
    ·rcases n1.own n b hkn (h2.trans h1) with h4 |h4
     ·exact .inl (h3.trans h4)
     ·exact .inr (h3.trans h4)
   ·rcases step n hkn (by rw[h1];simp) with ⟨_,h2⟩ |⟨h2,h3⟩
    ·exact .inr h2
    ·exact .inr (h3.trans (n1.dead n hkn (h2.trans h1)))
  ·have hkn:=lk n (by rw[hn];simp)
   rcases E0.tok n t hn with h1 |⟨h1,h1'⟩
   ·rcases step n hkn (by rw[h1];simp) with ⟨_,h2⟩ |⟨h2,h3⟩
    ·exact .inl h2
    ·exact .inl (h3.trans (n1.dead n hkn (h2.trans h1)))
   ·rcases step n hkn (by rw[h1];simp) with ⟨_,h2⟩ |⟨h2,h3⟩
    ·exact .inl h2
    ·rcases n1.tok n t hkn (h2.trans h1) with h4 |⟨h4,h5⟩
     ·exact .inl (h3.trans h4)
     ·refine .inr ⟨h3.trans h4,fun b L e=>?_⟩
      have hb:=(h.env.slot n).lt (FSlot.lies.tok (L:=L) (show φ n=_ by rw[h1,e]))
      rw[Qaz (by omega),h5 b L e,hold b hb]
      exact h1' b L e
  ·have hkn:=lk n (by rw[hn];simp)
   rcases E0.far n Y0 hn with h1 |⟨Y',h1⟩
   ·rcases step n hkn (by rw[h1];simp) with ⟨_,h2⟩ |⟨h2,h3⟩
    ·exact .inl h2
    ·exact .inl (h3.trans (n1.dead n hkn (h2.trans h1)))
   ·rcases step n hkn (by rw[h1];simp) with ⟨_,h2⟩ |⟨h2,h3⟩
    ·exact .inl h2
    ·rcases n1.far n Y' hkn (h2.trans h1) with h4 |⟨Y2,h4⟩
     ·exact .inl (h3.trans h4)
     ·exact .inr ⟨Y2,h3.trans h4⟩
  ·have hkn:=lk n (by rw[hn];simp)
   rcases E0.mat n bs hn with h1 |⟨bs',h1,hl1⟩
   ·rcases step n hkn (by rw[h1];simp) with ⟨_,h2⟩ |⟨h2,h3⟩
    ·exact .inl h2
    ·exact .inl (h3.trans (n1.dead n hkn (h2.trans h1)))
   ·rcases step n hkn (by rw[h1];simp) with ⟨_,h2⟩ |⟨h2,h3⟩
    ·exact .inl h2
    ·rcases n1.mat n bs' hkn (h2.trans h1) with h4 |⟨bs2,h4,hl2⟩
     ·exact .inl (h3.trans h4)
     ·exact .inr ⟨bs2,h3.trans h4,hl1.trans hl2⟩
  ·have hkn:=lk n (by rw[hn];simp)
   rcases E0.own n b hn with h1 |h1
   ·rcases step n hkn (by rw[h1];simp) with ⟨_,h2⟩ |⟨h2,h3⟩
    ·rw[h2] at hn2;cases hn2
    ·rw[h3] at hn2
     have hb:=(h.env.slot n).lt (FSlot.lies.own h1)
     exact(E0.shape n b hn h1).trans ((Shape.same (hold b hb)).trans ((n1.shape n b hkn (h2.trans h1) hn2).trans (.same (Qaz (by omega)))))
   ·rcases step n hkn (by rw[h1];simp) with ⟨_,h2⟩ |⟨h2,h3⟩
    ·rw[h2] at hn2;cases hn2
    ·rw[h3,n1.dead n hkn (h2.trans h1)] at hn2;cases hn2
 have e3:Evo1 (XH Y D w2) φe w2 X (fun n=>if n=s.own.length then .dead else φe n) (w2.putObj (w.heap.size+1) o'):=by
  refine⟨fun b off hd=>⟨⟨by rw[Qdj];exact hd.lt,?_,fun n hn=>?_,fun n L hn=>?_,fun n Y0 hn=>?_,fun n bs z hn=>?_⟩,hcell b off⟩,fun n hn=>?_,fun n b hn hb=>?_,fun n t hn ht=>?_,fun n b hn hn2=>?_,fun n bs hn hb=>?_,⟨rfl,rfl,rfl,by rw[Qdj];exact Nat.le_refl _⟩⟩
  ·by_cases hy:∃off',Y b off'
   ·obtain⟨off',hy⟩:=hy
    exact(hF.own b off' hy).2.2 off
   ·have hD:D b off:=Classical.byContradiction fun hD=>hd.hid ⟨hd.lt,hD,fun off' h=>hy ⟨off',h⟩⟩
    exact(hF.dat b off hD fun h=>hy ⟨off,h⟩).1.hid
  ·split at hn
   ·cases hn
   ·exact hd.own n hn
  ·split at hn
   ·cases hn
   ·exact hd.tok n L hn
  ·split at hn
   ·cases hn
   ·exact hd.far n Y0 hn
  ·split at hn
   ·cases hn
   ·exact hd.mat n bs z hn
  ·split
   ·simp
   ·exact hn
  ·split at hb
   ·cases hb
   ·exact hb
  ·split at ht
   ·cases ht
   ·rename_i hne'
    exact⟨ht,fun b L e=>Qaz (hne n b hne' (.tok (L:=L) (by rw[ht,e])))⟩
  ·split at hn2
   ·cases hn2
   ·rename_i hne'
    exact .same (Qaz (hne n b hne' (.own hn)))
  ·split at hb
   ·cases hb
   ·exact⟨bs,hb,.refl bs⟩
 obtain⟨hm1,hm2,_,hm3⟩:=h.defers
 have hYD:Y w.heap.size 0:=by rw[m.hY];exact .inr (.inr (.inr (.inr rfl)))
 refine⟨h.low,⟨w.heap.size::hm1,by rw[hm2];rfl,fun e=>absurd e hdr0,?_,?_⟩,h.size,fun t v hv=>(hregs t v hv).evo1 e3,⟨fun n=>?_,fun n n' b h1 h2=>?_,fun b off hx=>?_⟩,evo2⟩
 ·refine List.nodup_cons.2 ⟨fun hD=>?_,hm3.1⟩
  have:=(Array.getElem?_eq_some_iff.1 (hm3.2 _ hD).2.1).1
  omega
 ·intro D' hD
  rcases List.mem_cons.1 hD with rfl |hD
  ·refine⟨h.evo.size,?_,fun ⟨n,hn⟩=>?_⟩
   ·rw[Qaz (by omega),(hF.own _ 0 hYD).2.1]
    exact m.mark
   ·(try dsimp only at hn)
    split at hn
    ·exact Qa2 hn
    ·exact m.free ⟨n,hn⟩
  ·obtain⟨d1,d2,d3⟩:=hm3.2 D' hD
   have hlt:=(Array.getElem?_eq_some_iff.1 d2).1
   refine⟨d1,(keep D' hlt d3).trans d2,fun ⟨n,hn⟩=>?_⟩
   (try dsimp only at hn)
   split at hn
   ·exact Qa2 hn
   ·exact d3 (hH D' ⟨n,hn⟩ hlt)
 ·have hn:=henv.slot n
  show SlotOK _ _ _ n ((own2++[Slot.dead]).getD n .unused)
  (try dsimp only at hn)
  rcases Nat.lt_trichotomy n own2.length with h1 |rfl |h1
  ·rw[Qgw h1] at hn ⊢
   exact hn.evo1 e3 (if_neg (by omega)) fun b hb=>⟨Qaz (hne n b (by omega) hb),fun off hx=>by
    obtain⟨off',hy⟩:=hYof n b hb
    exact(hF.own b off' hy).2.2 off hx⟩
  ·rw[Qff]
   exact if_pos hk
  ·rw[Qfr h1] at hn ⊢
   exact(if_neg (by omega)).trans hn
 ·(try dsimp only at h1 h2)
  split at h1
  ·exact(Qa2 h1).elim
  ·split at h2
   ·exact(Qa2 h2).elim
   ·exact m.distinct n n' b h1 h2
 ·have:=h.env.hid b off hx
  rw[Qdj]
  omega
theorem Qsa {α τ:Type}{g:Operand}{ps:Array Tmp}{assign body:Code}{gf:FuncId}{caps caps':List AV}{σ σr:List Slot}{encs:α→List AV}{L:List α}{kb:Nat}(ρ:List Nat) (h00:∀n,kb≤n→φ0 n=.unused) (hdr0:w0.drawn≠1) (seq:Qjq P gf caps' σ encs L) (hcall:∀vals w,(callFunc gf vals).run P w=.ok (.enter gf vals) w)
  (hg:opd s.regs g=.fn (.func gf) [] caps) (hdec:(decide ρ.Nodup&&(ρ.length==σ.length)&&ρ.all (fun n=>Nat.blt n s.own.length)&&σ.all Slot.alive)=true)
  (hcaps:Rn (fun n n'=>ρ[n]? = some n') (.agg caps') (.agg caps)) (hσ:SLw (fun n n'=>ρ[n]? = some n') σ σr) (hs:(ρ.map fun n=>s.slot n)=σr) (hps:∀x,(encs x).length=ps.size) (hne:∀x,∀v∈encs x,NLt 0 v) (hreg:∀v∈s.regs,NLt kb v)
  (own:τ→List Slot) (hk:∀t,(own t).length=s.own.length) (G:List α→τ→Prop) (t0:τ) (hG:G L t0) (h0:own t0=Qiv s.own ρ)
  (hround:∀l o X φr Wr,(∀n,s.own.length+1≤n→φr n=.unused)→∀x rest t,G (x::rest) t→AWp P X φr Wr (some l) assign (Qsg P X φr Wr l s.own.length o body (Qt6 kb Q s l (G rest) own s.own.length)) ⟨Qva s.regs ps (encs x),own t++[Slot.far (farL l o)]⟩)
  (hdone:∀t,G [] t→Q .normal ⟨s.regs,own t++[.dead]⟩):AWp P X φ0 w0 none (.rangeFunc g ps assign body) Q s:=by
 intro φ a w h
 simp only[Bool.and_eq_true,decide_eq_true_eq,beq_iff_eq,List.all_eq_true,Nat.blt_eq] at hdec
 obtain⟨⟨⟨hnd,hlen⟩,hlow⟩,halive⟩:=hdec
 refine wpIn_rangeFunc ?_
 intro fn hfn
 obtain⟨rec,hrec⟩:∃rec:LoopState→Option Code→Loop,rec=fun st pe=>{ state:=st,pending:=pe,fn,tmps:=a.tmps,params:=ps,assign,body,defers:=w.heap.size }:=⟨_,rfl⟩
 obtain⟨W1,hW1⟩:∃W1,(w.alloc (.deferred (some []))).alloc (.loop (rec .ready none))=W1:=⟨_,rfl⟩
 have hgv:∃cs:Array Value,a.eval g=.func (.func gf) #[] cs∧cs.size=caps.length∧∀i v,caps[i]? = some v→RelV X φ w v (cs.getD i undef):=by
  have:=h.opd g
  rw[hg] at this
  cases hv:a.eval g with
  |func f us cs=>
   rw[hv] at this
   cases this with
   |fn _ _ _ _ _ hu hc h1 h2=>
    obtain rfl:us = #[]:=Array.eq_empty_of_size_eq_zero hu
    exact⟨cs,rfl,hc,h2⟩
  |_=>rw[hv] at this;cases this
 obtain⟨cs,hge,hcs,hcr⟩:=hgv
 have hlt:∀n b,(φ n).lies b→b<w.heap.size:=fun n b hb=>(h.env.slot n).lt hb
 have hsz1:W1.heap.size=w.heap.size+2:=by subst hW1;simp
 have hrest1:W1.os=w.os∧W1.tape=w.tape∧W1.output=w.output∧w.heap.size≤W1.heap.size:=by subst hW1;exact⟨rfl,rfl,rfl,by simp;omega⟩
 have hold:∀b,b<w.heap.size→W1.heap[b]? = w.heap[b]? := fun b hb=>by
  subst hW1
  exact(heap_alloc_old _ _ (by simp;omega)).trans (heap_alloc_old w _ hb)
 have hD1:W1.heap[w.heap.size]? = some (.deferred (some [])):=by
  subst hW1
  exact(heap_alloc_old _ _ (by simp)).trans (heap_alloc_new w _)
 have hL1:W1.heap[w.heap.size+1]? = some (.loop (rec .ready none)):=by
  subst hW1
  have:=heap_alloc_new (w.alloc (.deferred (some []))) (.loop (rec .ready none))
  rwa [World.size_alloc] at this
 have hu:∀n,s.own.length≤n→φ n=.unused:=fun n hn=>by
  have:=h.env.slot n
  have e:s.slot n=.unused:=by simp[AS.slot,List.getElem?_eq_none hn]
  rw[e] at this
  exact this
 have inj:∀(n1 n2 n':Nat),ρ[n1]? = some n'→ρ[n2]? = some n'→n1=n2:=fun n1 n2 n' h1 h2=>by
  obtain⟨l1,e1⟩:=List.getElem?_eq_some_iff.1 h1
  obtain⟨l2,e2⟩:=List.getElem?_eq_some_iff.1 h2
  exact(List.getElem_inj hnd).1 (e1.trans e2.symm)
 obtain⟨φ1,hφ1⟩:∃φ1:Nat→FSlot,φ1=fun n=>if n∈ρ then .dead else if n=s.own.length then .far (fun b _=>b=w.heap.size+1) else φ n:=⟨_,rfl⟩
 have hφ1':∀n,φ1 n=if n∈ρ then .dead else if n=s.own.length then .far (fun b _=>b=w.heap.size+1) else φ n:=fun n=>by rw[hφ1]
 have hlies1:∀n b,(φ1 n).lies b→(n=s.own.length∧b=w.heap.size+1)∨(n∉ρ∧n≠s.own.length∧φ1 n=φ n∧(φ n).lies b):=fun n b hb=>by
  by_cases h1:n∈ρ
  ·rw[hφ1',if_pos h1] at hb;exact(Qa2 hb).elim
  ·by_cases h2:n=s.own.length
   ·rw[hφ1',if_neg h1,if_pos h2] at hb
    obtain⟨_,hb⟩:=Qf0 hb
    exact .inl ⟨h2,hb⟩
   ·have e:φ1 n=φ n:=by rw[hφ1',if_neg h1,if_neg h2]
    exact .inr ⟨h1,h2,e,e▸hb⟩
 have hinj1:∀n b,(φ1 n).lies b→n≠s.own.length→(φ n).lies b∧n∉ρ:=fun n b hb hn=>by
  rcases hlies1 n b hb with ⟨h1,_⟩ |⟨h1,_,_,h2⟩
  ·exact absurd h1 hn
  ·exact⟨h2,h1⟩
 have notY:∀b off,DataAt X φ w b off→¬Yof φ1 w.heap.size b off:=fun b off hd hy=>by
  have hb:=hd.lt
  rcases hy with ⟨n,e⟩ |⟨n,L,e,hL⟩ |⟨n,Y0,e,h0⟩ |⟨n,bs,z,e,hz⟩ |e
  ·rcases hlies1 n b (.own e) with ⟨_,h1⟩ |⟨_,_,h1,_⟩
   ·omega
   ·exact hd.own n (h1▸e)
  ·rcases hlies1 n b (.tok e) with ⟨_,h1⟩ |⟨_,_,h1,_⟩
   ·omega
   ·have:=hd.tok n L (h1▸e);omega
  ·rcases hlies1 n b (.far e h0) with ⟨_,h1⟩ |⟨_,_,h1,_⟩
   ·omega
   ·exact hd.far n Y0 (h1▸e) h0
  ·rcases hlies1 n b (.mat e hz) with ⟨_,h1⟩ |⟨_,_,h1,_⟩
   ·omega
   ·exact hd.mat n bs z (h1▸e) hz
  ·omega
 have hXo:∀n b,(φ n).lies b→∀off,¬X b off:=fun n b hb off hx=>by
  have hsl:=h.env.slot n
  generalize s.slot n=sl at hsl
  cases sl with
  |unused=>have h':φ n=.unused:=hsl;rw[h'] at hb;exact Qcg hb
  |dead=>have h':φ n=.dead:=hsl;rw[h'] at hb;exact Qa2 hb
  |own m xs=>
   obtain⟨b',h1,h2⟩:=hsl
   rw[h1] at hb
   obtain rfl:=Qeo hb
   exact h2.hid off hx
  |tok=>
   obtain⟨t,h1,h2⟩:=hsl
   rw[h1] at hb
   obtain⟨L',rfl⟩:=Qen hb
   exact(h2 b L' rfl).2 off hx
  |gro m xs=>
   rcases hsl with ⟨_,h2⟩ |⟨b',h1,h2⟩
   ·rw[h2] at hb;exact Qcw hb
   ·rw[h1] at hb
    obtain rfl:=Qeo hb
    exact h2.hid off hx
  |far J=>
   obtain⟨Y0,D0,B0,h1,h2,h3⟩:=hsl
   rw[h1] at hb
   obtain⟨off',hy⟩:=Qf0 hb
   exact(h3.own b off' hy).2.2 off hx
  |mat m rows=>
   obtain⟨bs,m1,m2,m3,m4⟩:=hsl
   rw[m1] at hb
   obtain⟨k,hk⟩:=Qkx hb
   have hkl:k<rows.length:=m2▸(List.getElem?_eq_some_iff.1 hk).1
   rcases m4 k _ (List.getElem?_eq_getElem hkl) with ⟨_,m5⟩ |⟨b',m5,m6⟩
   ·rw[m5] at hk;cases hk
   ·rw[m5] at hk;cases hk;exact m6.hid off hx
  |mp es clock=>
   obtain⟨b',h1,h2⟩:=hsl
   rw[h1] at hb
   obtain rfl:=Qeo hb
   exact h2.hid off hx
 have hXl:∀b off,w.heap.size≤b→¬X b off:=fun b off hb hx=>by have:=h.env.hid b off hx;omega
 have e0:Evo1 X φ w (XH (Yof φ1 w.heap.size) (fun b off=>DataAt X φ w b off) W1) φ1 W1:=by
  refine⟨fun b off hd=>⟨⟨by have:=hd.lt;omega,fun hx=>hx.2.1 hd,fun n hn=>?_,fun n L hn=>?_,fun n Y0 hn h0=>?_,fun n bs z hn hz=>?_⟩,World.cell?_of_block (hold b hd.lt)⟩,fun n hn=>?_,fun n b hn hb=>?_,fun n t hn ht=>?_,fun n b hn _=>.same (hold b (hlt n b (.own hn))),fun n bs hn hb=>?_,hrest1⟩
  ·exact notY b off hd (.inl ⟨n,hn⟩)
  ·rcases Nat.lt_or_ge off L with h1 |h1
   ·exact h1
   ·exact absurd (.inr (.inl ⟨n,L,hn,h1⟩)) (notY b off hd)
  ·exact notY b off hd (.inr (.inr (.inl ⟨n,Y0,hn,h0⟩)))
  ·exact notY b off hd (.inr (.inr (.inr (.inl ⟨n,bs,z,hn,hz⟩))))
  ·rw[hφ1']
   split
   ·simp
   ·split
    ·simp
    ·exact hn
  ·rcases hlies1 n b (.own hb) with ⟨h1,_⟩ |⟨_,_,h1,_⟩
   ·exact absurd (hu n (by omega)) hn
   ·exact h1▸hb
  ·by_cases h1:n∈ρ
   ·rw[hφ1',if_pos h1] at ht;cases ht
   ·by_cases h2:n=s.own.length
    ·exact absurd (hu n (by omega)) hn
    ·rw[hφ1',if_neg h1,if_neg h2] at ht
     exact⟨ht,fun b L e=>hold b (hlt n b (.tok (L:=L) (by rw[ht,e])))⟩
  ·by_cases h1:n∈ρ
   ·rw[hφ1',if_pos h1] at hb;cases hb
   ·by_cases h2:n=s.own.length
    ·exact absurd (hu n (by omega)) hn
    ·rw[hφ1',if_neg h1,if_neg h2] at hb
     exact⟨bs,hb,.refl bs⟩
 have hfree:¬Qe8 φ1 w.heap.size:=fun ⟨n,hn⟩=>by
  rcases hlies1 n _ hn with ⟨_,h1⟩ |⟨_,_,_,h1⟩
  ·omega
  ·have:=hlt n _ h1;omega
 have hd1:Qbq φ1:=fun n n' b h1 h2=>by
  rcases hlies1 n b h1 with ⟨a1,a2⟩ |⟨_,_,_,a2⟩<;>rcases hlies1 n' b h2 with ⟨b1,b2⟩ |⟨_,_,_,b2⟩
  ·rw[a1,b1]
  ·have:=hlt n' b b2;omega
  ·have:=hlt n b a2;omega
  ·exact h.env.distinct n n' b a2 b2
 have m0:Mid kb s a (w.heap.size+1) w.heap.size φ1 W1 (own t0) (.loop (rec .ready none)) φ1 (Yof φ1 w.heap.size) (fun b off=>DataAt X φ w b off) W1:=by
  refine⟨rfl,fun i v hv=>(h.regs i v hv).evo1 e0,fun n=>?_,hd1,hD1,hfree,EvoN.refl⟩
  have hk0:=hk t0
  rcases Nat.lt_trichotomy n s.own.length with h1 |h1 |h1
  ·rw[Qgw (by omega),h0,Qiu ρ _ n h1]
   by_cases hr:n∈ρ
   ·rw[if_pos hr]
    show φ1 n=.dead
    rw[hφ1',if_pos hr]
   ·rw[if_neg hr]
    have e:φ1 n=φ n:=by rw[hφ1',if_neg hr,if_neg (by omega)]
    refine(h.env.slot n).evo1 e0 e fun b hb=>⟨hold b (hlt n b hb),fun off hx=>?_⟩
    obtain⟨off',hy⟩:=Qel (φ:=φ1) (D0:=w.heap.size) (n:=n) (b:=b) (by rw[e];exact hb)
    exact hx.2.2 off' hy
  ·have:n=(own t0).length:=by omega
   subst this
   rw[Qff]
   refine⟨_,fun _ _=>False,W1,by rw[hφ1',if_neg (fun hr=>by have:=hlow _ hr;omega),if_pos (by omega)],⟨rfl,hL1⟩,⟨fun b off hb=>?_,fun b off hf=>hf.elim,rfl,rfl,rfl,Nat.le_refl _⟩⟩
   have hb':b=w.heap.size+1:=hb
   subst hb'
   refine⟨by omega,rfl,fun off' hx=>?_⟩
   obtain⟨off2,hy⟩:=Qel (φ:=φ1) (D0:=w.heap.size) (n:=s.own.length) (b:=w.heap.size+1) (.far (Y:=fun b _=>b=w.heap.size+1) (off:=0) (by rw[hφ1',if_neg (fun hr=>by have:=hlow _ hr;omega),if_pos rfl]) rfl)
   exact hx.2.2 off2 hy
  ·rw[Qfr (by omega)]
   show φ1 n=.unused
   rw[hφ1',if_neg (fun hr=>by have:=hlow _ hr;omega),if_neg (by omega)]
   exact hu n (by omega)
 obtain⟨J,hJ⟩:∃J:Far α,J=fun o Y D B=>match o with
  |some rest=>∃φe t,G rest t∧Mid kb s a (w.heap.size+1) w.heap.size φ1 W1 (own t) (.loop (rec .ready none)) φe Y D B
  |none=>∃φe c own2,own2.length=s.own.length∧((c=.ret∧Q .ret ⟨s.regs,own2++[.dead]⟩)∨∃id,c=.exit id∧Q (.exit id) ⟨s.regs,own2++[.dead]⟩)∧Mid kb s a (w.heap.size+1) w.heap.size φ1 W1 own2 (.loop (rec .done (some c))) φe Y D B:=⟨_,rfl⟩
 have hy:Qjp P (w.heap.size+1) J encs:=by
  intro x rest Xi φi q Y D B W vals hj hq hF hXi hvs hvr
  rw[hJ] at hj
  obtain⟨φe,t,hGt,m⟩:=hj
  have hvr2:=m.vals hq (hne x) hvr
  obtain⟨m,hF⟩:=m.wide hF
  revert hvr2 m hF
  generalize wide Xi φi W D=D
  intro hvr2 m hF
  obtain⟨hregs,henv,hl⟩:=m.sim hF
  have hyl:=run_yield (P:=P) (args:=vals) hl (by rw[hrec];simp[hvs,hps x])
  rw[hrec] at hyl
  refine⟨fn,_,assign,body,hyl,roundIn_of_wpIn hfn ?_⟩
  obtain⟨f1,_,_⟩:=m.far
  rw[hk t] at f1
  have hfold:(ps.zip vals).foldl (fun t (p,v)=>t.setIfInBounds p v) a.tmps=((ps.toList.zip vals.toList).foldl (fun t p=>t.setIfInBounds p.1 p.2) a.tmps):=by
   rw[←Array.foldl_toList,Array.toList_zip]
  have hset:=Qlm (X:=XH Y D W) (φ:=φe) (w:=W) ps.toList (encs x) vals.toList s.regs a.tmps (by simp[hvs]) hvr2 h.size hregs
  have hs0:Sim (XH Y D W) φe { W with drawn:=0 } φe ⟨Qva s.regs ps (encs x),own t++[Slot.far (farL (w.heap.size+1) (.loop (rec .ready none)))]⟩ { tmps:=(ps.zip vals).foldl (fun t (p,v)=>t.setIfInBounds p v) a.tmps,defers:=[] } W:=
   ⟨fun n b hb=>(henv.slot n).lt hb,.nil0 _ _ rfl,by rw[hfold];exact hset.1,fun i v hv=>by rw[hfold];exact hset.2 i v hv,henv,Evo.refl.to_at⟩
  have hub:∀n,s.own.length+1≤n→φe n=.unused:=fun n hn=>by
   have:=henv.slot n
   (try dsimp only at this)
   rw[Qfr (by rw[hk t];omega)] at this
   exact this
  refine wpIn_mono (hround _ _ (XH Y D W) φe { W with drawn:=0 } hub x rest t hGt φe _ W hs0) ?_
  rintro e a1 w1 ⟨φ2,s1,hs1,hq1⟩
  cases e with
  |normal=>
   obtain⟨hk1,hbody⟩:=hq1
   obtain⟨hl1,hs2⟩:=hs1.turnL (o':=.loop (rec .busy none)) m.distinct (.far (off:=0) f1 rfl) hk1 rfl rfl
   refine⟨w1.putObj (w.heap.size+1) (.loop (rec .busy none)),by rw[hrec] at hl1 ⊢;exact run_beginRound hl1 rfl,?_⟩
   refine wpIn_mono (hbody _ φ2 _ _ hs2) ?_
   rintro e a3 w3 ⟨φ3,s3,hs3,hq3⟩
   have fin:∀(jump:Option Code) (own2:List Slot),own2.length=s.own.length→Ren kb s3.own (own2++[Slot.far (farL (w.heap.size+1) (.loop (rec .busy none)))]) →
     ∃φ4,(Instr.endRound (w.heap.size+1) jump).run P w3=.ok (.bool jump.isNone) (w3.putObj (w.heap.size+1) (.loop (rec (if jump.isNone then .ready else .done) jump)))∧Kept Y (Yof φ4 w.heap.size) W (w3.putObj (w.heap.size+1) (.loop (rec (if jump.isNone then .ready else .done) jump))) ∧
      (∀b off,Yof φ4 w.heap.size b off→b<(w3.putObj (w.heap.size+1) (.loop (rec (if jump.isNone then .ready else .done) jump))).heap.size) ∧
      Mid kb s a (w.heap.size+1) w.heap.size φ1 W1 own2 (.loop (rec (if jump.isNone then .ready else .done) jump)) φ4 (Yof φ4 w.heap.size) (grow D Y W (w3.putObj (w.heap.size+1) (.loop (rec (if jump.isNone then .ready else .done) jump)))) (w3.putObj (w.heap.size+1) (.loop (rec (if jump.isNone then .ready else .done) jump))):=fun jump own2 h1 hm=>by
    obtain⟨φ4,b1,b2,b3,b4⟩:=m.back (own2:=own2) (own3:=s3.own) (o':=.loop (rec .busy none)) (o'':=.loop (rec (if jump.isNone then .ready else .done) jump)) hF hreg (by rw[hk t,h1]) hs3 hm rfl rfl
    refine⟨φ4,?_,b2,b3,b4⟩
    rw[hrec] at b1 ⊢
    exact run_endRound jump b1
   cases e with
   |normal=>
    obtain⟨t',hG',hm⟩:=hq3
    obtain⟨φ4,r1,r2,r3,r4⟩:=fin none (own t') (hk t') hm
    exact⟨_,_,r1,_,r2,r3,.inl ⟨rfl,by rw[hJ];exact⟨φ4,t',hG',r4⟩⟩⟩
   |ret=>
    obtain⟨own2,h1,hq,hm⟩:=hq3
    obtain⟨φ4,r1,r2,r3,r4⟩:=fin (some .ret) own2 (beq_iff_eq.1 h1) hm
    exact⟨_,_,r1,_,r2,r3,.inr ⟨rfl,by rw[hJ];exact⟨φ4,.ret,own2,beq_iff_eq.1 h1,.inl ⟨rfl,hq⟩,r4⟩⟩⟩
   |exit id=>
    obtain⟨own2,h1,hq,hm⟩:=hq3
    obtain⟨φ4,r1,r2,r3,r4⟩:=fin (some (.exit id)) own2 (beq_iff_eq.1 h1) hm
    exact⟨_,_,r1,_,r2,r3,.inr ⟨rfl,by rw[hJ];exact⟨φ4,.exit id,own2,beq_iff_eq.1 h1,.inr ⟨id,rfl,hq⟩,r4⟩⟩⟩
   |goto=>exact hq3.elim
   |panic=>exact hq3.elim
   |outgrown=>exact hq3.elim
  |ret=>exact hq1.elim
  |exit=>exact hq1.elim
  |goto=>exact hq1.elim
  |panic=>exact hq1.elim
  |outgrown=>exact hq1.elim
 obtain⟨φi,hφi⟩:∃φi:Nat→FSlot,φi=fun n=>if n<σ.length then(match ρ[n]? with |some n'=>φ n' |none=>.unused) else if n=σ.length then .far (Yof φ1 w.heap.size) else .unused:=⟨_,rfl⟩
 have iM:∀n n',ρ[n]? = some n'→φi n=φ n':=fun n n' e=>by
  have:n<σ.length:=by rw[←hlen];exact(List.getElem?_eq_some_iff.1 e).1
  rw[hφi]
  simp only[this,if_true,e]
 have iF:φi σ.length=.far (Yof φ1 w.heap.size):=by rw[hφi];simp
 have iU:∀n,σ.length<n→φi n=.unused:=fun n hn=>by
  rw[hφi]
  simp only[show ¬n<σ.length by omega,show n≠σ.length by omega,if_false]
 have iInv:∀n b,(φi n).lies b→(∃n',ρ[n]? = some n'∧(φ n').lies b)∨(n=σ.length∧∃off,Yof φ1 w.heap.size b off):=fun n b hb=>by
  rcases Nat.lt_trichotomy n σ.length with h1 |h1 |h1
  ·obtain⟨n',e⟩:∃n',ρ[n]? = some n':=⟨_,List.getElem?_eq_getElem (by omega)⟩
   rw[iM n n' e] at hb
   exact .inl ⟨n',e,hb⟩
  ·subst h1
   rw[iF] at hb
   exact .inr ⟨rfl,Qf0 hb⟩
  ·rw[iU n h1] at hb;exact(Qcg hb).elim
 have fwd:∀b off,DataAt X φ w b off→DataAt X φi w b off:=fun b off hd=>by
  refine⟨hd.lt,hd.hid,fun n hn=>?_,fun n L' hn=>?_,fun n Y0 hn h0'=>?_,fun n bs z hn hz=>?_⟩
  ·rcases iInv n b (.own hn) with ⟨n',e,_⟩ |⟨rfl,_⟩
   ·exact hd.own n' ((iM n n' e)▸hn)
   ·rw[iF] at hn;cases hn
  ·rcases iInv n b (.tok hn) with ⟨n',e,_⟩ |⟨rfl,_⟩
   ·exact hd.tok n' L' ((iM n n' e)▸hn)
   ·rw[iF] at hn;cases hn
  ·rcases iInv n b (.far hn h0') with ⟨n',e,_⟩ |⟨rfl,_⟩
   ·exact hd.far n' Y0 ((iM n n' e)▸hn) h0'
   ·rw[iF] at hn;cases hn;exact notY b off hd h0'
  ·rcases iInv n b (.mat hn hz) with ⟨n',e,_⟩ |⟨rfl,_⟩
   ·exact hd.mat n' bs z ((iM n n' e)▸hn) hz
   ·rw[iF] at hn;cases hn
 have ei:Evo1 X φi w X φi W1:=by
  have hb:∀n b,(φi n).lies b→n≠σ.length→W1.heap[b]? = w.heap[b]? := fun n b h1 h2=>by
   rcases iInv n b h1 with ⟨n',_,h3⟩ |⟨h3,_⟩
   ·exact hold b (hlt n' b h3)
   ·exact absurd h3 h2
  refine⟨fun b off hd=>⟨⟨by have:=hd.lt;omega,hd.hid,hd.own,hd.tok,hd.far,hd.mat⟩,World.cell?_of_block (hold b hd.lt)⟩,fun _ h=>h,fun _ _ _ h=>h,fun n t _ ht=>⟨ht,fun b L' e=>hb n b (.tok (L:=L') (by rw[ht,e])) (fun e'=>by subst e';rw[iF] at ht;cases ht)⟩,fun n b hn _=>.same (hb n b (.own hn) fun e'=>by subst e';rw[iF] at hn;cases hn),fun _ bs _ h=>⟨bs,h,.refl bs⟩,hrest1⟩
 have fwd1:∀b off,DataAt X φ w b off→DataAt X φi W1 b off:=fun b off hd=>(ei.dat b off (fwd b off hd)).1
 have hYlt:∀b off,Yof φ1 w.heap.size b off→b<W1.heap.size:=fun b off hy'=>by
  rcases Qhr hy' with ⟨n,hn⟩ |e
  ·rcases hlies1 n b hn with ⟨_,e⟩ |⟨_,_,_,h1⟩
   ·omega
   ·have:=hlt n b h1;omega
  ·omega
 have hYX:∀b off,Yof φ1 w.heap.size b off→∀off',¬X b off':=fun b off hy' off'=>by
  rcases Qhr hy' with ⟨n,hn⟩ |e
  ·rcases hlies1 n b hn with ⟨_,e⟩ |⟨_,_,_,h1⟩
   ·exact hXl b off' (by omega)
   ·exact hXo n b h1 off'
  ·exact hXl b off' (by omega)
 have henvi:Qf7 X φi W1 (fun n=>(σ++[Slot.far (J (some L))]).getD n .unused):=by
  refine⟨fun n=>?_,fun n n' b h1 h2=>?_,fun b off hx=>by have:=h.env.hid b off hx;omega⟩
  ·show SlotOK X φi W1 n ((σ++[Slot.far (J (some L))]).getD n .unused)
   rcases Nat.lt_trichotomy n σ.length with h1 |h1 |h1
   ·rw[Qgw h1]
    obtain⟨n',e⟩:∃n',ρ[n]? = some n':=⟨_,List.getElem?_eq_getElem (by omega)⟩
    have hsl:=h.env.slot n'
    have hr:σr[n]? = some (s.slot n'):=by rw[←hs];simp[e]
    obtain⟨q1,q2⟩:=hσ.spec
    have hst:=q2 n σ[n] (s.slot n') (List.getElem?_eq_getElem h1) hr
    have hal:=halive σ[n] (List.getElem_mem h1)
    have e2:σ.getD n .unused=σ[n]:=by simp[h1]
    rw[e2]
    have hof:∀b,(φi n).lies b→W1.heap[b]? = w.heap[b]? ∧ ∀off,¬X b off:=fun b hb=>by
     rw[iM n n' e] at hb
     exact⟨hold b (hlt n' b hb),hXo n' b hb⟩
    generalize σ[n]=st at hst hal ⊢
    generalize s.slot n'=st' at hst hsl
    cases hst with
    |dead=>cases hal
    |tok=>cases hal
    |own m xs xs' hl hx hr'=>
     obtain⟨b,b1,b2⟩:=hsl
     have:SlotOK X φi w n (.own m xs):=⟨b,(iM n n' e).trans b1,OwnOK.ren fwd (M:=fun n' n=>ρ[n]? = some n') (fun n' n hM=>iM n n' hM) b2 (.own m xs' xs hl.symm (fun j x x' h1 h2=>(hx j x' x h2 h1).symm) fun j x x' h1 h2 i a a' h3 h4=>(hr' j x' x h2 h1 i a' a h4 h3).symm) b2.hid⟩
     exact this.evo1 ei rfl hof
    |gro m xs xs' hl hx hr'=>
     have:SlotOK X φi w n (.gro m xs):=by
      rcases hsl with ⟨b1,b2⟩ |⟨b,b1,b2⟩
      ·exact .inl ⟨List.eq_nil_of_length_eq_zero (by rw[hl,b1];rfl),(iM n n' e).trans b2⟩
      ·exact .inr ⟨b,(iM n n' e).trans b1,OwnOK.ren fwd (M:=fun n' n=>ρ[n]? = some n') (fun n' n hM=>iM n n' hM) b2 (.own m xs' xs hl.symm (fun j x x' h1 h2=>(hx j x' x h2 h1).symm) fun j x x' h1 h2 i a a' h3 h4=>(hr' j x' x h2 h1 i a' a h4 h3).symm) b2.hid⟩
     exact this.evo1 ei rfl hof
    |mat m rows hx=>
     obtain⟨bs,m1,m2,m3,m4⟩:=hsl
     have:SlotOK X φi w n (.mat m rows):=by
      refine⟨bs,(iM n n' e).trans m1,m2,m3,fun k xs hk=>?_⟩
      rcases m4 k xs hk with m5 |⟨b,m5,m6⟩
      ·exact .inl m5
      ·exact .inr ⟨b,m5,OwnOK.ren fwd (M:=fun n' n=>ρ[n]? = some n') (fun n' n hM=>iM n n' hM) m6 (.plain (hx xs (List.mem_of_getElem? hk))) m6.hid⟩
     exact this.evo1 ei rfl hof
    |mp es clock=>
     obtain⟨b,b1,b2⟩:=hsl
     have:SlotOK X φi w n (.mp es clock):=⟨b,(iM n n' e).trans b1,b2⟩
     exact this.evo1 ei rfl hof
   ·subst h1
    rw[Qff]
    exact⟨_,_,W1,iF,by rw[hJ];exact⟨φ1,t0,hG,m0⟩,⟨fun b off hy'=>⟨hYlt b off hy',rfl,hYX b off hy'⟩,fun b off hd _=>⟨fwd1 b off hd,rfl⟩,rfl,rfl,rfl,Nat.le_refl _⟩⟩
   ·rw[Qfr h1]
    exact iU n h1
  ·have mix:∀(n1 b:Nat),(∃n':Nat,ρ[n1]? = some n'∧(φ n').lies b)→(∃off,Yof φ1 w.heap.size b off)→False:=fun n1 b hmix ⟨off,hy'⟩=>by
    obtain⟨n',e,hb⟩:=hmix
    rcases Qhr hy' with ⟨q,hq⟩ |e'
    ·rcases hlies1 q b hq with ⟨_,e'⟩ |⟨hq1,_,_,hq2⟩
     ·have:=hlt n' b hb;omega
     ·have:=h.env.distinct n' q b hb hq2
      subst this
      exact hq1 (List.mem_of_getElem? e)
    ·have:=hlt n' b hb;omega
   rcases iInv n b h1 with g1 |⟨g1,g2⟩<;>rcases iInv n' b h2 with g3 |⟨g3,g4⟩
   ·obtain⟨p1,e1,l1⟩:=g1
    obtain⟨p2,e2,l2⟩:=g3
    have:=h.env.distinct p1 p2 b l1 l2
    subst this
    exact inj n n' p1 e1 e2
   ·exact(mix n b g1 g4).elim
   ·exact(mix n' b g3 g2).elim
   ·rw[g1,g3]
 have hcapi:caps'.length=caps.length∧∀i v,caps'[i]? = some v→RelV X φi W1 v (cs.getD i undef):=by
  have hv:RelV X φ w (.agg caps) (.agg cs):=.agg _ _ hcs hcr
  have:=(RelV.ren fwd (fun n' n hM=>iM n n' hM) hcaps.symm hv).evo1 ei
  cases this with
  |agg _ _ h1 h2=>exact⟨by rw[←h1,hcs],h2⟩
 refine⟨w.heap.size+1,[{ target:=.collected w.heap.size,args := #[] }],W1,{ target:=.fn (.func gf) cs,args := #[.func (.yield (w.heap.size+1)) #[] #[]] },W1,gf,
  #[.func (.yield (w.heap.size+1)) #[] #[]]++cs,W1,?_,?_,fun _ _=>trivial,?_,fun e=>(by cases e),?_⟩
 ·rw[←hW1,hrec];exact run_enterLoop_outer _ _ _ _ _
 ·simp only[resolve,hge]
  simp[go_sem]
 ·simp[invoke,go_sem,hcall]
 ·refine Qj4.2 ((seq X φi W1 cs (w.heap.size+1) J (by rw[hcs,hcapi.1]) hcapi.2 henvi hy).mono ?_)
  rintro e w2 ⟨⟨v,rfl⟩,φ2,E,_,hend⟩
  have hiH:∀b,Qe8 φi b→Qe8 φ b∨w.heap.size≤b:=fun b ⟨n,hn⟩=>by
   rcases iInv n b hn with ⟨n',_,hb⟩ |⟨_,off,hy'⟩
   ·exact .inl ⟨n',hb⟩
   ·rcases Qhr hy' with ⟨q,hq⟩ |e'
    ·rcases hlies1 q b hq with ⟨_,e'⟩ |⟨_,_,_,hq2⟩
     ·exact .inr (by omega)
     ·exact .inl ⟨q,hq2⟩
    ·exact .inr (by omega)
  have hends:∀{o:Option (List α)},SlotOK X φ2 w2 σ.length (.far (J o))→∃Y D B,φ2 σ.length=.far Y∧J o Y D B∧Qle X φ2 w2 Y D B:=fun h=>h
  rcases hend with hend |hend
  ·obtain⟨Y,D,B,q1,q2,q3⟩:=hends hend
   rw[hJ] at q2
   obtain⟨φe,t,hGt,m⟩:=q2
   obtain⟨r1,r2⟩:=m.finish (o':=.loop (rec .exhausted none)) h h00 hdr0 (hk t) hφ1' ⟨_,hW1.symm⟩ rfl rfl q3 q1 E hiH fwd1
   refine⟨none,w2.putObj (w.heap.size+1) (.loop (rec .exhausted none)),by have:=run_endLoop (P:=P) r1 (by rw[hrec];simp);rw[hrec] at this ⊢;exact this,?_⟩
   exact⟨_,_,r2,hdone t hGt⟩
  ·obtain⟨Y,D,B,q1,q2,q3⟩:=hends hend
   rw[hJ] at q2
   obtain⟨φe,c,own2,hl2,hc,m⟩:=q2
   obtain⟨r1,r2⟩:=m.finish (o':=.loop (rec .exhausted (some c))) h h00 hdr0 hl2 hφ1' ⟨_,hW1.symm⟩ rfl rfl q3 q1 E hiH fwd1
   refine⟨some c,w2.putObj (w.heap.size+1) (.loop (rec .exhausted (some c))),by have:=run_endLoop (P:=P) r1 (by rw[hrec];simp);rw[hrec] at this ⊢;exact this,?_⟩
   rcases hc with ⟨rfl,hq⟩ |⟨id,rfl,hq⟩
   ·exact wpIn_ret ⟨_,_,r2,hq⟩
   ·exact wpIn_exit ⟨_,_,r2,hq⟩
end
end
end
section
theorem Qgu {P:Program}{s:AS}{rv:ResultVar}{v v':AV}(h:Qpo P s rv v) (hl:Less v v'):Qpo P s rv v':=fun X φ0 w0 φ a w hs=>by
 obtain⟨u,h1,h2⟩:=h X φ0 w0 φ a w hs
 exact⟨u,h1,hl _ _ _ _ h2⟩
def yld {α:Type}(x:α) (o:Option (List α)):Option (List α):=o.map (x :: ·)
theorem Qqy {α:Type}{x:α}{o:Option (List α)}{r:List α}(h:yld x o=some r):∃r',o=some r'∧r=x::r':=by
 unfold yld at h
 obtain⟨r',h1,h2⟩:=Option.map_eq_some_iff.1 h
 exact⟨r',h1,h2.symm⟩
theorem Qjo {P:Program}{o:Oper}{rd rd':List (Operand×AV)}{bl:List (Nat×Slot)}{r r':AV}{eff eff':List (Nat×Slot)}(hw:LW rd rd') (h:Qia P o rd' bl r eff r' eff'):Qia P o rd bl r eff r' eff':=fun X φ a w hr=>h X φ a w fun q hq=>by
 obtain⟨p,hp,e1,e2⟩:=hw.get q hq
 rw[←e1]
 exact e2 _ _ _ _ (hr p hp)
theorem Qh5 {P:Program}{α:Type}{o:Oper}{f:Operand}{xs:Array Operand}{ts:Array TypeId}{l n:Nat}{J:Far α}{encs:α→List AV}{x:α}{rest:List α}{rd:List (Operand×AV)}
  (h:o.op=.call { callee:=.value f,args:=xs,argTypes:=ts }) (hl:(encs x).length=xs.size) (hy:Qjp P l J encs) (hrd:(f,.lit (.func (.yield l) #[] #[]))::xs.toList.zip (encs x)=rd) :
  Qia P o rd [(n,.far (J (some (x::rest))))] (.lit (.bool true)) [(n,.far (J (some rest)))] (.lit (.bool false)) [(n,.far (J none))]:=hrd▸Qnq h hl hy
theorem Ql0:∀{l k:List AV}(t:Nat) {a b:AV},LessL l k→Less a b→LessL (l.set t a) (k.set t b)
 |[],[],_,_,_,_,_=>trivial
 |_::_,_::_,0,_,_,h,hr=>⟨hr,h.2⟩
 |_::_,_::_,t+1,_,_,h,hr=>⟨h.1,Ql0 t h.2 hr⟩
theorem Qj0:∀l:List AV,LessL l l
 |[]=>trivial
 |_::l=>⟨Less.rfl,Qj0 l⟩
theorem Qoc:∀(ps:List Tmp) (vs us:List AV) (regs regs':List AV),LessL regs regs'→LPw Less vs us→LessL ((ps.zip vs).foldl (fun r p=>r.set p.1 p.2) regs) ((ps.zip us).foldl (fun r p=>r.set p.1 p.2) regs')
 |[],_,_,_,_,h,_=>by simpa using h
 |p::ps,[],[],_,_,h,_=>by simpa using h
 |p::ps,v::vs,u::us,regs,regs',h,hv=>Qoc ps vs us _ _ (Ql0 p h hv.1) hv.2
 |_::_,[],_::_,_,_,_,hv=>hv.elim
 |_::_,_::_,[],_,_,_,hv=>hv.elim
section
variable {P : Program} {X : Nat → Nat → Prop} {φ0 : Nat → FSlot} {w0 : World} {Q : Exit → AS → Prop} {s : AS}
theorem Qj7 {α τ:Type}{g:Operand}{ps:Array Tmp}{assign body:Code}{gf:FuncId}{caps caps':List AV}{σ σr:List Slot}{encs:α→List AV}{L:List α}{kb:Nat}(avs:α→List AV) (ρ:List Nat) (h00:∀n,kb≤n→φ0 n=.unused) (hdr0:w0.drawn≠1) (seq:Qjq P gf caps' σ encs L) (hcall:∀vals w,(callFunc gf vals).run P w=.ok (.enter gf vals) w)
  (hg:opd s.regs g=.fn (.func gf) [] caps) (hdec:(decide ρ.Nodup&&(ρ.length==σ.length)&&ρ.all (fun n=>Nat.blt n s.own.length)&&σ.all Slot.alive)=true)
  (hcaps:Rn (fun n n'=>ρ[n]? = some n') (.agg caps') (.agg caps)) (hσ:SLw (fun n n'=>ρ[n]? = some n') σ σr) (hs:(ρ.map fun n=>s.slot n)=σr) (hps:∀x,(encs x).length=ps.size) (hne:∀x,∀v∈encs x,NLt 0 v) (havs:∀x,LPw Less (encs x) (avs x)) (hreg:∀v∈s.regs,NLt kb v)
  (own:τ→List Slot) (hk:∀t,(own t).length=s.own.length) (G:List α→τ→Prop) (t0:τ) (hG:G L t0) (h0:own t0=Qiv s.own ρ)
  (hround:∀l o X φr Wr,(∀n,s.own.length+1≤n→φr n=.unused)→∀x rest t,G (x::rest) t→AWp P X φr Wr (some l) assign (Qsg P X φr Wr l s.own.length o body (Qt6 kb Q s l (G rest) own s.own.length)) ⟨Qva s.regs ps (avs x),own t++[Slot.far (farL l o)]⟩)
  (hdone:∀t,G [] t→Q .normal ⟨s.regs,own t++[.dead]⟩):AWp P X φ0 w0 none (.rangeFunc g ps assign body) Q s:=
 Qsa ρ h00 hdr0 seq hcall hg hdec hcaps hσ hs hps hne hreg own hk G t0 hG h0 (fun l o X φr Wr hr x rest t ht=>Qtv (Qoc ps.toList (encs x) (avs x) s.regs s.regs (Qj0 _) (havs x)) (hround l o X φr Wr hr x rest t ht)) hdone
theorem Qt8 {kb n:Nat}{l:List (Nat×AV)}(h:∀p∈l,NLt kb p.2):∀v∈mk n l,NLt kb v:=by
 have:∀(l:List (Nat×AV)) (r:List AV),(∀v∈r,NLt kb v)→(∀p∈l,NLt kb p.2)→∀v∈l.foldl (fun r p=>r.set p.1 p.2) r,NLt kb v:=by
  intro l
  induction l with
  |nil=>intro r h _;exact h
  |cons p l ih=>
   intro r h hp
   refine ih (r.set p.1 p.2) (fun v hv=>?_) fun q hq=>hp q (List.mem_cons_of_mem _ hq)
   rcases List.mem_or_eq_of_mem_set hv with h1 |h1
   ·exact h v h1
   ·rw[h1];exact hp p (by simp)
 exact this l _ (fun v hv=>by rw[List.eq_of_mem_replicate hv];exact .any) h
theorem Qrb {kb:Nat}:∀p∈([]:List (Nat×AV)),NLt kb p.2:=by simp
theorem Qgv {kb t:Nat}{a:AV}{l:List (Nat×AV)}(h:NLt kb a) (hl:∀p∈l,NLt kb p.2):∀p∈(t,a)::l,NLt kb p.2:=fun p hp=>by
 rcases List.mem_cons.1 hp with rfl |hp
 ·exact h
 ·exact hl p hp
theorem Qti {n ty m q mq:Nat}{c:List AV}(i:Nat) {s:AS}(hq:s.own.getD q .unused=.own mq [c]) (hc:c[i]? = some (.lit (.slice none 0 0))) (hn:s.own.length=n) (hqn:q<n):Mor X φ0 w0 s ⟨s.regs,(s.own.set q (.own mq [c.set i (.acc n ty m [])]))++[.tok]⟩:=by
 refine Qn8 n ty m ?_ (LPw.refl (fun a=>.same a) _) ?_ fun k hk=>?_
 ·simp[AS.slot,←hn]
 ·simp[←hn]
 ·have hke:((s.own.set q (.own mq [c.set i (.acc n ty m [])]))++[Slot.tok]).getD k .unused=(s.own.set q (.own mq [c.set i (.acc n ty m [])])).getD k .unused:=by
   rcases Nat.lt_or_ge k n with h |h
   ·exact Qgw (by simpa [hn] using h)
   ·have h1:((s.own.set q (.own mq [c.set i (.acc n ty m [])]))++[Slot.tok])[k]? = none:=List.getElem?_eq_none (by simp;omega)
    have h2:(s.own.set q (.own mq [c.set i (.acc n ty m [])]))[k]? = none:=List.getElem?_eq_none (by simp;omega)
    simp only[List.getD_eq_getElem?_getD,h1,h2]
  rw[hke]
  by_cases e:k=q
  ·subst e
   have:(s.own.set k (.own mq [c.set i (.acc n ty m [])])).getD k .unused=.own mq [c.set i (.acc n ty m [])]:=by
    simp[show k<s.own.length by omega]
   rw[this]
   have e2:s.slot k=.own mq [c]:=hq
   rw[e2]
   refine .own mq _ _ rfl fun j x x' h1 h2=>?_
   cases j with
   |zero=>simp at h1 h2;subst h1 h2;exact LPw.set (fun a=>.same a) c i hc .nil
   |succ j=>simp at h1
  ·have:(s.own.set q (.own mq [c.set i (.acc n ty m [])])).getD k .unused=s.own.getD k .unused:=by
    simp only[List.getD_eq_getElem?_getD]
    rw[List.getElem?_set_ne (fun e'=>e e'.symm)]
   rw[this]
   exact SPw.refl (fun a=>.same a) _
end
end
section
section
variable {P : Program} {o : Oper} {X : Nat → Nat → Prop} {φ φ' : Nat → FSlot} {w w' : World}
end
end
section
section
variable {P : Program} {o : Oper} {X : Nat → Nat → Prop} {φ0 : Nat → FSlot} {w0 : World} {s : AS}
inductive OpG (n:Nat) (ty:TypeId) (m:Nat):AV→AV→Prop where
 |same (a:AV):OpG n ty m a a
 |nil:OpG n ty m (.lit (.slice none 0 0)) (.gro n ty m 0)
end
section
variable {P : Program} {o : Oper} {X : Nat → Nat → Prop} {φ : Nat → FSlot} {w : World}
inductive OpU (n:Nat):AV→AV→Prop where
 |same (a:AV):OpU n a a
 |own (ty m len:Nat):OpU n (.gro n ty m len) (.own n m 0 len)
end
end
section
theorem Less.gro {n:Nat}{ty:TypeId}{m len:Nat}:Less (.gro n ty m len) (.own n m 0 len):=fun _ _ _ _ h=>by
 cases h with
 |gro _ _ _ _ A cap hc hm hn hv h=>exact .own n m 0 len A cap hc hm hn fun b hb=>by rw[(h b hb).1];simp
def SLess (s t:Slot):Prop:=∀(X:Nat→Nat→Prop) (φ:Nat→FSlot) (w:World) (n:Nat),SlotOK X φ w n s→SlotOK X φ w n t
theorem SLess.rfl {s:Slot}:SLess s s:=fun _ _ _ _ h=>h
theorem SLess.gro {m:Nat}{xs:List (List AV)}(hne:xs≠[]):SLess (.gro m xs) (.own m xs):=fun _ _ _ _ h=>by
 rcases h with ⟨h,_⟩ |h
 ·exact absurd h hne
 ·exact h
def BW:List (Nat×Slot)→List (Nat×Slot)→Prop
 |[],[]=>True
 |p::l,q::k=>p.1=q.1∧SLess p.2 q.2∧BW l k
 |_,_=>False
theorem BW.get:∀{l k:List (Nat×Slot)},BW l k→∀q∈k,∃p∈l,p.1=q.1∧SLess p.2 q.2
 |[],[],_,q,hq=>by cases hq
 |p::l,q'::k,h,q,hq=>by
  rcases List.mem_cons.1 hq with rfl |hq
  ·exact⟨p,by simp,h.1,h.2.1⟩
  ·obtain⟨p',hp',e⟩:=BW.get h.2.2 q hq
   exact⟨p',List.mem_cons_of_mem _ hp',e⟩
section
variable {P : Program} {o : Oper} {rd rd' : List (Operand × AV)} {bl bl' eff : List (Nat × Slot)} {r : AV}
end
section
variable {P : Program} {X : Nat → Nat → Prop} {φ0 : Nat → FSlot} {w0 : World} {s : AS}
end
class AVo (α:Type) where val:α→Value
instance:AVo Int:=⟨fun x=>.int .i64 x⟩
instance:AVo Bool:=⟨fun b=>.bool b⟩
def Qld {α:Type} [AVo α]:Nat→Nat→(Nat→α)→List AV
 |0,_,_=>[]
 |n+1,k,f=>.lit (AVo.val (f k))::Qld n (k+1) f
def arrF {α:Type} [AVo α] (n:Nat) (f:Nat→α):List AV:=Qld n 0 f
section
variable {α : Type} [AVo α]
theorem Qkg:∀(n k:Nat) (f:Nat→α),Qld n k f=(List.range n).map fun i=>.lit (AVo.val (f (k+i)))
 |0,_,_=>rfl
 |n+1,k,f=>by
  rw[Qld,Qkg n,List.range_succ_eq_map]
  simp[Nat.add_assoc,Nat.add_comm 1,Function.comp_def]
theorem Qwu (n:Nat) (f:Nat→α):arrF n f=(List.range n).map fun k=>.lit (AVo.val (f k)):=by rw[arrF,Qkg];simp
theorem Qxp {k n:Nat}{f:Nat→α}:∀a∈arrF n f,NLt k a:=fun a ha=>by
 rw[Qwu] at ha
 obtain⟨i,_,rfl⟩:=List.mem_map.1 ha
 exact .lit _
end
end
section
section
variable {F : Fence} {n : Nat} {P : Program} {Q : Exit → Act → World → Prop} {a : Act} {w : World}
end
section
variable {P : Program} {X : Nat → Nat → Prop} {φ0 : Nat → FSlot} {w0 : World} {ro : Option Nat} {Q : Exit → AS → Prop} {s : AS} {c : Code}
end
section
variable {P : Program} {o : Oper} {X : Nat → Nat → Prop} {φ φ' : Nat → FSlot} {w w' : World}
def wake (ns:List Nat) (φ0 φ:Nat→FSlot):Nat→FSlot:=fun k=>if ns.contains k then φ0 k else φ k
theorem Qu1 {ns:List Nat}{φ0:Nat→FSlot}{k:Nat}(h:k∈ns):wake ns φ0 φ k=φ0 k:=by simp[wake,h]
theorem Qs7 {ns:List Nat}{φ0:Nat→FSlot}{k:Nat}(h:k∉ns):wake ns φ0 φ k=φ k:=by simp[wake,h]
inductive Fresh (ns:List Nat) (eff:List (Nat×Slot)):AV→Prop where
 |any:Fresh ns eff .any
 |lit (v:Value):Fresh ns eff (.lit v)
 |ref (n' m j i:Nat) (h:n'∉ns):Fresh ns eff (.ref n' m j i)
 |own (n' m j len:Nat) (h:n'∉ns):Fresh ns eff (.own n' m j len)
 |gro (n':Nat) (ty:TypeId) (m len:Nat) (h:n'∉ns):Fresh ns eff (.gro n' ty m len)
 |acc (n':Nat) (ty:TypeId) (m:Nat) (xs:List (List AV)) (h:n'∉ns) (ht:(n',Slot.tok)∈eff) (hx:∀x∈xs,∀a∈x,∃v,a=.lit v):Fresh ns eff (.acc n' ty m xs)
 |tup (l:List AV) (h:∀a∈l,Fresh ns eff a):Fresh ns eff (.tup l)
 |agg (l:List AV) (h:∀a∈l,Fresh ns eff a):Fresh ns eff (.agg l)
theorem Fresh.rel {ns:List Nat}{φ0:Nat→FSlot}{eff:List (Nat×Slot)}{a:AV}(h:Fresh ns eff a) (hd:Qbq (wake ns φ0 φ)) (he:∀p∈eff,SlotOK X φ w p.1 p.2)
  (hX:∀b' off,DataAt X φ w b' off→(∀n∈ns,φ0 n≠.own b')→DataAt X (wake ns φ0 φ) w b' off):∀{v:Value},RelV X φ w a v→RelV X (wake ns φ0 φ) w a v:=by
 have ne:∀{n'},n'∉ns→wake ns φ0 φ n'=φ n':=fun h=>Qs7 h
 induction h with
 |any=>intro v _;exact .any v
 |lit u=>intro v hv;cases hv;exact .lit _
 |ref n' m j i h=>intro v hv;cases hv with |ref _ _ _ _ A hn hb=>exact .ref n' m j i A (by rw[ne h];exact hn) (by rw[ne h];exact hb)
 |own n' m j len h=>intro v hv;cases hv with |own _ _ _ _ A cap hc hm hn hb=>exact .own n' m j len A cap hc hm (by rw[ne h];exact hn) (by rw[ne h];exact hb)
 |gro n' ty m len h=>intro v hv;cases hv with |gro _ _ _ _ A cap hc hm hn hv hb=>exact .gro n' ty m len A cap hc hm (by rw[ne h];exact hn) (by rw[ne h];exact hv) (by rw[ne h];exact hb)
 |acc n' ty m xs h ht hx=>
  intro v hv
  cases hv with
  |acc _ _ _ _ A len cap g ok hr hn htip=>
   obtain⟨t,htok,_⟩:=he (n',.tok) ht
   dsimp only at htok
   have htip':=htip t htok
   refine .acc n' ty m xs A len cap g ⟨ok.hlen,ok.hcap,ok.hmost,ok.hsize,fun hne=>?_⟩ (fun j x hj i a hi=>?_) (by rw[ne h];exact hn) (by rw[ne h];exact htip)
   ·obtain⟨b0,o0,hA,hc⟩:=ok.hcells hne
    refine⟨b0,o0,hA,fun j x hj i hi=>⟨?_,(hc j x hj i hi).2⟩⟩
    have hb0:∀n∈ns,φ0 n≠.own b0:=by
     intro n hnn hb
     cases t with
     |none=>
      have:=htip'.1
      rw[ok.hlen] at this
      exact hne (List.eq_nil_of_length_eq_zero this)
     |some p=>
      obtain⟨b2,L⟩:=p
      have hA2:=htip'.1
      rw[hA] at hA2
      cases hA2
      have h1:(wake ns φ0 φ n').lies b0:=by rw[ne h];exact .tok htok
      have h2:(wake ns φ0 φ n).lies b0:=.own (by rw[Qu1 hnn];exact hb)
      exact h (hd _ _ _ h1 h2▸hnn)
    exact hX _ _ (hc j x hj i hi).1 hb0
   ·obtain⟨u,rfl⟩:=hx x (List.mem_of_getElem? hj) a (List.mem_of_getElem? hi)
    have:=hr j x hj i _ hi
    rw[Qbo this]
    exact .lit _
 |tup l h ih=>
  intro v hv
  cases hv with
  |tup _ vs hs hr=>exact .tup l vs hs fun i a hi=>ih a (List.mem_of_getElem? hi) (hr i a hi)
 |agg l h ih=>
  intro v hv
  cases hv with
  |agg _ vs hs hr=>exact .agg l vs hs fun i a hi=>ih a (List.mem_of_getElem? hi) (hr i a hi)
inductive Qon (ns:List Nat) (eff:List (Nat×Slot)):Slot→Prop where
 |dead:Qon ns eff .dead
 |tok:Qon ns eff .tok
 |own (m:Nat) (xs:List (List AV)) (h:∀x∈xs,∀a∈x,Fresh ns eff a):Qon ns eff (.own m xs)
 |gro (m:Nat) (xs:List (List AV)) (h:∀x∈xs,∀a∈x,Fresh ns eff a):Qon ns eff (.gro m xs)
inductive Cv (B:List (Nat×Nat×List (List AV))):AV→AV→Prop where
 |same (a:AV):Cv B a a
 |dat (n m j len:Nat) (xs zs:List (List AV)) (h:(n,m,xs)∈B) (hl:j+len≤xs.length) (hz:zs.length=len) (hs:∀(i:Nat) y z,xs[j+i]? = some y→zs[i]? = some z→y.length=z.length) (hr:∀(i:Nat) y z,xs[j+i]? = some y→zs[i]? = some z→∀(q:Nat) a a',y[q]? = some a→z[q]? = some a'→Cv B a a'):Cv B (.own n m j len) (.dat m zs)
 |dptr (n m j i:Nat) (xs:List (List AV)) (c c':List AV) (h:(n,m,xs)∈B) (hj:xs[j]? = some c) (hl:c.length=c'.length) (hr:∀(q:Nat) a a',c[q]? = some a→c'[q]? = some a'→Cv B a a'):Cv B (.ref n m j i) (.dptr c' i)
 |agg (l l':List AV) (hl:l.length=l'.length) (hr:∀(q:Nat) a a',l[q]? = some a→l'[q]? = some a'→Cv B a a'):Cv B (.agg l) (.agg l')
 |fn (f:Fn) (l l' c c':List AV) (hl:l.length=l'.length) (hc:c.length=c'.length) (hr:∀(q:Nat) a a',l[q]? = some a→l'[q]? = some a'→Cv B a a') (hr':∀(q:Nat) a a',c[q]? = some a→c'[q]? = some a'→Cv B a a'):Cv B (.fn f l c) (.fn f l' c')
theorem Cv.rel {B:List (Nat×Nat×List (List AV))}{a a':AV}(h:Cv B a a') (hB:∀p∈B,∃b,φ p.1=.own b∧OwnOK X φ w b p.2.1 p.2.2) (ev:Evo X φ w φ' w) (hdat:∀p∈B,∀b off,φ p.1=.own b→DataAt X φ' w b off):∀{v:Value},RelV X φ w a v→RelV X φ' w a' v:=by
 have geti:∀{l l':List AV},l.length=l'.length→∀(q:Nat) a',l'[q]? = some a'→∃a,l[q]? = some a:=fun {l l'} hl q a' hq=>by
  have:=(List.getElem?_eq_some_iff.1 hq).1
  exact⟨_,List.getElem?_eq_getElem (by omega)⟩
 have cellat:∀{b m:Nat}{cur:Array Value}{ty:TypeId}{xs:List (List AV)}{j:Nat}{c:List AV}{q:Nat},w.heap[b]? = some (.cells cur ty (0,0))→xs.length*m≤cur.size→xs[j]? = some c→q<m→w.cell? ⟨b,j*m+q,none⟩=some (cur.getD (j*m+q) undef):=fun {b m cur ty xs j c q} hc hs hj hq=>by
  have hjl:j<xs.length:=(List.getElem?_eq_some_iff.1 hj).1
  have hpos:j*m+q<cur.size:=by
   have:(j+1)*m≤xs.length*m:=Nat.mul_le_mul_right m hjl
   rw[Nat.add_mul] at this
   omega
  rw[World.cell?]
  simp only[hc]
  simp[Array.getD_eq_getD_getElem?,hpos]
 induction h with
 |same a=>intro v hv;exact hv.evo ev
 |dat n m j len xs zs h hl hz hs hr ih=>
  intro v hv
  obtain⟨b,hn,hown⟩:=hB _ h
  dsimp only at hn hown
  obtain⟨cap,hc1,hc2,rfl⟩:=Qnb hv hn
  obtain⟨cur,ty,hcell,hsz,hlen,hrel⟩:=hown.blk
  have hx:∀(i:Nat) z,zs[i]? = some z→∃y,xs[j+i]? = some y:=fun i z hi=>by
   have:=(List.getElem?_eq_some_iff.1 hi).1
   exact⟨_,List.getElem?_eq_getElem (by omega)⟩
  refine .dat m zs _ len cap (fun i q=>cur.getD ((j+i)*m+q) undef) ⟨hz.symm,hc1,hc2,fun z hz'=>?_,fun _=>⟨b,j*m,rfl,fun i z hi q hq=>⟨hdat _ h b _ hn,?_⟩⟩⟩ fun i z hi q c hq=>?_
  ·obtain⟨i,hi⟩:=List.getElem?_of_mem hz'
   obtain⟨y,hy⟩:=hx i z hi
   rw[←hs i y z hy hi]
   exact hlen y (List.mem_of_getElem? hy)
  ·obtain⟨y,hy⟩:=hx i z hi
   rw[show j*m+i*m+q=(j+i)*m+q from by rw[Nat.add_mul]]
   exact cellat hcell hsz hy hq
  ·obtain⟨y,hy⟩:=hx i z hi
   obtain⟨u,hu⟩:=geti (hs i y z hy hi) q c hq
   exact ih i y z hy hi q u c hu hq (hrel (j+i) y hy q u hu)
 |dptr n m j i xs c c' h hj hl hr ih=>
  intro v hv
  obtain⟨b,hn,hown⟩:=hB _ h
  dsimp only at hn hown
  obtain rfl:=Qiw hv hn
  obtain⟨cur,ty,hcell,hsz,hlen,hrel⟩:=hown.blk
  refine .dptr c' i b (j*m) (fun k=>cur.getD (j*m+k) undef) (fun k hk=>⟨hdat _ h b _ hn,?_⟩) fun k u hk=>?_
  ·exact cellat hcell hsz hj (by rw[←hl,hlen c (List.mem_of_getElem? hj)] at hk;exact hk)
  ·obtain⟨u',hu'⟩:=geti hl k u hk
   exact ih k u' u hu' hk (hrel j c hj k u' hu')
 |agg l l' hl hr ih=>
  intro v hv
  cases hv with
  |agg _ vs hs h=>
   refine .agg l' vs (hs.trans hl) fun i a hi=>?_
   obtain⟨u,hu⟩:=geti hl i a hi
   exact ih i u a hu hi (h i u hu)
 |fn f l l' c c' hl hc hr hr' ih ih'=>
  intro v hv
  cases hv with
  |fn _ _ _ us vs hu hv h1 h2=>
   refine .fn f l' c' us vs (hu.trans hl) (hv.trans hc) (fun i a hi=>?_) fun i a hi=>?_
   ·obtain⟨u,hu⟩:=geti hl i a hi
    exact ih i u a hu hi (h1 i u hu)
   ·obtain⟨u,hu⟩:=geti hc i a hi
    exact ih' i u a hu hi (h2 i u hu)
def BR (B:List (Nat×Nat×List (List AV))):List (Operand×AV)→List (Operand×AV)→Prop
 |[],[]=>True
 |p::l,q::k=>p.1=q.1∧Cv B p.2 q.2∧BR B l k
 |_,_=>False
theorem BR.get {B:List (Nat×Nat×List (List AV))}:∀{l k:List (Operand×AV)},BR B l k→∀q∈k,∃p∈l,p.1=q.1∧Cv B p.2 q.2
 |[],[],_,q,hq=>by cases hq
 |p::l,q'::k,h,q,hq=>by
  rcases List.mem_cons.1 hq with rfl |hq
  ·exact⟨p,by simp,h.1,h.2.1⟩
  ·obtain⟨p',hp',e⟩:=BR.get h.2.2 q hq
   exact⟨p',List.mem_cons_of_mem _ hp',e⟩
end
abbrev amv := @Qkb
abbrev ag_ := @Qjl
abbrev aas := @Qh8
abbrev nlc := @Qfe
abbrev apk := @Qj9
abbrev abn := @Qmo
abbrev rnc := @Qkq
abbrev ald := @Qkc
abbrev rn0 := @Qvd
abbrev nld := @Qi2
abbrev nl0 := @Qhi
abbrev bno := @Qts
abbrev afa := @Qjm
abbrev apc := @Qjf
abbrev spb := @Qqz
abbrev asb := @Qwt
abbrev thn := @Qu2
abbrev cko := @Qwn
abbrev jko := @Qrp
abbrev acv := @Qpi
abbrev aid := @Qke
abbrev aln := @Qml
abbrev alm := @Qkd
abbrev mgt := @Qrm
abbrev gsm := @Qrq
abbrev wmr := @Qwq
abbrev wjn := @Qtw
abbrev mto := @Qxq
abbrev arm := @Qpk
abbrev bln := @Qtr
abbrev awk := @Qpf
abbrev anc := @Qka
abbrev wsq := @Qk9
abbrev slc := @Qtc
abbrev spr := @Qu4
abbrev rqr := @Qq3
abbrev lrf := @Less.rfl
abbrev ast := @Qjd
abbrev aio := @Qph
theorem bfe {β:Type}{c:Bool}{a b:Option β}{r:β}{G:Prop}(h:(bif c then a else b)=some r) (h1:c=true→a=some r→G) (h2:c=false→b=some r→G):G:=by
 cases c
 ·exact h2 rfl h
 ·exact h1 rfl h
section
variable {P : Program} {X : Nat → Nat → Prop} {φ0 : Nat → FSlot} {w0 : World} {ro : Option Nat} {Q : Exit → AS → Prop} {s : AS}
theorem wft {x y:Code}{o:Operand}{b:Bool}(hb:b=true) (h:AWp P X φ0 w0 ro x Q s) (hc:opd s.regs o=.lit (.bool b):=by kernel_rfl):AWp P X φ0 w0 ro (.cond o x y) Q s:=Qwr hb hc h
theorem wfn {x y:Code}{o:Operand}{b:Bool}(hb:b=false) (h:AWp P X φ0 w0 ro y Q s) (hc:opd s.regs o=.lit (.bool b):=by kernel_rfl):AWp P X φ0 w0 ro (.cond o x y) Q s:=Qws hb hc h
theorem wtr {c:Operand}{x y:Code}(h:AWp P X φ0 w0 ro x Q s) (hc:opd s.regs c=.lit (.bool true):=by kernel_rfl):AWp P X φ0 w0 ro (.cond c x y) Q s:=Qoi hc h
theorem wfa {c:Operand}{x y:Code}(h:AWp P X φ0 w0 ro y Q s) (hc:opd s.regs c=.lit (.bool false):=by kernel_rfl):AWp P X φ0 w0 ro (.cond c x y) Q s:=Qmh hc h
theorem rot {t:Tmp}{v:AV}(h:s.regs.getD t .any=v:=by kernel_rfl):Qpo P s (.tmp t) v:=Qq6 h
end
theorem lcc {M:Nat→Nat→Prop}{u v:Value}{l k:List AV}(h:LPw (RW M) l k):LPw (RW M) (.lit u::.lit v::l) (.lit u::.lit v::k):=lc rwl (lc rwl h)
theorem nlcc {k:Nat}{u v:Value}{l:List AV}(h:∀a∈l,NLt k a):∀b∈AV.lit u::AV.lit v::l,NLt k b:=Qfe nll (Qfe nll h)
theorem rncc {M:Nat→Nat→Prop}{u v:Value}{l l':List AV}(h:LPw (Rn M) l l'):LPw (Rn M) (.lit u::.lit v::l) (.lit u::.lit v::l'):=Qkq (.plain _ nll) (Qkq (.plain _ nll) h)
theorem rnd {M:Nat→Nat→Prop}{m:Nat}{α:Type}{c:α→List AV}{l:List α}(h:∀x,∀a∈c x,NLt 0 a):RW M (.dat m (l.map c)) (.dat m (l.map c)):=.rn (.plain _ (Qi2 h l))
theorem pld {M:Nat→Nat→Prop}{m:Nat}{α:Type}{c:α→List AV}{l:List α}(h:∀x,∀a∈c x,NLt 0 a):Rn M (.dat m (l.map c)) (.dat m (l.map c)):=.plain _ (Qi2 h l)
end
section
section
variable {P : Program} {o : Oper} {X : Nat → Nat → Prop} {φ : Nat → FSlot} {w : World} {r : AV}
end
section
variable {P : Program} {X : Nat → Nat → Prop} {φ0 φ : Nat → FSlot} {w0 w : World} {s : AS}
end
section
variable {X : Nat → Nat → Prop} {φ0 : Nat → FSlot} {w0 : World} {s : AS}
end
section
variable {P : Program} {o : Oper}
end
end
section
section
variable {P : Program} {o : Oper} {X : Nat → Nat → Prop} {φ φ' : Nat → FSlot} {w : World}
end
section
variable {X : Nat → Nat → Prop} {φ0 : Nat → FSlot} {w0 : World} {s : AS}
inductive FzG (n m:Nat) (xs:List (List AV)):AV→AV→Prop where
 |same (a:AV):FzG n m xs a a
 |any (a:AV):FzG n m xs a .any
 |gro (ty:TypeId) (len:Nat) (h:len=xs.length):FzG n m xs (.gro n ty m len) (.dat m xs)
 |agg (l l':List AV) (hl:l.length=l'.length) (h:∀(i:Nat) a a',l[i]? = some a→l'[i]? = some a'→FzG n m xs a a'):FzG n m xs (.agg l) (.agg l')
end
section
variable {X : Nat → Nat → Prop} {φ0 : Nat → FSlot} {w0 : World} {s : AS}
end
section
variable {X : Nat → Nat → Prop} {φ0 : Nat → FSlot} {w0 : World} {s : AS}
end
theorem Less.tup {l k:List AV}(h:LessL l k):Less (.tup l) (.tup k):=fun X φ w v hv=>by
 cases hv with
 |tup _ vs hs hr=>
  refine .tup k vs (hs.trans h.length) fun i a hi=>?_
  obtain⟨b,hb,hl⟩:=h.get i a hi
  exact hl X φ w _ (hr i b hb)
theorem Qta {k m:Nat}{α:Type}{c:α→List AV}(h:∀x,∀a∈c x,NLt 0 a) (l:List α):SNLt k (.gro m (l.map c)):=.gro m _ (Qkw h l)
end
section
def PStep (P:Program) (o:Oper) (rd:List (Operand×AV)) (bl:List (Nat×Slot)) (pv:Value) (eff:List (Nat×Slot)):Prop:=
 ∀(X:Nat→Nat→Prop) (φ:Nat→FSlot) (a:Act) (w:World),(∀p∈rd,RelV X φ w p.2 (a.eval p.1))→(∀p∈bl,SlotOK X φ w p.1 p.2)→Qbq φ→(∀b off,X b off→b<w.heap.size) →
  (∀n b,(φ n).lies b→b<w.heap.size) →
  ∀(next:Act→World→Prop) (Q:Exit→Act→World→Prop),
   (∀φ' w',(∀p∈eff,SlotOK X φ' w' p.1 p.2)→Qbq φ'→(∀n,n∉eff.map (·.1)→φ' n=φ n) →
    (∀b,b<w.heap.size→(∀p∈eff,¬(φ p.1).lies b)→w'.heap[b]? = w.heap[b]?)→Evo X φ w φ' w'→Q (.panic [{ v:=pv,recovered:=false }]) a w')→Does P o a w next Q
theorem PStep.to {P:Program}{o:Oper}{rd rd2:List (Operand×AV)}{bl:List (Nat×Slot)}{v:Value}{eff:List (Nat×Slot)}(e:rd=rd2) (h:PStep P o rd bl v eff):PStep P o rd2 bl v eff:=e▸h
section
variable {X : Nat → Nat → Prop} {φ0 : Nat → FSlot} {w0 : World} {P : Program} {ex : Option Nat} {ops : Array Oper} {l : List (Oper × Rec)} {regs regs' : List AV} {own own' : List Slot}
end
section
variable {P : Program} {X : Nat → Nat → Prop} {φ0 : Nat → FSlot} {w0 : World} {ro : Option Nat} {Q : Exit → AS → Prop} {s : AS}
end
inductive Out where
 |ret (res:AV) (σ':List Slot)
 |pan (pv:Value)
section
variable {P : Program} {X : Nat → Nat → Prop} {φ0 : Nat → FSlot} {w0 : World} {fn : Func} {res : AV} {σ' : List Slot} {s : AS}
end
theorem Less.trans {a b c:AV}(h:Less a b) (k:Less b c):Less a c:=fun X φ w v hv=>k X φ w v (h X φ w v hv)
section
variable {P : Program} {X : Nat → Nat → Prop} {φ0 : Nat → FSlot} {w0 : World} {ro : Option Nat} {Q : Exit → AS → Prop} {s : AS}
end
end
section
def kv (p:List Int):Value:=.agg (p.map (Value.int .i64)).toArray
def Qxs:Nat→List (List Int)→List MapEntry
 |_,[]=>[]
 |i,p::l=>{ key:=kv p,val:=.bool true,born:=i }::Qxs (i+1) l
def mset (ps:List (List Int)):Slot:=.mp (Qxs 0 ps).toArray ps.length
section
variable {P : Program}
end
section
variable {X : Nat → Nat → Prop} {φ : Nat → FSlot} {w : World} {P : Program} {o : Oper}
theorem Qt7 {n:Nat}{v:Value}(h:RelV X φ w (.mp n) v) {b:Nat}(hb:φ n=.own b):v=.map (some b):=by
 cases h with
 |mp _ A hn h=>rw[h b hb]
theorem Qnr {t:TypeId}{n:Nat}(h:o.op=.makeMap t none):Qbx P o [] [(n,.unused)] (.mp n) [(n,mset [])]:=by
 intro X φ a w hrd hbl hd hX hlt next Q k
 have hn:φ n=.unused:=hbl (n,.unused) (by simp)
 have evo:=Evo.alloc (X:=X) hn hlt (.map #[] 0)
 have hrun:(execOp a.eval o).run P w=.ok (.value (.map (some w.heap.size))) (w.alloc (.map #[] 0)):=by
  simp only[execOp,h]
  rfl
 refine Qek hrun ?_
 refine k _ (upd φ n (.own w.heap.size)) _ (.mp _ _ (by simp[upd]) fun b hb=>by simp[upd] at hb;rw[hb]) (fun p hp=>?_) (Qh4 hd hlt) (fun k hk=>?_) (fun b hb _=>heap_alloc_old w _ hb) evo
 ·simp at hp
  subst hp
  exact⟨w.heap.size,by simp[upd],heap_alloc_new w _,fun off hx=>absurd (hX _ _ hx) (Nat.lt_irrefl _)⟩
 ·simp at hk
  simp[upd,hk]
end
section
variable {P : Program} {o : Oper}
end
section
variable {P : Program} {X : Nat → Nat → Prop} {φ0 : Nat → FSlot} {w0 : World} {ro : Option Nat} {Q : Exit → AS → Prop} {s : AS}
theorem SImp.less {s s':Slot}(hsp:SPw Less s s'):SImp s s':=fun X φ w n hok=>by
 have hR:∀a a' v,Less a a'→RelV X φ w a v→RelV X φ w a' v:=fun a a' v h hv=>h _ _ _ _ hv
 cases hsp with
 |unused=>exact hok
 |dead=>exact hok
 |tok=>exact hok
 |own m xs xs' hl' hp=>obtain⟨b,hb,hown⟩:=hok;exact⟨b,hb,hown.pw hR hl' hp⟩
 |gro m xs xs' hl' hp=>
  rcases hok with ⟨h1,h2⟩ |⟨b,hb,hown⟩
  ·exact .inl ⟨List.eq_nil_of_length_eq_zero (by rw[←hl',h1];rfl),h2⟩
  ·exact .inr ⟨b,hb,hown.pw hR hl' hp⟩
 |far J=>exact hok
 |mat m rows hp=>exact hok
 |mp es clock=>exact hok
theorem SImp.box {m:Nat}{l l':List AV}(h:LPw Less l l'):SImp (.own m [l]) (.own m [l']):=.less (.own m _ _ rfl fun j x x' h1 h2=>by
 cases j with
 |zero=>simp at h1 h2;subst h1;subst h2;exact h
 |succ j=>simp at h1)
def EffAll (n:Nat) (s':Slot):List (Nat×Slot)→Prop
 |[]=>True
 |e::l=>(match Nat.beq e.1 n with |true=>SImp e.2 s' |false=>True)∧EffAll n s' l
def SAll (n:Nat) (s':Slot):List (Oper×Rec)→Prop
 |[]=>True
 |p::l=>EffAll n s' p.2.eff∧SAll n s' l
theorem EffAll.imp {n:Nat}{s':Slot}:∀{l:List (Nat×Slot)}{s:Slot},EffAll n s' l→SImp s s'→SImp (Qf3 n l s) s'
 |[],_,_,hs=>hs
 |e::l,s,h,hs=>by
  unfold Qf3
  refine EffAll.imp h.2 ?_
  have h1:=h.1
  split
  ·rename_i he
   rw[he,Nat.beq_refl] at h1
   exact h1
  ·exact hs
theorem SAll.imp {n:Nat}{s':Slot}{S:Nat→Bool}:∀{l:List (Oper×Rec)}{i:Nat}{s:Slot},SAll n s' l→SImp s s'→SImp (Qfj l i S s n) s'
 |[],_,_,_,hs=>hs
 |p::l,i,s,h,hs=>by
  unfold Qfj
  refine SAll.imp h.2 ?_
  split
  ·exact h.1.imp hs
  ·exact hs
theorem StepAt.soft {l:List (Oper×Rec)}{own:List Slot}{o:Oper}{c:Rec}(n:Nat) (s':Slot) (h:Qbx P o c.rd (c.bl++[(n,s')]) c.r c.eff) (hs:SImp (own.getD n .unused) s') (ha:SAll n s' l):StepAt P l own o c:=
 ⟨[(n,s')],h,fun p hp S=>by
  rw[List.mem_singleton.1 hp]
  exact ha.imp hs⟩
def AllOkS (P:Program) (L:List (Oper×Rec)) (own:List Slot):List (Oper×Rec)→Prop
 |[]=>True
 |p::l=>(p.2.skip=false→StepAt P L own p.1 p.2)∧AllOkS P L own l
theorem AllOkS.get {L:List (Oper×Rec)}{own:List Slot}:∀{l:List (Oper×Rec)},AllOkS P L own l→∀(i:Nat) (o:Oper) (c:Rec),l[i]? = some (o,c)→c.skip=false→StepAt P L own o c
 |_::_,h,0,o,c,hi=>by simp at hi;subst hi;exact h.1
 |_::_,h,i+1,o,c,hi=>fun hs=>AllOkS.get h.2 i o c (by simpa using hi) hs
 |[],_,_,_,_,hi=>by simp at hi
def AllOkT (P:Program) (n:Nat) (U:Slot):List (Oper×Rec)→Prop
 |[]=>True
 |p::l=>(p.2.skip=false→Qbx P p.1 p.2.rd p.2.bl p.2.r p.2.eff∨Qbx P p.1 p.2.rd (p.2.bl++[(n,U)]) p.2.r p.2.eff)∧AllOkT P n U l
theorem AllOkT.to {n:Nat}{U:Slot}{L:List (Oper×Rec)}{own:List Slot}(hs:SImp (own.getD n .unused) U) (ha:SAll n U L):∀{l:List (Oper×Rec)},AllOkT P n U l→AllOkS P L own l
 |[],_=>trivial
 |_::_,h=>⟨fun k=>(h.1 k).elim .hard fun q=>.soft n U q hs ha,AllOkT.to hs ha h.2⟩
end
theorem Qx8 {P:Program}{t:TypeId}(h:((P.info? t).bind fun i=>i.zero)=some (.bool false)):∃i,P.info? t=some i∧i.zero=some (.bool false):=by
 cases hi:P.info? t with
 |none=>rw[hi] at h;cases h
 |some i=>rw[hi] at h;exact⟨i,rfl,h⟩
theorem Qn5 {ρ:List Nat}{n n':Nat}(h:(ρ[n']? == some n)=true):Rn (fun n n'=>ρ[n']? = some n) (.mp n) (.mp n'):=.mp (by simpa using h)
end
section
instance:LawfulBEq ByteArray where
 eq_of_beq {a b} h:=by
  cases a with
  |mk a=>
   cases b with
   |mk b=>
    have e:a=b:=by simpa using(show(a==b)=true from h)
    rw[e]
 rfl {a}:=by show(a.data==a.data)=true;simp
abbrev Sx (s:ByteArray):AV:=.lit (.string s)
def getB (s:ByteArray) (i:Int):Option Int:=if h:0≤i∧i<(s.size:Int) then some ((s[i.toNat]'(by omega)).toNat:Int) else none
section
variable {P : Program} {o : Oper}
theorem Qmn {t t':TypeId}{x y:Operand}{a b:ByteArray}(h:o.op=.binOp .add t x y t') (hs:decide (ByteArray.size a+ByteArray.size b≤9223372036854775807)=true):Qbx P o [(x,Sx a),(y,Sx b)] [] (Sx (ByteArray.append a b)) []:=Qbe fun X φ ac w hr _=>by
 have h1:ac.eval x=.string a:=Qbo (hr (x,Sx a) (by simp))
 have h2:ac.eval y=.string b:=Qbo (hr (y,Sx b) (by simp))
 have h3:=run_string_add_sum (P:=P) (w:=w) a b (of_decide_eq_true hs)
 have hg:(eqGuard .add t x y (.string a) (.string b)).run P w=.ok () w:=rfl
 refine⟨.string (a++b),?_,.lit _⟩
 simp only[execOp,h,h1,h2,Sem.run_bind,hg,Result.andThen_ok]
 show((Op.stringOp .add a b).run P w).andThen _=_
 rw[h3]
 rfl
theorem Qj8 {x:Operand}{t:TypeId}{s:ByteArray}(h:o.op=.call { callee:=.builtin .len,args := #[x],argTypes := #[t] }) (ht:P.underlying t=some .string):Qbx P o [(x,Sx s)] [] (.lit (.int .i64 (ByteArray.size s:Int))) []:=Qbe fun X φ ac w hr _=>by
 have h1:ac.eval x=.string s:=Qbo (hr (x,Sx s) (by simp))
 exact⟨_,by simp[execOp,h,h1,resolve,invoke,builtin,Builtin.len_,run_underlying ht,goInt],.lit _⟩
theorem Qfh {x y:Operand}{t:TypeId}{s:ByteArray}{k:IntKind}{i v:Int}(h:o.op=.index t x y) (ht:P.underlying t=some .string) (hg:getB s i=some v):Qbx P o [(x,Sx s),(y,.lit (.int k i))] [] (.lit (.int .u8 v)) []:=Qbe fun X φ ac w hr _=>by
 have h1:ac.eval x=.string s:=Qbo (hr (x,Sx s) (by simp))
 have h2:ac.eval y=.int k i:=Qbo (hr (y,.lit (.int k i)) (by simp))
 unfold getB at hg
 by_cases hi:0≤i∧i<(s.size:Int)
 ·rw[dif_pos hi] at hg
  have h3:=run_index_string (P:=P) (w:=w) t s k i ht
  rw[dif_pos hi,Option.some.inj hg] at h3
  refine⟨_,?_,.lit _⟩
  simp only[execOp,h,h1,h2,Sem.run_bind,h3,Result.andThen_ok]
  rfl
 ·rw[dif_neg hi] at hg;cases hg
theorem Qjn {x:Operand}{t e t':TypeId}{l:List Int}{xs:List (List AV)}(h:o.op=.convert t t' x) (ht:P.underlying t=some (.slice e)) (he:P.underlying e=some (.int .u8)) (ht':P.underlying t'=some .string) (hxs:xs=l.map fun x=>[.lit (.int .u8 x)]) (hne:l≠[]) :
  Qbx P o [(x,.dat 1 xs)] [] (Sx (strOfNums l)) []:=Qbe fun X φ ac w hr _=>by
 subst hxs
 have h1:=hr (x,.dat 1 (l.map fun x=>[.lit (.int .u8 x)])) (by simp)
 dsimp only at h1
 cases hv:ac.eval x with
 |slice A len cap=>
  rw[hv] at h1
  cases h1 with
  |dat _ _ _ _ _ g ok hr'=>
   obtain⟨b,of,hA,hc⟩:=ok.hcells (by simpa using hne)
   subst hA
   have hlen:=ok.hlen
   rw[List.length_map] at hlen
   have hcell:∀i,i<len→w.cell? ⟨b,of+i,none⟩=some (.int .u8 (l.getD i 0)):=fun i hi=>by
    have hx:(l.map fun x=>[AV.lit (.int .u8 x)])[i]? = some [.lit (.int .u8 (l.getD i 0))]:=by
     rw[List.getElem?_map,List.getElem?_eq_getElem (show i<l.length by omega),List.getD_eq_getElem?_getD,List.getElem?_eq_getElem (show i<l.length by omega)]
     rfl
    have h2:=(hc i _ hx 0 (by omega)).2
    rw[Nat.mul_one,Nat.add_zero] at h2
    rw[h2,Qbo (hr' i _ hx 0 _ rfl)]
   have h3:=run_convert_bytes_arg (P:=P) (w:=w) t e ht he b of len cap l (by omega) hcell t' ht'
   refine⟨_,?_,.lit _⟩
   simp only[execOp,h,hv,Sem.run_bind,h3,Result.andThen_ok]
   rfl
 |_=>rw[hv] at h1;cases h1
end
def Qeb:Nat→List ByteArray→List MapEntry
 |_,[]=>[]
 |i,p::l=>{ key:=.string p,val:=.bool true,born:=i }::Qeb (i+1) l
def Qe2 (ps:List ByteArray):Slot:=.mp (Qeb 0 ps).toArray ps.length
def addS (ps:List ByteArray) (p:ByteArray):List ByteArray:=bif ps.contains p then ps else ps++[p]
theorem Qjv:∀(i:Nat) (ps:List ByteArray) (p:ByteArray),Qeb i (ps++[p])=Qeb i ps++[{ key:=.string p,val:=.bool true,born:=i+ps.length }]
 |i,[],p=>by simp[Qeb]
 |i,q::l,p=>by simp[Qeb,Qjv (i+1) l p];omega
theorem Qju:∀(ps:List ByteArray) (i j:Nat),(Qeb i ps)[j]? = ps[j]?.map fun q=>{ key:=.string q,val:=.bool true,born:=i+j }
 |[],i,j=>by simp[Qeb]
 |p::l,i,0=>by simp[Qeb]
 |p::l,i,j+1=>by
  simp only[Qeb,List.getElem?_cons_succ,Qju l (i+1) j]
  rw[show i+1+j=i+(j+1) by omega]
theorem Qtd {ps:List ByteArray}{p:ByteArray}(h:ps.contains p=true):ps[ps.idxOf p]? = some p:=by
 have hm:p∈ps:=by simpa using h
 have hl:ps.idxOf p<ps.length:=List.idxOf_lt_length_iff.2 hm
 rw[List.getElem?_eq_getElem hl,List.getElem_idxOf]
theorem Qua (k:ByteArray):∀(ps:List ByteArray) (i j:Nat),Instr.findNow .string (.string k) (Qeb i ps) j=some (if ps.contains k then some (j+ps.idxOf k,.bool true) else none)
 |[],i,j=>by simp[Qeb,Instr.findNow]
 |p::l,i,j=>by
  have ih:=Qua k l (i+1) (j+1)
  simp only[Qeb,Instr.findNow,Instr.sameNow]
  cases hb:(k==p) with
  |true=>
   have:k=p:=by simpa using hb
   subst this
   simp
  |false=>
   have hne:k≠p:=by simpa using hb
   have hne':(p==k)=false:=by simpa using fun e=>hne e.symm
   simp only[ih,List.contains_cons,hb,Bool.false_or,List.idxOf_cons,hne',cond_false]
   split<;>simp<;>omega
section
variable {P : Program} {o : Oper}
theorem Qr6 {t:TypeId}(ht:P.underlying t=some .string) (w:World) (em:Bool) (k:ByteArray):(Instr.checkKey em 10000 t (.string k)).run P w=.ok () w:=by
 have key:∀m:Nat,(Instr.checkKey em (m+1) t (.string k)).run P w=.ok () w:=fun m=>by
  rw[Instr.checkKey]
  simp[run_underlying ht]
 exact key 9999
theorem Ql7 {t:TypeId}(ht:P.underlying t=some .string) (w:World) (k:ByteArray) (ps:List ByteArray):(Instr.findKey t (.string k) (Qeb 0 ps)).run P w=.ok (if ps.contains k then some (0+ps.idxOf k,.bool true) else none) w:=by
 unfold Instr.findKey
 simp only[Sem.run_bind,run_underlying ht,Result.andThen_ok,Qua]
 rfl
theorem Qh7 {t:TypeId}{n:Nat}(h:o.op=.makeMap t none):Qbx P o [] [(n,.unused)] (.mp n) [(n,Qe2 [])]:=Qnr h
theorem Qjk {x y:Operand}{t kt et:TypeId}{n:Nat}{ps:List ByteArray}{p:ByteArray}(h:o.op=.lookup t x y false) (ht:P.underlying t=some (.map kt et)) (hk:P.underlying kt=some .string) (hz:∃i,P.info? et=some i∧i.zero=some (.bool false)) :
  Qbx P o [(x,.mp n),(y,Sx p)] [(n,Qe2 ps)] (.lit (.bool (ps.contains p))) []:=Qbe fun X φ a w hrd hbl=>by
 obtain⟨b,hb,hblk,_⟩:=hbl (n,Qe2 ps) (by simp)
 have h1:=Qt7 (hrd (x,.mp n) (by simp)) hb
 have h2:=Qbo (hrd (y,Sx p) (by simp))
 dsimp only at h1 h2
 have h3:=Ql7 hk w p ps
 obtain⟨i,z1,z2⟩:=hz
 have hzr:(zeroValue et).run P w=.ok (.bool false) w:=by simp[zeroValue,typeInfo,z1,z2]
 refine⟨.bool (ps.contains p),?_,.lit _⟩
 simp only[execOp,h,h1,h2,Instr.lookup,Sem.run_bind,run_underlying ht,Result.andThen_ok,Sem.run_pure,MapKept.run_getObj_map hblk,Qr6 hk,h3]
 cases hc:ps.contains p<;>simp[hzr]
theorem Qjh {x y z:Operand}{t kt et:TypeId}{n:Nat}{ps:List ByteArray}{p:ByteArray}(h:o.op=.mapUpdate t x y z) (ht:P.underlying t=some (.map kt et)) (hk:P.underlying kt=some .string) :
  Qbx P o [(x,.mp n),(y,Sx p),(z,.lit (.bool true))] [(n,Qe2 ps)] .any [(n,Qe2 (addS ps p))]:=by
 intro X φ a w hrd hbl hd hX hlt next Q k
 obtain⟨b,hb,hblk,hid⟩:=hbl (n,Qe2 ps) (by simp)
 have h1:=Qt7 (hrd (x,.mp n) (by simp)) hb
 have h2:=Qbo (hrd (y,Sx p) (by simp))
 have h4:=Qbo (hrd (z,.lit (.bool true)) (by simp))
 dsimp only at h1 h2 h4
 have h3:=Ql7 hk w p ps
 have hlt':b<w.heap.size:=(Array.getElem?_eq_some_iff.1 hblk).1
 have hrun:(execOp a.eval o).run P w=.ok .skip (w.putObj b (.map (Qeb 0 (addS ps p)).toArray (addS ps p).length)):=by
  simp only[execOp,h,h1,h2,h4,Instr.mapUpdate,Sem.run_bind,run_underlying ht,Result.andThen_ok,Sem.run_pure,MapKept.run_getObj_map hblk,Qr6 hk,h3]
  cases hc:ps.contains p with
  |false=>
   have e:addS ps p=ps++[p]:=by rw[addS,hc];rfl
   simp only[Bool.false_eq_true,if_false,MapKept.run_setObj_map _ hblk,Result.andThen_ok,e,Qjv,Nat.zero_add,List.push_toArray,List.length_append,List.length_singleton]
   rfl
  |true=>
   have e:addS ps p=ps:=by rw[addS,hc];rfl
   have hg:(Qeb 0 ps).toArray[0+ps.idxOf p]? = some { key:=.string p,val:=.bool true,born:=ps.idxOf p }:=by
    rw[Nat.zero_add,List.getElem?_toArray,Qju,Qtd hc]
    simp
   have hks:(Instr.keyThatStays (.string p) (.string p)).run P w=.ok (.string p) w:=by
    have hb:Instr.sameBits 10000 (.string p) (.string p)=true:=by simp[Instr.sameBits]
    simp[Instr.keyThatStays,hb]
   have hmod:((Qeb 0 ps).toArray.modify (0+ps.idxOf p) fun e=>{ e with key:=.string p,val:=.bool true })=(Qeb 0 ps).toArray:=by
    apply Array.ext_getElem?
    intro j
    rw[Array.getElem?_modify]
    split
    ·rename_i hj
     subst hj
     rw[hg];rfl
    ·rfl
   simp only[if_true,hg,Option.map_some,Option.getD_some,Sem.run_bind,hks,Result.andThen_ok,hmod,MapKept.run_setObj_map _ hblk,e]
   rfl
 have evo:Evo X φ w φ (w.putObj b (.map (Qeb 0 (addS ps p)).toArray (addS ps p).length)):=by
  refine⟨rfl,rfl,rfl,by simp,fun b' _ hb'=>Qaz fun e=>hb' ⟨n,e▸.own hb⟩,fun _ h=>.inl h,fun b' off hdat=>?_,fun _ h=>h,fun _ _ h=>.inl h,fun n' t ht=>.inr ⟨ht,fun b' L e=>Qaz fun eb=>?_⟩,fun _ Y h=>.inr ⟨Y,h⟩,fun _ bs h=>.inr ⟨bs,h,.refl bs⟩,fun n' b' hn' _=>?_⟩
  ·exact⟨⟨by simpa using hdat.lt,hdat.hid,hdat.own,hdat.tok,hdat.far,hdat.mat⟩,Qfy hblk rfl rfl b' off⟩
  ·subst e
   subst eb
   have:=hd n n' b' (.own hb) (.tok ht)
   subst this
   rw[hb] at ht;cases ht
  ·by_cases e:b'=b
   ·subst e
    intro cur ty s hc
    rw[hblk] at hc;cases hc
   ·exact .same (Qaz e)
 exact Qmb hrun (k undef φ _ (.any _) (fun q hq=>by simp at hq;subst hq;exact⟨b,hb,Qfx hlt',hid⟩) hd (fun _ _=>rfl) (fun b' _ hb'=>Qaz fun e=>hb' (n,Qe2 (addS ps p)) (by simp) (e▸.inl hb)) evo)
end
theorem Qhh {R:AV→AV→Prop}{ps:List ByteArray}:SPw R (Qe2 ps) (Qe2 ps):=.mp _ _
end
section
structure Ty where
 g:Bool
 sz:Nat
 z:Option (List Value)
 fl:List (Nat×Bool×Nat)
def FlOk (P:Program):List Field→List (Nat×Bool×Nat)→Prop
 |_,[]=>True
 |f::fs,q::l=>f.offset=q.1∧TI P f.type q.2.1 q.2.2∧FlOk P fs l
 |[],_::_=>False
structure Ty.ok (P:Program) (t:Nat) (v:Ty):Prop where
 ti:TI P t v.g v.sz
 z:match v.z with |some zs=>TZ P t zs |none=>True
 fl:v.fl=[]∨∃fs:Array Field,P.underlying t=some (.struct fs)∧FlOk P fs.toList v.fl
inductive Tab where
 |nil
 |node (k:Nat) (v:Ty) (l r:Tab)
def Tab.get:Tab→Nat→Option Ty
 |.nil,_=>none
 |.node k v l r,t=>bif Nat.beq t k then some v else bif Nat.blt t k then l.get t else r.get t
def Tab.ok (P:Program):Tab→Prop
 |.nil=>True
 |.node k v l r=>Ty.ok P k v∧l.ok P∧r.ok P
theorem Tab.ok.get {P:Program}:∀{T:Tab},T.ok P→∀{t:Nat}{v:Ty},T.get t=some v→Ty.ok P t v
 |.nil,_,_,_,h=>by cases h
 |.node k v l r,hT,t,u,h=>by
  rw[Tab.get] at h
  cases h1:Nat.beq t k with
  |true=>
   rw[h1] at h
   cases h
   rw[Nat.eq_of_beq_eq_true h1]
   exact hT.1
  |false=>
   rw[h1,cond_false] at h
   cases h2:Nat.blt t k with
   |true=>rw[h2] at h;exact Tab.ok.get hT.2.1 h
   |false=>rw[h2] at h;exact Tab.ok.get hT.2.2 h
theorem FlOk.get {P:Program}:∀{fs:List Field}{l:List (Nat×Bool×Nat)},FlOk P fs l→∀(f:Nat) {q:Nat×Bool×Nat},l[f]? = some q→∃fl,fs[f]? = some fl∧fl.offset=q.1∧TI P fl.type q.2.1 q.2.2
 |_,[],_,_,_,h=>by simp at h
 |f::fs,q0::l,hF,0,q,h=>by simp at h;subst h;exact⟨f,rfl,hF.1,hF.2.1⟩
 |f::fs,q0::l,hF,i+1,q,h=>by
  obtain⟨fl,h1,h2⟩:=FlOk.get hF.2.2 i (by simpa using h)
  exact⟨fl,by simpa using h1,h2⟩
 |[],_::_,hF,_,_,_=>hF.elim
abbrev AuR:Type:=List Operand×List Nat×AV×List (Nat×Slot)
def Quc (own:List Slot) (n m j:Nat):Option (List AV):=match own.getD n .unused with
 |.own m' xs=>bif Nat.beq m' m then xs[j]? else none
 |_=>none
def Qom (ty:Ty) (own:List Slot) (x:Operand):AV→Option AuR
 |.ref n m j i=>match Quc own n m j with
  |some c=>bif Nat.ble (i+ty.sz) c.length&&(ty.g||Nat.beq ty.sz 1) then some ([x],[n],ldA ty.g ty.sz i c,[]) else none
  |none=>none
 |.dptr c i=>bif Nat.ble (i+ty.sz) c.length&&(ty.g||Nat.beq ty.sz 1) then some ([x],[],ldA ty.g ty.sz i c,[]) else none
 |_=>none
def Qno (ty:Ty) (own:List Slot) (x y:Operand) (v:AV):AV→Option AuR
 |.ref n m j i=>match own.getD n .unused with
  |.own m' xs=>bif Nat.beq m' m then(match xs[j]? with
   |some c=>bif Nat.beq ty.sz (stA v).length&&((stA v).all AV.one&&Nat.ble (i+(stA v).length) c.length) then some ([x,y],[n],.any,[(n,.own m (xs.set j (Qd6 c i (stA v))))]) else none
   |none=>none) else none
  |_=>none
 |_=>none
def Qla (q:Nat×Bool×Nat) (own:List Slot) (x:Operand):AV→Option AuR
 |.ref n m j i=>match own.getD n .unused with
  |.own m' _=>bif Nat.beq m' m then some ([x],[n],.ref n m j (i+q.1),[]) else none
  |_=>none
 |.dptr c i=>some ([x],[],.dptr c (i+q.1),[])
 |_=>none
def Qx5 (op:BinOp) (x y:Operand):AV→AV→Option AuR
 |.lit (.int k a),.lit (.int k' b)=>if k=k' then(match binI op k a b with |some v=>some ([x,y],[],.lit v,[]) |none=>none) else none
 |_,_=>none
def Qx3 (x:Operand):AV→Option AuR
 |.lit (.bool b)=>some ([x],[],.lit (.bool !b),[])
 |_=>none
def Qx4 (x:Operand):AV→Option AuR
 |.lit (.int k a)=>some ([x],[],.lit (.int k (k.wrap (0-a))),[])
 |_=>none
def Qx2 (c x y:Operand) (u v:AV):AV→Option AuR
 |.lit (.bool b)=>some ([c,x,y],[],bif b then u else v,[])
 |_=>none
def Qmj (x:Operand) (i:Nat):AV→Option AuR
 |.tup l=>match l[i]? with |some r=>some ([x],[],r,[]) |none=>none
 |_=>none
def Qnp (q:Nat×Bool×Nat) (x:Operand):AV→Option AuR
 |.agg l=>bif Nat.ble (q.1+q.2.2) l.length&&(q.2.1||Nat.beq q.2.2 1) then some ([x],[],ldA q.2.1 q.2.2 q.1 l,[]) else none
 |_=>none
def au (T:Tab) (op:Op) (v:Operand→AV) (own:List Slot):Option AuR:=match op with
 |.move x=>some ([x],[],v x,[])
 |.assign x=>some ([x],[],v x,[])
 |.pick c x y=>Qx2 c x y (v x) (v y) (v c)
 |.binOp op _ x y _=>Qx5 op x y (v x) (v y)
 |.unOp .not _ x=>Qx3 x (v x)
 |.unOp .neg _ x=>Qx4 x (v x)
 |.extract x i=>Qmj x i (v x)
 |.field t x f=>match (T.get t).bind (·.fl[f]?) with |some q=>Qnp q x (v x) |none=>none
 |.fieldAddr t x f=>match (T.get t).bind (·.fl[f]?) with |some q=>bif Nat.beq q.2.2 0 then none else Qla q own x (v x) |none=>none
 |.load t x=>match T.get t with |some ty=>Qom ty own x (v x) |none=>none
 |.store t x y=>match T.get t with |some ty=>Qno ty own x y (v y) (v x) |none=>none
 |.alloc t=>match (T.get t).bind (·.z) with |some zs=>some ([],[own.length],.ref own.length zs.length 0 0,[(own.length,.own zs.length [zs.map AV.lit])]) |none=>none
 |.box _ x=>bif (stA (v x)).all AV.one then some ([x],[own.length],.ref own.length (stA (v x)).length 0 0,[(own.length,.own (stA (v x)).length [stA (v x)])]) else none
 |.nilCheck x=>bif Qra (v x) then some ([x],[],v x,[]) else none
 |_=>none
section
variable {P : Program} {T : Tab} {o : Oper} {v : Operand → AV} {own : List Slot} {q : AuR}
abbrev AuOK (P:Program) (o:Oper) (v:Operand→AV) (own:List Slot) (q:AuR):Prop:=Qbx P o (q.1.map fun x=>(x,v x)) (q.2.1.map fun n=>(n,own.getD n .unused)) q.2.2.1 q.2.2.2
theorem Qsi {a b:Bool}(h:(a&&b)=true):a=true∧b=true:=by simpa using h
theorem or_g {g:Bool}{n:Nat}(h:(g||Nat.beq n 1)=true):g=false→n=1:=fun e=>by subst e;exact Nat.eq_of_beq_eq_true h
theorem Qsc {t:TypeId}{ty:Ty}{x:Operand}(ho:o.op=.load t x) (ht:TI P t ty.g ty.sz) (h:Qom ty own x (v x)=some q):AuOK P o v own q:=by
 cases hv:v x with
 |ref n m j i=>
  rw[hv] at h
  unfold Qom Quc at h
  dsimp only at h
  cases hs:own.getD n .unused with
  |own m' xs=>
   rw[hs] at h
   dsimp only at h
   cases hm:Nat.beq m' m with
   |false=>rw[hm] at h;cases h
   |true=>
    rw[hm,cond_true] at h
    have hm':=Nat.eq_of_beq_eq_true hm
    subst hm'
    cases hc:xs[j]? with
    |none=>rw[hc] at h;cases h
    |some c=>
     rw[hc] at h
     dsimp only at h
     cases hb:Nat.ble (i+ty.sz) c.length&&(ty.g||Nat.beq ty.sz 1) with
     |false=>rw[hb] at h;cases h
     |true=>
      rw[hb] at h
      cases h
      obtain⟨h1,h2⟩:=Qsi hb
      have:=Qkc (P:=P) (n:=n) (m:=m') ho ht (or_g h2) hc (Nat.le_of_ble_eq_true h1) rfl
      simpa only [AuOK,List.map_cons,List.map_nil,hv,hs] using this
  |_=>rw[hs] at h;cases h
 |dptr c i=>
  rw[hv] at h
  unfold Qom at h
  dsimp only at h
  cases hb:Nat.ble (i+ty.sz) c.length&&(ty.g||Nat.beq ty.sz 1) with
  |false=>rw[hb] at h;cases h
  |true=>
   rw[hb] at h
   cases h
   obtain⟨h1,h2⟩:=Qsi hb
   have:=Qns (P:=P) ho ht (or_g h2) (Nat.le_of_ble_eq_true h1) rfl
   simpa only [AuOK,List.map_cons,List.map_nil,hv] using this
 |_=>rw[hv] at h;cases h
theorem Qpc {t:TypeId}{ty:Ty}{x y:Operand}(ho:o.op=.store t x y) (ht:TI P t ty.g ty.sz) (h:Qno ty own x y (v y) (v x)=some q):AuOK P o v own q:=by
 cases hv:v x with
 |ref n m j i=>
  rw[hv] at h
  unfold Qno at h
  dsimp only at h
  cases hs:own.getD n .unused with
  |own m' xs=>
   rw[hs] at h
   dsimp only at h
   cases hm:Nat.beq m' m with
   |false=>rw[hm] at h;cases h
   |true=>
    rw[hm,cond_true] at h
    have hm':=Nat.eq_of_beq_eq_true hm
    subst hm'
    cases hc:xs[j]? with
    |none=>rw[hc] at h;cases h
    |some c=>
     rw[hc] at h
     dsimp only at h
     cases hb:Nat.beq ty.sz (stA (v y)).length&&((stA (v y)).all AV.one&&Nat.ble (i+(stA (v y)).length) c.length) with
     |false=>rw[hb] at h;cases h
     |true=>
      rw[hb] at h
      cases h
      obtain⟨h1,h2⟩:=Qsi hb
      obtain⟨h2,h3⟩:=Qsi h2
      have h1':=Nat.eq_of_beq_eq_true h1
      rw[h1'] at ht
      have:=Qjd (P:=P) (n:=n) (m:=m') ho ht h2 hc (Nat.le_of_ble_eq_true h3) rfl
      simpa only [AuOK,List.map_cons,List.map_nil,hv,hs] using this
  |_=>rw[hs] at h;cases h
 |_=>rw[hv] at h;cases h
theorem Qxt (hT:T.ok P) {t:TypeId}{f:Nat}{a:Nat×Bool×Nat}(h:(T.get t).bind (·.fl[f]?)=some a):∃fs:Array Field,P.underlying t=some (.struct fs)∧∃fl,fs[f]? = some fl∧fl.offset=a.1∧TI P fl.type a.2.1 a.2.2:=by
 cases hg:T.get t with
 |none=>rw[hg] at h;cases h
 |some ty=>
  rw[hg] at h
  have h':ty.fl[f]? = some a:=h
  rcases(Tab.ok.get hT hg).fl with e |⟨fs,h1,h2⟩
  ·rw[e] at h';simp at h'
  ·obtain⟨fl,h3,h4⟩:=h2.get f h'
   exact⟨fs,h1,fl,by simpa using h3,h4⟩
theorem Qpe (hT:T.ok P) {t:TypeId}{f:Nat}{a:Nat×Bool×Nat}{x:Operand}(ho:o.op=.fieldAddr t x f) (hq:(T.get t).bind (·.fl[f]?)=some a) (h0:Nat.beq a.2.2 0=false) (h:Qla a own x (v x)=some q):AuOK P o v own q:=by
 obtain⟨fs,h1,fl,h2,h3,h4⟩:=Qxt hT hq
 have hn:a.2.2≠0:=fun e=>by rw[e] at h0;cases h0
 cases hv:v x with
 |ref n m j i=>
  rw[hv] at h
  unfold Qla at h
  dsimp only at h
  cases hs:own.getD n .unused with
  |own m' xs=>
   rw[hs] at h
   dsimp only at h
   cases hm:Nat.beq m' m with
   |false=>rw[hm] at h;cases h
   |true=>
    rw[hm,cond_true] at h
    have hm':=Nat.eq_of_beq_eq_true hm
    subst hm'
    cases h
    have:=Qjm (P:=P) (n:=n) (m:=m') (j:=j) (i:=i) (xs:=xs) ho h1 h2 rfl h4 hn rfl
    rw[h3] at this
    simpa only [AuOK,List.map_cons,List.map_nil,hv,hs] using this
  |_=>rw[hs] at h;cases h
 |dptr c i=>
  rw[hv] at h
  unfold Qla at h
  cases h
  have:=Qmm (P:=P) (c:=c) (i:=i) ho h1 h2 rfl h4 hn rfl
  rw[h3] at this
  simpa only [AuOK,List.map_cons,List.map_nil,hv] using this
 |_=>rw[hv] at h;cases h
theorem Qpd (hT:T.ok P) {t:TypeId}{f:Nat}{a:Nat×Bool×Nat}{x:Operand}(ho:o.op=.field t x f) (hq:(T.get t).bind (·.fl[f]?)=some a) (h:Qnp a x (v x)=some q):AuOK P o v own q:=by
 obtain⟨fs,h1,fl,h2,h3,h4⟩:=Qxt hT hq
 cases hv:v x with
 |agg l=>
  rw[hv] at h
  unfold Qnp at h
  dsimp only at h
  cases hb:Nat.ble (a.1+a.2.2) l.length&&(a.2.1||Nat.beq a.2.2 1) with
  |false=>rw[hb] at h;cases h
  |true=>
   rw[hb] at h
   cases h
   obtain⟨b1,b2⟩:=Qsi hb
   have:=Qnu (P:=P) (l:=l) ho h1 h2 rfl h4 (by rw[h3];exact Nat.le_of_ble_eq_true b1) (or_g b2) rfl
   rw[h3] at this
   simpa only [AuOK,List.map_cons,List.map_nil,hv,ldA] using this
 |_=>rw[hv] at h;cases h
theorem Qq7 (own:List Slot):own.getD own.length .unused=.unused:=by simp
theorem Qy2 (hT:T.ok P) (h:au T o.op v own=some q):AuOK P o v own q:=by
 cases ho:o.op with
 |move x=>rw[ho] at h;cases h;exact Qkb ho
 |assign x=>rw[ho] at h;cases h;exact Qh8 ho
 |pick c x y=>
  rw[ho] at h
  unfold au at h
  dsimp only at h
  cases hc:v c with
  |lit u=>
   rw[hc] at h
   cases u with
   |bool b=>cases h;simpa only [AuOK,List.map_cons,List.map_nil,hc] using Qj9 (P:=P) (u:=v x) (v:=v y) ho rfl
   |_=>cases h
  |_=>rw[hc] at h;cases h
 |binOp op t x y t'=>
  rw[ho] at h
  unfold au Qx5 at h
  dsimp only at h
  split at h
  ·next k a k' b hx hy=>
   split at h
   ·next e=>
    subst e
    split at h
    ·next u hu=>
     cases h
     simpa only [AuOK,List.map_cons,List.map_nil,hx,hy] using Qmo (P:=P) ho hu
    ·cases h
   ·cases h
  ·cases h
 |unOp op t x=>
  rw[ho] at h
  cases op with
  |not=>
   unfold au Qx3 at h
   dsimp only at h
   split at h
   ·next b hx=>cases h;simpa only [AuOK,List.map_cons,List.map_nil,hx] using Qgl (P:=P) ho
   ·cases h
  |neg=>
   unfold au Qx4 at h
   dsimp only at h
   split at h
   ·next k a hx=>cases h;simpa only [AuOK,List.map_cons,List.map_nil,hx] using Qsd (P:=P) ho
   ·cases h
  |_=>cases h
 |extract x i=>
  rw[ho] at h
  unfold au Qmj at h
  dsimp only at h
  split at h
  ·next l hx=>
   split at h
   ·next r hr=>cases h;simpa only [AuOK,List.map_cons,List.map_nil,hx] using Qlb (P:=P) ho hr
   ·cases h
  ·cases h
 |field t x f=>
  rw[ho] at h
  unfold au at h
  dsimp only at h
  split at h
  ·next a hq=>exact Qpd hT ho hq h
  ·cases h
 |fieldAddr t x f=>
  rw[ho] at h
  unfold au at h
  dsimp only at h
  split at h
  ·next a hq=>
   cases h0:Nat.beq a.2.2 0 with
   |true=>rw[h0] at h;cases h
   |false=>rw[h0] at h;exact Qpe hT ho hq h0 h
  ·cases h
 |load t x=>
  rw[ho] at h
  unfold au at h
  dsimp only at h
  split at h
  ·next ty hq=>exact Qsc ho (Tab.ok.get hT hq).ti h
  ·cases h
 |store t x y=>
  rw[ho] at h
  unfold au at h
  dsimp only at h
  split at h
  ·next ty hq=>exact Qpc ho (Tab.ok.get hT hq).ti h
  ·cases h
 |alloc t=>
  rw[ho] at h
  unfold au at h
  dsimp only at h
  split at h
  ·next zs hq=>
   cases h
   cases hg:T.get t with
   |none=>rw[hg] at hq;cases hq
   |some ty=>
    rw[hg] at hq
    have hz:=(Tab.ok.get hT hg).z
    have hq':ty.z=some zs:=hq
    rw[hq'] at hz
    simpa only [AuOK,List.map_cons,List.map_nil,Qq7] using Qnv (P:=P) (n:=own.length) ho hz rfl
  ·cases h
 |box t x=>
  rw[ho] at h
  unfold au at h
  dsimp only at h
  cases hb:(stA (v x)).all AV.one with
  |false=>rw[hb] at h;cases h
  |true=>
   rw[hb] at h
   cases h
   simpa only [AuOK,List.map_cons,List.map_nil,Qq7] using Qsf (P:=P) (n:=own.length) ho hb rfl rfl
 |nilCheck x=>
  rw[ho] at h
  unfold au at h
  dsimp only at h
  cases hb:Qra (v x) with
  |false=>rw[hb] at h;cases h
  |true=>
   rw[hb] at h
   cases h
   exact Qka ho hb
 |_=>rw[ho] at h;cases h
end
def badR:Rec:=⟨[],[],.any,[],true⟩
def toR (g:List (Operand×AV)) (v:Operand→AV) (own:List Slot):Option AuR→Rec
 |some q=>⟨g++q.1.map fun x=>(x,v x),q.2.1.map fun n=>(n,own.getD n .unused),q.2.2.1,q.2.2.2,false⟩
 |none=>badR
def Qfq (T:Tab) (ops:Array Oper) (o:Oper) (regs:List AV) (own:List Slot):Rec:=match o.guard with
 |none=>toR [] (opd regs) own (au T o.op (opd regs) own)
 |some (j,want)=>match (ops[j]?).bind (·.dst) with
  |some d=>match opd regs (.tmp d) with
   |.lit v=>bif Qjb v==some want then toR [(.tmp d,.lit v)] (opd regs) own (au T o.op (opd regs) own) else⟨[(.tmp d,.lit v)],[],.lit undef,[],true⟩
   |_=>badR
  |none=>badR
def Qi0:List (Nat×Rec)→Nat→Rec→Rec
 |(k,c)::_,i,d=>bif Nat.beq k i then c else d
 |[],_,d=>d
def Qkt:List (Nat×Rec)→Nat→List (Nat×Rec)
 |(k,c)::H,i=>bif Nat.beq k i then H else(k,c)::H
 |[],_=>[]
def atH:List (Nat×Rec)→Nat→Bool
 |(k,_)::_,i=>Nat.beq k i
 |[],_=>false
def comp (T:Tab) (ops:Array Oper):List Oper→Nat→List (Nat×Rec)→List AV→List Slot→List Rec
 |[],_,_,_,_=>[]
 |o::l,i,H,regs,own=>match Qi0 H i (Qfq T ops o regs own) with
  |⟨rd,bl,r,eff,s⟩=>⟨rd,bl,r,eff,s⟩::comp T ops l (i+1) (Qkt H i) (putA regs o.dst r) (setE own eff)
def exec (T:Tab) (ops:Array Oper):List Oper→Nat→List (Nat×Rec)→List AV→List Slot→AS
 |[],_,_,regs,own=>⟨regs,own⟩
 |o::l,i,H,regs,own=>match Qi0 H i (Qfq T ops o regs own) with
  |⟨_,_,r,eff,_⟩=>exec T ops l (i+1) (Qkt H i) (putA regs o.dst r) (setE own eff)
def Qrj (T:Tab) (ops:Array Oper):List Oper→Nat→List (Nat×Rec)→List AV→List Slot→List (List AV×List Slot)
 |[],_,_,_,_=>[]
 |o::l,i,H,regs,own=>match Qi0 H i (Qfq T ops o regs own) with
  |⟨rd,bl,r,eff,_⟩=>bif atH H i
   then(rd.map (fun p=>opd regs p.1),bl.map (fun p=>own.getD p.1 .unused))::Qrj T ops l (i+1) (Qkt H i) (putA regs o.dst r) (setE own eff)
   else Qrj T ops l (i+1) (Qkt H i) (putA regs o.dst r) (setE own eff)
def good (T:Tab) (ops:Array Oper) (n:Nat):List Oper→Nat→List (Nat×Rec)→List AV→List Slot→Bool
 |[],_,H,_,_=>H.isEmpty
 |o::l,i,H,regs,own=>match Qi0 H i (Qfq T ops o regs own) with
  |⟨rd,bl,r,eff,s⟩=>(Qkz ops o ⟨rd,bl,r,eff,s⟩&&(match o.dst with |some d=>decide (d<n) |none=>true)&&(eff.all fun q=>bl.any fun r=>q.1==r.1))&&good T ops n l (i+1) (Qkt H i) (putA regs o.dst r) (setE own eff)
def opAt (ops:Array Oper) (k:Nat):Oper:=(ops[k]?).getD default
def HOk (P:Program) (ops:Array Oper):List (Nat×Rec)→Prop
 |[]=>True
 |p::H=>OkR P (opAt ops p.1,p.2)∧HOk P ops H
section
variable {P : Program} {T : Tab} {ops : Array Oper}
theorem Qog:∀(l:List Oper) (i:Nat) (H:List (Nat×Rec)) (regs:List AV) (own:List Slot),(comp T ops l i H regs own).length=l.length
 |[],_,_,_,_=>rfl
 |o::l,i,H,regs,own=>by
  rw[comp]
  cases Qi0 H i (Qfq T ops o regs own) with
  |mk rd bl r eff s=>rw[List.length_cons,List.length_cons,Qog l]
theorem Qof:∀(l:List Oper) (i:Nat) (H:List (Nat×Rec)) (regs:List AV) (own:List Slot),exec T ops l i H regs own=⟨(runL (l.zip (comp T ops l i H regs own)) regs own).2.1,(runL (l.zip (comp T ops l i H regs own)) regs own).2.2⟩
 |[],_,_,_,_=>rfl
 |o::l,i,H,regs,own=>by
  rw[exec,comp]
  cases Qi0 H i (Qfq T ops o regs own) with
  |mk rd bl r eff s=>exact Qof l (i+1) _ _ _
theorem Qsb (o:Oper) (regs:List AV) (own:List Slot):(Qfq T ops o regs own).rd.map (fun p=>opd regs p.1)=(Qfq T ops o regs own).rd.map (·.2)∧(Qfq T ops o regs own).bl.map (fun p=>own.getD p.1 .unused)=(Qfq T ops o regs own).bl.map (·.2):=by
 have key:∀(g:List (Operand×AV)) (q:Option AuR),(∀p∈g,opd regs p.1=p.2)→(toR g (opd regs) own q).rd.map (fun p=>opd regs p.1)=(toR g (opd regs) own q).rd.map (·.2)∧(toR g (opd regs) own q).bl.map (fun p=>own.getD p.1 .unused)=(toR g (opd regs) own q).bl.map (·.2):=by
  intro g q hg
  cases q with
  |none=>exact⟨rfl,rfl⟩
  |some q=>
   refine⟨?_,by simp[toR,Function.comp_def]⟩
   simp only[toR,List.map_append,List.map_map]
   rw[List.map_congr_left (f:=fun p:Operand×AV=>opd regs p.1) (g:=fun p:Operand×AV=>p.2) hg]
   rfl
 unfold Qfq
 split
 ·exact key [] _ (fun _ h=>by cases h)
 ·split
  ·next d hd=>
   split
   ·next v hv=>
    cases Qjb v==some _ with
    |true=>exact key _ _ (fun p hp=>by rw[List.mem_singleton] at hp;subst hp;exact hv)
    |false=>exact⟨by simp[hv],rfl⟩
   ·exact⟨rfl,rfl⟩
  ·exact⟨rfl,rfl⟩
theorem Qol (hT:T.ok P) (o:Oper) (regs:List AV) (own:List Slot):OkR P (o,Qfq T ops o regs own):=by
 have key:∀(g:List (Operand×AV)),g.length≤1→OkR P (o,toR g (opd regs) own (au T o.op (opd regs) own)):=by
  intro g hg
  cases h:au T o.op (opd regs) own with
  |none=>exact trivial
  |some q=>
   have:=Qy2 hT h
   unfold OkR toR
   dsimp only
   cases g with
   |nil=>exact this
   |cons a g=>cases g with
    |nil=>exact Qjl this
    |cons _ _=>simp at hg
 unfold Qfq
 split
 ·exact key [] (Nat.zero_le _)
 ·split
  ·split
   ·next v _=>
    cases Qjb v==some _ with
    |true=>exact key _ (Nat.le_refl _)
    |false=>exact trivial
   ·exact trivial
  ·exact trivial
theorem HOk.rest {H:List (Nat×Rec)}(h:HOk P ops H) (i:Nat):HOk P ops (Qkt H i):=by
 cases H with
 |nil=>exact trivial
 |cons p H=>
  obtain⟨k,c⟩:=p
  show HOk P ops (bif Nat.beq k i then H else(k,c)::H)
  cases Nat.beq k i with
  |true=>exact h.2
  |false=>exact h
theorem Qvg {H:List (Nat×Rec)}(hT:T.ok P) (h:HOk P ops H) {i:Nat}{o:Oper}(ho:ops[i]? = some o) (regs:List AV) (own:List Slot):OkR P (o,Qi0 H i (Qfq T ops o regs own)):=by
 cases H with
 |nil=>exact Qol hT _ _ _
 |cons p H=>
  obtain⟨k,c⟩:=p
  show OkR P (o,bif Nat.beq k i then c else Qfq T ops o regs own)
  cases e:Nat.beq k i with
  |true=>
   have:=h.1
   unfold opAt at this
   rw[Nat.eq_of_beq_eq_true e,ho] at this
   exact this
  |false=>exact Qol hT _ _ _
theorem Qr4 (hT:T.ok P):∀(l:List Oper) (i:Nat) (H:List (Nat×Rec)) (regs:List AV) (own:List Slot),HOk P ops H→(∀k o,l[k]? = some o→ops[i+k]? = some o)→AllOk P (l.zip (comp T ops l i H regs own))
 |[],_,_,_,_,_,_=>trivial
 |o::l,i,H,regs,own,hH,hl=>by
  have h1:=Qvg hT hH (hl 0 o rfl) regs own
  have h2:=fun regs' own'=>Qr4 hT l (i+1) (Qkt H i) regs' own' (hH.rest i) fun k o' h=>by
   have:=hl (k+1) o' (by simpa using h)
   rwa [show i+(k+1)=i+1+k from by omega] at this
  rw[comp]
  cases hp:Qi0 H i (Qfq T ops o regs own) with
  |mk rd bl r eff s=>
   rw[Nat.add_zero,hp] at h1
   rw[List.zip_cons_cons,AllOk]
   exact⟨h1,h2 _ _⟩
theorem Qk5:∀(l:List Oper) (i:Nat) (H:List (Nat×Rec)) (regs:List AV) (own:List Slot) (n:Nat),good T ops n l i H regs own=true→Qrj T ops l i H regs own=H.map (fun p=>(p.2.rd.map (·.2),p.2.bl.map (·.2))) →
  (runL (l.zip (comp T ops l i H regs own)) regs own).1=(comp T ops l i H regs own).map (fun c=>(c.rd.map (·.2),c.bl.map (·.2)))
 |[],_,_,_,_,_,_,_=>rfl
 |o::l,i,H,regs,own,n,hg,hm=>by
  have h:=Qsb (T:=T) (ops:=ops) o regs own
  rw[comp]
  rw[good] at hg
  rw[Qrj] at hm
  have hh:(∃k c H',H=(k,c)::H'∧Nat.beq k i=true)∨(Qi0 H i (Qfq T ops o regs own)=Qfq T ops o regs own∧Qkt H i=H∧atH H i=false):=by
   cases H with
   |nil=>exact Or.inr ⟨rfl,rfl,rfl⟩
   |cons p H=>
    obtain⟨k,c⟩:=p
    cases e:Nat.beq k i with
    |true=>exact Or.inl ⟨k,c,H,rfl,e⟩
    |false=>exact Or.inr ⟨by show(bif Nat.beq k i then c else _)=_;rw[e];rfl,by show(bif Nat.beq k i then _ else _)=_;rw[e];rfl,e⟩
  rcases hh with ⟨k,c,H',rfl,e⟩ |⟨e1,e2,e3⟩
  ·have e1:Qi0 ((k,c)::H') i (Qfq T ops o regs own)=c:=by show(bif Nat.beq k i then c else _)=_;rw[e];rfl
   have e2:Qkt ((k,c)::H') i=H':=by show(bif Nat.beq k i then _ else _)=_;rw[e];rfl
   rw[e1,e2] at hg hm ⊢
   obtain⟨rd,bl,r,eff,sk⟩:=c
   dsimp only at hg hm ⊢
   rw[Bool.and_eq_true] at hg
   rw[show atH ((k,⟨rd,bl,r,eff,sk⟩)::H') i=true from e,cond_true,List.map_cons,List.cons.injEq] at hm
   exact congr (congrArg List.cons hm.1) (Qk5 l (i+1) _ _ _ n hg.2 hm.2)
  ·rw[e1,e2] at hg hm ⊢
   rw[e3] at hm
   clear e1
   revert hg hm h
   generalize Qfq T ops o regs own=R
   intro hg hm h
   obtain⟨rd,bl,r,eff,sk⟩:=R
   dsimp only at hg hm h ⊢
   rw[Bool.and_eq_true] at hg
   exact congr (congrArg List.cons (Prod.ext h.1 h.2)) (Qk5 l (i+1) _ _ _ n hg.2 hm)
theorem Qmd:∀(l:List Oper) (i:Nat) (H:List (Nat×Rec)) (regs:List AV) (own:List Slot) (n:Nat),good T ops n l i H regs own=true→Qob ops (l.zip (comp T ops l i H regs own)) n=true
 |[],_,_,_,_,_,_=>rfl
 |o::l,i,H,regs,own,n,hg=>by
  rw[good] at hg
  rw[comp]
  cases hp:Qi0 H i (Qfq T ops o regs own) with
  |mk rd bl r eff s=>
   rw[hp] at hg
   dsimp only at hg ⊢
   rw[Bool.and_eq_true] at hg
   have ih:=Qmd l (i+1) _ _ _ n hg.2
   rw[List.zip_cons_cons]
   unfold Qob at ih ⊢
   rw[List.all_cons,ih,Bool.and_true]
   exact hg.1
variable {X : Nat → Nat → Prop} {φ0 : Nat → FSlot} {w0 : World} {ro : Option Nat} {Q : Exit → AS → Prop} {s : AS} {c : Code}
def Qnd (T:Tab) (ops:Array Oper) (H:List (Nat×Rec)) (s:AS):List Rec:=comp T ops ops.toList 0 H s.regs s.own
def Qh9 (T:Tab) (ops:Array Oper) (H:List (Nat×Rec)) (s:AS):AS:=exec T ops ops.toList 0 H s.regs s.own
def MetX (T:Tab) (ops:Array Oper) (H:List (Nat×Rec)) (s:AS):Prop:=Qrj T ops ops.toList 0 H s.regs s.own=H.map (fun p=>(p.2.rd.map (·.2),p.2.bl.map (·.2)))∧good T ops s.regs.length ops.toList 0 H s.regs s.own=true
theorem Qhp (H:List (Nat×Rec)):after ops (Qnd T ops H s) s=Qh9 T ops H s:=(Qof (T:=T) ops.toList 0 H s.regs s.own).symm
theorem Qk0 (hT:T.ok P) {H:List (Nat×Rec)}(hH:HOk P ops H) (hm:MetX T ops H s):AllOk P (ops.toList.zip (Qnd T ops H s))∧Met ops (Qnd T ops H s) s:=by
 refine⟨Qr4 hT _ 0 _ _ _ hH fun k o h=>by simpa using h,Qk5 _ 0 _ _ _ _ hm.2 hm.1,?_⟩
 rw[Bool.and_eq_true]
 exact⟨by simp[Qnd,Qog],Qmd _ 0 _ _ _ _ hm.2⟩
theorem Qx1 {id:Nat}{y:Code}(hT:T.ok P) (H:List (Nat×Rec)) (hH:HOk P ops H) (h:AWp P X φ0 w0 ro y Q (Qh9 T ops H s)) (hm:MetX T ops H s:=by exact⟨by kernel_rfl,by kernel_rfl⟩):AWp P X φ0 w0 ro (.seq (.region id ops false) y) Q s:=
 have f:=Qk0 hT hH hm
 Qwp _ f.1 (Qhp H▸h) f.2
theorem Que {id:Nat}(hT:T.ok P) (H:List (Nat×Rec)) (hH:HOk P ops H) (h:Q .normal (Qh9 T ops H s)) (hm:MetX T ops H s:=by exact⟨by kernel_rfl,by kernel_rfl⟩):AWp P X φ0 w0 ro (.region id ops false) Q s:=
 have f:=Qk0 hT hH hm
 Qtu _ f.1 (Qhp H▸h) f.2
theorem Qud {id:Nat}{y:Code}(hT:T.ok P) (H:List (Nat×Rec)) (hH:HOk P ops H) (h:AWp P X φ0 w0 ro y Q (Qh9 T ops H s)) (hf:P.follows .mixedOrders=true:=by kernel_rfl) (hm:MetX T ops H s:=by exact⟨by kernel_rfl,by kernel_rfl⟩) (ho:Qfo (ops.toList.zip (Qnd T ops H s)) [] []=true:=by kernel_rfl):AWp P X φ0 w0 ro (.seq (.region id ops true) y) Q s:=
 have f:=Qk0 hT hH hm
 Qtt _ f.1 (Qhp H▸h) hf f.2 ho
theorem Qwo {id:Nat}(hT:T.ok P) (H:List (Nat×Rec)) (hH:HOk P ops H) (h:Q .normal (Qh9 T ops H s)) (hf:P.follows .mixedOrders=true:=by kernel_rfl) (hm:MetX T ops H s:=by exact⟨by kernel_rfl,by kernel_rfl⟩) (ho:Qfo (ops.toList.zip (Qnd T ops H s)) [] []=true:=by kernel_rfl):AWp P X φ0 w0 ro (.region id ops true) Q s:=
 have f:=Qk0 hT hH hm
 Qr9 _ f.1 (Qhp H▸h) hf f.2 ho
end
theorem fend {P:Program}{fn:Func}{res:AV}{s:AS}(h1:∃vs,ResL P s fn.results.toList vs∧res=Qku vs) (h2:NLt 0 res):Fin P fn 0 res [] s:=⟨h1,h2,Nat.le_refl _,fun n hn=>absurd hn (Nat.not_lt_zero n)⟩
abbrev wx := @Qx1
abbrev wx1 := @Que
abbrev wxd := @Qud
abbrev wy1 := @Qwo
def hcat (A B:List (Nat×Rec)):List (Nat×Rec):=A++B
theorem hap {P:Program}{ops:Array Oper}:∀{A B:List (Nat×Rec)},HOk P ops A→HOk P ops B→HOk P ops (hcat A B)
 |[],_,_,hB=>hB
 |_::_,_,hA,hB=>⟨hA.1,hap hA.2 hB⟩
section
variable {P : Program} {X : Nat → Nat → Prop} {φ0 : Nat → FSlot} {w0 : World} {ro : Option Nat} {Q : Exit → AS → Prop} {s : AS} {A : List (Nat × Rec)} {id : Nat} {ops : Array Oper} {d : Bool} {y : Code}
theorem hpre (hA:HOk P ops A) (h:HOk P ops A→AWp P X φ0 w0 ro (.seq (.region id ops d) y) Q s):AWp P X φ0 w0 ro (.seq (.region id ops d) y) Q s:=h hA
end
theorem tv:True:=trivial
theorem prr {ρ:List Nat}{t n n' m j i:Nat}{l k:List (Nat×AV)}(h':PPw (RW fun n n'=>ρ[n']? = some n) l k) (h:(ρ[n']? == some n)=true:=by rfl):PPw (RW fun n n'=>ρ[n']? = some n) ((t,.ref n m j i)::l) ((t,.ref n' m j i)::k):=pc (.rn (Qq3 h)) h'
theorem pw {M:Nat→Nat→Prop}{t:Nat}{u:Value}{l k:List (Nat×AV)}(h:PPw (RW M) l k):PPw (RW M) ((t,.lit u)::l) ((t,.lit u)::k):=pc rwl h
theorem qb {R:AV→AV→Prop}{m:Nat}{x x':List AV}{l k:List Slot}(h:LPw R x x') (h':QPw R l k):QPw R (.own m [x]::l) (.own m [x']::k):=qc (Qqz h) h'
theorem frb {P:Program}{fn:Func}{s:AS}{b r:Bool}(h:some b=some r) (hr:ResL P s fn.results.toList [B b]:=by exact⟨rot,trivial⟩):Fin P fn 0 (B r) [] s:=by
 cases osi h
 exact fend ⟨[B b],hr,rfl⟩ nll
theorem apv {P:Program}{o:Oper}{rd:List (Operand×AV)}{f:Operand}{xs:Array Operand}{ts:Array TypeId}{g:FuncId}{vs:List AV}{res:AV}(hcall:∀vals w,(callFunc g vals).run P w=.ok (.enter g vals) w) (spec:Spec P g vs [] res [])
  (hn:∀a∈vs,NLt 0 a) (hres:NLt 0 res) (h:o.op=.call { callee:=.value f,args:=xs,argTypes:=ts }:=by exact rfl) (hvl:vs.length=xs.size:=by exact rfl) (hrd:(f,.fn (.func g) [] [])::xs.toList.zip vs=rd:=by exact rfl):Qbx P o rd [] res []:=
 Qjf (first:=[]) (cap:=[]) h hcall spec hvl (List.append_nil vs) hn hres hrd
end
section
section
variable {P : Program} {o : Oper}
theorem aiq {α:Type}{x y:Operand}{t e:TypeId}{gg:Bool}{m:Nat}{l:List α}{i:Int}{z:α}(ht:P.underlying t=some (.slice e)) (he:TI P e gg m) (c:α→List AV) (h0:0≤i) (hj:l[i.toNat]? = some z) (h:o.op=.indexAddr t x y:=by exact rfl) :
  Qbx P o [(x,.dat m (l.map c)),(y,I i)] [] (.dptr (c z) 0) []:=Qke h ht he rfl rfl h0 (Qrm c hj) rfl
theorem alq {α:Type}{x:Operand}{t e:TypeId}(m:Nat) (c:α→List AV) (l:List α) (ht:P.underlying t=some (.slice e)) (h:o.op=.call { callee:=.builtin .len,args := #[x],argTypes := #[t] }:=by exact rfl) :
  Qbx P o [(x,.dat m (l.map c))] [] (I (l.length:Int)) []:=Qkd (c:=c) (l:=l) (Qml h ht rfl)
end
end
section
class NLc {α:Type}(c:α→List AV):Prop where out:∀x,∀a∈c x,NLt 0 a
class Blt (n k:Nat):Prop where out:n<k
class NLi (k:Nat) (a:AV):Prop where out:NLt k a
class NLs (k:Nat) (l:List AV):Prop where out:∀a∈l,NLt k a
class SNi (k:Nat) (s:Slot):Prop where out:SNLt k s
class SNs (k:Nat) (l:List Slot):Prop where out:∀s∈l,SNLt k s
instance {k:Nat}:Blt 0 (k+1):=⟨Nat.succ_pos k⟩
instance {n k:Nat} [h:Blt n k]:Blt (n+1) (k+1):=⟨Nat.succ_lt_succ h.out⟩
section
variable {k n m : Nat}
instance:NLi k .any:=⟨.any⟩
instance {v:Value}:NLi k (.lit v):=⟨.lit v⟩
instance {l:List AV} [h:NLs k l]:NLi k (.agg l):=⟨.agg l h.out⟩
instance {l:List AV} [h:NLs k l]:NLi k (.tup l):=⟨.tup l h.out⟩
instance {f:Fn}{l c:List AV} [h:NLs k l] [h':NLs k c]:NLi k (.fn f l c):=⟨.fn f l c h.out h'.out⟩
instance {α:Type}{c:α→List AV}{xs:List α} [h:NLc c]:NLi k (.dat m (xs.map c)):=⟨(Qi2 h.out xs).of0⟩
instance {l:List AV}{i:Nat} [h:NLs k l]:NLi k (.dptr l i):=⟨.dptr l i h.out⟩
instance {j i:Nat} [h:Blt n k]:NLi k (.ref n m j i):=⟨.ref n m j i h.out⟩
instance {j len:Nat} [h:Blt n k]:NLi k (.own n m j len):=⟨.own n m j len h.out⟩
instance {len:Nat}{ty:TypeId} [h:Blt n k]:NLi k (.gro n ty m len):=⟨.gro n ty m len h.out⟩
instance {q j len:Nat} [h:Blt n k]:NLi k (.row n q m j len):=⟨.row n q m j len h.out⟩
instance [h:Blt n k]:NLi k (.mp n):=⟨.mp n h.out⟩
instance {α:Type}{c:α→List AV}{xs:List α}{ty:TypeId} [h:Blt n k] [h':NLc c]:NLi k (.acc n ty m (xs.map c)):=⟨.acc n ty m _ h.out (Qkw h'.out xs)⟩
instance:NLs k []:=⟨Qhi⟩
instance {a:AV}{l:List AV} [h:NLi k a] [h':NLs k l]:NLs k (a::l):=⟨Qfe h.out h'.out⟩
instance {α:Type} [AVo α] {f:Nat→α}:NLs k (arrF n f):=⟨Qxp⟩
instance {l l':List AV} [h:NLs k l] [h':NLs k l']:NLs k (l++l'):=⟨Qd4 h.out h'.out⟩
instance {α:Type}{c:α→List AV}{x:α} [h:NLc c]:NLs k (c x):=⟨fun a ha=>(h.out x a ha).of0⟩
instance:SNi k .unused:=⟨.unused⟩
instance:SNi k .dead:=⟨.dead⟩
instance:SNi k .tok:=⟨.tok⟩
instance {l:List AV} [h:NLs k l]:SNi k (.own m [l]):=⟨Qu8 h.out⟩
instance {α:Type}{c:α→List AV}{xs:List α} [h:NLc c]:SNi k (.own m (xs.map c)):=⟨Qu6 h.out xs⟩
instance {α:Type}{c:α→List AV}{xs:List α} [h:NLc c]:SNi k (.gro m (xs.map c)):=⟨Qta h.out xs⟩
instance:SNs k []:=⟨Qu7⟩
instance {s:Slot}{l:List Slot} [h:SNi k s] [h':SNs k l]:SNs k (s::l):=⟨Qtb h.out h'.out⟩
end
section
variable {P : Program} {fn : Func} {k : Nat} {res : AV} {σ' : List Slot} {regs : List AV} (vs : List AV)
theorem fio (hr:ResL P ⟨regs,σ'⟩ fn.results.toList vs) [hn:NLi k res] [hs:SNs k σ'] (hres:res=Qku vs:=by exact rfl) (hk:σ'.length=k:=by kernel_rfl):Fin P fn k res σ' ⟨regs,σ'⟩:=Qxu hr hres hn.out hk hs.out
theorem fie {s:AS}(h1:ResL P s fn.results.toList vs) [hn:NLi 0 res] (hres:res=Qku vs:=by exact rfl):Fin P fn 0 res [] s:=fend ⟨vs,h1,hres⟩ hn.out
end
theorem sA {P:Program}{f:FuncId}{fn:Func}{c:Code}(hf:P.funcs[f]? = some fn) {args:List AV}{σ:List Slot}{res:AV}{σ':List Slot}(k:Nat)
  (h:∀X φ0 w0,(∀n,σ.length≤n→φ0 n=.unused)→w0.drawn≠1→AWp P X φ0 w0 none c (finA P fn k res σ') ⟨args++List.replicate (fn.ntmps-args.length) .any,σ⟩) (hb:fn.body=some c:=by exact rfl) (hσ:σ.length≤k:=by exact nle rfl):Spec P f args σ res σ':=Qir hf hb k hσ h
theorem sF {P:Program}{f:FuncId}{fn:Func}{c:Code}(hf:P.funcs[f]? = some fn) {args:List AV}{σ:List Slot}{res:AV}{σ':List Slot}(k:Nat)
  (h:∀X φ0 w0,(∀n,σ.length≤n→φ0 n=.unused)→w0.drawn≠1→AWp P X φ0 w0 none c (finM P X φ0 w0 fn k res σ') ⟨args++List.replicate (fn.ntmps-args.length) .any,σ⟩) (hb:fn.body=some c:=by exact rfl) (hσ:σ.length≤k:=by exact nle rfl):Spec P f args σ res σ':=Qir hf hb k hσ fun X φ0 w0 h1 h2=>Qtx (h X φ0 w0 h1 h2)
theorem apw {P:Program}{o:Oper}{rd:List (Operand×AV)}{f:Operand}{xs:Array Operand}{ts:Array TypeId}{g:FuncId}{vs:List AV}{res:AV}(hcall:∀vals w,(callFunc g vals).run P w=.ok (.enter g vals) w) (spec:Spec P g vs [] res [])
  [hn:NLs 0 vs] [hres:NLi 0 res] (h:o.op=.call { callee:=.value f,args:=xs,argTypes:=ts }:=by exact rfl) (hvl:vs.length=xs.size:=by exact rfl) (hrd:(f,.fn (.func g) [] [])::xs.toList.zip vs=rd:=by exact rfl):Qbx P o rd [] res []:=apv hcall spec hn.out hres.out h hvl hrd
theorem acq {P:Program}{o:Oper}{f:Operand}{xs:Array Operand}{ts:Array TypeId}{g:FuncId}{args:List AV}{σ σ':List Slot}{res:AV}(vs:List AV) (σr σr':List Slot) (res':AV) (ρ:List Nat) (hcall:∀vals w,(callFunc g vals).run P w=.ok (.enter g vals) w) (spec:Spec P g args σ res σ')
  (hargs:Rn (fun n n'=>ρ[n]? = some n'∧n<σ.length) (.agg args) (.agg vs)) (hσ:SLw (fun n n'=>ρ[n]? = some n'∧n<σ.length) σ σr) (hσ':SLw (fun n n'=>ρ[n]? = some n') σ' σr') (hres:Rn (fun n n'=>ρ[n]? = some n') res res')
  {bl eff:List (Nat×Slot)}{rd:List (Operand×AV)}(h:o.op=.call { callee:=.value f,args:=xs,argTypes:=ts }:=by exact rfl) (hdec:(decide ρ.Nodup&&(vs.length==xs.size)&&(σ'.length==ρ.length)&&Nat.ble σ.length ρ.length&&σ.all Slot.alive)=true:=by exact rfl)
  (hbl:(ρ.take σ.length).zip σr++(ρ.drop σ.length).map (fun n=>(n,Slot.unused))=bl:=by exact rfl) (heff:ρ.zip σr'=eff:=by exact rfl) (hrd:(f,.fn (.func g) [] [])::xs.toList.zip vs=rd:=by exact rfl):Qbx P o rd bl res' eff:=
 Qc7 (first:=[]) (cap:=[]) ρ h hcall spec hdec (by simpa using hargs) hσ hσ' hres hbl heff hrd
end
section
def Qbl (g:FuncId):Prop:=∀vals w,(callFunc g vals).run prog w=.ok (.enter g vals) w
theorem entr {g : FuncId} {fn : Func} {c : Code} (h : prog.funcs[g]? = some fn) (h1 : (fn.name == "runtime.NumGoroutine") = false := by kernel_rfl) (h2 : fn.body = some c := by rfl) : Qbl g := fun vals w => MuLone.run_callFunc_enter h h1 h2 vals w
def Qtq (x:ByteArray):List AV:=[Sx x]
theorem Qrc:∀x,∀a∈Qtq x,NLt 0 a:=fun _=>Qfe (.lit _) Qhi
instance:NLc Qtq:=⟨Qrc⟩
def Qan (x:Int):List AV:=[K .i64 x]
theorem Qak:∀x,∀a∈Qan x,NLt 0 a:=fun _=>Qfe (.lit _) Qhi
instance:NLc Qan:=⟨Qak⟩
def Qi9 (x:List Int):List AV:=[.dat 1 (x.map Qan)]
theorem Qhu:∀x,∀a∈Qi9 x,NLt 0 a:=fun _=>Qfe (Qi2 Qak _) Qhi
instance:NLc Qi9:=⟨Qhu⟩
structure Qaf where
  Name:ByteArray
  Values:List Int
  deriving DecidableEq
def Qae (x:Qaf):List AV:=Qtq x.Name++Qi9 x.Values
theorem Qaj:∀x,∀a∈Qae x,NLt 0 a:=fun _=>(Qd4 (Qrc _) (Qhu _))
instance:NLc Qae:=⟨Qaj⟩
structure Qaa where
  Lo:Int
  Hi:Int
  deriving DecidableEq
def Qar (x:Qaa):List AV:=Qan x.Lo++Qan x.Hi
theorem Qdm:∀x,∀a∈Qar x,NLt 0 a:=fun _=>(Qd4 (Qak _) (Qak _))
instance:NLc Qar:=⟨Qdm⟩
structure Qab where
  Name:ByteArray
  Kind:Int
  Blocks:List Int
  Weights:List Int
  In:Qaa
  deriving DecidableEq
def Qaq (x:Qab):List AV:=Qtq x.Name++Qan x.Kind++Qi9 x.Blocks++Qi9 x.Weights++Qar x.In
theorem Qa5:∀x,∀a∈Qaq x,NLt 0 a:=fun _=>(Qd4 (Qd4 (Qd4 (Qd4 (Qrc _) (Qak _)) (Qhu _)) (Qhu _)) (Qdm _))
instance:NLc Qaq:=⟨Qa5⟩
structure Qam where
  X:Int
  Y:Int
  Z:Int
  Kinds:Int
  deriving DecidableEq
def Qc9 (x:Qam):List AV:=Qan x.X++Qan x.Y++Qan x.Z++Qan x.Kinds
theorem Qlw:∀x,∀a∈Qc9 x,NLt 0 a:=fun _=>(Qd4 (Qd4 (Qd4 (Qak _) (Qak _)) (Qak _)) (Qak _))
instance:NLc Qc9:=⟨Qlw⟩
structure Qey where
  Field:Qam
  kind:Int
  blocks:List Int
  weights:List Int
  deriving DecidableEq
def Qk6 (x:Qey):List AV:=Qc9 x.Field++Qan x.kind++Qi9 x.blocks++Qi9 x.weights
theorem Qrd:∀x,∀a∈Qk6 x,NLt 0 a:=fun _=>(Qd4 (Qd4 (Qd4 (Qlw _) (Qak _)) (Qhu _)) (Qhu _))
instance:NLc Qk6:=⟨Qrd⟩
structure Qb1 where
  Model:Int
  Measure:Int
  Miss:Int
  deriving DecidableEq
def Qcq (x:Qb1):List AV:=Qan x.Model++Qan x.Measure++Qan x.Miss
theorem Qe9:∀x,∀a∈Qcq x,NLt 0 a:=fun _=>(Qd4 (Qd4 (Qak _) (Qak _)) (Qak _))
instance:NLc Qcq:=⟨Qe9⟩
structure Qbd where
  Flow:Int
  In:Qaa
  deriving DecidableEq
def Qbc (x:Qbd):List AV:=Qan x.Flow++Qar x.In
theorem Qao:∀x,∀a∈Qbc x,NLt 0 a:=fun _=>(Qd4 (Qak _) (Qdm _))
instance:NLc Qbc:=⟨Qao⟩
def Qij (x:List Qbd):List AV:=[.dat 3 (x.map Qbc)]
theorem Qlv:∀x,∀a∈Qij x,NLt 0 a:=fun _=>Qfe (Qi2 Qao _) Qhi
instance:NLc Qij:=⟨Qlv⟩
structure Qa4 where
  A:Qaa
  B:Qaa
  C:Qaa
  Steps:List Qbd
  deriving DecidableEq
def Qh2 (x:Qa4):List AV:=Qar x.A++Qar x.B++Qar x.C++Qij x.Steps
theorem Qtg:∀x,∀a∈Qh2 x,NLt 0 a:=fun _=>(Qd4 (Qd4 (Qd4 (Qdm _) (Qdm _)) (Qdm _)) (Qlv _))
instance:NLc Qh2:=⟨Qtg⟩
structure Qah where
  A:Int
  B:Int
  C:Int
  deriving DecidableEq
def Qap (x:Qah):List AV:=Qan x.A++Qan x.B++Qan x.C
theorem Qch:∀x,∀a∈Qap x,NLt 0 a:=fun _=>(Qd4 (Qd4 (Qak _) (Qak _)) (Qak _))
instance:NLc Qap:=⟨Qch⟩
def c_u8 (x:Int):List AV:=[K .u8 x]
theorem Qyy:∀x,∀a∈c_u8 x,NLt 0 a:=fun _=>Qfe (.lit _) Qhi
instance:NLc c_u8:=⟨Qyy⟩
def Qja (x:List Qah):List AV:=[.dat 3 (x.map Qap)]
theorem Qo0:∀x,∀a∈Qja x,NLt 0 a:=fun _=>Qfe (Qi2 Qch _) Qhi
instance:NLc Qja:=⟨Qo0⟩
def Qx0 (x:Int):List AV:=[K .u16 x]
theorem Qxo:∀x,∀a∈Qx0 x,NLt 0 a:=fun _=>Qfe (.lit _) Qhi
instance:NLc Qx0:=⟨Qxo⟩
theorem ti32:TI prog 32 true 4:=⟨⟨_,underlying32,rfl⟩,Qds (by kernel_rfl)⟩
theorem ti75:TI prog 75 false 1:=⟨⟨_,underlying75,rfl⟩,Qds (by kernel_rfl)⟩
theorem ti3:TI prog 3 false 1:=⟨⟨_,underlying3,rfl⟩,Qds (by kernel_rfl)⟩
theorem ti33:TI prog 33 false 1:=⟨⟨_,underlying33,rfl⟩,Qds (by kernel_rfl)⟩
theorem ti42:TI prog 42 true 2:=⟨⟨_,underlying42,rfl⟩,Qds (by kernel_rfl)⟩
theorem ti9:TI prog 9 false 1:=⟨⟨_,underlying9,rfl⟩,Qds (by kernel_rfl)⟩
theorem ti40:TI prog 40 false 1:=⟨⟨_,underlying40,rfl⟩,Qds (by kernel_rfl)⟩
theorem ti66:TI prog 66 false 1:=⟨⟨_,underlying66,rfl⟩,Qds (by kernel_rfl)⟩
theorem ti43:TI prog 43 false 1:=⟨⟨_,underlying43,rfl⟩,Qds (by kernel_rfl)⟩
theorem ti52:TI prog 52 true 6:=⟨⟨_,underlying52,rfl⟩,Qds (by kernel_rfl)⟩
theorem ti50:TI prog 50 true 2:=⟨⟨_,underlying50,rfl⟩,Qds (by kernel_rfl)⟩
theorem ti68:TI prog 68 true 3:=⟨⟨_,underlying68,rfl⟩,Qds (by kernel_rfl)⟩
theorem ti30:TI prog 30 true 7:=⟨⟨_,underlying30,rfl⟩,Qds (by kernel_rfl)⟩
theorem ti28:TI prog 28 false 1:=⟨⟨_,underlying28,rfl⟩,Qds (by kernel_rfl)⟩
theorem ti27:TI prog 27 true 2:=⟨⟨_,underlying27,rfl⟩,Qds (by kernel_rfl)⟩
theorem ti49:TI prog 49 true 3:=⟨⟨_,underlying49,rfl⟩,Qds (by kernel_rfl)⟩
theorem ti38:TI prog 38 true 3:=⟨⟨_,underlying38,rfl⟩,Qds (by kernel_rfl)⟩
theorem ti98:TI prog 98 false 1:=⟨⟨_,underlying98,rfl⟩,Qds (by kernel_rfl)⟩
theorem ti4:TI prog 4 false 1:=⟨⟨_,underlying4,rfl⟩,Qds (by kernel_rfl)⟩
theorem ti37:TI prog 37 true 3:=⟨⟨_,underlying37,rfl⟩,Qds (by kernel_rfl)⟩
theorem ti5:TI prog 5 false 1:=⟨⟨_,underlying5,rfl⟩,Qds (by kernel_rfl)⟩
theorem ti46:TI prog 46 true 3:=⟨⟨_,underlying46,rfl⟩,Qds (by kernel_rfl)⟩
theorem ti44:TI prog 44 true 2:=⟨⟨_,underlying44,rfl⟩,Qds (by kernel_rfl)⟩
theorem ti92:TI prog 92 true 7:=⟨⟨_,underlying92,rfl⟩,Qds (by kernel_rfl)⟩
theorem ts92:TS prog 92 [(0,4),(4,1),(5,1),(6,1)]:=⟨_,underlying92,⟨rfl,⟨_,ti32⟩,rfl,⟨_,ti3⟩,rfl,⟨_,ti40⟩,rfl,⟨_,ti40⟩,trivial⟩⟩
theorem ts68:TS prog 68 [(0,1),(1,1),(2,1)]:=⟨_,underlying68,⟨rfl,⟨_,ti3⟩,rfl,⟨_,ti3⟩,rfl,⟨_,ti3⟩,trivial⟩⟩
theorem ts27:TS prog 27 [(0,1),(1,1)]:=⟨_,underlying27,⟨rfl,⟨_,ti3⟩,rfl,⟨_,ti3⟩,trivial⟩⟩
theorem ts38:TS prog 38 [(0,1),(1,1),(2,1)]:=⟨_,underlying38,⟨rfl,⟨_,ti3⟩,rfl,⟨_,ti3⟩,rfl,⟨_,ti3⟩,trivial⟩⟩
theorem ts30:TS prog 30 [(0,2),(2,2),(4,2),(6,1)]:=⟨_,underlying30,⟨rfl,⟨_,ti27⟩,rfl,⟨_,ti27⟩,rfl,⟨_,ti27⟩,rfl,⟨_,ti28⟩,trivial⟩⟩
theorem ts50:TS prog 50 [(0,1),(1,1)]:=⟨_,underlying50,⟨rfl,⟨_,ti3⟩,rfl,⟨_,ti3⟩,trivial⟩⟩
theorem ts32:TS prog 32 [(0,1),(1,1),(2,1),(3,1)]:=⟨_,underlying32,⟨rfl,⟨_,ti3⟩,rfl,⟨_,ti3⟩,rfl,⟨_,ti3⟩,rfl,⟨_,ti3⟩,trivial⟩⟩
theorem ts42:TS prog 42 [(0,1),(1,1)]:=⟨_,underlying42,⟨rfl,⟨_,ti9⟩,rfl,⟨_,ti40⟩,trivial⟩⟩
theorem ts49:TS prog 49 [(0,1),(1,2)]:=⟨_,underlying49,⟨rfl,⟨_,ti3⟩,rfl,⟨_,ti27⟩,trivial⟩⟩
theorem ts52:TS prog 52 [(0,1),(1,1),(2,1),(3,1),(4,2)]:=⟨_,underlying52,⟨rfl,⟨_,ti9⟩,rfl,⟨_,ti3⟩,rfl,⟨_,ti40⟩,rfl,⟨_,ti40⟩,rfl,⟨_,ti50⟩,trivial⟩⟩
theorem tz75:TZ prog 75 [.nilFunc]:=Qg6 (by kernel_rfl)
theorem Qf2:Qbl 44:=entr func44
theorem Qk1:Qbl 53:=entr func53
theorem Qv4:Qbl 43:=entr func43
theorem Qrx:Qbl 27:=entr func27
theorem zb4:∃i,prog.info? 4=some i∧i.zero=some (.bool false):=Qx8 (by kernel_rfl)
theorem tz42:TZ prog 42 [.string ⟨#[]⟩,.slice none 0 0]:=Qg6 (by kernel_rfl)
theorem Qrt:Qbl 39:=entr func39
theorem Qvu:Qbl 55:=entr func55
theorem Qvq:Qbl 59:=entr func59
theorem Qr1:Qbl 13:=entr func13
theorem Qvr:Qbl 58:=entr func58
theorem Qvv:Qbl 54:=entr func54
theorem Qv1:Qbl 47:=entr func47
theorem Qv2:Qbl 46:=entr func46
theorem Qv3:Qbl 45:=entr func45
theorem Qrw:Qbl 29:=entr func29
theorem Qwd:Qbl 28:=entr func28
theorem tz52:TZ prog 52 [.string ⟨#[]⟩,.int .i64 0,.slice none 0 0,.slice none 0 0,.int .i64 0,.int .i64 0]:=Qg6 (by kernel_rfl)
theorem Qv6:Qbl 40:=entr func40
theorem Qv5:Qbl 41:=entr func41
theorem Qrz:Qbl 24:=entr func24
theorem Qvz:Qbl 49:=entr func49
theorem Qv0:Qbl 48:=entr func48
theorem Qwb:Qbl 31:=entr func31
theorem Qwc:Qbl 30:=entr func30
theorem Qnh:Qbl 20:=entr func20
theorem Qwl:Qbl 11:=entr func11
theorem te3:TE prog 3 1 8:=Qm7 (by kernel_rfl) (by decide)
theorem tz3:TZ prog 3 [.int .i64 0]:=Qg6 (by kernel_rfl)
theorem tz92:TZ prog 92 [.int .i64 0,.int .i64 0,.int .i64 0,.int .i64 0,.int .i64 0,.slice none 0 0,.slice none 0 0]:=Qg6 (by kernel_rfl)
theorem Qry:Qbl 26:=entr func26
theorem Qi7:Qbl 42:=entr func42
theorem Qwa:Qbl 32:=entr func32
theorem Qwk:Qbl 12:=entr func12
theorem Qwj:Qbl 14:=entr func14
theorem tz68:TZ prog 68 [.int .i64 0,.int .i64 0,.int .i64 0]:=Qg6 (by kernel_rfl)
theorem te68:TE prog 68 3 24:=Qm7 (by kernel_rfl) (by decide)
theorem tz27:TZ prog 27 [.int .i64 0,.int .i64 0]:=Qg6 (by kernel_rfl)
theorem Qk2:Qbl 33:=entr func33
theorem tz49:TZ prog 49 [.int .i64 0,.int .i64 0,.int .i64 0]:=Qg6 (by kernel_rfl)
theorem Qni:Qbl 18:=entr func18
theorem Qv9:Qbl 34:=entr func34
theorem Qr0:Qbl 15:=entr func15
theorem tz4:TZ prog 4 [.bool false]:=Qg6 (by kernel_rfl)
theorem Qv8:Qbl 35:=entr func35
theorem Qvx:Qbl 51:=entr func51
theorem tz38:TZ prog 38 [.int .i64 0,.int .i64 0,.int .i64 0]:=Qg6 (by kernel_rfl)
theorem Qnj:Qbl 17:=entr func17
theorem Qrv:Qbl 36:=entr func36
theorem Qvs:Qbl 57:=entr func57
theorem te27:TE prog 27 2 16:=Qm7 (by kernel_rfl) (by decide)
theorem Qvw:Qbl 52:=entr func52
theorem Qvt:Qbl 56:=entr func56
theorem Qru:Qbl 37:=entr func37
theorem Qvy:Qbl 50:=entr func50
theorem Qwi:Qbl 19:=entr func19
theorem tz30:TZ prog 30 [.int .i64 0,.int .i64 0,.int .i64 0,.int .i64 0,.int .i64 0,.int .i64 0,.slice none 0 0]:=Qg6 (by kernel_rfl)
theorem Qub:Qbl 9:=entr func9
theorem Qk3:Qbl 16:=entr func16
theorem tz50:TZ prog 50 [.int .i64 0,.int .i64 0]:=Qg6 (by kernel_rfl)
theorem Qv7:Qbl 38:=entr func38
theorem Qwg:Qbl 22:=entr func22
theorem Qwh:Qbl 21:=entr func21
theorem Qwf:Qbl 23:=entr func23
theorem Qwe:Qbl 25:=entr func25
theorem Qg4:Qbl 4:=entr func4
theorem tz32:TZ prog 32 [.int .i64 0,.int .i64 0,.int .i64 0,.int .i64 0]:=Qg6 (by kernel_rfl)
theorem Qj2:Qbl 5:=entr func5
theorem te38:TE prog 38 3 24:=Qm7 (by kernel_rfl) (by decide)
theorem tz5:TZ prog 5 [.int .u8 0]:=Qg6 (by kernel_rfl)
theorem te42:TE prog 42 2 40:=Qm7 (by kernel_rfl) (by decide)
theorem tz44:TZ prog 44 [.int .i64 0,.int .i64 0]:=Qg6 (by kernel_rfl)
theorem Qxx:Qbl 6:=entr func6
theorem te49:TE prog 49 3 24:=Qm7 (by kernel_rfl) (by decide)
theorem te52:TE prog 52 6 88:=Qm7 (by kernel_rfl) (by decide)
theorem Qxw:Qbl 7:=entr func7
theorem Qxv:Qbl 8:=entr func8
theorem Qwm:Qbl 10:=entr func10
theorem Qy1:EqT prog 10000 27 2:=Qo5 (d:=9998) underlying27 (by kernel_rfl) (.int _ (by decide) rfl underlying3 (.int _ (by decide) rfl underlying3 (.nil _)))
def tyT:Tab:=.node 42 ⟨true,2,(some [.string ⟨#[]⟩,.slice none 0 0]),[(0,false,1),(1,false,1)]⟩ (.node 30 ⟨true,7,(some [.int .i64 0,.int .i64 0,.int .i64 0,.int .i64 0,.int .i64 0,.int .i64 0,.slice none 0 0]),[(0,true,2),(2,true,2),(4,true,2),(6,false,1)]⟩ (.node 9 ⟨false,1,none,[]⟩ (.node 4 ⟨false,1,(some [.bool false]),[]⟩ (.node 3 ⟨false,1,(some [.int .i64 0]),[]⟩ .nil .nil) (.node 5 ⟨false,1,(some [.int .u8 0]),[]⟩ .nil .nil)) (.node 28 ⟨false,1,none,[]⟩ (.node 27 ⟨true,2,(some [.int .i64 0,.int .i64 0]),[(0,false,1),(1,false,1)]⟩ .nil .nil) .nil)) (.node 37 ⟨true,3,none,[(0,false,1),(1,false,1),(2,false,1)]⟩ (.node 33 ⟨false,1,none,[]⟩ (.node 32 ⟨true,4,(some [.int .i64 0,.int .i64 0,.int .i64 0,.int .i64 0]),[(0,false,1),(1,false,1),(2,false,1),(3,false,1)]⟩ .nil .nil) .nil) (.node 40 ⟨false,1,none,[]⟩ (.node 38 ⟨true,3,(some [.int .i64 0,.int .i64 0,.int .i64 0]),[(0,false,1),(1,false,1),(2,false,1)]⟩ .nil .nil) .nil))) (.node 52 ⟨true,6,(some [.string ⟨#[]⟩,.int .i64 0,.slice none 0 0,.slice none 0 0,.int .i64 0,.int .i64 0]),[(0,false,1),(1,false,1),(2,false,1),(3,false,1),(4,true,2)]⟩ (.node 46 ⟨true,3,none,[(0,false,1),(1,true,2)]⟩ (.node 44 ⟨true,2,(some [.int .i64 0,.int .i64 0]),[(0,false,1),(1,false,1)]⟩ (.node 43 ⟨false,1,none,[]⟩ .nil .nil) .nil) (.node 50 ⟨true,2,(some [.int .i64 0,.int .i64 0]),[(0,false,1),(1,false,1)]⟩ (.node 49 ⟨true,3,(some [.int .i64 0,.int .i64 0,.int .i64 0]),[(0,false,1),(1,true,2)]⟩ .nil .nil) .nil)) (.node 75 ⟨false,1,(some [.nilFunc]),[]⟩ (.node 68 ⟨true,3,(some [.int .i64 0,.int .i64 0,.int .i64 0]),[(0,false,1),(1,false,1),(2,false,1)]⟩ (.node 66 ⟨false,1,none,[]⟩ .nil .nil) .nil) (.node 98 ⟨false,1,none,[]⟩ (.node 92 ⟨true,7,(some [.int .i64 0,.int .i64 0,.int .i64 0,.int .i64 0,.int .i64 0,.slice none 0 0,.slice none 0 0]),[(0,true,4),(4,false,1),(5,false,1),(6,false,1)]⟩ .nil .nil) .nil)))
theorem tbk:tyT.ok prog:=⟨⟨ti42,tz42,.inr ⟨_,underlying42,rfl,ti9,rfl,ti40,trivial⟩⟩,⟨⟨ti30,tz30,.inr ⟨_,underlying30,rfl,ti27,rfl,ti27,rfl,ti27,rfl,ti28,trivial⟩⟩,⟨⟨ti9,trivial,.inl rfl⟩,⟨⟨ti4,tz4,.inl rfl⟩,⟨⟨ti3,tz3,.inl rfl⟩,trivial,trivial⟩,⟨⟨ti5,tz5,.inl rfl⟩,trivial,trivial⟩⟩,⟨⟨ti28,trivial,.inl rfl⟩,⟨⟨ti27,tz27,.inr ⟨_,underlying27,rfl,ti3,rfl,ti3,trivial⟩⟩,trivial,trivial⟩,trivial⟩⟩,⟨⟨ti37,trivial,.inr ⟨_,underlying37,rfl,ti3,rfl,ti3,rfl,ti3,trivial⟩⟩,⟨⟨ti33,trivial,.inl rfl⟩,⟨⟨ti32,tz32,.inr ⟨_,underlying32,rfl,ti3,rfl,ti3,rfl,ti3,rfl,ti3,trivial⟩⟩,trivial,trivial⟩,trivial⟩,⟨⟨ti40,trivial,.inl rfl⟩,⟨⟨ti38,tz38,.inr ⟨_,underlying38,rfl,ti3,rfl,ti3,rfl,ti3,trivial⟩⟩,trivial,trivial⟩,trivial⟩⟩⟩,⟨⟨ti52,tz52,.inr ⟨_,underlying52,rfl,ti9,rfl,ti3,rfl,ti40,rfl,ti40,rfl,ti50,trivial⟩⟩,⟨⟨ti46,trivial,.inr ⟨_,underlying46,rfl,ti3,rfl,ti44,trivial⟩⟩,⟨⟨ti44,tz44,.inr ⟨_,underlying44,rfl,ti3,rfl,ti3,trivial⟩⟩,⟨⟨ti43,trivial,.inl rfl⟩,trivial,trivial⟩,trivial⟩,⟨⟨ti50,tz50,.inr ⟨_,underlying50,rfl,ti3,rfl,ti3,trivial⟩⟩,⟨⟨ti49,tz49,.inr ⟨_,underlying49,rfl,ti3,rfl,ti27,trivial⟩⟩,trivial,trivial⟩,trivial⟩⟩,⟨⟨ti75,tz75,.inl rfl⟩,⟨⟨ti68,tz68,.inr ⟨_,underlying68,rfl,ti3,rfl,ti3,rfl,ti3,trivial⟩⟩,⟨⟨ti66,trivial,.inl rfl⟩,trivial,trivial⟩,trivial⟩,⟨⟨ti98,trivial,.inl rfl⟩,⟨⟨ti92,tz92,.inr ⟨_,underlying92,rfl,ti32,rfl,ti3,rfl,ti40,rfl,ti40,trivial⟩⟩,trivial,trivial⟩,trivial⟩⟩⟩⟩
section
variable {ops : Array Oper} {X : Nat → Nat → Prop} {φ0 : Nat → FSlot} {w0 : World} {ro : Option Nat} {Q : Exit → AS → Prop} {s : AS} {id : Nat} {y : Code}
theorem wxz (h:AWp prog X φ0 w0 ro y Q (Qh9 tyT ops [] s)) (hm:MetX tyT ops [] s:=by exact⟨by kernel_rfl,by kernel_rfl⟩):AWp prog X φ0 w0 ro (.seq (.region id ops false) y) Q s:=Qx1 tbk [] trivial h hm
theorem wxz1 (h:Q .normal (Qh9 tyT ops [] s)) (hm:MetX tyT ops [] s:=by exact⟨by kernel_rfl,by kernel_rfl⟩):AWp prog X φ0 w0 ro (.region id ops false) Q s:=Que tbk [] trivial h hm
theorem wxe (h:AWp prog X φ0 w0 ro y Q (Qh9 tyT ops [] s)) (hf:prog.follows .mixedOrders=true:=by kernel_rfl) (hm:MetX tyT ops [] s:=by exact⟨by kernel_rfl,by kernel_rfl⟩) (ho:Qfo (ops.toList.zip (Qnd tyT ops [] s)) [] []=true:=by kernel_rfl):AWp prog X φ0 w0 ro (.seq (.region id ops true) y) Q s:=Qud tbk [] trivial h hf hm ho
end
end
section
open Go.ChangeShapes Go.WideShapes Go.ChangeAt Go.RowKit Go.Deep Go.Joins
theorem Try.own:ownKnob prog.godebug=none:=by kernel_rfl
theorem Try.laidOut:laidOutB prog=true:=by kernel_rfl
def noX:Nat→Nat→Prop:=fun _ _=>False
def noφ:Nat→FSlot:=fun _=>.unused
def RelL (w:World):List AV→List Value→Prop
 |[],[]=>True
 |a::l,v::k=>RelV noX noφ w a v∧RelL w l k
 |_,_=>False
theorem RelL.get {w:World}:∀{l:List AV}{k:List Value},RelL w l k→k.length=l.length∧∀i a,l[i]? = some a→RelV noX noφ w a (k.getD i undef)
 |[],[],_=>⟨rfl,by simp⟩
 |_::_,_::_,h=>by
  obtain⟨h1,h2⟩:=RelL.get h.2
  refine⟨by simp[h1],fun i a hi=>?_⟩
  cases i with
  |zero=>simp at hi;subst hi;exact h.1
  |succ i=>simpa using h2 i a (by simpa using hi)
theorem RelL.app {w:World}:∀{l l':List AV}{k k':List Value},RelL w l k→RelL w l' k'→RelL w (l++l') (k++k')
 |[],_,[],_,_,h=>h
 |_::_,_,_::_,_,h,h'=>⟨h.1,RelL.app h.2 h'⟩
theorem Qro {P:Program}{f:FuncId}{args:List AV}(h:Spec P f args [] (B true) []) {w:World}{vals:Array Value}(hr:RelL w args vals.toList):Calls P f vals w fun e w'=>e=.returned (.bool true)∧Below w.heap.size w w':=by
 obtain⟨h1,h2⟩:=hr.get
 refine(h.calls (X:=noX) (φ:=noφ) (by simpa using h1) (fun i a hi=>?_) (fun _=>rfl) (fun _ _ h=>h.elim)).mono ?_
 ·have:=h2 i a hi
  simpa [Array.getD_eq_getD_getElem?,List.getD_eq_getElem?_getD] using this
 ·rintro e w' ⟨v,φ',rfl,hv,hb⟩
  rw[Qbo hv]
  exact⟨rfl,hb⟩
def Opn (P:Program) (t:TypeId) (n:Nat) {T:Type}(c:T→List AV) (G:T→Prop):Prop:=
 P.cellsOf t=n∧(∀x,(c x).length=n)∧∀(H:Type) (enc:TypeId×Value→H) (w:World) (base:Nat) (spare:Nat→Bool) (held:Bool) (fuel:Nat) (cs:List Value) (x:DataW H×List MemPlace),
  DataW.trod enc P w base spare held fuel t cs=some x→(∀q∈x.1.weights P t,q≤reachBytes)→∃v:T,G v∧RelL w (c v) cs
theorem Qq9 {P:Program}{t:TypeId}{k:IntKind}(ht:P.underlying t=some (.int k)) (hc:P.cellsOf t=1):Opn P t 1 (fun x:Int=>[K k x]) (fun x=>(Lit.int k x).wf=true):=
 ⟨hc,fun _=>rfl,fun _ _ _ _ _ _ _ _ _ h _=>by
  obtain⟨n,rfl,_,hw⟩:=DataW.trod_int ht h
  exact⟨n,hw,.lit _,trivial⟩⟩
theorem Qu5 {w:World}{a:Addr}{v:Value}(h:w.cell? a=some v):a.spot=none∧a.block<w.heap.size:=by
 unfold World.cell? at h
 split at h
 ·rename_i hb
  split at h
  ·cases h
  ·rename_i hs
   exact⟨by simpa using hs,(Array.getElem?_eq_some_iff.1 hb).1⟩
 ·cases h
theorem Qgx (b o i:Nat):(⟨b,o,none⟩:Addr).add i=⟨b,o+i,none⟩:=by
 unfold Addr.add
 split
 ·rename_i h
  subst h
  rfl
 ·rfl
theorem Qls {T:Type}{p:Nat→T→Prop}:∀(n:Nat),(∀i,i<n→∃x,p i x)→∃l:List T,l.length=n∧∀i x,l[i]? = some x→p i x
 |0,_=>⟨[],rfl,by simp⟩
 |n+1,h=>by
  obtain⟨l,h1,h2⟩:=Qls n fun i hi=>h i (Nat.lt_succ_of_lt hi)
  obtain⟨x,hx⟩:=h n (Nat.lt_succ_self n)
  refine⟨l++[x],by simp[h1],fun i y hi=>?_⟩
  rcases Nat.lt_or_ge i n with hlt |hge
  ·rw[List.getElem?_append_left (by omega)] at hi
   exact h2 i y hi
  ·rw[List.getElem?_append_right (by omega)] at hi
   have:i=n:=by
    have:=(List.getElem?_eq_some_iff.1 hi).1
    simp at this
    omega
   subst this
   simp[h1] at hi
   exact hi▸hx
theorem Qip {H:Type}{P:Program}{e:TypeId}:∀{l:List (DataW H)}{d:DataW H},d∈l→∀q∈d.weights P e,q∈DataW.weightsAll P e l
 |[],_,h,_,_=>by cases h
 |x::l,d,h,q,hq=>by
  rw[DataW.weightsAll]
  rcases List.mem_cons.1 h with rfl |h
  ·exact List.mem_append_left _ hq
  ·exact List.mem_append_right _ (Qip h q hq)
theorem Qlu {P:Program}{t e:TypeId}{n bb:Nat}{T:Type}{c:T→List AV}{G:T→Prop}(ht:P.underlying t=some (.slice e)) (hc:P.cellsOf t=1) (he:Opn P e n c G) (hn:0<n) (hbb:P.bytesOf e=bb) :
  Opn P t 1 (fun l:List T=>[.dat n (l.map c)]) (fun l=>l.length≤maxLen∧(∀x∈l,G x)∧l.length*bb≤140737488351232):=
 ⟨hc,fun _=>rfl,fun H enc w base spare held fuel cs x h hwt=>by
  obtain⟨hce,hcl,hop⟩:=he
  rcases open_slice ht h with ⟨rfl,_⟩ |⟨a,len,cap,m,fu,D,Pl,rfl,hb,hl,hm,hmm,rfl,hi⟩
  ·exact⟨[],⟨Nat.zero_le _,by simp,by simp⟩,.dat n [] none 0 0 (fun _ _=>undef) (DatOK.nil n none 0 _ (Nat.zero_le _)) (by simp),trivial⟩
  ·have hlm:len≤m:=by rw[hmm];split<;>omega
   obtain⟨l,hll,hlp⟩:=Qls (p:=fun i (v:T)=>G v∧∃cs',cs'.length=n∧(∀j,j<n→w.cell? ((a.add (i*n)).add j)=cs'[j]?)∧RelL w (c v) cs') len fun i hil=>by
    obtain⟨cs',h1,h2⟩:=hi i (by omega)
    obtain⟨v,hG,hr⟩:=hop _ _ _ _ _ _ _ _ _ h2 fun q hq=>hwt q (by
     simp only[DataW.weights,ht]
     exact List.mem_cons_of_mem _ (List.mem_append_left _ (Qip (List.mem_map.2 ⟨i,List.mem_range.2 hil,rfl⟩) q hq)))
    rw[hce] at h1
    obtain⟨_,h3,h4⟩:=World.cells?_some h1
    exact⟨v,hG,cs',h3,h4,hr⟩
   refine⟨l,⟨by omega,fun x hx=>?_,?_⟩,?_,trivial⟩
   ·obtain⟨i,hi'⟩:=List.getElem?_of_mem hx
    exact(hlp i x hi').1
   ·have:=hwt ((((List.range len).map D).length+((List.range (m-len)).map fun j=>D (len+j)).length)*P.bytesOf e) (by
     simp only[DataW.weights,ht]
     exact List.mem_cons_self ..)
    rw[hbb,List.length_map,List.length_range,Nat.add_mul] at this
    rw[hll]
    exact Nat.le_trans (Nat.le_add_right _ _) this
   ·have elt:∀(i:Nat) y,(l.map c)[i]? = some y→∃v cs',l[i]? = some v∧y=c v∧cs'.length=n∧(∀j,j<n→w.cell? ((a.add (i*n)).add j)=cs'[j]?)∧RelL w (c v) cs':=fun i y hy=>by
     rw[List.getElem?_map] at hy
     cases hv:l[i]? with
     |none=>rw[hv] at hy;cases hy
     |some v=>
      rw[hv] at hy
      cases hy
      obtain⟨_,cs',h1,h2,h3⟩:=hlp i v hv
      exact⟨v,cs',rfl,rfl,h1,h2,h3⟩
    have key:∀(i:Nat) y,(l.map c)[i]? = some y→∀j,j<n→∃u,w.cell? ((a.add (i*n)).add j)=some u∧∀q,y[j]? = some q→RelV noX noφ w q u:=fun i y hy j hj=>by
     obtain⟨v,cs',hv,rfl,h1,h2,h3⟩:=elt i y hy
     obtain⟨u,hu⟩:∃u,cs'[j]? = some u:=⟨_,List.getElem?_eq_getElem (by omega)⟩
     refine⟨u,(h2 j hj).trans hu,fun q hq=>?_⟩
     have:=(h3.get).2 j q hq
     rwa [List.getD_eq_getElem?_getD,hu] at this
    rw[←hll]
    refine .dat n _ (some a) l.length cap (fun i j=>(w.cell? ((a.add (i*n)).add j)).getD undef) ⟨by simp,by omega,hm,fun y hy=>?_,fun hne=>?_⟩ fun i y hy j q hq=>?_
    ·obtain⟨v,_,rfl⟩:=List.mem_map.1 hy
     exact hcl v
    ·obtain⟨y0,hy0⟩:∃y0,(l.map c)[0]? = some y0:=by
      cases l with
      |nil=>exact absurd rfl hne
      |cons v l=>exact⟨c v,rfl⟩
     obtain⟨u,hu,_⟩:=key 0 y0 hy0 0 hn
     have ha0:(a.add (0*n)).add 0=a:=by simp[Addr.add]
     rw[ha0] at hu
     obtain⟨hs,hlt⟩:=Qu5 hu
     obtain⟨b,o,sp⟩:=a
     dsimp only at hs
     subst hs
     refine⟨b,o,rfl,fun i y hy j hj=>⟨⟨hlt,fun h=>h,(fun q h=>by cases h),(fun q L h=>by cases h),(fun q Y h=>by cases h),(fun q bs k h=>by cases h)⟩,?_⟩⟩
     obtain⟨u,hu,_⟩:=key i y hy j hj
     rw[Qgx,Qgx] at hu
     rw[hu,Qgx,Qgx,hu]
     rfl
    ·have hj:j<n:=by
      have h1:=(List.getElem?_eq_some_iff.1 hq).1
      obtain⟨v,_,rfl⟩:=List.mem_map.1 (List.mem_of_getElem? hy)
      rwa [hcl v] at h1
     obtain⟨u,hu,hr⟩:=key i y hy j hj
     rw[hu]
     exact hr q hq⟩
theorem Qfd {H:Type}{enc:TypeId×Value→H}{P:Program}{w:World}{base:Nat}{spare:Nat→Bool}{held:Bool}{fuel:Nat}{cs:List Value}{fs:Array Field}{xs:List (DataW H×List MemPlace)}(hf:∀(i:Nat) (f:Field),fs[i]? = some f→DataW.trod enc P w base spare held fuel f.type ((cs.drop f.offset).take (P.cellsOf f.type))=xs[i]?)
  (hxl:xs.length=fs.size) (hwt:∀q∈DataW.weightsEach P (fs.toList.map (·.type)) (xs.map (·.1)),q≤reachBytes) {n:Nat}{T:Type}{c:T→List AV}{G:T→Prop}(j:Nat) (f:Field) (hj:fs[j]? = some f) (hop:Opn P f.type n c G):∃v:T,G v∧RelL w (c v) ((cs.drop f.offset).take n):=by
 have hjl:j<xs.length:=by rw[hxl];exact(Array.getElem?_eq_some_iff.1 hj).1
 have h1:=hf j f hj
 rw[List.getElem?_eq_getElem hjl,hop.1] at h1
 exact hop.2.2 _ _ _ _ _ _ _ _ _ h1 fun q hq=>hwt q (DataW.weights_mem_each (j:=j) (by simp[hj]) (by rw[List.getElem?_map,List.getElem?_eq_getElem hjl];rfl) q hq)
theorem Qg5 {H:Type}{P:Program}{t:TypeId}{fs:Array Field}{xs:List (DataW H×List MemPlace)}{pl:List MemPlace}(ht:P.underlying t=some (.struct fs)) (h:∀q∈(DataW.agg (xs.map (·.1)),pl).1.weights P t,q≤reachBytes):∀q∈DataW.weightsEach P (fs.toList.map (·.type)) (xs.map (·.1)),q≤reachBytes:=
 fun q hq=>h q (by simp only[DataW.weights,ht];exact hq)
theorem Qlh {H:Type}{P:Program}{ts:List TypeId}{ds:List (DataW H)}(h:(DataW.weightsEach P ts ds).all (· ≤ reachBytes)=true) (j:Nat) {t:TypeId}{d:DataW H}(ht:ts[j]? = some t) (hd:ds[j]? = some d):∀q∈d.weights P t,q≤reachBytes:=
 fun q hq=>by simpa using List.all_eq_true.1 h q (DataW.weights_mem_each ht hd q hq)
theorem Qig {w:World}{A B':List AV}{cs:List Value}{k n k':Nat}(h:RelL w A (cs.take k)) (h':RelL w B' ((cs.drop k).take n)) (hk:k+n=k'):RelL w (A++B') (cs.take k'):=by
 subst hk
 rw[List.take_add]
 exact h.app h'
theorem Qix {w:World}{A:List AV}{cs:List Value}{n:Nat}(h:RelL w A ((cs.drop 0).take n)):RelL w A (cs.take n):=h
theorem Qnc {w:World}{A:List AV}{cs:List Value}{n:Nat}(h:RelL w A (cs.take n)) (hn:cs.length=n):RelL w A cs:=by
 subst hn
 rwa [List.take_length] at h
section
variable {H : Type} {enc : TypeId × Value → H} {P : Program} {w : World} {base : Nat} {spare : Nat → Bool} {held : Bool} {r : Reach} {b0 : Nat} {v : Value} {d : DataW H} {p : List MemPlace} {t : TypeId} {n : Nat} {T : Type} {c : T → List AV} {G : T → Prop}
theorem Qq8 (ho:Opn P t 1 c G) (a:T→AV) (ha:∀x,c x=[a x]) (h1:v.cells = #[v]) (h:DataW.Trod enc P w base spare held t v d p) (hwt:∀q∈d.weights P t,q≤reachBytes):∃x:T,G x∧RelV noX noφ w (a x) v:=by
 obtain⟨fuel,hf⟩:=h
 obtain⟨x,hG,hr⟩:=ho.2.2 _ _ _ _ _ _ _ _ _ hf hwt
 rw[ha,h1] at hr
 exact⟨x,hG,hr.1⟩
theorem Qne {k:IntKind}(ht:P.underlying t=some (.int k)) (hc:P.cellsOf t=1) (hv:Value.okWide P w r b0 t v) (h:DataW.Trod enc P w base spare held t v d p) (hwt:∀q∈d.weights P t,q≤reachBytes):∃x:Int,(Lit.int k x).wf=true∧RelV noX noφ w (K k x) v:=by
 obtain⟨n,rfl⟩:=okWide_int ht hv
 exact Qq8 (Qq9 ht hc) _ (fun _=>rfl) rfl h hwt
theorem Qlt {e:TypeId}(ht:P.underlying t=some (.slice e)) (ho:Opn P t 1 c G) (a:T→AV) (ha:∀x,c x=[a x]) (hv:Value.okWide P w r b0 t v) (h:DataW.Trod enc P w base spare held t v d p) (hwt:∀q∈d.weights P t,q≤reachBytes):∃x:T,G x∧RelV noX noφ w (a x) v:=by
 obtain⟨A,len,cap,rfl⟩:=okWide_slice ht hv
 exact Qq8 ho a ha rfl h hwt
end
section
variable {H : Type} {enc : TypeId × Value → H} {P : Program}
theorem Qhg (hl:laidOutB P=true) {W W':World}(hb:Below W.heap.size W W') {sp:Nat→Bool}:∀(ts:List TypeId) (vs:List Value) (ds:List (DataW H)) (ps:List MemPlace),
  ts.all (fun t=>P.readableRec t&&decide (t<P.types.size))=true→DataW.TrodAll enc P W 0 (fun _=>true) true ts vs ds ps→(∀x∈ps,x.block<W.heap.size)→(∀x∈ps,sp x.block=true) →
  DataW.TrodAll enc P W' 0 sp true ts vs ds ps
 |[],[],[],_,_,h,_,_=>h
 |[],_::_,_,_,_,h,_,_=>by simp[DataW.TrodAll] at h
 |[],[],_::_,_,_,h,_,_=>by simp[DataW.TrodAll] at h
 |_::_,[],_,_,_,h,_,_=>by simp[DataW.TrodAll] at h
 |_::_,_::_,[],_,_,h,_,_=>by simp[DataW.TrodAll] at h
 |t::ts,v::vs,d::ds,ps,hr,h,hlt,hsp=>by
  obtain⟨p,q,h1,h2,rfl⟩:=h
  rw[List.all_cons,Bool.and_eq_true,Bool.and_eq_true,decide_eq_true_eq] at hr
  refine⟨p,q,?_,Qhg hl hb ts vs ds q hr.2 h2 (fun x hx=>hlt x (List.mem_append_right _ hx)) (fun x hx=>hsp x (List.mem_append_right _ hx)),rfl⟩
  exact WideElems.Trod_stays hl hr.1.1 hr.1.2 h1 (fun x hx=>hb.same (hlt x (List.mem_append_left _ hx))) (fun x hx=>hsp x (List.mem_append_left _ hx))
theorem Qtl {f:Func}{s:ChangeSpec}{W W':World}{args:Array Value}{ds:List (DataW H)}{before:List MemPlace}(tb:TypeId)
  (hW:DataW.Whole enc P f.params.toList s.vars false W args.toList ds [] before) (hl:laidOutB P=true) (hp:f.params.toList.all (fun t=>P.readableRec t&&decide (t<P.types.size))=true)
  (hrt:f.resultTypes = #[tb]) (htb:P.underlying tb=some .bool) (hv:s.vars=[]) (hs1:(s.fn H (ds++[])).results=[.lit (.bool true)]) (hs2:(s.fn H (ds++[])).args=ds) (hs3:(s.fn H (ds++[])).vars=[])
  (hb:Below W.heap.size W W'):s.post enc P f false true false false W args (.bool true) W':=by
 have hlt:∀p∈before,p.block<W.heap.size:=fun p hp=>hW.lt p hp
 have hold:∀p∈before,(fun b=>decide (b<W.heap.size)) p.block=true:=fun p hp=>by simpa using hlt p hp
 obtain⟨pa,pv,hA,hV,he,hz,hn⟩:=hW
 rw[hv] at hV
 have hpv:pv=[]:=hV
 subst hpv
 rw[List.append_nil] at he
 subst he
 have hargs:∀sp:Nat→Bool,(∀p∈before,sp p.block=true)→DataW.TrodAll enc P W' 0 sp true f.params.toList args.toList (s.fn H (ds++[])).args before:=fun sp hsp=>by
  rw[hs2]
  exact Qhg hl hb _ _ _ _ hp hA hlt hsp
 have hvars:∀sp:Nat→Bool,DataW.TrodVars enc P W' sp s.vars (s.fn H (ds++[])).vars []:=fun sp=>by
  rw[hv,hs3]
  exact rfl
 have hres:∀(b:Nat) (sp:Nat→Bool) (hd:Bool),DataW.TrodAll enc P W' b sp hd f.resultTypes.toList ((Value.bool true).resultList f.resultTypes.size) (s.fn H (ds++[])).results []:=fun b sp hd=>by
  rw[hs1,hrt]
  exact trodAll_mk1 (shut_bool htb _)
 have hok:=ok_one (P:=P) (W':=W') (f:=f) (v:=.bool true) hrt rfl (okWide_bool_mk htb _)
 refine⟨ds,[],before,[],before,[],⟨before,[],hA,by rw[hv];exact rfl,by simp,hz,fun h=>by cases h⟩,hres _ _ _,hargs _ hold,hvars _,World.keptBut_mono (fun p hp=>⟨hp,Or.inr (Or.inl hp)⟩) (hb.frame (· ∈ before)),fun _=>?_⟩
 refine⟨hok,_,_,([]++before)++[],⟨[]++before,[],trodAll_append (hargs _ (fun _ _=>rfl)) (hres _ _ _),hvars _,rfl,?_,?_⟩,?_⟩
 ·intro b off hp
  have hin:MemPlace.cell b off∈before:=by simpa using hp
  rw[hb.frozen (hlt _ hin)]
  exact hz b off hin
 ·intro ha
  cases ha
 ·intro p hp _
  simpa using hp
end
end
section
open Go.ChangeShapes Go.WideShapes Go.ChangeAt Go.RowKit Go.Deep Go.Joins
def Qi4 (x:Int):Prop:=(Lit.int .i64 x).wf=true
def Ql6 (x:Qah):Prop:=Qi4 x.A∧Qi4 x.B∧Qi4 x.C
def Qj1 (x:List Qah):Prop:=x.length≤maxLen∧(∀y∈x,Ql6 y)∧x.length*24≤140737488351232
theorem opn3:Opn prog 3 1 Qan Qi4:=Qq9 underlying3 (by kernel_rfl)
theorem Qyv:Opn prog 37 3 Qap Ql6:=⟨by kernel_rfl,fun _=>rfl,fun _ _ _ _ _ _ _ _ _ h hw=>by
  obtain⟨xs,n,_,rfl,hl,hx,hf⟩:=DataW.trod_struct underlying37 h
  have hz:=Qg5 underlying37 hw
  obtain⟨v0,g0,r0⟩:=Qfd hf hx hz 0 _ rfl opn3
  obtain⟨v1,g1,r1⟩:=Qfd hf hx hz 1 _ rfl opn3
  obtain⟨v2,g2,r2⟩:=Qfd hf hx hz 2 _ rfl opn3
  exact⟨⟨v0,v1,v2⟩,⟨g0,g1,g2⟩,Qnc (Qig (Qig (Qix r0) r1 rfl) r2 rfl) (hl.trans (by kernel_rfl))⟩⟩
theorem Qyx:Opn prog 22 1 Qja Qj1:=Qlu underlying22 (by kernel_rfl) Qyv (by decide) (by kernel_rfl)
def Ql5 (x:Qaa):Prop:=Qi4 x.Lo∧Qi4 x.Hi
def Qoe (x:Qbd):Prop:=Qi4 x.Flow∧Ql5 x.In
def Ql4 (x:List Qbd):Prop:=x.length≤maxLen∧(∀y∈x,Qoe y)∧x.length*24≤140737488351232
theorem Qyu:Opn prog 44 2 Qar Ql5:=⟨by kernel_rfl,fun _=>rfl,fun _ _ _ _ _ _ _ _ _ h hw=>by
  obtain⟨xs,n,_,rfl,hl,hx,hf⟩:=DataW.trod_struct underlying44 h
  have hz:=Qg5 underlying44 hw
  obtain⟨v0,g0,r0⟩:=Qfd hf hx hz 0 _ rfl opn3
  obtain⟨v1,g1,r1⟩:=Qfd hf hx hz 1 _ rfl opn3
  exact⟨⟨v0,v1⟩,⟨g0,g1⟩,Qnc (Qig (Qix r0) r1 rfl) (hl.trans (by kernel_rfl))⟩⟩
theorem Qyt:Opn prog 46 3 Qbc Qoe:=⟨by kernel_rfl,fun _=>rfl,fun _ _ _ _ _ _ _ _ _ h hw=>by
  obtain⟨xs,n,_,rfl,hl,hx,hf⟩:=DataW.trod_struct underlying46 h
  have hz:=Qg5 underlying46 hw
  obtain⟨v0,g0,r0⟩:=Qfd hf hx hz 0 _ rfl opn3
  obtain⟨v1,g1,r1⟩:=Qfd hf hx hz 1 _ rfl Qyu
  exact⟨⟨v0,v1⟩,⟨g0,g1⟩,Qnc (Qig (Qix r0) r1 rfl) (hl.trans (by kernel_rfl))⟩⟩
theorem Qyw:Opn prog 23 1 Qij Ql4:=Qlu underlying23 (by kernel_rfl) Qyt (by decide) (by kernel_rfl)
def Qod (x:Int):Prop:=(Lit.int .u16 x).wf=true
def Qvm (x:Int):Prop:=(Lit.int .u8 x).wf=true
end
section
def Qbw (_N:Nat) (p0 p1 p2:Int):Option Bool:=
  bif (decide (p1≤p0)) then
   some (decide (p0≤p2))
  else
   some false
theorem Qb9 (N:Nat) (p0 p1 p2:Int) (r:Bool) (h:Qbw N p0 p1 p2=some r):Spec prog 44 [(I p0),(I p1),(I p2)] [] (B r) []:=by
  refine sA func44 0 fun _ _ _ hq hd0=>?_
  unfold Qbw at h
  refine wxz ?_
  refine bfe h (fun hb1 h=>?_) fun hb1 h=>?_
  ·refine wx tbk [(3,rp [(.tmp 9,(B ((decide (p1≤p0)))))] (B true))] ⟨asb hb1 (amv rfl),tv⟩<|Qad ?_
   obtain rfl:=osi h
   exact fend ⟨[(B ((decide (p0≤p2))))],⟨rot,tv⟩,rfl⟩ nll
  ·exact wx tbk [(3,rp [(.tmp 9,(B ((decide (p1≤p0)))))] (B false))] ⟨asb hb1 (amv rfl),tv⟩<|Qad<|frb h
def Qbz (_N:Nat) (p0:Qam):Option Int:=
  (some (w64 ((w64 (p0.X*p0.Y))*p0.Z))).bind fun x1=>
  some x1
theorem Qc2 (N:Nat) (p0:Qam) (r:Int) (h:Qbz N p0=some r):Spec prog 53 [(.agg (Qc9 p0))] [] (I r) []:=by
  refine sA func53 0 fun _ _ _ hq hd0=>?_
  unfold Qbz at h
  refine wxz ?_
  obtain⟨x1,hl2,h⟩:=bno h
  refine wx tbk [(8,rp [(.tmp 10,(I (w64 ((w64 (p0.X*p0.Y))*p0.Z))))] (I x1))] ⟨Qnt hl2 (aas rfl),tv⟩<|Qad ?_
  obtain rfl:=osi h
  exact fend ⟨[I x1],⟨rot,tv⟩,rfl⟩ nll
def Qef (N:Nat) (p0:Qam):Option Bool:=
  (Qbw N p0.X 1 8).bind fun x2=>
  bif x2 then
   (Qbw N p0.Y 1 8).bind fun x5=>
   bif x5 then
    (Qbw N p0.Z 1 8).bind fun x8=>
    bif x8 then
     (Qbz N p0).bind fun x11=>
     bif (decide (x11≤64)) then
      (Qbw N p0.Kinds 1 6).bind fun x14=>
      some x14
     else
      some false
    else
     some false
   else
    some false
  else
   some false
def z5_2 (p0:Qam) (x2:Bool):List (Nat×Rec):=[(2,rp [fu 44,((.tmp 4),(I p0.X)),ci 1,ci 8] (B x2))]
def z5_3 p0 x2 (x5:Bool):=hcat (z5_2 p0 x2) [(3,rp [((.tmp 5),(B x2))] (B true)),(6,rp [((.tmp 6),(B true)),fu 44,((.tmp 8),(I p0.Y)),ci 1,ci 8] (B x5))]
def z5_4 p0 x2 x5 (x8:Bool):=hcat (z5_3 p0 x2 x5) [(8,rp [((.tmp 10),(B x5))] (B true)),(11,rp [((.tmp 11),(B true)),fu 44,((.tmp 13),(I p0.Z)),ci 1,ci 8] (B x8))]
def z5_1 (p0:Qam):AV:=.agg [(I p0.X),(I p0.Y),(I p0.Z),(I p0.Kinds)]
def z5_5 p0 x2 x5 x8 (x11:Int):=hcat (z5_4 p0 x2 x5 x8) [(13,rp [((.tmp 15),(B x8))] (B true)),(15,rp [((.tmp 16),(B true)),fu 53,((.tmp 17),(z5_1 p0))] (I x11))]
theorem Qgf (N:Nat) (p0:Qam) (r:Bool) (h:Qef N p0=some r):Spec prog 43 [(.agg (Qc9 p0))] [] (B r) []:=by
  refine sA func43 0 fun _ _ _ hq hd0=>?_
  unfold Qef at h
  refine wxz ?_
  obtain⟨x2,hf1,h⟩:=bno h
  refine hpre (A:=(z5_2 p0 x2)) ⟨apv Qf2 (Qb9 N p0.X 1 8 _ hf1) (nlcc (nlc nll nl0)) nll,tv⟩ fun q1_=>?_
  refine bfe h (fun hb3 h=>?_) fun hb3 h=>?_
  ·obtain⟨x5,hf4,h⟩:=bno h
   refine hpre (A:=(z5_3 p0 x2 x5)) (hap q1_ ⟨asb hb3 (amv rfl),ag_ (apv Qf2 (Qb9 N p0.Y 1 8 _ hf4) (nlcc (nlc nll nl0)) nll),tv⟩) fun q2_=>?_
   refine bfe h (fun hb6 h=>?_) fun hb6 h=>?_
   ·obtain⟨x8,hf7,h⟩:=bno h
    refine hpre (A:=(z5_4 p0 x2 x5 x8)) (hap q2_ ⟨asb hb6 (amv rfl),ag_ (apv Qf2 (Qb9 N p0.Z 1 8 _ hf7) (nlcc (nlc nll nl0)) nll),tv⟩) fun q3_=>?_
    refine bfe h (fun hb9 h=>?_) fun hb9 h=>?_
    ·obtain⟨x11,hf10,h⟩:=bno h
     refine hpre (A:=(z5_5 p0 x2 x5 x8 x11)) (hap q3_ ⟨asb hb9 (amv rfl),ag_ (apv Qk1 (Qc2 N p0 _ hf10) (nlc (NLt.agg _ (nlcc (nlcc nl0))) nl0) nll),tv⟩) fun q4_=>?_
     refine bfe h (fun hb12 h=>?_) fun hb12 h=>?_
     ·obtain⟨x14,hf13,h⟩:=bno h
      exact wx tbk (hcat (z5_5 p0 x2 x5 x8 x11) [(18,rp [(.tmp 20,(B ((decide (x11≤64)))))] (B true)),(21,rp [(.tmp 21,B true),fu 44,(.tmp 23,I p0.Kinds),ci 1,ci 6] (B x14))]) (hap q4_ ⟨asb hb12 (amv rfl),ag_ (apv Qf2 (Qb9 N p0.Kinds 1 6 _ hf13) (nlcc (nlc nll nl0)) nll),tv⟩)<|Qad<|frb h
     ·exact wx tbk (hcat (z5_5 p0 x2 x5 x8 x11) [(18,rp [(.tmp 20,(B ((decide (x11≤64)))))] (B false))]) (hap q4_ ⟨asb hb12 (amv rfl),tv⟩)<|Qad<|frb h
    ·exact wx tbk (hcat (z5_4 p0 x2 x5 x8) [(13,rp [(.tmp 15,B x8)] (B false))]) (hap q3_ ⟨asb hb9 (amv rfl),tv⟩)<|Qad<|frb h
   ·exact wx tbk (hcat (z5_3 p0 x2 x5) [(8,rp [(.tmp 10,B x5)] (B false))]) (hap q2_ ⟨asb hb6 (amv rfl),tv⟩)<|Qad<|frb h
  ·exact wx tbk (hcat (z5_2 p0 x2) [(3,rp [(.tmp 5,B x2)] (B false))]) (hap q1_ ⟨asb hb3 (amv rfl),tv⟩)<|Qad<|frb h
def Qb6 (N:Nat) (p0:Qam):Option Int:=
  (Qef N p0).bind fun x2=>
  bif (!x2) then
   some 1
  else
   some 0
theorem Qew (N:Nat) (p0:Qam) (r:Int) (h:Qb6 N p0=some r):Spec prog 27 [(.agg (Qc9 p0))] [] (I r) []:=by
  refine sA func27 0 fun _ _ _ hq hd0=>?_
  unfold Qb6 at h
  refine wxz<|wsq ?_
  obtain⟨x2,hf1,h⟩:=bno h
  refine wx tbk [(1,rp _ _)] ⟨apw Qv4 (Qgf N p0 _ hf1),tv⟩ ?_
  refine bfe h (fun hc3 h=>?_) fun hc3 h=>?_
  ·refine wft hc3<|wxz<|Qad<|Qac ?_
   obtain rfl:=osi h
   exact fend ⟨[I 1],⟨rot,tv⟩,rfl⟩ nll
  ·refine wfn hc3<|Qai<|thn<|wxz<|Qad ?_
   obtain rfl:=osi h
   exact fend ⟨[I 0],⟨rot,tv⟩,rfl⟩ nll
def Qcj (N:Nat) (p0:ByteArray) (k1:Unit→Option Bool):Nat→Int→Option Bool
  |0,_=>none
  |n6+1,y4=>
    bif (decide (y4<(ByteArray.size p0:Int))) then
     (getB p0 y4).bind fun x8=>
     bif (decide (x8≥97)) then
      (getB p0 y4).bind fun x11=>
      bif (!(decide (x11≤122))) then
       bif (y4==0) then
        some false
       else
        (getB p0 y4).bind fun x15=>
        bif (decide (x15<48)) then
         some false
        else
         (getB p0 y4).bind fun x18=>
         bif (decide (x18>57)) then
          some false
         else
          Qcj N p0 k1 n6 (w64 (y4+1))
      else
       Qcj N p0 k1 n6 (w64 (y4+1))
     else
      bif (y4==0) then
       some false
      else
       (getB p0 y4).bind fun x22=>
       bif (decide (x22<48)) then
        some false
       else
        (getB p0 y4).bind fun x25=>
        bif (decide (x25>57)) then
         some false
        else
         Qcj N p0 k1 n6 (w64 (y4+1))
    else
     k1 ()
def Qde (N:Nat) (p0:ByteArray):Option Bool:=
  Qdc (fun _=>
    (Qbw N (ByteArray.size p0:Int) 1 16).bind fun x3=>
    some x3) fun k1:Unit→Option Bool=>
  Qcj N p0 k1 N 0
def Quy (x11:Int):List (Nat×Rec):=[(2,rp [((.tmp 21),(B ((!(decide (x11≤122))))))] (B true))]
def Qux x11 (y4:Int) (p0:ByteArray) (x15:Int):=hcat (Quy x11) [(5,rp [((.tmp 22),(B true)),((.tmp 24),(B ((y4==0))))] (B false)),(8,rp [((.tmp 25),(B false)),((.tmp 26),(Sx p0)),((.tmp 27),(I y4))] (K .u8 x15))]
def Quw (y4:Int) (p0:ByteArray) (x22:Int):List (Nat×Rec):=[(5,rp [((.tmp 22),(B true)),((.tmp 24),(B ((y4==0))))] (B false)),(8,rp [((.tmp 25),(B false)),((.tmp 26),(Sx p0)),((.tmp 27),(I y4))] (K .u8 x22))]
theorem Qgd (N:Nat) (p0:ByteArray) (r:Bool) (h:Qde N p0=some r):Spec prog 39 [(Sx p0)] [] (B r) []:=by
  refine sA func39 0 fun _ _ _ hq hd0=>?_
  unfold Qde at h
  refine wxz ?_
  obtain⟨k1,hk_k1,h⟩:=jko h
  refine wjn (τ:=Unit) (fun t=>k1 t=some r) (fun _=>⟨mk 42 [(0,(Sx p0))],[]⟩) (fun t h=>?_) ?_
  ·subst hk_k1
   obtain⟨x3,hf2,h⟩:=bno h
   exact wx tbk [(1,rp [(.tmp 39,(Sx p0))] (I ((ByteArray.size p0:Int)))),(2,rp _ _)] ⟨Qj8 rfl underlying9,apw Qf2 (Qb9 N (ByteArray.size p0:Int) 1 16 _ hf2),tv⟩<|Qad<|frb h
  ·skip
   refine wx tbk [(1,rp [(.tmp 5,(Sx p0))] (I ((ByteArray.size p0:Int))))] ⟨Qj8 rfl underlying9,tv⟩<|Qal ?_
   refine wmr (mto (n:=42) (l':=[(0,(Sx p0)),(6,(I ((ByteArray.size p0:Int)))),(7,I 0)]) (own':=[]) [(0,(Sx p0)),(6,(I ((ByteArray.size p0:Int)))),(7,I 0)] [] [] hq (pw (pw (pw pn))) qn) ?_
   refine Qdk (τ:=Int) (fun n t=>Qcj N p0 k1 n t=some r) (fun y4=>⟨mk 42 [(0,(Sx p0)),(6,(I ((ByteArray.size p0:Int)))),(7,I y4)],[]⟩) (fun t h=>by rw[Qcj] at h;cases h) (fun n6 ih y4 h=>?_) N (0) h
   rw[Qcj] at h
   skip
   refine wxz<|wsq ?_
   refine bfe h (fun hc7 h=>?_) fun hc7 h=>?_
   ·refine wft hc7<|Qai<|thn<|wsq<|Qal<|wxz ?_
    obtain⟨x8,hg9,h⟩:=bno h
    refine bfe h (fun hb10 h=>?_) fun hb10 h=>?_
    ·obtain⟨x11,hg12,h⟩:=bno h
     refine wx tbk [(2,rp [(.tmp 10,(Sx p0)),(.tmp 11,I y4)] (K .u8 x8)),(4,rp [(.tmp 13,(B ((decide (x8≥97)))))] (B true)),(7,rp [(.tmp 14,B true),(.tmp 15,(Sx p0)),(.tmp 16,I y4)] (K .u8 x11))] ⟨Qfh rfl underlying9 hg9,asb hb10 (amv rfl),ag_ (Qfh rfl underlying9 hg12),tv⟩ ?_
     refine bfe h (fun hb13 h=>?_) fun hb13 h=>?_
     ·refine hpre (A:=(Quy x11)) ⟨asb hb13 (amv rfl),tv⟩ fun q1_=>?_
      refine bfe h (fun hb14 h=>?_) fun hb14 h=>?_
      ·exact wx tbk (hcat (Quy x11) [(5,rp [(.tmp 22,B true),(.tmp 24,(B ((y4==0))))] (B true))]) (hap q1_ ⟨asb hb14 (ag_ (amv rfl)),tv⟩)<|wtr<|wxz<|Qad<|Qag<|Qac<|Qac<|Qag<|Qac<|frb h
      ·obtain⟨x15,hg16,h⟩:=bno h
       refine hpre (A:=(Qux x11 y4 p0 x15)) (hap q1_ ⟨asb hb14 (ag_ (amv rfl)),ag_ (Qfh rfl underlying9 hg16),tv⟩) fun q2_=>?_
       refine bfe h (fun hb17 h=>?_) fun hb17 h=>?_
       ·exact wx tbk (hcat (Qux x11 y4 p0 x15) [(11,rp [(.tmp 22,B true),(.tmp 30,(B ((decide (x15<48)))))] (B true))]) (hap q2_ ⟨asb hb17 (ag_ (amv rfl)),tv⟩)<|wtr<|wxz<|Qad<|Qag<|Qac<|Qac<|Qag<|Qac<|frb h
       ·obtain⟨x18,hg19,h⟩:=bno h
        refine wx tbk (hcat (Qux x11 y4 p0 x15) [(11,rp [(.tmp 22,B true),(.tmp 30,(B ((decide (x15<48)))))] (B false)),(14,rp [(.tmp 31,B false),(.tmp 32,(Sx p0)),(.tmp 33,I y4)] (K .u8 x18))]) (hap q2_ ⟨asb hb17 (ag_ (amv rfl)),ag_ (Qfh rfl underlying9 hg19),tv⟩) ?_
        refine bfe h (fun hc20 h=>?_) fun hc20 h=>?_
        ·exact wft hc20<|wxz<|Qad<|Qag<|Qac<|Qac<|Qag<|Qac<|frb h
        ·exact wfn hc20<|Qai<|bln<|thn<|wxz1<|thn<|arm (mto (n:=42) [(0,(Sx p0)),(6,(I ((ByteArray.size p0:Int)))),(7,(I (w64 (y4+1))))] [] [] hq (pw (pw (pw pn))) qn) (ih (w64 (y4+1)) h)
     ·exact wx tbk [(2,rp [(.tmp 21,(B ((!(decide (x11≤122))))))] (B false))] ⟨asb hb13 (amv rfl),tv⟩<|wfa<|Qai<|bln<|thn<|wxz1<|thn<|arm (mto (n:=42) [(0,(Sx p0)),(6,(I ((ByteArray.size p0:Int)))),(7,(I (w64 (y4+1))))] [] [] hq (pw (pw (pw pn))) qn) (ih (w64 (y4+1)) h)
    ·refine wx tbk [(2,rp [(.tmp 10,(Sx p0)),(.tmp 11,I y4)] (K .u8 x8)),(4,rp [(.tmp 13,(B ((decide (x8≥97)))))] (B false))] ⟨Qfh rfl underlying9 hg9,asb hb10 (amv rfl),tv⟩ ?_
     refine bfe h (fun hb21 h=>?_) fun hb21 h=>?_
     ·exact wx tbk [(5,rp [(.tmp 22,B true),(.tmp 24,(B ((y4==0))))] (B true))] ⟨asb hb21 (ag_ (amv rfl)),tv⟩<|wtr<|wxz<|Qad<|Qag<|Qac<|Qac<|Qag<|Qac<|frb h
     ·obtain⟨x22,hg23,h⟩:=bno h
      refine hpre (A:=(Quw y4 p0 x22)) ⟨asb hb21 (ag_ (amv rfl)),ag_ (Qfh rfl underlying9 hg23),tv⟩ fun q3_=>?_
      refine bfe h (fun hb24 h=>?_) fun hb24 h=>?_
      ·exact wx tbk (hcat (Quw y4 p0 x22) [(11,rp [(.tmp 22,B true),(.tmp 30,(B ((decide (x22<48)))))] (B true))]) (hap q3_ ⟨asb hb24 (ag_ (amv rfl)),tv⟩)<|wtr<|wxz<|Qad<|Qag<|Qac<|Qac<|Qag<|Qac<|frb h
      ·obtain⟨x25,hg26,h⟩:=bno h
       refine wx tbk (hcat (Quw y4 p0 x22) [(11,rp [(.tmp 22,B true),(.tmp 30,(B ((decide (x22<48)))))] (B false)),(14,rp [(.tmp 31,B false),(.tmp 32,(Sx p0)),(.tmp 33,I y4)] (K .u8 x25))]) (hap q3_ ⟨asb hb24 (ag_ (amv rfl)),ag_ (Qfh rfl underlying9 hg26),tv⟩) ?_
       refine bfe h (fun hc27 h=>?_) fun hc27 h=>?_
       ·exact wft hc27<|wxz<|Qad<|Qag<|Qac<|Qac<|Qag<|Qac<|frb h
       ·exact wfn hc27<|Qai<|bln<|thn<|wxz1<|thn<|arm (mto (n:=42) [(0,(Sx p0)),(6,(I ((ByteArray.size p0:Int)))),(7,(I (w64 (y4+1))))] [] [] hq (pw (pw (pw pn))) qn) (ih (w64 (y4+1)) h)
   ·exact wfn hc7<|Qcp<|Qbf<|Qbf<|Qco rfl<|thn<|⟨(),h,(mto (n:=42) [(0,(Sx p0))] [] [] hq (pw pn) qn)⟩
def Qc8 (N:Nat) (p0:Int):Option Bool:=
  (Qbw N p0 (-100000) 100000).bind fun x2=>
  some x2
theorem Qf1 (N:Nat) (p0:Int) (r:Bool) (h:Qc8 N p0=some r):Spec prog 55 [(I p0)] [] (B r) []:=by
  refine sA func55 0 fun _ _ _ hq hd0=>?_
  unfold Qc8 at h
  refine wxz ?_
  obtain⟨x2,hf1,h⟩:=bno h
  exact wx tbk [(1,rp _ _)] ⟨apw Qf2 (Qb9 N p0 (-100000) 100000 _ hf1),tv⟩<|Qad<|frb h
def Qdt (N:Nat) (p0:Int):Option Bool:=
  (Qc8 N p0).bind fun x3=>
  some (!x3)
abbrev Qs5:Slot:=.own 1 [[(.fn (.func 55) [] [])]]
theorem Qge (N:Nat) (p0:Int) (r:Bool) (h:Qdt N p0=some r):Spec prog 59 [(I p0),(.ref 0 1 (0) 0)] [Qs5] (B r) [Qs5]:=by
  refine sF func59 1 fun _ _ _ hq hd0=>?_
  unfold Qdt at h
  refine wxz ?_
  obtain⟨x3,hf2,h⟩:=bno h
  refine wx tbk [(2,rp _ _)] ⟨apw Qvu (Qf1 N p0 _ hf2),tv⟩ ?_
  refine wmr (mto (n:=8) (l':=[(3,(B ((!x3))))]) (own':=[Qs5]) [(3,(B ((!x3))))] [0] [Qs5] hq (pw pn) (qb (lc (.rn (Qdw rn0 rn0)) ln) qn))<|Qad ?_
  obtain rfl:=osi h
  exact⟨_,Mor.rfl,fio [(B ((!x3)))] ⟨rot,tv⟩⟩
def Qav (N:Nat) (p0:List Int) (k2:Unit→Option Int):Nat→Int→Option Int
  |0,_=>none
  |n5+1,y3=>
    bif (decide (y3<(p0.length:Int))) then
     (getI p0 y3).bind fun x7=>
     (Qdt N x7).bind fun x12=>
     bif x12 then
      some y3
     else
      Qav N p0 k2 n5 (w64 (y3+1))
    else
     k2 ()
def Qcf (N:Nat) (p0:List Int):Option Int:=
  Qdc (fun _=>
    some (-1)) fun k2:Unit→Option Int=>
  Qav N p0 k2 N 0
abbrev Qqv:AV:=.fn (.func 59) [] [(.ref 0 1 (0) 0)]
abbrev Qhe:Slot:=.own 1 [[(.fn (.func 55) [] [])]]
theorem Qeu (N:Nat) (p0:List Int) (r:Int) (h:Qcf N p0=some r):Spec prog 13 [(.dat 1 (p0.map Qan)),Qqv] [Qhe] (I r) [Qhe]:=by
  refine sF func13 1 fun _ _ _ hq hd0=>?_
  unfold Qcf at h
  refine wxz ?_
  obtain⟨k2,hk_k2,h⟩:=jko h
  refine wjn (τ:=Unit) (fun t=>k2 t=some r) (fun _=>⟨mk 19 [],[Qhe]⟩) (fun t h=>?_) ?_
  ·subst hk_k2
   refine wxz<|wmr (mto (n:=19) (l':=[(4,(I ((-1))))]) (own':=[Qhe]) [(4,(I ((-1))))] [0] [Qhe] hq (pw pn) (qb (lc (.rn (Qdw rn0 rn0)) ln) qn))<|Qad ?_
   obtain rfl:=osi h
   exact⟨_,Mor.rfl,fio [(I ((-1)))] ⟨rot,tv⟩⟩
  ·skip
   refine wx tbk [(1,rp _ _)] ⟨alq 1 Qan p0 underlying40,tv⟩<|Qal ?_
   refine wmr (mto (n:=19) (l':=[(0,(.dat 1 (p0.map Qan))),(1,Qqv),(7,(I ((p0.length:Int)))),(8,I 0)]) (own':=[Qhe]) [(0,(.dat 1 (p0.map Qan))),(1,Qqv),(7,(I ((p0.length:Int)))),(8,I 0)] [0] [Qhe] hq (pc (rnd Qak) (pc (.rn (Qdw rn0 (rnc (rqr rfl) rn0))) (pw (pw pn)))) (qb (lc (.rn (Qdw rn0 rn0)) ln) qn)) ?_
   refine Qdk (τ:=Int) (fun n t=>Qav N p0 k2 n t=some r) (fun y3=>⟨mk 19 [(0,(.dat 1 (p0.map Qan))),(1,Qqv),(7,(I ((p0.length:Int)))),(8,I y3)],[Qhe]⟩) (fun t h=>by rw[Qav] at h;cases h) (fun n5 ih y3 h=>?_) N (0) h
   rw[Qav] at h
   skip
   refine wxz<|wsq ?_
   refine bfe h (fun hc6 h=>?_) fun hc6 h=>?_
   ·refine wft hc6<|Qai<|thn<|wsq<|Qal<|wxz ?_
    obtain⟨x7,hg8,h⟩:=bno h
    obtain⟨hi9,hj10⟩:=gsm hg8
    obtain⟨x12,hf11,h⟩:=bno h
    refine wx tbk [(3,rp _ _),(5,⟨_,_,_,_,false⟩)] ⟨aiq underlying40 ti3 Qan hi9 hj10,Qc7 (first:=[]) (cap:=[.ref 0 1 0 0]) (vs:=[I x7]) (σr:=[Qhe]) (σr':=[Qhe]) (res':=(B x12)) [0] rfl Qvq (Qge N x7 _ hf11) rfl (Qdl (rnc (.plain _ nll) (rnc (Qcn rfl) rn0))) (slc (Qaw (rnc (.plain _ (NLt.fn _ _ _ nl0 nl0)) rn0)) Qbb) (slc (Qaw (rnc (.plain _ (NLt.fn _ _ _ nl0 nl0)) rn0)) Qbb) (.plain _ nll) rfl rfl rfl,tv⟩ ?_
    refine bfe h (fun hc13 h=>?_) fun hc13 h=>?_
    ·refine wft hc13<|wxz ?_
     refine wmr (mto (n:=19) (l':=[(4,I y3)]) (own':=[Qhe]) [(4,I y3)] [0] [Qhe] hq (pw pn) (qb (lc (.rn (Qdw rn0 rn0)) ln) qn))<|Qad<|Qag<|Qac<|Qac<|Qag<|Qac ?_
     obtain rfl:=osi h
     exact⟨_,Mor.rfl,fio [I y3] ⟨rot,tv⟩⟩
    ·exact wfn hc13<|Qai<|bln<|thn<|wxz1<|thn<|arm (mto (n:=19) [(0,(.dat 1 (p0.map Qan))),(1,Qqv),(7,(I ((p0.length:Int)))),(8,(I (w64 (y3+1))))] [0] [Qhe] hq (pc (rnd Qak) (pc (.rn (Qdw rn0 (rnc (rqr rfl) rn0))) (pw (pw pn)))) (qb (lc (.rn (Qdw rn0 rn0)) ln) qn)) (ih (w64 (y3+1)) h)
   ·exact wfn hc6<|Qcp<|Qbf<|Qbf<|Qco rfl<|thn<|⟨(),h,(mto (n:=19) [] [0] [Qhe] hq pn (qb (lc (.rn (Qdw rn0 rn0)) ln) qn))⟩
def Qb5 (N:Nat) (p0:List Int):Option Bool:=
  (Qcf N p0).bind fun x3=>
  some (decide (x3≥0))
abbrev Qxc:AV:=.fn (.func 59) [] [(.ref 0 1 (0) 0)]
abbrev Qou:Slot:=.own 1 [[(.fn (.func 55) [] [])]]
theorem Qec (N:Nat) (p0:List Int) (r:Bool) (h:Qb5 N p0=some r):Spec prog 58 [(.dat 1 (p0.map Qan)),Qxc] [Qou] (B r) [Qou]:=by
  refine sF func58 1 fun _ _ _ hq hd0=>?_
  unfold Qb5 at h
  refine wxz ?_
  obtain⟨x3,hf2,h⟩:=bno h
  refine wx tbk [(2,⟨_,_,_,_,false⟩)] ⟨acq [(.dat 1 (p0.map Qan)),Qxc] [Qou] [Qou] (I x3) [0] Qr1 (Qeu N p0 _ hf2) (Qdl (rnc (pld Qak) (rnc (Qdw rn0 (rnc (Qcn rfl) rn0)) rn0))) (slc (Qaw (rnc (.plain _ (NLt.fn _ _ _ nl0 nl0)) rn0)) Qbb) (slc (Qaw (rnc (.plain _ (NLt.fn _ _ _ nl0 nl0)) rn0)) Qbb) (.plain _ nll),tv⟩ ?_
  refine wmr (mto (n:=9) (l':=[(4,(B ((decide (x3≥0)))))]) (own':=[Qou]) [(4,(B ((decide (x3≥0)))))] [0] [Qou] hq (pw pn) (qb (lc (.rn (Qdw rn0 rn0)) ln) qn))<|Qad ?_
  obtain rfl:=osi h
  exact⟨_,Mor.rfl,fio [(B ((decide (x3≥0))))] ⟨rot,tv⟩⟩
def Qdn (N:Nat) (p0:List Int):Option Bool:=
  (Qb5 N p0).bind fun x2=>
  some (!x2)
def Qxd:AV:=.fn (.func 59) [] [(.ref 0 1 (0) 0)]
def Qxe:Slot:=.own 1 [[(.fn (.func 55) [] [])]]
theorem Qha (N:Nat) (p0:List Int) (r:Bool) (h:Qdn N p0=some r):Spec prog 54 [(.dat 1 (p0.map Qan)),(.fn (.func 55) [] [])] [] (B r) []:=by
  refine sA func54 0 fun _ _ _ hq hd0=>?_
  unfold Qdn at h
  refine wxz ?_
  obtain⟨x2,hf1,h⟩:=bno h
  refine wx tbk [(1,rp [(.tmp 3,.ref 0 1 0 0)] Qxd),(2,⟨_,_,_,_,false⟩)] ⟨Qcu (fs:=[]) (cs:=[.ref 0 1 0 0]) rfl rfl rfl rfl,acq [(.dat 1 (p0.map Qan)),Qxd] [Qxe] [Qxe] (B x2) [0] Qvr (Qec N p0 _ hf1) (Qdl (rnc (pld Qak) (rnc (Qdw rn0 (rnc (Qcn rfl) rn0)) rn0))) (slc (Qaw (rnc (.plain _ (NLt.fn _ _ _ nl0 nl0)) rn0)) Qbb) (slc (Qaw (rnc (.plain _ (NLt.fn _ _ _ nl0 nl0)) rn0)) Qbb) (.plain _ nll),tv⟩<|Qad ?_
  obtain rfl:=osi h
  exact fend ⟨[(B ((!x2)))],⟨rot,tv⟩,rfl⟩ nll
def Qbm (N:Nat) (p0:Qam) (p1:Qaf):Option Int:=
  (Qde N p1.Name).bind fun x2=>
  bif (!x2) then
   some 5
  else
   (Qbz N p0).bind fun x5=>
   bif ((p1.Values.length:Int) != (w64 (p0.Kinds*x5))) then
    some 1
   else
    (Qdn N p1.Values).bind fun x8=>
    bif (!x8) then
     some 1
    else
     some 0
def Qu0 (p1:Qaf):AV:=.dat 1 (p1.Values.map Qan)
def Qyq (p0:Qam):AV:=.agg [(I p0.X),(I p0.Y),(I p0.Z),(I p0.Kinds)]
def Quz (p1:Qaf) (p0:Qam) (x5:Int):List (Nat×Rec):=[(2,rp [((.tmp 12),(Qu0 p1))] (I ((p1.Values.length:Int)))),(6,rp [fu 53,((.tmp 16),(Qyq p0))] (I x5))]
theorem Qgg (N:Nat) (p0:Qam) (p1:Qaf) (r:Int) (h:Qbm N p0 p1=some r):Spec prog 47 [(.agg (Qc9 p0)),(.agg (Qae p1))] [] (I r) []:=by
  refine sA func47 0 fun _ _ _ hq hd0=>?_
  unfold Qbm at h
  refine wxz<|wsq<|Qal ?_
  obtain⟨x2,hf1,h⟩:=bno h
  refine wx tbk [(2,rp _ _)] ⟨apw Qrt (Qgd N p1.Name _ hf1),tv⟩ ?_
  refine bfe h (fun hc3 h=>?_) fun hc3 h=>?_
  ·refine wft hc3<|wxz<|Qad<|Qag<|Qac ?_
   obtain rfl:=osi h
   exact fend ⟨[I 5],⟨rot,tv⟩,rfl⟩ nll
  ·refine wfn hc3 ?_
   obtain⟨x5,hf4,h⟩:=bno h
   refine hpre (A:=(Quz p1 p0 x5)) ⟨alq 1 Qan p1.Values underlying40,apv Qk1 (Qc2 N p0 _ hf4) (nlc (NLt.agg _ (nlcc (nlcc nl0))) nl0) nll,tv⟩ fun q1_=>?_
   refine bfe h (fun hb6 h=>?_) fun hb6 h=>?_
   ·refine wxd tbk (hcat (Quz p1 p0 x5) [(9,rp [(.tmp 19,(B (((p1.Values.length:Int) != (w64 (p0.Kinds*x5))))))] (B true))]) (hap q1_ ⟨asb hb6 (amv rfl),tv⟩)<|wtr<|wxz<|Qad<|Qag<|Qac ?_
    obtain rfl:=osi h
    exact fend ⟨[I 1],⟨rot,tv⟩,rfl⟩ nll
   ·obtain⟨x8,hf7,h⟩:=bno h
    refine wxd tbk (hcat (Quz p1 p0 x5) [(9,rp [(.tmp 19,(B (((p1.Values.length:Int) != (w64 (p0.Kinds*x5))))))] (B false)),(12,rp [(.tmp 20,B false),fu 54,(.tmp 22,(Qu0 p1)),fu 55] (B x8))]) (hap q1_ ⟨asb hb6 (amv rfl),ag_ (acq [(Qu0 p1),(.fn (.func 55) [] [])] [] [] (B x8) [] Qvv (Qha N p1.Values _ hf7) (Qdl (rnc (pld Qak) (rnc (.plain _ (NLt.fn _ _ _ nl0 nl0)) rn0))) Qbb Qbb (.plain _ nll)),tv⟩) ?_
    refine bfe h (fun hc9 h=>?_) fun hc9 h=>?_
    ·refine wft hc9<|wxz<|Qad<|Qag<|Qac ?_
     obtain rfl:=osi h
     exact fend ⟨[I 1],⟨rot,tv⟩,rfl⟩ nll
    ·refine wfn hc9<|Qai<|bln<|thn<|wxz<|Qad ?_
     obtain rfl:=osi h
     exact fend ⟨[I 0],⟨rot,tv⟩,rfl⟩ nll
def Qbp (N:Nat) (p0:Qaf) (p1 p2:Int) (p3 p4:Int):Option (ByteArray×Int):=
  (Qbm N (⟨p1,p2,p3,p4⟩:Qam) p0).bind fun x4=>
  some (p0.Name,x4)
abbrev Qyr (p0:Qaf):AV:=.agg [(Sx p0.Name),(.dat 1 (p0.Values.map Qan))]
abbrev Qs6 (p1 p2:Int) (p3 p4:Int):Slot:=.own 4 [[(I p1),(I p2),(I p3),(I p4)]]
theorem Qfk (N:Nat) (p0:Qaf) (p1 p2:Int) (p3 p4:Int) (r:(ByteArray×Int)) (h:Qbp N p0 p1 p2 p3 p4=some r):Spec prog 46 [(Qyr p0),(.ref 0 4 (0) 0)] [(Qs6 p1 p2 p3 p4)] (.tup [(Sx r.1),(I r.2)]) [(Qs6 p1 p2 p3 p4)]:=by
  refine sF func46 1 fun _ _ _ hq hd0=>?_
  unfold Qbp at h
  refine wxz ?_
  obtain⟨x4,hf3,h⟩:=bno h
  refine wxd tbk [(4,rp _ _)] ⟨apw Qv1 (Qgg N (⟨p1,p2,p3,p4⟩:Qam) p0 _ hf3),tv⟩ ?_
  refine wmr (mto (n:=10) (l':=[(3,(Sx p0.Name)),(4,I x4)]) (own':=[(Qs6 p1 p2 p3 p4)]) [(3,(Sx p0.Name)),(4,I x4)] [0] [(Qs6 p1 p2 p3 p4)] hq (pw (pw pn)) (qb (lcc (lcc ln)) qn))<|Qad ?_
  obtain rfl:=osi h
  exact⟨_,Mor.rfl,fio [(Sx p0.Name),I x4] ⟨rot,rot,tv⟩⟩
def Qa1 (N:Nat) (p0:List Qaf) (p1:Int) (k2:Unit→Option Int) (p2 p3 p4:Int):Nat→Int→(List ByteArray)→Option Int
  |0,_,_=>none
  |n7+1,y3,y4=>
    bif (decide (y3<(p0.length:Int))) then
     (getI p0 y3).bind fun x9=>
     (Qbp N x9 p1 p2 p3 p4).bind fun x14=>
     bif (x14.2 != 0) then
      some x14.2
     else
      bif y4.contains x14.1 then
       some 6
      else
       Qa1 N p0 p1 k2 p2 p3 p4 n7 (w64 (y3+1)) (addS y4 x14.1)
    else
     k2 ()
def Qba (N:Nat) (p0:List Qaf) (p1 p2:Int) (p3 p4:Int):Option Int:=
  Qdc (fun _=>
    some 0) fun k2:Unit→Option Int=>
  Qa1 N p0 p1 k2 p2 p3 p4 N 0 ([]:List ByteArray)
abbrev Qqx (p0:List Qaf):AV:=.dat 2 (p0.map Qae)
abbrev Qqw:AV:=.fn (.func 46) [] [(.ref 0 4 (0) 0)]
abbrev Qgy (p1 p2:Int) (p3 p4:Int):Slot:=.own 4 [[(I p1),(I p2),(I p3),(I p4)]]
theorem Qe6 (N:Nat) (p0:List Qaf) (p1 p2:Int) (p3 p4 r:Int) (h:Qba N p0 p1 p2 p3 p4=some r):Spec prog 45 [(Qqx p0),Qqw] [(Qgy p1 p2 p3 p4)] (I r) [(Qgy p1 p2 p3 p4)]:=by
  refine sF func45 1 fun _ _ _ hq hd0=>?_
  unfold Qba at h
  refine wxz<|wx tbk [(0,⟨[],[(1,.unused)],(.mp 1),[(1,(Qe2 ([]:List ByteArray)))],false⟩)] ⟨Qh7 rfl,tv⟩ ?_
  obtain⟨k2,hk_k2,h⟩:=jko h
  refine wjn (τ:=Unit) (fun t=>k2 t=some r) (fun _=>⟨mk 32 [],[(Qgy p1 p2 p3 p4)]⟩) (fun t h=>?_) ?_
  ·subst hk_k2
   refine wxz<|wmr (mto (n:=32) (l':=[(4,I 0)]) (own':=[(Qgy p1 p2 p3 p4)]) [(4,I 0)] [0] [(Qgy p1 p2 p3 p4)] hq (pw pn) (qb (lcc (lcc ln)) qn))<|Qad ?_
   obtain rfl:=osi h
   exact⟨_,Mor.rfl,fio [I 0] ⟨rot,tv⟩⟩
  ·skip
   refine wx tbk [(1,rp _ _)] ⟨alq 2 Qae p0 underlying33,tv⟩<|Qal ?_
   refine wmr (mto (n:=32) (l':=[(1,Qqw),(5,(.mp 1)),(11,(Qqx p0)),(12,(I ((p0.length:Int)))),(13,I 0)]) (own':=[(Qgy p1 p2 p3 p4),(Qe2 ([]:List ByteArray))]) [(1,Qqw),(5,(.mp 1)),(11,(Qqx p0)),(12,(I ((p0.length:Int)))),(13,I 0)] [0,1] [(Qgy p1 p2 p3 p4),(Qe2 ([]:List ByteArray))] hq (pc (.rn (Qdw rn0 (rnc (rqr rfl) rn0))) (pc (.rn (Qn5 rfl)) (pc (rnd Qaj) (pw (pw pn))))) (qb (lcc (lcc ln)) (qc Qhh qn))) ?_
   refine Qdk (τ:=Int×(List ByteArray)) (fun n t=>Qa1 N p0 p1 k2 p2 p3 p4 n t.1 t.2=some r) (fun ⟨y3,y4⟩=>⟨mk 32 [(1,Qqw),(5,(.mp 1)),(11,(Qqx p0)),(12,(I ((p0.length:Int)))),(13,I y3)],[(Qgy p1 p2 p3 p4),(Qe2 y4)]⟩) (fun t h=>by rw[Qa1] at h;cases h) (fun n7 ih t h=>?_) N (0,([]:List ByteArray)) h
   obtain⟨y3,y4⟩:=t
   rw[Qa1] at h
   skip
   refine wxz<|wsq ?_
   refine bfe h (fun hc8 h=>?_) fun hc8 h=>?_
   ·refine wft hc8<|Qai<|thn<|wsq<|Qal ?_
    obtain⟨x9,hg10,h⟩:=bno h
    obtain⟨hi11,hj12⟩:=gsm hg10
    refine wx tbk [(0,rp _ _)] ⟨aiq underlying33 ti42 Qae hi11 hj12,tv⟩ ?_
    obtain⟨x14,hf13,h⟩:=bno h
    refine wx tbk [(2,⟨_,_,_,_,false⟩)] ⟨Qc7 (first:=[]) (cap:=[.ref 0 4 0 0]) (vs:=[(.agg [(Sx x9.Name),(.dat 1 (x9.Values.map Qan))])]) (σr:=[(Qgy p1 p2 p3 p4)]) (σr':=[(Qgy p1 p2 p3 p4)]) (res':=(.tup [(Sx x14.1),I x14.2])) [0] rfl Qv2 (Qfk N x9 p1 p2 p3 p4 _ hf13) rfl (Qdl (rnc (.plain _ (NLt.agg _ (nlc nll (nlc (nld Qak _) nl0)))) (rnc (Qcn rfl) rn0))) (slc (Qaw (rncc (rncc rn0))) Qbb) (slc (Qaw (rncc (rncc rn0))) Qbb) (.plain _ (NLt.tup _ (nlcc nl0))) rfl rfl rfl,tv⟩<|wsq<|wxz ?_
    refine bfe h (fun hc15 h=>?_) fun hc15 h=>?_
    ·refine wft hc15<|wxz ?_
     refine wmr (mto (n:=32) (l':=[(4,I x14.2)]) (own':=[(Qgy p1 p2 p3 p4)]) [(4,I x14.2)] [0] [(Qgy p1 p2 p3 p4)] hq (pw pn) (qb (lcc (lcc ln)) qn))<|Qad<|Qac<|Qag<|Qac<|Qac<|Qag<|Qac ?_
     obtain rfl:=osi h
     exact⟨_,Mor.rfl,fio [I x14.2] ⟨rot,tv⟩⟩
    ·refine wfn hc15<|Qai<|thn<|wsq ?_
     refine wx tbk [(2,rb [(.tmp 26,(.mp 1)),(.tmp 27,(Sx x14.1))] [(1,(Qe2 y4))] (B (y4.contains x14.1)))] ⟨Qjk rfl underlying105 underlying9 zb4,tv⟩ ?_
     refine bfe h (fun hc16 h=>?_) fun hc16 h=>?_
     ·refine wft hc16<|wxz ?_
      refine wmr (mto (n:=32) (l':=[(4,I 6)]) (own':=[(Qgy p1 p2 p3 p4)]) [(4,I 6)] [0] [(Qgy p1 p2 p3 p4)] hq (pw pn) (qb (lcc (lcc ln)) qn))<|Qad<|Qac<|Qag<|Qac<|Qac<|Qag<|Qac ?_
      obtain rfl:=osi h
      exact⟨_,Mor.rfl,fio [I 6] ⟨rot,tv⟩⟩
     ·refine wfn hc16<|Qai<|thn ?_
      exact wx1 tbk [(2,⟨[(.tmp 29,(.mp 1)),(.tmp 30,(Sx x14.1)),cb true],[(1,(Qe2 y4))],.any,[(1,(Qe2 (addS y4 x14.1)))],false⟩)] ⟨Qjh rfl underlying105 underlying9,tv⟩<|bln<|thn<|wxz1<|thn<|arm (mto (n:=32) [(1,Qqw),(5,(.mp 1)),(11,(Qqx p0)),(12,(I ((p0.length:Int)))),(13,(I (w64 (y3+1))))] [0,1] [(Qgy p1 p2 p3 p4),(Qe2 (addS y4 x14.1))] hq (pc (.rn (Qdw rn0 (rnc (rqr rfl) rn0))) (pc (.rn (Qn5 rfl)) (pc (rnd Qaj) (pw (pw pn))))) (qb (lcc (lcc ln)) (qc Qhh qn))) (ih (w64 (y3+1),addS y4 x14.1) h)
   ·exact wfn hc8<|Qcp<|Qbf<|Qbf<|Qco rfl<|thn<|⟨(),h,(mto (n:=32) [] [0] [(Qgy p1 p2 p3 p4)] hq pn (qb (lcc (lcc ln)) qn))⟩
def Qbj (N:Nat) (p0:Qam) (p1:List Qaf):Option Int:=
  (Qbw N (p1.length:Int) 1 40).bind fun x2=>
  bif (!x2) then
   some 3
  else
   (Qba N p1 p0.X p0.Y p0.Z p0.Kinds).bind fun x5=>
   some x5
def z9_3:AV:=.fn (.func 46) [] [(.ref 0 4 (0) 0)]
def z9_0 (p0:Qam):Slot:=.own 4 [[(I p0.X),(I p0.Y),(I p0.Z),(I p0.Kinds)]]
theorem Qei (N:Nat) (p0:Qam) (p1:List Qaf) (r:Int) (h:Qbj N p0 p1=some r):Spec prog 29 [(.agg (Qc9 p0)),(.dat 2 (p1.map Qae))] [] (I r) []:=by
  refine sA func29 0 fun _ _ _ hq hd0=>?_
  unfold Qbj at h
  refine wxz<|wsq ?_
  obtain⟨x2,hf1,h⟩:=bno h
  refine wx tbk [(1,rp _ _),(2,rp _ _)] ⟨alq 2 Qae p1 underlying33,apw Qf2 (Qb9 N (p1.length:Int) 1 40 _ hf1),tv⟩ ?_
  refine bfe h (fun hc3 h=>?_) fun hc3 h=>?_
  ·refine wft hc3<|wxz<|Qad<|Qac ?_
   obtain rfl:=osi h
   exact fend ⟨[I 3],⟨rot,tv⟩,rfl⟩ nll
  ·refine wfn hc3<|Qai<|thn ?_
   obtain⟨x5,hf4,h⟩:=bno h
   refine wx tbk [(1,rp [(.tmp 2,.ref 0 4 0 0)] z9_3),(2,⟨_,_,_,_,false⟩)] ⟨Qcu (fs:=[]) (cs:=[.ref 0 4 0 0]) rfl rfl rfl rfl,acq [(.dat 2 (p1.map Qae)),z9_3] [(z9_0 p0)] [(z9_0 p0)] (I x5) [0] Qv3 (Qe6 N p1 p0.X p0.Y p0.Z p0.Kinds _ hf4) (Qdl (rnc (pld Qaj) (rnc (Qdw rn0 (rnc (Qcn rfl) rn0)) rn0))) (slc (Qaw (rncc (rncc rn0))) Qbb) (slc (Qaw (rncc (rncc rn0))) Qbb) (.plain _ nll),tv⟩<|Qad ?_
   obtain rfl:=osi h
   exact fend ⟨[I x5],⟨rot,tv⟩,rfl⟩ nll
def Qee (N:Nat) (p0 p1:Int) (p2 p3:Int) (p4:List Qaf):Option Int:=
  (Qbj N (⟨p0,p1,p2,p3⟩:Qam) p4).bind fun x3=>
  some x3
abbrev z8_0 (p0 p1:Int) (p2 p3:Int):Slot:=.own 4 [[(I p0),(I p1),(I p2),(I p3)]]
abbrev z8_2 (p4:List Qaf):AV:=.dat 2 (p4.map Qae)
theorem Qhm (N:Nat) (p0 p1:Int) (p2 p3:Int) (p4:List Qaf) (r:Int) (h:Qee N p0 p1 p2 p3 p4=some r):Spec prog 28 [(.ref 0 4 (0) 0),(.ref 1 1 (0) 0)] [(z8_0 p0 p1 p2 p3),(.own 1 [[(z8_2 p4)]])] (I r) [(z8_0 p0 p1 p2 p3),(.own 1 [[(z8_2 p4)]])]:=by
  refine sF func28 2 fun _ _ _ hq hd0=>?_
  unfold Qee at h
  refine wxz ?_
  obtain⟨x3,hf2,h⟩:=bno h
  refine wx tbk [(2,rp _ _)] ⟨apw Qrw (Qei N (⟨p0,p1,p2,p3⟩:Qam) p4 _ hf2),tv⟩ ?_
  refine wmr (mto (n:=6) (l':=[(2,I x3)]) (own':=[(z8_0 p0 p1 p2 p3),(.own 1 [[(z8_2 p4)]])]) [(2,I x3)] [0,1] [(z8_0 p0 p1 p2 p3),(.own 1 [[(z8_2 p4)]])] hq (pw pn) (qb (lcc (lcc ln)) (qb (lc (rnd Qaj) ln) qn)))<|Qad ?_
  obtain rfl:=osi h
  exact⟨_,Mor.rfl,fio [I x3] ⟨rot,tv⟩⟩
def Qa6 (N:Nat) (p0:Qam) (k2:Unit→Option Bool) (p2 p3:List Int):Nat→Int→Int→Option Bool
  |0,_,_=>none
  |n7+1,y3,y4=>
    bif (decide (y4<(p2.length:Int))) then
     (getI p2 y4).bind fun x9=>
     bif (decide (x9≤y3)) then
      some false
     else
      (Qbz N p0).bind fun x15=>
      bif (decide (x9≥x15)) then
       some false
      else
       (getI p3 y4).bind fun x17=>
       (Qbw N x17 (-1000) 1000).bind fun x22=>
       bif (!x22) then
        some false
       else
        Qa6 N p0 k2 p2 p3 n7 x9 (w64 (y4+1))
    else
     k2 ()
def Qdb (N:Nat) (p0:Qam) (p1:Int) (p2 p3:List Int):Option Bool:=
  Qdc (fun _=>
    Qdc (fun _=>
      some true) fun k2:Unit→Option Bool=>
    Qa6 N p0 k2 p2 p3 N (-1) 0) fun k1:Unit→Option Bool=>
  (Qbw N p1 0 (w64 (p0.Kinds-1))).bind fun x25=>
  bif (!x25) then
   some false
  else
   bif (decide ((p2.length:Int)<1)) then
    some false
   else
    bif ((p2.length:Int) != (p3.length:Int)) then
     some false
    else
     k1 ()
def Qot (p0:Qam):Slot:=.own 4 [[(I p0.X),(I p0.Y),(I p0.Z),(I p0.Kinds)]]
def Qyl (p0:Qam):AV:=.agg [(I p0.X),(I p0.Y),(I p0.Z),(I p0.Kinds)]
def Quu (x9 y3:Int) (p0:Qam) (x15:Int):List (Nat×Rec):=[(3,rp [((.tmp 39),(B ((decide (x9≤y3)))))] (B false)),(6,rp [((.tmp 40),(B false)),fu 53,((.tmp 42),(Qyl p0))] (I x15))]
def Qut (p1:Int) (p0:Qam) (x25:Bool):List (Nat×Rec):=[(4,rp [fu 44,((.tmp 12),(I p1)),ci 0,((.tmp 15),(I (w64 (p0.Kinds-1))))] (B x25))]
def Qus p1 p0 x25 (p2:List Int):=hcat (Qut p1 p0 x25) [(6,rp [((.tmp 17),(B ((!x25))))] (B false)),(8,rp [((.tmp 18),(B false)),((.tmp 19),(.dat 1 (p2.map Qan)))] (I ((p2.length:Int))))]
theorem Qg1 (N:Nat) (p0:Qam) (p1:Int) (p2 p3:List Int) (r:Bool) (h:Qdb N p0 p1 p2 p3=some r):Spec prog 40 [(.agg (Qc9 p0)),(I p1),(.dat 1 (p2.map Qan)),(.dat 1 (p3.map Qan))] [] (B r) []:=by
  refine sA func40 0 fun _ _ _ hq hd0=>?_
  unfold Qdb at h
  refine wxz ?_
  obtain⟨k1,hk_k1,h⟩:=jko h
  refine wjn (τ:=Unit) (fun t=>k1 t=some r) (fun _=>⟨mk 56 [(2,(.dat 1 (p2.map Qan))),(3,(.dat 1 (p3.map Qan))),(4,.ref 0 4 0 0)],[(Qot p0)]⟩) (fun t h=>?_) ?_
  ·subst hk_k1
   refine wxz ?_
   obtain⟨k2,hk_k2,h⟩:=jko h
   refine wjn (τ:=Unit) (fun t=>k2 t=some r) (fun _=>⟨mk 56 [],[]⟩) (fun t h=>?_) ?_
   ·subst hk_k2
    exact wxz<|Qad<|frb h
   ·skip
    refine wx tbk [(1,rp _ _)] ⟨alq 1 Qan p2 underlying40,tv⟩<|Qal ?_
    refine wmr (mto (n:=56) (l':=[(3,(.dat 1 (p3.map Qan))),(4,.ref 0 4 0 0),(9,(I ((-1)))),(30,(.dat 1 (p2.map Qan))),(31,(I ((p2.length:Int)))),(32,I 0)]) (own':=[(Qot p0)]) [(3,(.dat 1 (p3.map Qan))),(4,.ref 0 4 0 0),(9,(I ((-1)))),(30,(.dat 1 (p2.map Qan))),(31,(I ((p2.length:Int)))),(32,I 0)] [0] [(Qot p0)] hq (pc (rnd Qak) (prr (pw (pc (rnd Qak) (pw (pw pn)))))) (qb (lcc (lcc ln)) qn)) ?_
    refine Qdk (τ:=Int×Int) (fun n t=>Qa6 N p0 k2 p2 p3 n t.1 t.2=some r) (fun ⟨y3,y4⟩=>⟨mk 56 [(3,(.dat 1 (p3.map Qan))),(4,.ref 0 4 0 0),(9,I y3),(30,(.dat 1 (p2.map Qan))),(31,(I ((p2.length:Int)))),(32,I y4)],[(Qot p0)]⟩) (fun t h=>by rw[Qa6] at h;cases h) (fun n7 ih t h=>?_) N ((-1),0) h
    obtain⟨y3,y4⟩:=t
    rw[Qa6] at h
    skip
    refine wxz<|wsq ?_
    refine bfe h (fun hc8 h=>?_) fun hc8 h=>?_
    ·refine wft hc8<|Qai<|thn<|wsq<|Qal ?_
     obtain⟨x9,hg10,h⟩:=bno h
     obtain⟨hi11,hj12⟩:=gsm hg10
     refine wx tbk [(1,rp _ _)] ⟨aiq underlying40 ti3 Qan hi11 hj12,tv⟩<|wsq ?_
     refine bfe h (fun hb13 h=>?_) fun hb13 h=>?_
     ·refine wx tbk [(3,rp [(.tmp 39,(B ((decide (x9≤y3)))))] (B true))] ⟨asb hb13 (amv rfl),tv⟩<|wtr<|wxz<|Qad<|Qac<|Qag<|Qac<|Qac<|Qag<|Qac ?_
      exact frb h
     ·obtain⟨x15,hf14,h⟩:=bno h
      refine hpre (A:=(Quu x9 y3 p0 x15)) ⟨asb hb13 (amv rfl),ag_ (apv Qk1 (Qc2 N p0 _ hf14) (nlc (NLt.agg _ (nlcc (nlcc nl0))) nl0) nll),tv⟩ fun q1_=>?_
      refine bfe h (fun hb16 h=>?_) fun hb16 h=>?_
      ·refine wx tbk (hcat (Quu x9 y3 p0 x15) [(9,rp [(.tmp 45,(B ((decide (x9≥x15)))))] (B true))]) (hap q1_ ⟨asb hb16 (amv rfl),tv⟩)<|wtr<|wxz<|Qad<|Qac<|Qag<|Qac<|Qac<|Qag<|Qac ?_
       exact frb h
      ·obtain⟨x17,hg18,h⟩:=bno h
       obtain⟨hi19,hj20⟩:=gsm hg18
       obtain⟨x22,hf21,h⟩:=bno h
       refine wx tbk (hcat (Quu x9 y3 p0 x15) [(9,rp [(.tmp 45,(B ((decide (x9≥x15)))))] (B false)),(12,rp [(.tmp 46,B false),(.tmp 47,(.dat 1 (p3.map Qan))),(.tmp 48,I y4)] (.dptr (Qan x17) 0)),(14,rp [(.tmp 46,B false),fu 44,(.tmp 50,I x17),ci (-1000),ci 1000] (B x22))]) (hap q1_ ⟨asb hb16 (amv rfl),ag_ (aiq underlying40 ti3 Qan hi19 hj20),ag_ (apv Qf2 (Qb9 N x17 (-1000) 1000 _ hf21) (nlcc (nlc nll nl0)) nll),tv⟩) ?_
       refine bfe h (fun hc23 h=>?_) fun hc23 h=>?_
       ·exact wft hc23<|wxz<|Qad<|Qac<|Qag<|Qac<|Qac<|Qag<|Qac<|frb h
       ·exact wfn hc23<|Qai<|thn<|wxz1<|bln<|thn<|wxz1<|thn<|arm (mto (n:=56) [(3,(.dat 1 (p3.map Qan))),(4,.ref 0 4 0 0),(9,I x9),(30,(.dat 1 (p2.map Qan))),(31,(I ((p2.length:Int)))),(32,(I (w64 (y4+1))))] [0] [(Qot p0)] hq (pc (rnd Qak) (prr (pw (pc (rnd Qak) (pw (pw pn)))))) (qb (lcc (lcc ln)) qn)) (ih (x9,w64 (y4+1)) h)
    ·exact wfn hc8<|Qcp<|Qbf<|Qbf<|Qco rfl<|thn<|⟨(),h,(mto (n:=56) [] [] [] hq pn qn)⟩
  ·skip
   obtain⟨x25,hf24,h⟩:=bno h
   refine hpre (A:=(Qut p1 p0 x25)) ⟨apv Qf2 (Qb9 N p1 0 (w64 (p0.Kinds-1)) _ hf24) (nlcc (nlc nll nl0)) nll,tv⟩ fun q2_=>?_
   refine bfe h (fun hb26 h=>?_) fun hb26 h=>?_
   ·exact wx tbk (hcat (Qut p1 p0 x25) [(6,rp [(.tmp 17,(B ((!x25))))] (B true))]) (hap q2_ ⟨asb hb26 (amv rfl),tv⟩)<|wtr<|wxz<|Qad<|Qac<|frb h
   ·refine hpre (A:=(Qus p1 p0 x25 p2)) (hap q2_ ⟨asb hb26 (amv rfl),ag_ (alq 1 Qan p2 underlying40),tv⟩) fun q3_=>?_
    refine bfe h (fun hb27 h=>?_) fun hb27 h=>?_
    ·exact wx tbk (hcat (Qus p1 p0 x25 p2) [(11,rp [(.tmp 22,(B ((decide ((p2.length:Int)<1)))))] (B true))]) (hap q3_ ⟨asb hb27 (amv rfl),tv⟩)<|wtr<|wxz<|Qad<|Qac<|frb h
    ·refine wx tbk (hcat (Qus p1 p0 x25 p2) [(11,rp [(.tmp 22,(B ((decide ((p2.length:Int)<1)))))] (B false)),(13,rp [(.tmp 23,B false),(.tmp 24,(.dat 1 (p2.map Qan)))] (I ((p2.length:Int)))),(15,rp [(.tmp 23,B false),(.tmp 26,(.dat 1 (p3.map Qan)))] (I ((p3.length:Int))))]) (hap q3_ ⟨asb hb27 (amv rfl),ag_ (alq 1 Qan p2 underlying40),ag_ (alq 1 Qan p3 underlying40),tv⟩) ?_
     refine bfe h (fun hc28 h=>?_) fun hc28 h=>?_
     ·exact wft hc28<|wxz<|Qad<|Qac<|frb h
     ·exact wfn hc28<|Qai<|thn<|⟨(),h,(mto (n:=56) [(2,(.dat 1 (p2.map Qan))),(3,(.dat 1 (p3.map Qan))),(4,.ref 0 4 0 0)] [0] [(Qot p0)] hq (pc (rnd Qak) (pc (rnd Qak) (prr pn))) (qb (lcc (lcc ln)) qn))⟩
def Qd0 (_N:Nat) (p0:Qaa):Option Bool:=
  bif (decide ((-10000000000)≤p0.Lo)) then
   bif (decide (p0.Lo≤p0.Hi)) then
    some (decide (p0.Hi≤10000000000))
   else
    some false
  else
   some false
theorem Qg0 (N:Nat) (p0:Qaa) (r:Bool) (h:Qd0 N p0=some r):Spec prog 41 [(.agg (Qar p0))] [] (B r) []:=by
  refine sA func41 0 fun _ _ _ hq hd0=>?_
  unfold Qd0 at h
  refine wxz ?_
  refine bfe h (fun hb1 h=>?_) fun hb1 h=>?_
  ·refine bfe h (fun hb2 h=>?_) fun hb2 h=>?_
   ·refine wx tbk [(3,rp [(.tmp 5,(B ((decide ((-10000000000)≤p0.Lo)))))] (B true)),(10,rp [(.tmp 12,(B ((decide (p0.Lo≤p0.Hi)))))] (B true))] ⟨asb hb1 (amv rfl),asb hb2 (amv rfl),tv⟩<|Qad ?_
    obtain rfl:=osi h
    exact fend ⟨[(B ((decide (p0.Hi≤10000000000))))],⟨rot,tv⟩,rfl⟩ nll
   ·exact wx tbk [(3,rp [(.tmp 5,(B ((decide ((-10000000000)≤p0.Lo)))))] (B true)),(10,rp [(.tmp 12,(B ((decide (p0.Lo≤p0.Hi)))))] (B false))] ⟨asb hb1 (amv rfl),asb hb2 (amv rfl),tv⟩<|Qad<|frb h
  ·exact wx tbk [(3,rp [(.tmp 5,(B ((decide ((-10000000000)≤p0.Lo)))))] (B false))] ⟨asb hb1 (amv rfl),tv⟩<|Qad<|frb h
def Qbu (N:Nat) (p0:Qam) (p1:Qab):Option Int:=
  (Qde N p1.Name).bind fun x2=>
  bif (!x2) then
   some 5
  else
   (Qdb N p0 p1.Kind p1.Blocks p1.Weights).bind fun x5=>
   bif (!x5) then
    some 1
   else
    (Qd0 N (⟨p1.In.Lo,p1.In.Hi⟩:Qaa)).bind fun x8=>
    bif (!x8) then
     some 1
    else
     some 0
def Qyo (p0:Qam):AV:=.agg [(I p0.X),(I p0.Y),(I p0.Z),(I p0.Kinds)]
def Qyn (p1:Qab):AV:=.dat 1 (p1.Blocks.map Qan)
def Qym (p1:Qab):AV:=.dat 1 (p1.Weights.map Qan)
def Quv (p0:Qam) (p1:Qab) (x5:Bool):List (Nat×Rec):=[(7,rp [fu 40,((.tmp 11),(Qyo p0)),((.tmp 13),(I p1.Kind)),((.tmp 15),(Qyn p1)),((.tmp 17),(Qym p1))] (B x5))]
theorem Qeg (N:Nat) (p0:Qam) (p1:Qab) (r:Int) (h:Qbu N p0 p1=some r):Spec prog 24 [(.agg (Qc9 p0)),(.agg (Qaq p1))] [] (I r) []:=by
  refine sA func24 0 fun _ _ _ hq hd0=>?_
  unfold Qbu at h
  refine wxz<|wsq<|Qal ?_
  obtain⟨x2,hf1,h⟩:=bno h
  refine wx tbk [(2,rp _ _)] ⟨apw Qrt (Qgd N p1.Name _ hf1),tv⟩ ?_
  refine bfe h (fun hc3 h=>?_) fun hc3 h=>?_
  ·refine wft hc3<|wxz<|Qad<|Qag<|Qac ?_
   obtain rfl:=osi h
   exact fend ⟨[I 5],⟨rot,tv⟩,rfl⟩ nll
  ·refine wfn hc3 ?_
   obtain⟨x5,hf4,h⟩:=bno h
   refine hpre (A:=(Quv p0 p1 x5)) ⟨apv Qv6 (Qg1 N p0 p1.Kind p1.Blocks p1.Weights _ hf4) (nlc (NLt.agg _ (nlcc (nlcc nl0))) (nlc nll (nlc (nld Qak _) (nlc (nld Qak _) nl0)))) nll,tv⟩ fun q1_=>?_
   refine bfe h (fun hb6 h=>?_) fun hb6 h=>?_
   ·refine wx tbk (hcat (Quv p0 p1 x5) [(9,rp [(.tmp 19,(B ((!x5))))] (B true))]) (hap q1_ ⟨asb hb6 (amv rfl),tv⟩)<|wtr<|wxz<|Qad<|Qag<|Qac ?_
    obtain rfl:=osi h
    exact fend ⟨[I 1],⟨rot,tv⟩,rfl⟩ nll
   ·obtain⟨x8,hf7,h⟩:=bno h
    refine wx tbk (hcat (Quv p0 p1 x5) [(9,rp [(.tmp 19,(B ((!x5))))] (B false)),(12,rp [(.tmp 20,B false),fu 41,(.tmp 22,(.agg [I p1.In.Lo,I p1.In.Hi]))] (B x8))]) (hap q1_ ⟨asb hb6 (amv rfl),ag_ (apv Qv5 (Qg0 N (⟨p1.In.Lo,p1.In.Hi⟩:Qaa) _ hf7) (nlc (NLt.agg _ (nlcc nl0)) nl0) nll),tv⟩) ?_
    refine bfe h (fun hc9 h=>?_) fun hc9 h=>?_
    ·refine wft hc9<|wxz<|Qad<|Qag<|Qac ?_
     obtain rfl:=osi h
     exact fend ⟨[I 1],⟨rot,tv⟩,rfl⟩ nll
    ·refine wfn hc9<|Qai<|bln<|thn<|wxz<|Qad ?_
     obtain rfl:=osi h
     exact fend ⟨[I 0],⟨rot,tv⟩,rfl⟩ nll
def Qb8 (N:Nat) (p0:Qab) (p1 p2:Int) (p3 p4:Int):Option (ByteArray×Int):=
  (Qbu N (⟨p1,p2,p3,p4⟩:Qam) (⟨p0.Name,p0.Kind,p0.Blocks,p0.Weights,(⟨p0.In.Lo,p0.In.Hi⟩:Qaa)⟩:Qab)).bind fun x4=>
  some (p0.Name,x4)
abbrev Qyp (p0:Qab):AV:=.agg [(Sx p0.Name),(I p0.Kind),(.dat 1 (p0.Blocks.map Qan)),(.dat 1 (p0.Weights.map Qan)),(I p0.In.Lo),(I p0.In.Hi)]
abbrev Qs0 (p1 p2:Int) (p3 p4:Int):Slot:=.own 4 [[(I p1),(I p2),(I p3),(I p4)]]
theorem Qe7 (N:Nat) (p0:Qab) (p1 p2:Int) (p3 p4:Int) (r:(ByteArray×Int)) (h:Qb8 N p0 p1 p2 p3 p4=some r):Spec prog 49 [(Qyp p0),(.ref 0 4 (0) 0)] [(Qs0 p1 p2 p3 p4)] (.tup [(Sx r.1),(I r.2)]) [(Qs0 p1 p2 p3 p4)]:=by
  refine sF func49 1 fun _ _ _ hq hd0=>?_
  unfold Qb8 at h
  refine wxz ?_
  obtain⟨x4,hf3,h⟩:=bno h
  refine wxd tbk [(4,rp _ _)] ⟨apw Qrz (Qeg N (⟨p1,p2,p3,p4⟩:Qam) (⟨p0.Name,p0.Kind,p0.Blocks,p0.Weights,(⟨p0.In.Lo,p0.In.Hi⟩:Qaa)⟩:Qab) _ hf3),tv⟩ ?_
  refine wmr (mto (n:=10) (l':=[(3,(Sx p0.Name)),(4,I x4)]) (own':=[(Qs0 p1 p2 p3 p4)]) [(3,(Sx p0.Name)),(4,I x4)] [0] [(Qs0 p1 p2 p3 p4)] hq (pw (pw pn)) (qb (lcc (lcc ln)) qn))<|Qad ?_
  obtain rfl:=osi h
  exact⟨_,Mor.rfl,fio [(Sx p0.Name),I x4] ⟨rot,rot,tv⟩⟩
def Qa3 (N:Nat) (p0:List Qab) (p1:Int) (k2:Unit→Option Int) (p2 p3 p4:Int):Nat→Int→(List ByteArray)→Option Int
  |0,_,_=>none
  |n7+1,y3,y4=>
    bif (decide (y3<(p0.length:Int))) then
     (getI p0 y3).bind fun x9=>
     (Qb8 N (⟨x9.Name,x9.Kind,x9.Blocks,x9.Weights,(⟨x9.In.Lo,x9.In.Hi⟩:Qaa)⟩:Qab) p1 p2 p3 p4).bind fun x14=>
     bif (x14.2 != 0) then
      some x14.2
     else
      bif y4.contains x14.1 then
       some 6
      else
       Qa3 N p0 p1 k2 p2 p3 p4 n7 (w64 (y3+1)) (addS y4 x14.1)
    else
     k2 ()
def Qby (N:Nat) (p0:List Qab) (p1 p2:Int) (p3 p4:Int):Option Int:=
  Qdc (fun _=>
    some 0) fun k2:Unit→Option Int=>
  Qa3 N p0 p1 k2 p2 p3 p4 N 0 ([]:List ByteArray)
abbrev Qqu (p0:List Qab):AV:=.dat 6 (p0.map Qaq)
abbrev Qqt:AV:=.fn (.func 49) [] [(.ref 0 4 (0) 0)]
abbrev Qe3 (p1 p2:Int) (p3 p4:Int):Slot:=.own 4 [[(I p1),(I p2),(I p3),(I p4)]]
theorem Qev (N:Nat) (p0:List Qab) (p1 p2:Int) (p3 p4 r:Int) (h:Qby N p0 p1 p2 p3 p4=some r):Spec prog 48 [(Qqu p0),Qqt] [(Qe3 p1 p2 p3 p4)] (I r) [(Qe3 p1 p2 p3 p4)]:=by
  refine sF func48 1 fun _ _ _ hq hd0=>?_
  unfold Qby at h
  refine wxz<|wx tbk [(0,⟨[],[(1,.unused)],(.mp 1),[(1,(Qe2 ([]:List ByteArray)))],false⟩)] ⟨Qh7 rfl,tv⟩ ?_
  obtain⟨k2,hk_k2,h⟩:=jko h
  refine wjn (τ:=Unit) (fun t=>k2 t=some r) (fun _=>⟨mk 32 [],[(Qe3 p1 p2 p3 p4)]⟩) (fun t h=>?_) ?_
  ·subst hk_k2
   refine wxz<|wmr (mto (n:=32) (l':=[(4,I 0)]) (own':=[(Qe3 p1 p2 p3 p4)]) [(4,I 0)] [0] [(Qe3 p1 p2 p3 p4)] hq (pw pn) (qb (lcc (lcc ln)) qn))<|Qad ?_
   obtain rfl:=osi h
   exact⟨_,Mor.rfl,fio [I 0] ⟨rot,tv⟩⟩
  ·skip
   refine wx tbk [(1,rp _ _)] ⟨alq 6 Qaq p0 underlying43,tv⟩<|Qal ?_
   refine wmr (mto (n:=32) (l':=[(1,Qqt),(5,(.mp 1)),(11,(Qqu p0)),(12,(I ((p0.length:Int)))),(13,I 0)]) (own':=[(Qe3 p1 p2 p3 p4),(Qe2 ([]:List ByteArray))]) [(1,Qqt),(5,(.mp 1)),(11,(Qqu p0)),(12,(I ((p0.length:Int)))),(13,I 0)] [0,1] [(Qe3 p1 p2 p3 p4),(Qe2 ([]:List ByteArray))] hq (pc (.rn (Qdw rn0 (rnc (rqr rfl) rn0))) (pc (.rn (Qn5 rfl)) (pc (rnd Qa5) (pw (pw pn))))) (qb (lcc (lcc ln)) (qc Qhh qn))) ?_
   refine Qdk (τ:=Int×(List ByteArray)) (fun n t=>Qa3 N p0 p1 k2 p2 p3 p4 n t.1 t.2=some r) (fun ⟨y3,y4⟩=>⟨mk 32 [(1,Qqt),(5,(.mp 1)),(11,(Qqu p0)),(12,(I ((p0.length:Int)))),(13,I y3)],[(Qe3 p1 p2 p3 p4),(Qe2 y4)]⟩) (fun t h=>by rw[Qa3] at h;cases h) (fun n7 ih t h=>?_) N (0,([]:List ByteArray)) h
   obtain⟨y3,y4⟩:=t
   rw[Qa3] at h
   skip
   refine wxz<|wsq ?_
   refine bfe h (fun hc8 h=>?_) fun hc8 h=>?_
   ·refine wft hc8<|Qai<|thn<|wsq<|Qal ?_
    obtain⟨x9,hg10,h⟩:=bno h
    obtain⟨hi11,hj12⟩:=gsm hg10
    refine wx tbk [(0,rp _ _)] ⟨aiq underlying43 ti52 Qaq hi11 hj12,tv⟩ ?_
    obtain⟨x14,hf13,h⟩:=bno h
    refine wx tbk [(2,⟨_,_,_,_,false⟩)] ⟨Qc7 (first:=[]) (cap:=[.ref 0 4 0 0]) (vs:=[(.agg [(Sx ((⟨x9.Name,x9.Kind,x9.Blocks,x9.Weights,(⟨x9.In.Lo,x9.In.Hi⟩:Qaa)⟩:Qab).Name)),(I ((⟨x9.Name,x9.Kind,x9.Blocks,x9.Weights,(⟨x9.In.Lo,x9.In.Hi⟩:Qaa)⟩:Qab).Kind)),(.dat 1 (((⟨x9.Name,x9.Kind,x9.Blocks,x9.Weights,(⟨x9.In.Lo,x9.In.Hi⟩:Qaa)⟩:Qab).Blocks:List Int).map Qan)),(.dat 1 (((⟨x9.Name,x9.Kind,x9.Blocks,x9.Weights,(⟨x9.In.Lo,x9.In.Hi⟩:Qaa)⟩:Qab).Weights:List Int).map Qan)),(I ((⟨x9.Name,x9.Kind,x9.Blocks,x9.Weights,(⟨x9.In.Lo,x9.In.Hi⟩:Qaa)⟩:Qab).In.Lo)),(I ((⟨x9.Name,x9.Kind,x9.Blocks,x9.Weights,(⟨x9.In.Lo,x9.In.Hi⟩:Qaa)⟩:Qab).In.Hi))])]) (σr:=[(Qe3 p1 p2 p3 p4)]) (σr':=[(Qe3 p1 p2 p3 p4)]) (res':=(.tup [(Sx x14.1),I x14.2])) [0] rfl Qvz (Qe7 N (⟨x9.Name,x9.Kind,x9.Blocks,x9.Weights,(⟨x9.In.Lo,x9.In.Hi⟩:Qaa)⟩:Qab) p1 p2 p3 p4 _ hf13) rfl (Qdl (rnc (.plain _ (NLt.agg _ (nlcc (nlc (nld Qak _) (nlc (nld Qak _) (nlcc nl0)))))) (rnc (Qcn rfl) rn0))) (slc (Qaw (rncc (rncc rn0))) Qbb) (slc (Qaw (rncc (rncc rn0))) Qbb) (.plain _ (NLt.tup _ (nlcc nl0))) rfl rfl rfl,tv⟩<|wsq<|wxz ?_
    refine bfe h (fun hc15 h=>?_) fun hc15 h=>?_
    ·refine wft hc15<|wxz ?_
     refine wmr (mto (n:=32) (l':=[(4,I x14.2)]) (own':=[(Qe3 p1 p2 p3 p4)]) [(4,I x14.2)] [0] [(Qe3 p1 p2 p3 p4)] hq (pw pn) (qb (lcc (lcc ln)) qn))<|Qad<|Qac<|Qag<|Qac<|Qac<|Qag<|Qac ?_
     obtain rfl:=osi h
     exact⟨_,Mor.rfl,fio [I x14.2] ⟨rot,tv⟩⟩
    ·refine wfn hc15<|Qai<|thn<|wsq ?_
     refine wx tbk [(2,rb [(.tmp 26,(.mp 1)),(.tmp 27,(Sx x14.1))] [(1,(Qe2 y4))] (B (y4.contains x14.1)))] ⟨Qjk rfl underlying105 underlying9 zb4,tv⟩ ?_
     refine bfe h (fun hc16 h=>?_) fun hc16 h=>?_
     ·refine wft hc16<|wxz ?_
      refine wmr (mto (n:=32) (l':=[(4,I 6)]) (own':=[(Qe3 p1 p2 p3 p4)]) [(4,I 6)] [0] [(Qe3 p1 p2 p3 p4)] hq (pw pn) (qb (lcc (lcc ln)) qn))<|Qad<|Qac<|Qag<|Qac<|Qac<|Qag<|Qac ?_
      obtain rfl:=osi h
      exact⟨_,Mor.rfl,fio [I 6] ⟨rot,tv⟩⟩
     ·refine wfn hc16<|Qai<|thn ?_
      exact wx1 tbk [(2,⟨[(.tmp 29,(.mp 1)),(.tmp 30,(Sx x14.1)),cb true],[(1,(Qe2 y4))],.any,[(1,(Qe2 (addS y4 x14.1)))],false⟩)] ⟨Qjh rfl underlying105 underlying9,tv⟩<|bln<|thn<|wxz1<|thn<|arm (mto (n:=32) [(1,Qqt),(5,(.mp 1)),(11,(Qqu p0)),(12,(I ((p0.length:Int)))),(13,(I (w64 (y3+1))))] [0,1] [(Qe3 p1 p2 p3 p4),(Qe2 (addS y4 x14.1))] hq (pc (.rn (Qdw rn0 (rnc (rqr rfl) rn0))) (pc (.rn (Qn5 rfl)) (pc (rnd Qa5) (pw (pw pn))))) (qb (lcc (lcc ln)) (qc Qhh qn))) (ih (w64 (y3+1),addS y4 x14.1) h)
   ·exact wfn hc8<|Qcp<|Qbf<|Qbf<|Qco rfl<|thn<|⟨(),h,(mto (n:=32) [] [0] [(Qe3 p1 p2 p3 p4)] hq pn (qb (lcc (lcc ln)) qn))⟩
def Qcd (N:Nat) (p0:Qam) (p1:List Qab):Option Int:=
  bif (decide ((p1.length:Int)>12)) then
   some 3
  else
   (Qby N p1 p0.X p0.Y p0.Z p0.Kinds).bind fun x3=>
   some x3
def Qxa:AV:=.fn (.func 49) [] [(.ref 0 4 (0) 0)]
def Qxb (p0:Qam):Slot:=.own 4 [[(I p0.X),(I p0.Y),(I p0.Z),(I p0.Kinds)]]
theorem Qfs (N:Nat) (p0:Qam) (p1:List Qab) (r:Int) (h:Qcd N p0 p1=some r):Spec prog 31 [(.agg (Qc9 p0)),(.dat 6 (p1.map Qaq))] [] (I r) []:=by
  refine sA func31 0 fun _ _ _ hq hd0=>?_
  unfold Qcd at h
  refine wxz<|wsq ?_
  refine wx tbk [(1,rp _ _)] ⟨alq 6 Qaq p1 underlying43,tv⟩ ?_
  refine bfe h (fun hc1 h=>?_) fun hc1 h=>?_
  ·refine wft hc1<|wxz<|Qad<|Qac ?_
   obtain rfl:=osi h
   exact fend ⟨[I 3],⟨rot,tv⟩,rfl⟩ nll
  ·refine wfn hc1<|Qai<|thn ?_
   obtain⟨x3,hf2,h⟩:=bno h
   refine wx tbk [(1,rp [(.tmp 2,.ref 0 4 0 0)] Qxa),(2,⟨_,_,_,_,false⟩)] ⟨Qcu (fs:=[]) (cs:=[.ref 0 4 0 0]) rfl rfl rfl rfl,acq [(.dat 6 (p1.map Qaq)),Qxa] [(Qxb p0)] [(Qxb p0)] (I x3) [0] Qv0 (Qev N p1 p0.X p0.Y p0.Z p0.Kinds _ hf2) (Qdl (rnc (pld Qa5) (rnc (Qdw rn0 (rnc (Qcn rfl) rn0)) rn0))) (slc (Qaw (rncc (rncc rn0))) Qbb) (slc (Qaw (rncc (rncc rn0))) Qbb) (.plain _ nll),tv⟩<|Qad ?_
   obtain rfl:=osi h
   exact fend ⟨[I x3],⟨rot,tv⟩,rfl⟩ nll
def Qed (N:Nat) (p0 p1:Int) (p2 p3:Int) (p4:List Qab):Option Int:=
  (Qcd N (⟨p0,p1,p2,p3⟩:Qam) p4).bind fun x3=>
  some x3
abbrev Qs4 (p0 p1:Int) (p2 p3:Int):Slot:=.own 4 [[(I p0),(I p1),(I p2),(I p3)]]
abbrev Qs3 (p4:List Qab):AV:=.dat 6 (p4.map Qaq)
theorem Qhl (N:Nat) (p0 p1:Int) (p2 p3:Int) (p4:List Qab) (r:Int) (h:Qed N p0 p1 p2 p3 p4=some r):Spec prog 30 [(.ref 0 4 (0) 0),(.ref 1 1 (0) 0)] [(Qs4 p0 p1 p2 p3),(.own 1 [[(Qs3 p4)]])] (I r) [(Qs4 p0 p1 p2 p3),(.own 1 [[(Qs3 p4)]])]:=by
  refine sF func30 2 fun _ _ _ hq hd0=>?_
  unfold Qed at h
  refine wxz ?_
  obtain⟨x3,hf2,h⟩:=bno h
  refine wx tbk [(2,rp _ _)] ⟨apw Qwb (Qfs N (⟨p0,p1,p2,p3⟩:Qam) p4 _ hf2),tv⟩ ?_
  refine wmr (mto (n:=6) (l':=[(2,I x3)]) (own':=[(Qs4 p0 p1 p2 p3),(.own 1 [[(Qs3 p4)]])]) [(2,I x3)] [0,1] [(Qs4 p0 p1 p2 p3),(.own 1 [[(Qs3 p4)]])] hq (pw pn) (qb (lcc (lcc ln)) (qb (lc (rnd Qa5) ln) qn)))<|Qad ?_
  obtain rfl:=osi h
  exact⟨_,Mor.rfl,fio [I x3] ⟨rot,tv⟩⟩
def Qer (N:Nat) (p0 p1:Int) (p2 p3:Int) (p4 p5:Int) (p6 p7:Int) (p8:List Qaf) (p9:List Qab):Option Int:=
  Qdc (fun _=>
    some 0) fun k2:Unit→Option Int=>
  (Qb6 N (⟨p0,p1,p2,p3⟩:Qam)).bind fun x4=>
  bif (x4 != 0) then
   some x4
  else
   (Qee N p4 p5 p6 p7 p8).bind fun x7=>
   bif (x7 != 0) then
    some x7
   else
    (Qed N p4 p5 p6 p7 p9).bind fun x10=>
    bif (x10 != 0) then
     some x10
    else
     k2 ()
abbrev z3_1 (p0 p1:Int) (p2 p3:Int):AV:=.fn (.func 27) [(.agg [(I p0),(I p1),(I p2),(I p3)])] []
abbrev z3_2:AV:=.fn (.func 28) [] [(.ref 0 4 (0) 0),(.ref 1 1 (0) 0)]
abbrev z3_3:AV:=.fn (.func 30) [] [(.ref 0 4 (0) 0),(.ref 2 1 (0) 0)]
abbrev z3_4 (p4 p5:Int) (p6 p7:Int):Slot:=.own 4 [[(I p4),(I p5),(I p6),(I p7)]]
abbrev z3_5 (p8:List Qaf):AV:=.dat 2 (p8.map Qae)
abbrev z3_6 (p9:List Qab):AV:=.dat 6 (p9.map Qaq)
theorem Qhz (N:Nat) (p0 p1:Int) (p2 p3:Int) (p4 p5:Int) (p6 p7:Int) (p8:List Qaf) (p9:List Qab) (r:Int) (h:Qer N p0 p1 p2 p3 p4 p5 p6 p7 p8 p9=some r):Spec prog 20 [(.dat 1 [[(z3_1 p0 p1 p2 p3)],[z3_2],[z3_3]])] [(z3_4 p4 p5 p6 p7),(.own 1 [[(z3_5 p8)]]),(.own 1 [[(z3_6 p9)]])] (I r) [(z3_4 p4 p5 p6 p7),(.own 1 [[(z3_5 p8)]]),(.own 1 [[(z3_6 p9)]])]:=by
  refine sF func20 3 fun _ _ _ hq hd0=>?_
  unfold Qer at h
  refine wxz ?_
  obtain⟨k2,hk_k2,h⟩:=jko h
  refine wjn (τ:=Unit) (fun t=>k2 t=some r) (fun _=>⟨mk 18 [],[(z3_4 p4 p5 p6 p7),(.own 1 [[(z3_5 p8)]]),(.own 1 [[(z3_6 p9)]])]⟩) (fun t h=>?_) ?_
  ·subst hk_k2
   refine wxz<|wmr (mto (n:=18) (l':=[(2,I 0)]) (own':=[(z3_4 p4 p5 p6 p7),(.own 1 [[(z3_5 p8)]]),(.own 1 [[(z3_6 p9)]])]) [(2,I 0)] [0,1,2] [(z3_4 p4 p5 p6 p7),(.own 1 [[(z3_5 p8)]]),(.own 1 [[(z3_6 p9)]])] hq (pw pn) (qb (lcc (lcc ln)) (qb (lc (rnd Qaj) ln) (qb (lc (rnd Qa5) ln) qn))))<|Qad ?_
   obtain rfl:=osi h
   exact⟨_,Mor.rfl,fio [I 0] ⟨rot,tv⟩⟩
  ·skip
   refine wx tbk [(1,rp [(.tmp 6,(.dat 1 [[(z3_1 p0 p1 p2 p3)],[z3_2],[z3_3]]))] (I 3))] ⟨aln rfl underlying88 rfl,tv⟩<|Qal<|Qik 17<|Qgm<|wxz<|wsq<|wtr<|Qai<|thn<|wsq ?_
   refine Qal<|wx tbk [(0,rp [(.tmp 6,(.dat 1 [[(z3_1 p0 p1 p2 p3)],[z3_2],[z3_3]])),(.tmp 8,I 0)] (.dptr [(z3_1 p0 p1 p2 p3)] 0))] ⟨aid rfl underlying88 ti75 rfl rfl (by decide) rfl rfl,tv⟩ ?_
   obtain⟨x4,hf3,h⟩:=bno h
   refine wx tbk [(1,rp [(.tmp 12,(z3_1 p0 p1 p2 p3))] (I x4))] ⟨apc (first:=[(.agg [I p0,I p1,I p2,I p3])]) (cap:=[]) (vs:=[]) rfl Qrx (Qew N (⟨p0,p1,p2,p3⟩:Qam) _ hf3) rfl rfl (nlc (NLt.agg _ (nlcc (nlcc nl0))) nl0) nll rfl,tv⟩<|wxz ?_
   refine bfe h (fun hc5 h=>?_) fun hc5 h=>?_
   ·refine wft hc5<|wxz ?_
    refine wmr (mto (n:=18) (l':=[(2,I x4)]) (own':=[(z3_4 p4 p5 p6 p7),(.own 1 [[(z3_5 p8)]]),(.own 1 [[(z3_6 p9)]])]) [(2,I x4)] [0,1,2] [(z3_4 p4 p5 p6 p7),(.own 1 [[(z3_5 p8)]]),(.own 1 [[(z3_6 p9)]])] hq (pw pn) (qb (lcc (lcc ln)) (qb (lc (rnd Qaj) ln) (qb (lc (rnd Qa5) ln) qn))))<|Qad<|Qag<|Qac<|Qac<|Qag<|Qac ?_
    obtain rfl:=osi h
    exact⟨_,Mor.rfl,fio [I x4] ⟨rot,tv⟩⟩
   ·refine wfn hc5<|Qai<|bln<|thn<|wxz1<|thn<|Qgm<|wxz<|wsq<|wtr ?_
    refine Qai<|thn<|wsq<|Qal ?_
    refine wx tbk [(0,rp [(.tmp 6,(.dat 1 [[(z3_1 p0 p1 p2 p3)],[z3_2],[z3_3]])),(.tmp 8,I 1)] (.dptr [z3_2] 0))] ⟨aid rfl underlying88 ti75 rfl rfl (by decide) rfl rfl,tv⟩ ?_
    obtain⟨x7,hf6,h⟩:=bno h
    refine wx tbk [(1,⟨_,_,_,_,false⟩)] ⟨Qc7 (first:=[]) (cap:=[.ref 0 4 0 0,.ref 1 1 0 0]) (vs:=[]) (σr:=[(z3_4 p4 p5 p6 p7),(.own 1 [[(z3_5 p8)]])]) (σr':=[(z3_4 p4 p5 p6 p7),(.own 1 [[(z3_5 p8)]])]) (res':=(I x7)) [0,1] rfl Qwd (Qhm N p4 p5 p6 p7 p8 _ hf6) rfl (Qdl (rnc (Qcn rfl) (rnc (Qcn rfl) rn0))) (slc (Qaw (rncc (rncc rn0))) (slc (Qaw (rnc (pld Qaj) rn0)) Qbb)) (slc (Qaw (rncc (rncc rn0))) (slc (Qaw (rnc (pld Qaj) rn0)) Qbb)) (.plain _ nll) rfl rfl rfl,tv⟩<|wxz ?_
    refine bfe h (fun hc8 h=>?_) fun hc8 h=>?_
    ·refine wft hc8<|wxz ?_
     refine wmr (mto (n:=18) (l':=[(2,I x7)]) (own':=[(z3_4 p4 p5 p6 p7),(.own 1 [[(z3_5 p8)]]),(.own 1 [[(z3_6 p9)]])]) [(2,I x7)] [0,1,2] [(z3_4 p4 p5 p6 p7),(.own 1 [[(z3_5 p8)]]),(.own 1 [[(z3_6 p9)]])] hq (pw pn) (qb (lcc (lcc ln)) (qb (lc (rnd Qaj) ln) (qb (lc (rnd Qa5) ln) qn))))<|Qad<|Qag<|Qac<|Qac<|Qag<|Qac ?_
     obtain rfl:=osi h
     exact⟨_,Mor.rfl,fio [I x7] ⟨rot,tv⟩⟩
    ·refine wfn hc8<|Qai<|bln<|thn<|wxz1<|thn<|Qgm<|wxz<|wsq<|wtr ?_
     refine Qai<|thn<|wsq<|Qal ?_
     refine wx tbk [(0,rp [(.tmp 6,(.dat 1 [[(z3_1 p0 p1 p2 p3)],[z3_2],[z3_3]])),(.tmp 8,I 2)] (.dptr [z3_3] 0))] ⟨aid rfl underlying88 ti75 rfl rfl (by decide) rfl rfl,tv⟩ ?_
     obtain⟨x10,hf9,h⟩:=bno h
     refine wx tbk [(1,⟨_,_,_,_,false⟩)] ⟨Qc7 (first:=[]) (cap:=[.ref 0 4 0 0,.ref 2 1 0 0]) (vs:=[]) (σr:=[(z3_4 p4 p5 p6 p7),(.own 1 [[(z3_6 p9)]])]) (σr':=[(z3_4 p4 p5 p6 p7),(.own 1 [[(z3_6 p9)]])]) (res':=(I x10)) [0,2] rfl Qwc (Qhl N p4 p5 p6 p7 p9 _ hf9) rfl (Qdl (rnc (Qcn rfl) (rnc (Qcn rfl) rn0))) (slc (Qaw (rncc (rncc rn0))) (slc (Qaw (rnc (pld Qa5) rn0)) Qbb)) (slc (Qaw (rncc (rncc rn0))) (slc (Qaw (rnc (pld Qa5) rn0)) Qbb)) (.plain _ nll) rfl rfl rfl,tv⟩<|wxz ?_
     refine bfe h (fun hc11 h=>?_) fun hc11 h=>?_
     ·refine wft hc11<|wxz ?_
      refine wmr (mto (n:=18) (l':=[(2,I x10)]) (own':=[(z3_4 p4 p5 p6 p7),(.own 1 [[(z3_5 p8)]]),(.own 1 [[(z3_6 p9)]])]) [(2,I x10)] [0,1,2] [(z3_4 p4 p5 p6 p7),(.own 1 [[(z3_5 p8)]]),(.own 1 [[(z3_6 p9)]])] hq (pw pn) (qb (lcc (lcc ln)) (qb (lc (rnd Qaj) ln) (qb (lc (rnd Qa5) ln) qn))))<|Qad<|Qag<|Qac<|Qac<|Qag<|Qac ?_
      obtain rfl:=osi h
      exact⟨_,Mor.rfl,fio [I x10] ⟨rot,tv⟩⟩
     ·refine wfn hc11<|Qai<|bln<|thn<|wxz1<|thn<|Qgm<|wxz<|wsq<|wfa ?_
      exact Qcp<|Qbf<|Qbf<|Qco rfl<|thn<|⟨(),h,(mto (n:=18) [] [0,1,2] [(z3_4 p4 p5 p6 p7),(.own 1 [[(z3_5 p8)]]),(.own 1 [[(z3_6 p9)]])] hq pn (qb (lcc (lcc ln)) (qb (lc (rnd Qaj) ln) (qb (lc (rnd Qa5) ln) qn))))⟩
def Qfg (N:Nat) (p0:Qam) (p1:List Qaf) (p2:List Qab):Option Int:=
  (Qer N p0.X p0.Y p0.Z p0.Kinds p0.X p0.Y p0.Z p0.Kinds p1 p2).bind fun x2=>
  some x2
def z2_1 (p0:Qam):AV:=.agg [(I p0.X),(I p0.Y),(I p0.Z),(I p0.Kinds)]
def z2_4 (p0:Qam):AV:=.fn (.func 27) [(z2_1 p0)] []
def z2_5:AV:=.fn (.func 28) [] [(.ref 0 4 (0) 0),(.ref 1 1 (0) 0)]
def z2_6:AV:=.fn (.func 30) [] [(.ref 0 4 (0) 0),(.ref 2 1 (0) 0)]
def z2_0 (p0:Qam):Slot:=.own 4 [[(I p0.X),(I p0.Y),(I p0.Z),(I p0.Kinds)]]
def z2_2 (p1:List Qaf):AV:=.dat 2 (p1.map Qae)
def z2_3 (p2:List Qab):AV:=.dat 6 (p2.map Qaq)
theorem Qjs (N:Nat) (p0:Qam) (p1:List Qaf) (p2:List Qab) (r:Int) (h:Qfg N p0 p1 p2=some r):Spec prog 11 [(.agg (Qc9 p0)),(.dat 2 (p1.map Qae)),(.dat 6 (p2.map Qaq))] [] (I r) []:=by
  refine sA func11 0 fun _ _ _ hq hd0=>?_
  unfold Qfg at h
  refine wxz ?_
  obtain⟨x2,hf1,h⟩:=bno h
  refine wx tbk [(1,rp [(.tmp 7,(z2_1 p0))] (z2_4 p0)),(2,rp [(.tmp 3,.ref 0 4 0 0),(.tmp 4,.ref 1 1 0 0)] z2_5),(3,rp [(.tmp 3,.ref 0 4 0 0),(.tmp 5,.ref 2 1 0 0)] z2_6),(4,rp [(.tmp 8,(z2_4 p0)),(.tmp 9,z2_5),(.tmp 10,z2_6)] (.dat 1 [[(z2_4 p0)],[z2_5],[z2_6]])),(5,⟨_,_,_,_,false⟩)] ⟨Qcu (fs:=[(z2_1 p0)]) (cs:=[]) rfl rfl rfl rfl,Qcu (fs:=[]) (cs:=[.ref 0 4 0 0,.ref 1 1 0 0]) rfl rfl rfl rfl,Qcu (fs:=[]) (cs:=[.ref 0 4 0 0,.ref 2 1 0 0]) rfl rfl rfl rfl,Qbn (vs:=[(z2_4 p0),z2_5,z2_6]) rfl underlying88 ti75 tz75 rfl (by decide) rfl (by decide) (by rfl) (by rfl) (by rfl) rfl,acq [(.dat 1 [[(z2_4 p0)],[z2_5],[z2_6]])] [(z2_0 p0),(.own 1 [[(z2_2 p1)]]),(.own 1 [[(z2_3 p2)]])] [(z2_0 p0),(.own 1 [[(z2_2 p1)]]),(.own 1 [[(z2_3 p2)]])] (I x2) [0,1,2] Qnh (Qhz N p0.X p0.Y p0.Z p0.Kinds p0.X p0.Y p0.Z p0.Kinds p1 p2 _ hf1) (Qdl (rnc (Qm9 ⟨(rnc (.plain _ (NLt.fn _ _ _ (nlc (NLt.agg _ (nlcc (nlcc nl0))) nl0) nl0)) rn0),(rnc (Qdw rn0 (rnc (Qcn rfl) (rnc (Qcn rfl) rn0))) rn0),(rnc (Qdw rn0 (rnc (Qcn rfl) (rnc (Qcn rfl) rn0))) rn0),tv⟩) rn0)) (slc (Qaw (rncc (rncc rn0))) (slc (Qaw (rnc (pld Qaj) rn0)) (slc (Qaw (rnc (pld Qa5) rn0)) Qbb))) (slc (Qaw (rncc (rncc rn0))) (slc (Qaw (rnc (pld Qaj) rn0)) (slc (Qaw (rnc (pld Qa5) rn0)) Qbb))) (.plain _ nll),tv⟩<|Qad ?_
  obtain rfl:=osi h
  exact fend ⟨[I x2],⟨rot,tv⟩,rfl⟩ nll
def Qcc (_N:Nat) (_p0:Qam) (_p1:Qab):Option Unit:=
  some ()
abbrev Qw8 (p0:Qam):AV:=.agg [(I p0.X),(I p0.Y),(I p0.Z),(I p0.Kinds)]
abbrev Qur (p1:Qab):AV:=.dat 1 (p1.Blocks.map Qan)
abbrev Quq (p1:Qab):AV:=.dat 1 (p1.Weights.map Qan)
abbrev Qup (p0:Qam) (p1:Qab):AV:=.agg [(I p0.X),(I p0.Y),(I p0.Z),(I p0.Kinds),(I p1.Kind),(Qur p1),(Quq p1)]
abbrev Qqr (p0:Qam) (p1:Qab):AV:=.fn (.func 42) [(Qup p0 p1)] []
theorem Qd9 (N:Nat) (p0:Qam) (p1:Qab) (r:Unit) (h:Qcc N p0 p1=some r):Spec prog 26 [(Qw8 p0),(.agg [(Sx p1.Name),(I p1.Kind),(Qur p1),(Quq p1),(I p1.In.Lo),(I p1.In.Hi)])] [] (Qqr p0 p1) []:=by
  refine sF func26 0 fun _ _ _ hq hd0=>?_
  unfold Qcc at h
  refine wxz<|wx tbk [(7,rp _ _),(8,rp [(.tmp 12,(Qup p0 p1))] (Qqr p0 p1))] ⟨Qay (vs:=[(Qw8 p0),I p1.Kind,(Qur p1),(Quq p1)]) rfl ts92 tz92 rfl (by rfl) rfl,Qcu (fs:=[(Qup p0 p1)]) (cs:=[]) rfl rfl rfl rfl,tv⟩ ?_
  refine wmr (mto (n:=14) (l':=[(4,(Qqr p0 p1))]) (own':=[]) [(4,(Qqr p0 p1))] [] [] hq (pc (.rn (Qdw (rnc (.plain _ (NLt.agg _ (nlcc (nlcc (nlc nll (nlc (nld Qak _) (nlc (nld Qak _) nl0))))))) rn0) rn0)) pn) qn)<|Qad ?_
  obtain rfl:=osi h
  exact⟨_,Mor.rfl,fio [(Qqr p0 p1)] ⟨rot,tv⟩⟩
def Qbg (N:Nat) (p0:Qey) (p1:Qaf) (k2:Int→Option Int):Nat→Int→Int→Option Int
  |0,_,_=>none
  |n7+1,y3,y4=>
    bif (decide (y4<(p0.blocks.length:Int))) then
     (getI p0.blocks y4).bind fun x9=>
     (getI p0.weights y4).bind fun x13=>
     (Qbz N (⟨p0.Field.X,p0.Field.Y,p0.Field.Z,p0.Field.Kinds⟩:Qam)).bind fun x18=>
     (getI p1.Values (w64 ((w64 (p0.kind*x18))+x9))).bind fun x19=>
     (some (w64 (y3+(w64 (x13*x19))))).bind fun x23=>
     Qbg N p0 p1 k2 n7 x23 (w64 (y4+1))
    else
     k2 (y3)
def Qbh (N:Nat) (p0:Qey) (p1:Qaf):Option Int:=
  Qdc (fun y1=>
    some y1) fun k2:Int→Option Int=>
  Qbg N p0 p1 k2 N 0 0
def Qqq (p0:Qey):AV:=.dat 1 (p0.blocks.map Qan)
def Qyj (p0:Qey):AV:=.dat 1 (p0.weights.map Qan)
def Qsw (p0:Qey):Slot:=.own 7 [[(I p0.Field.X),(I p0.Field.Y),(I p0.Field.Z),(I p0.Field.Kinds),(I p0.kind),(Qqq p0),(Qyj p0)]]
def Qsv (p1:Qaf):Slot:=.own 2 [[(Sx p1.Name),(.dat 1 (p1.Values.map Qan))]]
theorem Qc6 (N:Nat) (p0:Qey) (p1:Qaf) (r:Int) (h:Qbh N p0 p1=some r):Spec prog 42 [(.agg (Qk6 p0)),(.agg (Qae p1))] [] (I r) []:=by
  refine sA func42 0 fun _ _ _ hq hd0=>?_
  unfold Qbh at h
  refine wxz ?_
  obtain⟨k2,hk_k2,h⟩:=jko h
  refine wjn (τ:=Int) (fun t=>k2 t=some r) (fun y1=>⟨mk 37 [(4,I y1)],[]⟩) (fun y1 h=>?_) ?_
  ·subst hk_k2
   refine wxz<|Qad ?_
   obtain rfl:=osi h
   exact fend ⟨[I y1],⟨rot,tv⟩,rfl⟩ nll
  ·skip
   refine wx tbk [(2,rp _ _)] ⟨alq 1 Qan p0.blocks underlying40,tv⟩<|Qal ?_
   refine wmr (mto (n:=37) (l':=[(2,.ref 0 7 0 0),(3,.ref 1 2 0 0),(4,I 0),(8,(Qqq p0)),(9,(I ((p0.blocks.length:Int)))),(10,I 0)]) (own':=[(Qsw p0),(Qsv p1)]) [(2,.ref 0 7 0 0),(3,.ref 1 2 0 0),(4,I 0),(8,(Qqq p0)),(9,(I ((p0.blocks.length:Int)))),(10,I 0)] [0,1] [(Qsw p0),(Qsv p1)] hq (prr (prr (pw (pc (rnd Qak) (pw (pw pn)))))) (qb (lcc (lcc (lc rwl (lc (rnd Qak) (lc (rnd Qak) ln))))) (qb (lc rwl (lc (rnd Qak) ln)) qn))) ?_
   refine Qdk (τ:=Int×Int) (fun n t=>Qbg N p0 p1 k2 n t.1 t.2=some r) (fun ⟨y3,y4⟩=>⟨mk 37 [(2,.ref 0 7 0 0),(3,.ref 1 2 0 0),(4,I y3),(8,(Qqq p0)),(9,(I ((p0.blocks.length:Int)))),(10,I y4)],[(Qsw p0),(Qsv p1)]⟩) (fun t h=>by rw[Qbg] at h;cases h) (fun n7 ih t h=>?_) N (0,0) h
   obtain⟨y3,y4⟩:=t
   rw[Qbg] at h
   skip
   refine wxz<|wsq ?_
   refine bfe h (fun hc8 h=>?_) fun hc8 h=>?_
   ·refine wft hc8<|Qai<|thn<|wsq<|Qal ?_
    obtain⟨x9,hg10,h⟩:=bno h
    obtain⟨hi11,hj12⟩:=gsm hg10
    refine wx tbk [(1,rp _ _)] ⟨aiq underlying40 ti3 Qan hi11 hj12,tv⟩ ?_
    obtain⟨x13,hg14,h⟩:=bno h
    obtain⟨hi15,hj16⟩:=gsm hg14
    obtain⟨x18,hf17,h⟩:=bno h
    obtain⟨x19,hg20,h⟩:=bno h
    obtain⟨hi21,hj22⟩:=gsm hg20
    obtain⟨x23,hl24,h⟩:=bno h
    exact wy1 tbk [(4,rp _ _),(12,rp _ _),(16,rp _ _),(20,rp [(.tmp 34,(I (w64 (y3+(w64 (x13*x19))))))] (I x23))] ⟨aiq underlying40 ti3 Qan hi15 hj16,apw Qk1 (Qc2 N (⟨p0.Field.X,p0.Field.Y,p0.Field.Z,p0.Field.Kinds⟩:Qam) _ hf17),aiq underlying40 ti3 Qan hi21 hj22,Qnt hl24 (aas rfl),tv⟩<|bln<|thn<|wxz1<|thn<|arm (mto (n:=37) [(2,.ref 0 7 0 0),(3,.ref 1 2 0 0),(4,I x23),(8,(Qqq p0)),(9,(I ((p0.blocks.length:Int)))),(10,(I (w64 (y4+1))))] [0,1] [(Qsw p0),(Qsv p1)] hq (prr (prr (pw (pc (rnd Qak) (pw (pw pn)))))) (qb (lcc (lcc (lc rwl (lc (rnd Qak) (lc (rnd Qak) ln))))) (qb (lc rwl (lc (rnd Qak) ln)) qn))) (ih (x23,w64 (y4+1)) h)
   ·exact wfn hc8<|Qcp<|Qbf<|Qbf<|Qco rfl<|thn<|⟨(y3),h,(mto (n:=37) [(4,I y3)] [] [] hq (pw pn) qn)⟩
def Qda (_N:Nat) (p0:Qaa) (p1:Int):Option Int:=
  bif (decide (p1>p0.Hi)) then
   some (w64 (p1-p0.Hi))
  else
   bif (decide (p1<p0.Lo)) then
    some (w64 (p1-p0.Lo))
   else
    some 0
theorem Qgz (N:Nat) (p0:Qaa) (p1 r:Int) (h:Qda N p0 p1=some r):Spec prog 32 [(.agg (Qar p0)),(I p1)] [] (I r) []:=by
  refine sA func32 0 fun _ _ _ hq hd0=>?_
  unfold Qda at h
  refine wxz<|wsq<|Qal<|wxz ?_
  refine bfe h (fun hc1 h=>?_) fun hc1 h=>?_
  ·refine wft hc1<|wxz<|Qad<|Qag<|Qac ?_
   obtain rfl:=osi h
   exact fend ⟨[(I (w64 (p1-p0.Hi)))],⟨rot,tv⟩,rfl⟩ nll
  ·refine wfn hc1<|wxz ?_
   refine bfe h (fun hc2 h=>?_) fun hc2 h=>?_
   ·refine wft hc2<|wxz<|Qad<|Qag<|Qac ?_
    obtain rfl:=osi h
    exact fend ⟨[(I (w64 (p1-p0.Lo)))],⟨rot,tv⟩,rfl⟩ nll
   ·refine wfn hc2<|Qai<|bln<|thn<|wxz<|Qad ?_
    obtain rfl:=osi h
    exact fend ⟨[I 0],⟨rot,tv⟩,rfl⟩ nll
def Qbk (N:Nat) (p0:Qam) (p1:Qaf) (p2:List Qab) (k5:(List Int)→Option (List Int)):Nat→Int→(List Int)→Option (List Int)
  |0,_,_=>none
  |n11+1,y7,y8=>
    bif (decide (y7<(p2.length:Int))) then
     (getI p2 y7).bind fun x13=>
     (Qcc N p0 (⟨x13.Name,x13.Kind,x13.Blocks,x13.Weights,(⟨x13.In.Lo,x13.In.Hi⟩:Qaa)⟩:Qab)).bind fun _=>
     (Qbh N (⟨p0,(⟨x13.Name,x13.Kind,x13.Blocks,x13.Weights,(⟨x13.In.Lo,x13.In.Hi⟩:Qaa)⟩:Qab).Kind,(⟨x13.Name,x13.Kind,x13.Blocks,x13.Weights,(⟨x13.In.Lo,x13.In.Hi⟩:Qaa)⟩:Qab).Blocks,(⟨x13.Name,x13.Kind,x13.Blocks,x13.Weights,(⟨x13.In.Lo,x13.In.Hi⟩:Qaa)⟩:Qab).Weights⟩:Qey) p1).bind fun x20=>
     (Qda N (⟨x13.In.Lo,x13.In.Hi⟩:Qaa) x20).bind fun x22=>
     chk (decide (0≤y7)&&decide (y7.toNat<(p2.length:Int).toNat))<|
     (y8[y7.toNat]?).bind fun _=>
     Qbk N p0 p1 p2 k5 n11 (w64 (y7+1)) (y8.set y7.toNat x22)
    else
     k5 (y8)
def Qc1 (N:Nat) (p0:Qam) (p1:Qaf) (p2:List Qab):Option (List Int):=
  chk (decide (0≤(p2.length:Int))&&decide (8*(p2.length:Int)≤281474976710656)&&decide ((p2.length:Int)≤9223372036854775807))<|
  Qdc (fun y4=>
    chk (decide ((p2.length:Int).toNat≤y4.length))<|
    some (y4.take ((p2.length:Int).toNat))) fun k5:(List Int)→Option (List Int)=>
  Qbk N p0 p1 p2 k5 N 0 (List.replicate (p2.length:Int).toNat 0)
def Qsx (p2:List Qab):AV:=.dat 6 (p2.map Qaq)
def Qw9 (p2:List Qab):Slot:=.own 1 ((List.replicate (p2.length:Int).toNat 0:List Int).map Qan)
def Qn2 (y4:List Int) (p2:List Qab):AV:=.dat 1 ((y4.take ((p2.length:Int).toNat):List Int).map Qan)
def Qsz (p0:Qam):Slot:=.own 4 [[(I p0.X),(I p0.Y),(I p0.Z),(I p0.Kinds)]]
def Qsy (p1:Qaf):Slot:=.own 2 [[(Sx p1.Name),(.dat 1 (p1.Values.map Qan))]]
def Qyk (p0:Qam):AV:=.agg [(I p0.X),(I p0.Y),(I p0.Z),(I p0.Kinds)]
def Qt3 (x13:Qab):AV:=.dat 1 (((⟨x13.Name,x13.Kind,x13.Blocks,x13.Weights,(⟨x13.In.Lo,x13.In.Hi⟩:Qaa)⟩:Qab).Blocks:List Int).map Qan)
def Qt2 (x13:Qab):AV:=.dat 1 (((⟨x13.Name,x13.Kind,x13.Blocks,x13.Weights,(⟨x13.In.Lo,x13.In.Hi⟩:Qaa)⟩:Qab).Weights:List Int).map Qan)
def Qqs (p0:Qam) (x13:Qab):AV:=.agg [(I p0.X),(I p0.Y),(I p0.Z),(I p0.Kinds),(I ((⟨x13.Name,x13.Kind,x13.Blocks,x13.Weights,(⟨x13.In.Lo,x13.In.Hi⟩:Qaa)⟩:Qab).Kind)),(Qt3 x13),(Qt2 x13)]
theorem Qf6 (N:Nat) (p0:Qam) (p1:Qaf) (p2:List Qab) (r:List Int) (h:Qc1 N p0 p1 p2=some r):Spec prog 12 [(.agg (Qc9 p0)),(.agg (Qae p1)),(.dat 6 (p2.map Qaq))] [] (.dat 1 (r.map Qan)) []:=by
  refine sF func12 0 fun _ _ _ hq hd0=>?_
  unfold Qc1 at h
  refine wxz ?_
  obtain⟨hm3,h⟩:=cko h
  refine wx tbk [(1,rp _ _),(2,⟨[(.tmp 11,(I ((p2.length:Int)))),(.tmp 11,(I ((p2.length:Int))))],[(2,.unused)],(.own 2 1 (0) ((p2.length:Int).toNat)),[(2,(Qw9 p2))],false⟩)] ⟨alq 6 Qaq p2 underlying43,Qpg rfl underlying40 te3 tz3 rfl (Qwx hm3) rfl (Qww hm3) (Qx6 hm3) (Qve Qan rfl),tv⟩ ?_
  obtain⟨k5,hk_k5,h⟩:=jko h
  refine wjn (τ:=(List Int)) (fun t=>k5 t=some r) (fun y4=>⟨mk 33 [(7,(.own 0 1 (0) ((p2.length:Int).toNat)))],[(.own 1 (y4.map Qan))]⟩) (fun y4 h=>?_) ?_
  ·subst hk_k5
   refine wxz ?_
   obtain⟨hz6,h⟩:=cko h
   refine wmr (Qxr (n:=33) (l':=[(6,(Qn2 y4 p2))]) 0 [(6,(.own 0 1 (0) ((p2.length:Int).toNat)))] (by kernel_rfl) (by kernel_rfl) (by kernel_rfl) ⟨rfl,(Qvn hz6),tv⟩ rfl) ?_
   refine wmr (mto (n:=33) (l':=[(6,(Qn2 y4 p2))]) (own':=[]) [(6,(Qn2 y4 p2))] [] [] hq (pc (rnd Qak) pn) qn)<|Qad ?_
   obtain rfl:=osi h
   exact⟨_,Mor.rfl,fio [(Qn2 y4 p2)] ⟨rot,tv⟩⟩
  ·skip
   refine wx tbk [(1,rp _ _)] ⟨alq 6 Qaq p2 underlying43,tv⟩<|Qal ?_
   refine wmr (mto (n:=33) (l':=[(3,.ref 0 4 0 0),(4,.ref 1 2 0 0),(7,(.own 2 1 (0) ((p2.length:Int).toNat))),(13,(Qsx p2)),(14,(I ((p2.length:Int)))),(15,I 0)]) (own':=[(Qsz p0),(Qsy p1),(.own 1 (((List.replicate (p2.length:Int).toNat 0):List Int).map Qan))]) [(3,.ref 0 4 0 0),(4,.ref 1 2 0 0),(7,(.own 2 1 (0) ((p2.length:Int).toNat))),(13,(Qsx p2)),(14,(I ((p2.length:Int)))),(15,I 0)] [0,1,2] [(Qsz p0),(Qsy p1),(Qw9 p2)] hq (prr (prr (pc (.rn (Qm8 rfl)) (pc (rnd Qa5) (pw (pw pn)))))) (qb (lcc (lcc ln)) (qb (lc rwl (lc (rnd Qak) ln)) (qc (spr Qak) qn)))) ?_
   refine Qdk (τ:=Int×(List Int)) (fun n t=>Qbk N p0 p1 p2 k5 n t.1 t.2=some r) (fun ⟨y7,y8⟩=>⟨mk 33 [(3,.ref 0 4 0 0),(4,.ref 1 2 0 0),(7,(.own 2 1 (0) ((p2.length:Int).toNat))),(13,(Qsx p2)),(14,(I ((p2.length:Int)))),(15,I y7)],[(Qsz p0),(Qsy p1),(.own 1 (y8.map Qan))]⟩) (fun t h=>by rw[Qbk] at h;cases h) (fun n11 ih t h=>?_) N (0,List.replicate (p2.length:Int).toNat 0) h
   obtain⟨y7,y8⟩:=t
   rw[Qbk] at h
   skip
   refine wxz<|wsq ?_
   refine bfe h (fun hc12 h=>?_) fun hc12 h=>?_
   ·refine wft hc12<|Qai<|thn<|wsq<|Qal ?_
    obtain⟨x13,hg14,h⟩:=bno h
    obtain⟨hi15,hj16⟩:=gsm hg14
    refine wx tbk [(1,rp _ _)] ⟨aiq underlying43 ti52 Qaq hi15 hj16,tv⟩ ?_
    obtain⟨x18,hf17,h⟩:=bno h
    obtain⟨x20,hf19,h⟩:=bno h
    obtain⟨x22,hf21,h⟩:=bno h
    obtain⟨hi23,h⟩:=cko h
    obtain⟨hi23a,hi23b⟩:=Qwv hi23
    obtain⟨x24,hg25,h⟩:=bno h
    refine wy1 tbk [(6,rp _ _),(8,rp [(.tmp 26,(.fn (.func 42) [(Qqs p0 x13)] [])),(.tmp 27,(.agg [(Sx p1.Name),(.dat 1 (p1.Values.map Qan))]))] (I x20)),(9,rp _ _),(10,rb [(.tmp 20,(.own 2 1 (0) ((p2.length:Int).toNat))),(.tmp 21,I y7)] [(2,(.own 1 (y8.map Qan)))] (.ref 2 1 y7.toNat 0)),(11,⟨[(.tmp 30,(.ref 2 1 y7.toNat 0)),(.tmp 29,I x22)],[(2,(.own 1 (y8.map Qan)))],.any,[(2,(.own 1 ((y8.set y7.toNat x22:List Int).map Qan)))],false⟩)] ⟨acq [(Qyk p0),(.agg [(Sx ((⟨x13.Name,x13.Kind,x13.Blocks,x13.Weights,(⟨x13.In.Lo,x13.In.Hi⟩:Qaa)⟩:Qab).Name)),(I ((⟨x13.Name,x13.Kind,x13.Blocks,x13.Weights,(⟨x13.In.Lo,x13.In.Hi⟩:Qaa)⟩:Qab).Kind)),(Qt3 x13),(Qt2 x13),(I ((⟨x13.Name,x13.Kind,x13.Blocks,x13.Weights,(⟨x13.In.Lo,x13.In.Hi⟩:Qaa)⟩:Qab).In.Lo)),(I ((⟨x13.Name,x13.Kind,x13.Blocks,x13.Weights,(⟨x13.In.Lo,x13.In.Hi⟩:Qaa)⟩:Qab).In.Hi))])] [] [] (.fn (.func 42) [(Qqs p0 x13)] []) [] Qry (Qd9 N p0 (⟨x13.Name,x13.Kind,x13.Blocks,x13.Weights,(⟨x13.In.Lo,x13.In.Hi⟩:Qaa)⟩:Qab) _ hf17) (Qdl (rnc (.plain _ (NLt.agg _ (nlcc (nlcc nl0)))) (rnc (.plain _ (NLt.agg _ (nlcc (nlc (nld Qak _) (nlc (nld Qak _) (nlcc nl0)))))) rn0))) Qbb Qbb (.plain _ (NLt.fn _ _ _ (nlc (NLt.agg _ (nlcc (nlcc (nlc nll (nlc (nld Qak _) (nlc (nld Qak _) nl0)))))) nl0) nl0)),apc (first:=[(Qqs p0 x13)]) (cap:=[]) (vs:=[(.agg [(Sx p1.Name),(.dat 1 (p1.Values.map Qan))])]) rfl Qi7 (Qc6 N (⟨p0,(⟨x13.Name,x13.Kind,x13.Blocks,x13.Weights,(⟨x13.In.Lo,x13.In.Hi⟩:Qaa)⟩:Qab).Kind,(⟨x13.Name,x13.Kind,x13.Blocks,x13.Weights,(⟨x13.In.Lo,x13.In.Hi⟩:Qaa)⟩:Qab).Blocks,(⟨x13.Name,x13.Kind,x13.Blocks,x13.Weights,(⟨x13.In.Lo,x13.In.Hi⟩:Qaa)⟩:Qab).Weights⟩:Qey) p1 _ hf19) rfl rfl (nlc (NLt.agg _ (nlcc (nlcc (nlc nll (nlc (nld Qak _) (nlc (nld Qak _) nl0)))))) (nlc (NLt.agg _ (nlc nll (nlc (nld Qak _) nl0))) nl0)) nll rfl,apw Qwa (Qgz N (⟨x13.In.Lo,x13.In.Hi⟩:Qaa) x20 _ hf21),aio rfl underlying40 ti3 (odt hi23a) (odt hi23b) (Nat.zero_add _),ast rfl ti3 (by rfl) (mgt Qan hg25) (nle rfl) (Qvb Qan rfl),tv⟩<|bln<|thn<|wxz1<|thn ?_
    exact arm (mto (n:=33) [(3,.ref 0 4 0 0),(4,.ref 1 2 0 0),(7,(.own 2 1 (0) ((p2.length:Int).toNat))),(13,(Qsx p2)),(14,(I ((p2.length:Int)))),(15,(I (w64 (y7+1))))] [0,1,2] [(Qsz p0),(Qsy p1),(.own 1 ((y8.set y7.toNat x22:List Int).map Qan))] hq (prr (prr (pc (.rn (Qm8 rfl)) (pc (rnd Qa5) (pw (pw pn)))))) (qb (lcc (lcc ln)) (qb (lc rwl (lc (rnd Qak) ln)) (qc (spr Qak) qn)))) (ih (w64 (y7+1),y8.set y7.toNat x22) h)
   ·exact wfn hc12<|Qcp<|Qbf<|Qbf<|Qco rfl<|thn<|⟨(y8),h,(mto (n:=33) [(7,(.own 2 1 (0) ((p2.length:Int).toNat)))] [2] [(.own 1 (y8.map Qan))] hq (pc (.rn (Qm8 rfl)) pn) (qc (spr Qak) qn))⟩
def Qd5 (_N:Nat) (p0:Int):Option Bool:=
  some (p0 != 0)
theorem Qhb (N:Nat) (p0:Int) (r:Bool) (h:Qd5 N p0=some r):Spec prog 14 [(I p0)] [] (B r) []:=by
  refine sA func14 0 fun _ _ _ hq hd0=>?_
  unfold Qd5 at h
  refine wxz<|wxz<|Qad ?_
  obtain rfl:=osi h
  exact fend ⟨[(B ((p0 != 0)))],⟨rot,tv⟩,rfl⟩ nll
def Qau (N:Nat) (p0:List Int) (k1:Unit→Option Int):Nat→Int→Option Int
  |0,_=>none
  |n4+1,y2=>
    bif (decide (y2<(p0.length:Int))) then
     (getI p0 y2).bind fun x6=>
     (Qd5 N x6).bind fun x11=>
     bif x11 then
      some y2
     else
      Qau N p0 k1 n4 (w64 (y2+1))
    else
     k1 ()
def Qce (N:Nat) (p0:List Int):Option Int:=
  Qdc (fun _=>
    some (-1)) fun k1:Unit→Option Int=>
  Qau N p0 k1 N 0
theorem Qet (N:Nat) (p0:List Int) (r:Int) (h:Qce N p0=some r):Spec prog 13 [(.dat 1 (p0.map Qan)),(.fn (.func 14) [] [])] [] (I r) []:=by
  refine sA func13 0 fun _ _ _ hq hd0=>?_
  unfold Qce at h
  refine wxz ?_
  obtain⟨k1,hk_k1,h⟩:=jko h
  refine wjn (τ:=Unit) (fun t=>k1 t=some r) (fun _=>⟨mk 19 [],[]⟩) (fun t h=>?_) ?_
  ·subst hk_k1
   refine wxz<|Qad ?_
   obtain rfl:=osi h
   exact fend ⟨[(I ((-1)))],⟨rot,tv⟩,rfl⟩ nll
  ·skip
   refine wx tbk [(1,rp _ _)] ⟨alq 1 Qan p0 underlying40,tv⟩<|Qal ?_
   refine wmr (mto (n:=19) (l':=[(0,(.dat 1 (p0.map Qan))),(1,(.fn (.func 14) [] [])),(7,(I ((p0.length:Int)))),(8,I 0)]) (own':=[]) [(0,(.dat 1 (p0.map Qan))),(1,(.fn (.func 14) [] [])),(7,(I ((p0.length:Int)))),(8,I 0)] [] [] hq (pc (rnd Qak) (pc (.rn (Qdw rn0 rn0)) (pw (pw pn)))) qn) ?_
   refine Qdk (τ:=Int) (fun n t=>Qau N p0 k1 n t=some r) (fun y2=>⟨mk 19 [(0,(.dat 1 (p0.map Qan))),(1,(.fn (.func 14) [] [])),(7,(I ((p0.length:Int)))),(8,I y2)],[]⟩) (fun t h=>by rw[Qau] at h;cases h) (fun n4 ih y2 h=>?_) N (0) h
   rw[Qau] at h
   skip
   refine wxz<|wsq ?_
   refine bfe h (fun hc5 h=>?_) fun hc5 h=>?_
   ·refine wft hc5<|Qai<|thn<|wsq<|Qal<|wxz ?_
    obtain⟨x6,hg7,h⟩:=bno h
    obtain⟨hi8,hj9⟩:=gsm hg7
    obtain⟨x11,hf10,h⟩:=bno h
    refine wx tbk [(3,rp _ _),(5,rp _ _)] ⟨aiq underlying40 ti3 Qan hi8 hj9,apw Qwj (Qhb N x6 _ hf10),tv⟩ ?_
    refine bfe h (fun hc12 h=>?_) fun hc12 h=>?_
    ·refine wft hc12<|wxz<|Qad<|Qag<|Qac<|Qac<|Qag<|Qac ?_
     obtain rfl:=osi h
     exact fend ⟨[I y2],⟨rot,tv⟩,rfl⟩ nll
    ·exact wfn hc12<|Qai<|bln<|thn<|wxz1<|thn<|arm (mto (n:=19) [(0,(.dat 1 (p0.map Qan))),(1,(.fn (.func 14) [] [])),(7,(I ((p0.length:Int)))),(8,(I (w64 (y2+1))))] [] [] hq (pc (rnd Qak) (pc (.rn (Qdw rn0 rn0)) (pw (pw pn)))) qn) (ih (w64 (y2+1)) h)
   ·exact wfn hc5<|Qcp<|Qbf<|Qbf<|Qco rfl<|thn<|⟨(),h,(mto (n:=19) [] [] [] hq pn qn)⟩
def Qbt (N:Nat) (p0:Qam) (p1:List Qaf) (p2:List Qab) (k6:(List Int)×(List Qb1)→Option ((List Int)×(List Qb1)×Int)):Nat→(List Int)→(List Qb1)→Int→Option ((List Int)×(List Qb1)×Int)
  |0,_,_,_=>none
  |n13+1,y7,y8,y9=>
    bif (decide (y9<(p1.length:Int))) then
     (getI p1 y9).bind fun x15=>
     (Qc1 N p0 x15 p2).bind fun x20=>
     (Qce N x20).bind fun x22=>
     bif (decide (x22≥0)) then
      (getI x20 x22).bind fun x24=>
      chk (decide ((y8.length+([(⟨y9,x22,x24⟩:Qb1)]).length)*24≤140737488355328))<|
      Qbt N p0 p1 p2 k6 n13 y7 (y8++([(⟨y9,x22,x24⟩:Qb1)])) (w64 (y9+1))
     else
      chk (decide ((y7.length+([y9]).length)*8≤140737488355328))<|
      Qbt N p0 p1 p2 k6 n13 (y7++([y9])) y8 (w64 (y9+1))
    else
     k6 (y7,y8)
def Qdo (N:Nat) (p0:Qam) (p1:List Qaf) (p2:List Qab):Option ((List Int)×(List Qb1)×Int):=
  (Qfg N p0 p1 p2).bind fun x2=>
  bif (x2 != 0) then
   some ([],[],x2)
  else
   Qdc (fun ⟨y4,y5⟩=>
     some (y4,y5,0)) fun k6:(List Int)×(List Qb1)→Option ((List Int)×(List Qb1)×Int)=>
   Qbt N p0 p1 p2 k6 N ([]) ([]) 0
def z1_2 (p1:List Qaf):AV:=.dat 2 (p1.map Qae)
def z1_3 (p2:List Qab):AV:=.dat 6 (p2.map Qaq)
def z1_0 (p0:Qam):Slot:=.own 4 [[(I p0.X),(I p0.Y),(I p0.Z),(I p0.Kinds)]]
def Qs1 (y7:List Int):AV:=.acc 1 3 1 (y7.map Qan)
def Qs2 (y8:List Qb1):AV:=.acc 2 68 3 (y8.map Qcq)
theorem Qh0 (N:Nat) (p0:Qam) (p1:List Qaf) (p2:List Qab) (r:((List Int)×(List Qb1)×Int)) (h:Qdo N p0 p1 p2=some r):Spec prog 7 [(.agg (Qc9 p0)),(.dat 2 (p1.map Qae)),(.dat 6 (p2.map Qaq))] [] (.tup [(.dat 1 (r.1.map Qan)),(.dat 3 (r.2.1.map Qcq)),(I r.2.2)]) []:=by
  refine sA func7 0 fun _ _ _ hq hd0=>?_
  unfold Qdo at h
  refine wxz<|wsq ?_
  obtain⟨x2,hf1,h⟩:=bno h
  refine wx tbk [(3,rp _ _)] ⟨apw Qwl (Qjs N p0 p1 p2 _ hf1),tv⟩<|wxz ?_
  refine bfe h (fun hc3 h=>?_) fun hc3 h=>?_
  ·refine wft hc3<|wxz<|Qad<|Qac ?_
   obtain rfl:=osi h
   exact fie [(.dat 1 (([]:List Int).map Qan)),(.dat 3 (([]:List Qb1).map Qcq)),I x2] ⟨Qgu (v:=nilS) rot Less.nil,Qgu (v:=nilS) rot Less.nil,rot,tv⟩
  ·refine wfn hc3<|Qai<|thn ?_
   obtain⟨k6,hk_k6,h⟩:=jko h
   refine wjn (τ:=(List Int)×(List Qb1)) (fun t=>k6 t=some r) (fun ⟨y4,y5⟩=>⟨mk 53 [(6,(.acc 0 3 1 (y4.map Qan))),(7,(.acc 1 68 3 (y5.map Qcq)))],[.tok,.tok]⟩) (fun t h=>?_) ?_
   ·subst hk_k6
    obtain⟨y4,y5⟩:=t
    refine wxz<|Qad ?_
    obtain rfl:=osi h
    exact fie [(.dat 1 (y4.map Qan)),(.dat 3 (y5.map Qcq)),I 0] ⟨Qgu (v:=(.acc 0 3 1 (y4.map Qan))) rot Less.acc,Qgu (v:=(.acc 1 68 3 (y5.map Qcq))) rot Less.acc,rot,tv⟩
   ·skip
    refine wx tbk [(1,rp _ _)] ⟨alq 2 Qae p1 underlying33,tv⟩<|Qal ?_
    refine wmr (Mor.trans (Qhv 1 3 1 6 (by kernel_rfl) (by kernel_rfl)) (Mor.trans (Qhv 2 68 3 7 (by kernel_rfl) (by kernel_rfl)) (mto (n:=53) (l':=[(2,(z1_3 p2)),(3,.ref 0 4 0 0),(6,(.acc 1 3 1 ((([]):List Int).map Qan))),(7,(.acc 2 68 3 ((([]):List Qb1).map Qcq))),(21,(z1_2 p1)),(22,(I ((p1.length:Int)))),(23,I 0)]) (own':=[(z1_0 p0),.tok,.tok]) [(2,(z1_3 p2)),(3,.ref 0 4 0 0),(6,(.acc 1 3 1 (([]:List Int).map Qan))),(7,(.acc 2 68 3 (([]:List Qb1).map Qcq))),(21,(z1_2 p1)),(22,(I ((p1.length:Int)))),(23,I 0)] [0,1,2] [(z1_0 p0),.tok,.tok] hq (pc (rnd Qa5) (prr (pc (.rn (Qax rfl (Qas Qak _))) (pc (.rn (Qax rfl (Qas Qe9 _))) (pc (rnd Qaj) (pw (pw pn))))))) (qb (lcc (lcc ln)) (qc .tok (qc .tok qn)))))) ?_
    refine Qdk (τ:=(List Int)×(List Qb1)×Int) (fun n t=>Qbt N p0 p1 p2 k6 n t.1 t.2.1 t.2.2=some r) (fun ⟨y7,y8,y9⟩=>⟨mk 53 [(2,(z1_3 p2)),(3,.ref 0 4 0 0),(6,(Qs1 y7)),(7,(Qs2 y8)),(21,(z1_2 p1)),(22,(I ((p1.length:Int)))),(23,I y9)],[(z1_0 p0),.tok,.tok]⟩) (fun t h=>by rw[Qbt] at h;cases h) (fun n13 ih t h=>?_) N ([],[],0) h
    obtain⟨y7,y8,y9⟩:=t
    rw[Qbt] at h
    skip
    refine wxz<|wsq ?_
    refine bfe h (fun hc14 h=>?_) fun hc14 h=>?_
    ·refine wft hc14<|Qai<|thn<|wsq<|Qal ?_
     obtain⟨x15,hg16,h⟩:=bno h
     obtain⟨hi17,hj18⟩:=gsm hg16
     refine wx tbk [(1,rp _ _)] ⟨aiq underlying33 ti42 Qae hi17 hj18,tv⟩ ?_
     obtain⟨x20,hf19,h⟩:=bno h
     refine wx tbk [(3,rp _ _)] ⟨apw Qwk (Qf6 N p0 x15 p2 _ hf19),tv⟩ ?_
     obtain⟨x22,hf21,h⟩:=bno h
     refine wx tbk [(1,rp _ _)] ⟨acq [(.dat 1 (x20.map Qan)),(.fn (.func 14) [] [])] [] [] (I x22) [] Qr1 (Qet N x20 _ hf21) (Qdl (rnc (pld Qak) (rnc (.plain _ (NLt.fn _ _ _ nl0 nl0)) rn0))) Qbb Qbb (.plain _ nll),tv⟩<|wxz ?_
     refine bfe h (fun hc23 h=>?_) fun hc23 h=>?_
     ·refine wft hc23 ?_
      obtain⟨x24,hg25,h⟩:=bno h
      obtain⟨hi26,hj27⟩:=gsm hg25
      obtain⟨ha28,h⟩:=cko h
      refine wx1 tbk [(5,rp _ _),(7,rp _ _),(8,rp [(.tmp 43,(.agg [I y9,I x22,I x24]))] (.dat 3 (([(⟨y9,x22,x24⟩:Qb1)]:List Qb1).map Qcq))),(9,⟨[(.tmp 36,(Qs2 y8)),(.tmp 44,(.dat 3 (([(⟨y9,x22,x24⟩:Qb1)]:List Qb1).map Qcq)))],[(2,.tok),(4,.unused)],(.acc 4 68 3 ((y8++([(⟨y9,x22,x24⟩:Qb1)]):List Qb1).map Qcq)),[(2,.dead),(4,.tok)],false⟩)] ⟨aiq underlying40 ti3 Qan hi26 hj27,Qay (vs:=[I y9,I x22,I x24]) rfl ts68 tz68 rfl (by rfl) rfl,Qbn (vs:=[(.agg [I y9,I x22,I x24])]) rfl underlying53 ti68 tz68 rfl (by decide) rfl (by decide) (by rfl) (by rfl) (by rfl) rfl,Qex rfl underlying53 te68 (Base.acc _ _) rfl rfl (by rfl) (Qgp Qcq ha28) (Qgo Qcq ha28 (by decide)) (Qgn Qcq) rfl rfl,tv⟩<|bln<|thn<|wxz1<|thn ?_
      exact arm (mto (n:=53) [(2,(z1_3 p2)),(3,.ref 0 4 0 0),(6,(Qs1 y7)),(7,(.acc 4 68 3 ((y8++([(⟨y9,x22,x24⟩:Qb1)]):List Qb1).map Qcq))),(21,(z1_2 p1)),(22,(I ((p1.length:Int)))),(23,(I (w64 (y9+1))))] [0,1,4] [(z1_0 p0),.tok,.tok] hq (pc (rnd Qa5) (prr (pc (.rn (Qax rfl (Qas Qak _))) (pc (.rn (Qax rfl (Qas Qe9 _))) (pc (rnd Qaj) (pw (pw pn))))))) (qb (lcc (lcc ln)) (qc .tok (qc .tok qn)))) (ih (y7,y8++([(⟨y9,x22,x24⟩:Qb1)]),w64 (y9+1)) h)
     ·refine wfn hc23 ?_
      obtain⟨ha29,h⟩:=cko h
      refine wx1 tbk [(2,rp [(.tmp 47,I y9)] (.dat 1 (([y9]:List Int).map Qan))),(3,⟨[(.tmp 46,(Qs1 y7)),(.tmp 48,(.dat 1 (([y9]:List Int).map Qan)))],[(1,.tok),(4,.unused)],(.acc 4 3 1 ((y7++([y9]):List Int).map Qan)),[(1,.dead),(4,.tok)],false⟩)] ⟨Qbn (vs:=[I y9]) rfl underlying40 ti3 tz3 rfl (by decide) rfl (by decide) (by rfl) (by rfl) (by rfl) rfl,Qex rfl underlying40 te3 (Base.acc _ _) rfl rfl (by rfl) (Qgp Qan ha29) (Qgo Qan ha29 (by decide)) (Qgn Qan) rfl rfl,tv⟩<|bln<|thn<|wxz1<|thn ?_
      exact arm (mto (n:=53) [(2,(z1_3 p2)),(3,.ref 0 4 0 0),(6,(.acc 4 3 1 ((y7++([y9]):List Int).map Qan))),(7,(Qs2 y8)),(21,(z1_2 p1)),(22,(I ((p1.length:Int)))),(23,(I (w64 (y9+1))))] [0,4,2] [(z1_0 p0),.tok,.tok] hq (pc (rnd Qa5) (prr (pc (.rn (Qax rfl (Qas Qak _))) (pc (.rn (Qax rfl (Qas Qe9 _))) (pc (rnd Qaj) (pw (pw pn))))))) (qb (lcc (lcc ln)) (qc .tok (qc .tok qn)))) (ih (y7++([y9]),y8,w64 (y9+1)) h)
    ·exact wfn hc14<|Qcp<|Qbf<|Qbf<|Qco rfl<|thn<|⟨(y7,y8),h,(mto (n:=53) [(6,(Qs1 y7)),(7,(Qs2 y8))] [1,2] [.tok,.tok] hq (pc (.rn (Qax rfl (Qas Qak _))) (pc (.rn (Qax rfl (Qas Qe9 _))) pn)) (qc .tok (qc .tok qn)))⟩
end
section
section
variable {P : Program} {o : Oper}
theorem Evo.allocA {X:Nat→Nat→Prop}{φ:Nat→FSlot}{w:World}{n L:Nat}(hn:φ n=.unused) (hlt:∀n b,(φ n).lies b→b<w.heap.size) (ob:Obj):Evo X φ w (upd φ n (.tok (some (w.heap.size,L)))) (w.alloc ob)∧(Qbq φ→Qbq (upd φ n (.tok (some (w.heap.size,L))))):=by
 have ne:∀k,φ k≠.unused→k≠n:=fun k hk e=>hk (e▸hn)
 refine⟨⟨rfl,rfl,rfl,by simp,fun b hb _=>heap_alloc_old w ob hb,fun b ⟨k,hk⟩=>?_,fun b off hd=>⟨⟨by simp;have:=hd.lt;omega,hd.hid,fun k hk=>?_,fun k L hk=>?_,fun k Y hk=>?_,fun k bs q hk=>?_⟩,World.cell?_of_block (heap_alloc_old w ob hd.lt)⟩,fun k hk=>?_,fun k b hk=>?_,fun k t hk=>?_,fun k Y hk=>?_,fun k bs hk=>?_,fun k b hk _=>?_⟩,fun hd k k' b hk hk'=>?_⟩
 ·unfold upd at hk
  split at hk
  ·obtain⟨L',e⟩:=Qen hk
   cases e
   exact .inr (Nat.le_refl _)
  ·exact .inl ⟨k,hk⟩
 ·unfold upd at hk
  split at hk
  ·cases hk
  ·exact hd.own k hk
 ·unfold upd at hk
  split at hk
  ·cases hk
   exact absurd hd.lt (Nat.lt_irrefl _)
  ·exact hd.tok k L hk
 ·unfold upd at hk
  split at hk
  ·cases hk
  ·exact hd.far k Y hk
 ·unfold upd at hk
  split at hk
  ·cases hk
  ·exact hd.mat k bs q hk
 ·rw[upd,if_neg (ne k (by rw[hk];simp))];exact hk
 ·rw[upd,if_neg (ne k (by rw[hk];simp))];exact .inl hk
 ·rw[upd,if_neg (ne k (by rw[hk];simp))]
  exact .inr ⟨hk,fun b L e=>heap_alloc_old w ob (hlt k b (.tok (L:=L) (by rw[hk,e])))⟩
 ·rw[upd,if_neg (ne k (by rw[hk];simp))];exact .inr ⟨Y,hk⟩
 ·rw[upd,if_neg (ne k (by rw[hk];simp))];exact .inr ⟨bs,hk,.refl bs⟩
 ·exact .same (heap_alloc_old w ob (hlt k b (.own hk)))
 ·unfold upd at hk hk'
  split at hk<;>split at hk'
  ·simp_all
  ·obtain⟨L',e⟩:=Qen hk
   cases e
   have:=hlt _ _ hk'
   omega
  ·obtain⟨L',e⟩:=Qen hk'
   cases e
   have:=hlt _ _ hk
   omega
  ·exact hd k k' b hk hk'
theorem Qho {t e:TypeId}{n m nm:Nat}{gg:Bool}{parts:Array (Nat×Operand)}{vs:List AV}{xs:List (List AV)}{zs:List Value}(h:o.op=.buildSlice t n parts) (ht:P.underlying t=some (.slice e)) (he:TI P e gg m) (hz:TZ P e zs) (hzm:zs.length=m) (hm:0<m) (hl:vs.length=parts.size) (hbig:n*m≤16777216)
  (hf:Qo4 (fun i=>some (i*m,m)) ((List.range (n*m)).map fun k=>AV.lit (zs.getD (k % m) undef)) ((parts.toList.map (·.1)).zip vs)=some xs.flatten) (hx:(xs.all fun x=>x.length==m)=true) (hxl:xs.length=n) {rd:List (Operand×AV)}(hrd:(parts.toList.map (·.2)).zip vs=rd):Qbx P o rd [(nm,.unused)] (.acc nm e m xs) [(nm,.tok)]:=by
 subst hrd
 intro X φ a w hr hb hd hX hlt next Q k
 have hnu:φ nm=.unused:=hb (nm,.unused) (by simp)
 obtain⟨z,hz1,hz2⟩:=hz.run w
 have hzs:z.cells.size=m:=by rw[←hzm,←hz2];simp
 have hxs:∀x∈xs,x.length=m:=fun x hxm=>by simpa using List.all_eq_true.1 hx x hxm
 obtain⟨cs',h1,h2,h3⟩:=Qih (X:=X) (φ:=φ) (w:=w) _ (parts.map fun (i,x)=>(i,a.eval x)).toList _ ((Array.range (n*m)).map (z.cells[· % z.cells.size]!)) _ (by simp[hl]) (Qi1 hr) (by simp) (fun k c hk=>by
  rw[List.getElem?_map] at hk
  cases hkr:(List.range (n*m))[k]? with
  |none=>rw[hkr] at hk;cases hk
  |some q=>
   rw[hkr] at hk
   cases hk
   have hlt:=(List.getElem?_eq_some_iff.1 hkr).1
   simp only[List.length_range] at hlt
   have hq:q=k:=by rw[List.getElem?_range hlt] at hkr;cases hkr;rfl
   subst hq
   have hmod:q % m<m:=Nat.mod_lt _ hm
   have:((Array.range (n*m)).map (z.cells[· % z.cells.size]!)).getD q undef=zs.getD (q % m) undef:=by
    rw[Array.getD_eq_getD_getElem?]
    have e1:z.cells[q % m]? = zs[q % m]? := by rw[←hz2,Array.getElem?_toList]
    have e2:q % m<z.cells.size:=by omega
    simp only[Array.getElem?_map,Array.getElem?_range,hlt,if_true,Option.map_some,Option.getD_some,hzs]
    rw[List.getD_eq_getElem?_getD,←e1,Array.getElem?_eq_getElem e2]
    simp[e2]
   rw[this]
   exact .lit _) hf
 have hflat:xs.flatten.length=n*m:=by
  rw[Qg8 hxs,hxl]
 have hexec:(execOp a.eval o).run P w=.ok (.value (.slice (some ⟨w.heap.size,0,none⟩) n n)) (w.alloc (.cells cs' e)):=by
  have hn:¬(n*m>2 ^ 24):=by simpa using hbig
  simp only[execOp,h,Instr.buildSlice,Sem.run_bind,run_underlying ht,Result.andThen_ok,he.size,if_neg hn]
  by_cases h0:n*m=0
  ·have e:((Array.range (n*m)).map (z.cells[· % z.cells.size]!))=(Array.range (n*m)).map ((#[]:Array Value)[· % (#[]:Array Value).size]!):=by
    apply Array.ext
    ·simp
    ·intro i hi _;simp[h0] at hi
   have h1':=h1
   rw[e] at h1'
   simp only[if_pos h0,Sem.run_bind,Sem.run_pure,Result.andThen_ok,h1',newRow,newObj]
   rfl
  ·simp only[if_neg h0,Sem.run_bind,hz1,Sem.run_pure,Result.andThen_ok,h1,newRow,newObj]
   rfl
 have hn1:n≤maxLen:=by
  have:=Nat.le_mul_of_pos_right n hm
  simp only[maxLen]
  omega
 obtain⟨evo,hd'⟩:=Evo.allocA (X:=X) (L:=n*m) hnu hlt (.cells cs' e)
 refine Qek hexec ?_
 have hsz:cs'.size=n*m:=by rw[h2,hflat]
 have hnm:(upd φ nm (.tok (some (w.heap.size,n*m)))) nm=.tok (some (w.heap.size,n*m)):=by simp[upd]
 have hother:∀q,q≠nm→(upd φ nm (.tok (some (w.heap.size,n*m)))) q=φ q:=fun q hq=>by simp[upd,hq]
 refine k _ _ _ (RelV.acc nm e m xs _ _ _ (fun j i=>cs'.getD (j*m+i) undef) ⟨hxl.symm,Nat.le_refl _,hn1,hxs,fun _=>⟨w.heap.size,0,rfl,fun j x hj i hi=>⟨⟨by simp,fun hx=>Nat.lt_irrefl _ (hX _ _ hx),fun q hq=>?_,fun q L hq=>?_,fun q Y hq hy=>?_,fun q bs z hq hz=>?_⟩,?_⟩⟩⟩ (fun j x hj i u hu=>RelV.evo ?_ evo) (by rw[hnm];simp) (fun t ht=>?_)) (fun p hp=>?_) (hd' hd) (fun q hq=>?_) (fun b hb _=>heap_alloc_old w _ hb) evo
 ·by_cases hq':q=nm
  ·subst hq';rw[hnm] at hq;cases hq
  ·rw[hother q hq'] at hq;exact absurd (hlt q _ (.inl hq)) (Nat.lt_irrefl _)
 ·by_cases hq':q=nm
  ·subst hq';rw[hnm] at hq;cases hq
   have hjl:=(List.getElem?_eq_some_iff.1 hj).1
   have:=Qcv hjl hi
   rw[hxl] at this
   omega
  ·rw[hother q hq'] at hq;exact absurd (hlt q _ (.tok hq)) (Nat.lt_irrefl _)
 ·by_cases hq':q=nm
  ·subst hq';rw[hnm] at hq;cases hq
  ·rw[hother q hq'] at hq;exact absurd (hlt q _ (.far hq hy)) (Nat.lt_irrefl _)
 ·by_cases hq':q=nm
  ·subst hq';rw[hnm] at hq;cases hq
  ·rw[hother q hq'] at hq;exact absurd (hlt q _ (.mat hq hz)) (Nat.lt_irrefl _)
 ·have hjl:=(List.getElem?_eq_some_iff.1 hj).1
  have:=Qcv hjl hi
  have hlt':j*m+i<cs'.size:=by rw[hsz,←hxl];exact this
  rw[Nat.zero_add,cell_of_row _ _ _ _ _ _ (heap_alloc_new w _)]
  simp[Array.getD_eq_getD_getElem?,hlt']
 ·have him:i<m:=by
   have:=hxs x (List.mem_of_getElem? hj)
   have:=(List.getElem?_eq_some_iff.1 hu).1
   omega
  exact h3 (j*m+i) u (by rw[Qg9 hxs j x hj i him];exact hu)
 ·rw[hnm] at ht
  cases ht
  exact⟨rfl,rfl,cs',heap_alloc_new w _,hsz,hn1⟩
 ·simp only[List.mem_singleton] at hp
  subst hp
  refine⟨some (w.heap.size,n*m),hnm,fun b L e'=>?_⟩
  cases e'
  exact⟨⟨cs',e,_,heap_alloc_new w _⟩,fun off hx=>Nat.lt_irrefl _ (hX _ _ hx)⟩
 ·exact hother q (by simpa using hq)
end
end
end Go.Proofs.Ytmocejncmhbfaaa
