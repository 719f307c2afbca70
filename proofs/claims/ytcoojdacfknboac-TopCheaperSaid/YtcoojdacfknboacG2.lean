/-
  The texts EngR, EngS, EngT, EngU, EngV, EngW, EngX, EngY, EngA, EngN, EngC, EngE, EngG, EngJ, Xt, EngZ, Xo, X1 of the proof, one behind the other. No conditions.
-/
import Derived.Test.YtcoojdacfknboacG1
import Derived.RangeFuncNested
import Derived.Lib.SliceRun
import Derived.Scope
import Derived.RecoverIn
import Derived.MapKept
import Derived.WideKeyRuns
import Derived.ChangeKeysEq
import Derived.Conc.MuLone
import Derived.Test.YtcoojdacfknboacRows
import Derived.ProofKit
import Derived.Deep.Slices
import Derived.Deep.Fields
import Derived.ChangeSame
import Derived.Lib.SmallJoins
import Derived.SizedLaws
import Derived.OpenShut
namespace Go.Proofs.Ytcoojdacfknboac
open _root_.Go.Proofs.Try
open Go.RowKit
set_option maxRecDepth 100000
set_option maxHeartbeats 4000000
set_option synthInstance.maxSize 4000
set_option synthInstance.maxHeartbeats 400000
section
def Qpj (P:Program) (gf:FuncId) (caps:List AV) (σ:List Slot) {α:Type}(encs:α→List Value) (L:List α):Prop:=
 ∀(X:Nat→Nat→Prop) (φ:Nat→FSlot) (w:World) (vals:Array Value) (l:Nat) (J:Far α),vals.size=caps.length→(∀i v,caps[i]? = some v→RelV X φ w v (vals.getD i undef))→Qk2 X φ w (fun n=>(σ++[Slot.far (J (some L))]).getD n .unused)→Qph P l J encs →
  Calls P gf (#[.func (.yield l) #[] #[]]++vals) w fun e w'=>(∃v,e=.returned v)∧∃φ',Evo X φ w φ' w'∧Qc7 φ'∧(SlotOK X φ' w' σ.length (.far (J (some [])))∨SlotOK X φ' w' σ.length (.far (J none)))
def finI {α:Type}(J:Far α) (k:Nat):Exit→AS→Prop
 |.normal,s |.ret,s=>s.slot k=.far (J (some []))∨s.slot k=.far (J none)
 |_,_=>False
theorem Qps {P:Program}{gf:FuncId}{fn:Func}{c:Code}(hf:P.funcs[gf]? = some fn) (hb:fn.body=some c) (hres:fn.results = #[]) {caps:List AV}{σ:List Slot}{α:Type}{encs:α→List Value}{L:List α}
  (h:∀X φ0 w0 l (J:Far α),(∀n,σ.length+1≤n→φ0 n=.unused)→Qph P l J encs→AWp P X φ0 w0 none c (finI J σ.length) ⟨AV.lit (.func (.yield l) #[] #[])::(caps++List.replicate (fn.ntmps-(caps.length+1)) AV.any),σ++[Slot.far (J (some L))]⟩):Qpj P gf caps σ encs L:=by
 intro X φ w vals l J hsz hargs henv hy
 have hφ0:∀n,σ.length+1≤n→φ n=.unused:=fun n hn=>by
  have:=henv.slot n
  simp only[List.getD_eq_getElem?_getD,List.getElem?_eq_none (show(σ++[Slot.far (J (some L))]).length≤n by simp;omega),Option.getD_none] at this
  exact this
 have hs0:Sim X φ { w with drawn:=0 } φ ⟨AV.lit (.func (.yield l) #[] #[])::(caps++List.replicate (fn.ntmps-(caps.length+1)) AV.any),σ++[Slot.far (J (some L))]⟩ { tmps:=(#[.func (.yield l) #[] #[]]++vals)++Array.replicate (fn.ntmps-(#[Value.func (.yield l) #[] #[]]++vals).size) undef,defers:=[] } w:=by
  refine⟨fun n b hb=>(henv.slot n).lt hb,.nil0 _ _ rfl,?_,fun t v hv=>?_,henv,Evo.refl.to_at⟩
  ·simp[hsz];omega
  ·simp only[Array.getD_eq_getD_getElem?]
   cases t with
   |zero=>
    simp only[List.getElem?_cons_zero,Option.some.injEq] at hv
    subst hv
    rw[Array.getElem?_append_left (by simp;try omega),Array.getElem?_append_left (by simp)]
    exact .lit _
   |succ t=>
    by_cases ht:t<caps.length
    ·simp only[List.getElem?_cons_succ,List.getElem?_append_left ht] at hv
     have:=hargs t v hv
     simp only[Array.getD_eq_getD_getElem?] at this
     rw[Array.getElem?_append_left (by simp;omega),Array.getElem?_append_right (by simp)]
     simpa using this
    ·simp only[List.getElem?_cons_succ,List.getElem?_append_right (Nat.le_of_not_lt ht),List.getElem?_replicate] at hv
     split at hv
     ·cases hv;exact .any _
     ·cases hv
 refine callsIn_wide.1 (callsIn_of_wp_marks (F:=FR none) (n:=0) hf hb trivial (wpIn_mono (h X φ { w with drawn:=0 } l J hφ0 hy φ _ w hs0) fun e a w' ⟨φ',s,hs,hq⟩=>?_))
 ·have fin:finI J σ.length .ret s→LeavesInM (FR none) 0 P fn a.tmps (fun e w'=>(∃v,e=.returned v)∧∃φ',Evo X φ w φ' w'∧Qc7 φ'∧(SlotOK X φ' w' σ.length (.far (J (some [])))∨SlotOK X φ' w' σ.length (.far (J none)))) a.defers .returning w':=fun hq=>by
   refine Qsj (by simp) hs fun w'' hs2=>?_
   rw[Qnj rfl] at hs2 ⊢
   refine⟨.tuple #[],?_,⟨_,rfl⟩,φ',hs2.evo.of_at,hs2.env.distinct,?_⟩
   ·simp[results,hres]
   ·have h1:=hs2.env.slot σ.length
    rcases hq with hq |hq<;>rw[hq] at h1
    ·exact .inl h1
    ·exact .inr h1
  cases e with
  |normal=>exact fin hq
  |ret=>exact fin hq
  |exit=>exact hq.elim
  |goto=>exact hq.elim
  |panic=>exact hq.elim
  |outgrown=>exact hq.elim
structure Evo1 (X:Nat→Nat→Prop) (φ:Nat→FSlot) (w:World) (X':Nat→Nat→Prop) (φ':Nat→FSlot) (w':World):Prop where
 dat:∀b off,DataAt X φ w b off→DataAt X' φ' w' b off∧w'.cell? ⟨b,off,none⟩=w.cell? ⟨b,off,none⟩
 unus:∀n,φ n≠.unused→φ' n≠.unused
 own:∀n b,φ n≠.unused→φ' n=.own b→φ n=.own b
 tok:∀n t,φ n≠.unused→φ' n=.tok t→φ n=.tok t∧∀b L,t=some (b,L)→w'.heap[b]? = w.heap[b]?
 shape:∀n b,φ n=.own b→φ' n=.own b→Shape w w' b
 mat:∀n bs',φ n≠.unused→φ' n=.mat bs'→∃bs,φ n=.mat bs∧MatLe bs bs'
section
variable {X X' : Nat → Nat → Prop} {φ φ' : Nat → FSlot} {w w' : World}
theorem DatOK.evo1 {m:Nat}{xs:List (List AV)}{A:Option Addr}{len cap:Nat}{g:Nat→Nat→Value}(h:DatOK X φ w m xs A len cap g) (e:Evo1 X φ w X' φ' w'):DatOK X' φ' w' m xs A len cap g:=
 ⟨h.hlen,h.hcap,h.hmost,h.hsize,fun hx=>by
  obtain⟨b,o,hA,hc⟩:=h.hcells hx
  exact⟨b,o,hA,fun j x hj i hi=>by
   obtain⟨h1,h2⟩:=hc j x hj i hi
   obtain⟨e1,e2⟩:=e.dat _ _ h1
   exact⟨e1,e2.trans h2⟩⟩⟩
theorem RelV.evo1 {a:AV}{v:Value}(h:RelV X φ w a v) (e:Evo1 X φ w X' φ' w'):RelV X' φ' w' a v:=by
 induction h with
 |any v=>exact .any v
 |lit v=>exact .lit v
 |agg l vs hs _ ih=>exact .agg l vs hs ih
 |tup l vs hs _ ih=>exact .tup l vs hs ih
 |fn f first cap us vs hu hv _ _ ih1 ih2=>exact .fn f first cap us vs hu hv ih1 ih2
 |dat m xs A len cap g ok _ ih=>exact .dat m xs A len cap g (ok.evo1 e) ih
 |dptr cs i b o g hc _ ih=>
  refine .dptr cs i b o g (fun k hk=>?_) ih
  obtain⟨h1,h2⟩:=hc k hk
  obtain⟨e1,e2⟩:=e.dat _ _ h1
  exact⟨e1,e2.trans h2⟩
 |ref n m j i A hn h=>exact .ref n m j i A (e.unus n hn) (fun b hb=>h b (e.own n b hn hb))
 |own n m j len A cap hc hm hn h=>exact .own n m j len A cap hc hm (e.unus n hn) (fun b hb=>h b (e.own n b hn hb))
 |acc n ty m xs A len cap g ok _ hn ht ih=>
  refine .acc n ty m xs A len cap g (ok.evo1 e) ih (e.unus n hn) (fun t hb=>?_)
  obtain⟨h1,h2⟩:=e.tok n t hn hb
  have:=ht t h1
  unfold Tip at this ⊢
  cases t with
  |none=>exact this
  |some p=>
   obtain⟨b,L⟩:=p
   obtain⟨k1,k2,cur,k3,k4⟩:=this
   exact⟨k1,k2,cur,(h2 b L rfl).trans k3,k4⟩
 |gro n ty m len A cap hc hm hn hv h=>
  refine .gro n ty m len A cap hc hm (e.unus n hn) (fun hb=>hv (e.tok n none hn hb).1) (fun b hb=>?_)
  obtain⟨h1,cur,h2,h3⟩:=h b (e.own n b hn hb)
  obtain⟨cur',h4,h5⟩:=e.shape n b (e.own n b hn hb) hb cur ty _ h2
  exact⟨h1,cur',h4,h5.trans h3⟩
 |row n k m j len A cap hc hm hn h=>
  refine .row n k m j len A cap hc hm (e.unus n hn) fun h0 bs' hb=>?_
  obtain⟨bs,h1,h2⟩:=e.mat n bs' hn hb
  exact⟨Nat.lt_of_lt_of_le (h h0 bs h1).1 h2.1,fun b hk=>(h h0 bs h1).2 b (h2.2 k b (h h0 bs h1).1 hk)⟩
 |rowp n k m j i A hn h=>
  refine .rowp n k m j i A (e.unus n hn) fun bs' hb=>?_
  obtain⟨bs,h1,h2⟩:=e.mat n bs' hn hb
  exact⟨Nat.lt_of_lt_of_le (h bs h1).1 h2.1,fun b hk=>(h bs h1).2 b (h2.2 k b (h bs h1).1 hk)⟩
 |mp n A hn h=>exact .mp n A (e.unus n hn) (fun b hb=>h b (e.own n b hn hb))
def Slot.isFar:Slot→Bool
 |.far _=>true
 |_=>false
theorem SlotOK.evo1 {n:Nat}{s:Slot}(h:SlotOK X φ w n s) (hf:s.isFar=false) (e:Evo1 X φ w X' φ' w') (hn:φ' n=φ n) (hb:∀b,(φ n).lies b→w'.heap[b]? = w.heap[b]? ∧ ∀off,¬X' b off):SlotOK X' φ' w' n s:=by
 cases s with
 |unused=>exact hn.trans h
 |dead=>exact hn.trans h
 |own m xs=>
  obtain⟨b,h1,⟨cur,ty,h2,h3,h4,h5⟩,h6⟩:=h
  exact⟨b,hn.trans h1,⟨cur,ty,(hb b (.inl h1)).1.trans h2,h3,h4,fun j x hj i a hi=>(h5 j x hj i a hi).evo1 e⟩,(hb b (.inl h1)).2⟩
 |tok=>
  obtain⟨t,h1,h2⟩:=h
  exact⟨t,hn.trans h1,fun b L hbl=>⟨by rw[(hb b (.tok (L:=L) (by rw[h1,hbl]))).1];exact(h2 b L hbl).1,(hb b (.tok (L:=L) (by rw[h1,hbl]))).2⟩⟩
 |gro m xs=>
  rcases h with ⟨h1,h2⟩ |⟨b,h1,⟨cur,ty,h2,h3,h4,h5⟩,h6⟩
  ·exact .inl ⟨h1,hn.trans h2⟩
  ·exact .inr ⟨b,hn.trans h1,⟨cur,ty,(hb b (.inl h1)).1.trans h2,h3,h4,fun j x hj i a hi=>(h5 j x hj i a hi).evo1 e⟩,(hb b (.inl h1)).2⟩
 |far J=>cases hf
 |mat m rows=>
  obtain⟨bs,h1,h2,h3,h4⟩:=h
  refine⟨bs,hn.trans h1,h2,h3,fun k xs hx=>?_⟩
  rcases h4 k xs hx with h5 |⟨b,hk,⟨cur,ty,c2,c3,c4,c5⟩,c6⟩
  ·exact .inl h5
  ·exact .inr ⟨b,hk,⟨cur,ty,(hb b (.mat h1 hk)).1.trans c2,c3,c4,fun j x hj i a hi=>(c5 j x hj i a hi).evo1 e⟩,(hb b (.mat h1 hk)).2⟩
 |mp es clock=>
  obtain⟨b,h1,h2,h3⟩:=h
  exact⟨b,hn.trans h1,(hb b (.inl h1)).1.trans h2,(hb b (.inl h1)).2⟩
end
def farL (l:Nat) (o:Obj):(Nat→Nat→Prop)→(Nat→Nat→Prop)→World→Prop:=fun Y _ B=>Y=(fun b _=>b=l)∧B.heap[l]? = some o
def Yof (φ:Nat→FSlot) (D0:Nat):Nat→Nat→Prop:=fun b off=>(∃n,φ n=.own b)∨(∃n L,φ n=.tok (some (b,L))∧L≤off)∨(∃n Y,φ n=.far Y∧Y b off)∨(∃(n:Nat) (bs:List (Option Nat)) (k:Nat),φ n=.mat bs∧bs[k]? = some (some b))∨b=D0
def XH (Y D:Nat→Nat→Prop) (B:World):Nat→Nat→Prop:=fun b off=>b<B.heap.size∧¬D b off∧∀off',¬Y b off'
structure EvoN (kb:Nat) (φ:Nat→FSlot) (w:World) (φ':Nat→FSlot) (w':World):Prop where
 dead:∀n,n<kb→φ n=.dead→φ' n=.dead
 own:∀n b,n<kb→φ n=.own b→φ' n=.own b∨φ' n=.dead
 tok:∀n t,n<kb→φ n=.tok t→φ' n=.dead∨(φ' n=.tok t∧∀b L,t=some (b,L)→w'.heap[b]? = w.heap[b]?)
 far:∀n Y,n<kb→φ n=.far Y→φ' n=.dead∨∃Y',φ' n=.far Y'
 shape:∀n b,n<kb→φ n=.own b→φ' n=.own b→Shape w w' b
 mat:∀n bs,n<kb→φ n=.mat bs→φ' n=.dead∨∃bs',φ' n=.mat bs'∧MatLe bs bs'
theorem Qjb {φ:Nat→FSlot}{D0 n b:Nat}(h:(φ n).lies b):∃off,Yof φ D0 b off:=by
 rcases h with h |⟨L,h⟩ |⟨Y,h,off,hy⟩ |⟨bs,h,k,hk⟩
 ·exact⟨0,.inl ⟨n,h⟩⟩
 ·exact⟨L,.inr (.inl ⟨n,L,h,Nat.le_refl _⟩)⟩
 ·exact⟨off,.inr (.inr (.inl ⟨n,Y,h,hy⟩))⟩
 ·exact⟨0,.inr (.inr (.inr (.inl ⟨n,bs,k,h,hk⟩)))⟩
theorem Qna {φ:Nat→FSlot}{D0 b off:Nat}(h:Yof φ D0 b off):Qjc φ b∨b=D0:=by
 rcases h with ⟨n,h⟩ |⟨n,L,h,_⟩ |⟨n,Y,h,hy⟩ |⟨n,bs,k,h,hk⟩ |h
 ·exact .inl ⟨n,.inl h⟩
 ·exact .inl ⟨n,.tok h⟩
 ·exact .inl ⟨n,.far h hy⟩
 ·exact .inl ⟨n,.mat h hk⟩
 ·exact .inr h
theorem Qcz {w:World}{l b:Nat}{o:Obj}(h:b≠l):(w.putObj l o).heap[b]? = w.heap[b]? := World.putObj_heap_other h
theorem Ql9 {w:World}{l:Nat}{o:Obj}(h:l<w.heap.size):(w.putObj l o).heap[l]? = some o:=World.putObj_heap_same h
theorem Qho {w:World}{l:Nat}{o:Obj}:(w.putObj l o).heap.size=w.heap.size:=by simp
theorem Qma {w:World}{l:Nat}{o o':Obj}(h:w.heap[l]? = some o) (ho:o.isCells=false) (ho':o'.isCells=false) (b off:Nat):(w.putObj l o').cell? ⟨b,off,none⟩=w.cell? ⟨b,off,none⟩:=by
 unfold World.cell?
 dsimp only
 by_cases e:b=l
 ·subst e
  rw[Ql9 (Array.getElem?_eq_some_iff.1 h).1,h]
  cases o<;>cases o'<;>first |rfl |(cases ho;done) |(cases ho';done)
 ·rw[Qcz e]
section
variable {P : Program} {X : Nat → Nat → Prop} {φ0 φ φ' : Nat → FSlot} {w0 w w' : World} {ro : Option Nat} {Q : Exit → AS → Prop} {s : AS}
theorem Sim.turnL {k l:Nat}{o o':Obj}{regs:List AV}{own:List Slot}{a:Act}(h:Sim X φ0 w0 φ ⟨regs,own⟩ a w) (hd0:Qc7 φ0) (h0:(φ0 k).lies l) (hk:own[k]? = some (.far (farL l o))) (ho:o.isCells=false) (ho':o'.isCells=false) :
  w.heap[l]? = some o∧Sim X φ0 w0 φ ⟨regs,own.set k (.far (farL l o'))⟩ a (w.putObj l o'):=by
 have hslot:=h.env.slot k
 have hkl:k<own.length:=(List.getElem?_eq_some_iff.1 hk).1
 have e:AS.slot ⟨regs,own⟩ k=.far (farL l o):=by simp[AS.slot,hk]
 rw[e] at hslot
 obtain⟨Y,D,B,h1,⟨rfl,h2⟩,h3⟩:=hslot
 have hY:=h3.own l 0 rfl
 have hl:w.heap[l]? = some o:=hY.2.1.trans h2
 have hne:∀n b,n≠k→(φ n).lies b→b≠l:=fun n b hn hb e=>hn (h.env.distinct n k b hb (.far (off:=0) h1 e))
 have ev:Evo0 X φ w φ (w.putObj l o'):=by
  refine⟨rfl,rfl,rfl,by simp,fun b off hd=>⟨⟨by simpa using hd.lt,hd.hid,hd.own,hd.tok,hd.far,hd.mat⟩,Qma hl ho ho' b off⟩,fun _ h=>h,fun _ _ h=>.inl h,fun n t ht=>.inr ⟨ht,fun b L e=>Qcz (hne n b (fun e'=>?_) (.tok (L:=L) (by rw[ht,e])))⟩,fun _ Y h=>.inr ⟨Y,h⟩,fun _ bs h=>.inr ⟨bs,h,.refl bs⟩,fun n b hn _=>.same (Qcz (hne n b (fun e'=>?_) (.own hn)))⟩
  ·subst e';rw[h1] at ht;cases ht
  ·subst e';rw[h1] at hn;cases hn
 refine⟨hl,h.low,h.defers.to fun D hD hn=>⟨Qcz fun e=>hn ⟨k,by subst e;exact .far (off:=0) h1 rfl⟩,hn⟩,h.size,fun t v hv=>(h.regs t v hv).evo0 ev,⟨fun n=>?_,h.env.distinct,fun b off hx=>by simpa using h.env.hid b off hx⟩,?_⟩
 ·by_cases en:n=k
  ·subst en
   have e2:AS.slot ⟨regs,own.set n (.far (farL l o'))⟩ n=.far (farL l o'):=by simp[AS.slot,hkl]
   rw[e2]
   exact⟨_,fun _ _=>False,_,h1,⟨rfl,Ql9 hY.1⟩,⟨fun b off hb=>⟨by have hb':b=l:=hb;subst hb';simpa using hY.1,rfl,fun off'=>by have hb':b=l:=hb;subst hb';exact hY.2.2 off'⟩,fun b off hf=>hf.elim,rfl,rfl,rfl,Nat.le_refl _⟩⟩
  ·have e2:AS.slot ⟨regs,own.set k (.far (farL l o'))⟩ n=AS.slot ⟨regs,own⟩ n:=by
    simp only[AS.slot,List.getD_eq_getElem?_getD]
    rw[List.getElem?_set_ne (fun e=>en e.symm)]
   rw[e2]
   exact(h.env.slot n).evo0 ev rfl fun b hb=>Qcz (hne n b en hb)
 ·have hb0:∀n b,n≠k→(φ0 n).lies b→b≠l:=fun n b hn hb e=>hn (hd0 n k b hb (e▸h0))
  have E:=h.evo
  refine⟨E.os,E.tape,E.output,by simpa using E.size,fun b hb hh=>(Qcz fun e=>hh ⟨k,by subst e;exact h0⟩).trans (E.blk b hb hh),E.new,fun b off hd=>?_,E.dead,E.own,fun n t hn=>?_,E.far,E.mat,fun n b hn hn'=>(E.shape n b hn hn').trans (ev.shape n b hn' hn')⟩
  ·obtain⟨d1,d2⟩:=E.dat b off hd
   exact⟨(ev.dat b off d1).1,(ev.dat b off d1).2.trans d2⟩
  ·rcases E.tok n t hn with e1 |⟨e1,e2⟩
   ·exact .inl e1
   ·refine .inr ⟨e1,fun b L hb=>?_⟩
    rcases ev.tok n t e1 with e3 |⟨_,e3⟩
    ·rw[e1] at e3;cases e3
    ·exact(e3 b L hb).trans (e2 b L hb)
theorem EvoN.refl {kb:Nat}:EvoN kb φ w φ w:=⟨fun _ _ h=>h,fun _ _ _ h=>.inl h,fun _ _ _ h=>.inr ⟨h,fun _ _ _=>rfl⟩,fun _ Y _ h=>.inr ⟨Y,h⟩,fun _ _ _ _ _=>.same rfl,fun _ bs _ h=>.inr ⟨bs,h,.refl bs⟩⟩
theorem EvoN.trans {kb:Nat}{φ'':Nat→FSlot}{w'':World}(h:EvoN kb φ w φ' w') (k:EvoN kb φ' w' φ'' w''):EvoN kb φ w φ'' w'':=by
 refine⟨fun n hk hn=>k.dead n hk (h.dead n hk hn),fun n b hk hn=>?_,fun n t hk hn=>?_,fun n Y hk hn=>?_,fun n b hk hn hn2=>?_,fun n bs hk hn=>?_⟩
 ·rcases h.own n b hk hn with h1 |h1
  ·exact k.own n b hk h1
  ·exact .inr (k.dead n hk h1)
 ·rcases h.tok n t hk hn with h1 |⟨h1,h2⟩
  ·exact .inl (k.dead n hk h1)
  ·rcases k.tok n t hk h1 with k1 |⟨k1,k2⟩
   ·exact .inl k1
   ·exact .inr ⟨k1,fun b L e=>(k2 b L e).trans (h2 b L e)⟩
 ·rcases h.far n Y hk hn with h1 |⟨Y',h1⟩
  ·exact .inl (k.dead n hk h1)
  ·exact k.far n Y' hk h1
 ·rcases h.own n b hk hn with h1 |h1
  ·exact(h.shape n b hk hn h1).trans (k.shape n b hk h1 hn2)
  ·rw[k.dead n hk h1] at hn2;cases hn2
 ·rcases h.mat n bs hk hn with h1 |⟨bs',h1,hl⟩
  ·exact .inl (k.dead n hk h1)
  ·rcases k.mat n bs' hk h1 with k1 |⟨bs'',k1,kl⟩
   ·exact .inl k1
   ·exact .inr ⟨bs'',k1,hl.trans kl⟩
theorem Evo.toN {kb:Nat}(h:Evo X φ w φ' w'):EvoN kb φ w φ' w':=⟨fun n _=>h.dead n,fun n b _=>h.own n b,fun n t _=>h.tok n t,fun n Y _=>h.far n Y,fun n b _=>h.shape n b,fun n bs _=>h.mat n bs⟩
theorem Qsv {kb:Nat}(h:∀n b,(φ n).lies b→w'.heap[b]? = w.heap[b]?):EvoN kb φ w φ w':=⟨fun _ _ h=>h,fun _ _ _ h=>.inl h,fun n t _ ht=>.inr ⟨ht,fun b L e=>h n b (.tok (L:=L) (by rw[ht,e]))⟩,fun _ Y _ h=>.inr ⟨Y,h⟩,fun n b _ hn _=>.same (h n b (.own hn)),fun _ bs _ h=>.inr ⟨bs,h,.refl bs⟩⟩
theorem Q2t {kb:Nat}(h:∀n,n<kb→φ' n=φ n):EvoN kb φ w φ' w:=⟨fun n hk hn=>(h n hk).trans hn,fun n _ hk hn=>.inl ((h n hk).trans hn),fun n _ hk hn=>.inr ⟨(h n hk).trans hn,fun _ _ _=>rfl⟩,fun n Y hk hn=>.inr ⟨Y,(h n hk).trans hn⟩,fun _ _ _ _ _=>.same rfl,fun n bs hk hn=>.inr ⟨bs,(h n hk).trans hn,.refl bs⟩⟩
def Ren (kb:Nat) (own own':List Slot):Prop:=∀(X:Nat→Nat→Prop) (φ:Nat→FSlot) (w:World),Qk2 X φ w (fun n=>own.getD n .unused)→∃φ',Qk2 X φ' w (fun n=>own'.getD n .unused)∧(∀n,n<kb→φ' n=φ n)∧(∀b,Qjc φ' b→Qjc φ b)∧∀b off,DataAt X φ w b off→DataAt X φ' w b off
theorem Q3w {kb:Nat}{own own':List Slot}(ρ:List Nat) (sel:List Slot) (hdec:(decide ρ.Nodup&&((List.range kb).all fun i=>ρ[i]? == some i))=true) (hs:(ρ.map fun n=>own.getD n .unused)=sel) (ho:QPw (RW fun n n'=>ρ[n']? = some n) sel own'):Ren kb own own':=by
 intro X φ w henv
 simp only[Bool.and_eq_true,decide_eq_true_eq] at hdec
 obtain⟨hnd,hid⟩:=hdec
 obtain⟨q1,q2⟩:=ho.spec
 obtain⟨φ',hφ'⟩:∃φ':Nat→FSlot,φ'=fun n'=>match ρ[n']? with |some n=>φ n |none=>.unused:=⟨_,rfl⟩
 have hM:∀n n',ρ[n']? = some n→φ' n'=φ n:=fun n n' e=>by rw[hφ'];simp only[e]
 have inv:∀n' b,(φ' n').lies b→∃n,ρ[n']? = some n∧(φ n).lies b:=fun n' b hb=>by
  cases e:ρ[n']? with
  |none=>rw[hφ'] at hb;simp only[e] at hb;exact(Qep hb).elim
  |some n=>rw[hM n n' e] at hb;exact⟨n,rfl,hb⟩
 have fwd:∀b off,DataAt X φ w b off→DataAt X φ' w b off:=fun b off hd=>⟨hd.lt,hd.hid,fun n' hn=>by
  obtain⟨n,e,_⟩:=inv n' b (.own hn)
  exact hd.own n ((hM n n' e)▸hn),fun n' L hn=>by
  obtain⟨n,e,_⟩:=inv n' b (.tok hn)
  exact hd.tok n L ((hM n n' e)▸hn),fun n' Y hn hy=>by
  obtain⟨n,e,_⟩:=inv n' b (.far hn hy)
  exact hd.far n Y ((hM n n' e)▸hn) hy,fun n' bs k hn hk=>by
  obtain⟨n,e,_⟩:=inv n' b (.mat hn hk)
  exact hd.mat n bs k ((hM n n' e)▸hn) hk⟩
 have hR:∀a a' v,RW (fun n n'=>ρ[n']? = some n) a a'→RelV X φ w a v→RelV X φ' w a' v:=fun a a' v hra=>by
  induction hra generalizing v with
  |agg l l' hl _ ih=>
   intro hv
   cases hv with
   |agg _ vs hs h=>
    refine .agg _ vs (hs.trans hl) fun i a' hi=>?_
    have hlt:=(List.getElem?_eq_some_iff.1 hi).1
    exact ih i _ a' (List.getElem?_eq_getElem (by omega)) hi _ (h i _ (List.getElem?_eq_getElem (by omega)))
  |any=>exact fun _=>.any v
  |rn hrn=>exact RelV.ren fwd hM hrn
  |dat n ty m xs hx=>
   intro hv
   cases hv with
   |acc _ _ _ _ A len cap g ok hr hu ht=>exact .dat m xs A len cap g (ok.env fwd) (fun j x hj i a hi=>(hr j x hj i a hi).env (k:=0) (fun n hn=>absurd hn (Nat.not_lt_zero n)) fwd (hx x (List.mem_of_getElem? hj) a (List.mem_of_getElem? hi)))
  |nil m=>
   intro hv
   have:=Qd6 hv
   subst this
   exact .dat m [] none 0 0 (fun _ _=>undef) (DatOK.nil m none 0 _ (Nat.zero_le _)) (by simp)
 have inj:∀(n1 n2 n':Nat),ρ[n1]? = some n'→ρ[n2]? = some n'→n1=n2:=fun n1 n2 n' h1 h2=>by
  obtain⟨l1,e1⟩:=List.getElem?_eq_some_iff.1 h1
  obtain⟨l2,e2⟩:=List.getElem?_eq_some_iff.1 h2
  exact(List.getElem_inj hnd).1 (e1.trans e2.symm)
 refine⟨φ',⟨fun n'=>?_,fun n1 n2 b h1 h2=>?_,henv.hid⟩,fun n hn=>?_,fun b ⟨n',hb⟩=>?_,fwd⟩
 ·show SlotOK X φ' w n' (own'.getD n' .unused)
  cases e:ρ[n']? with
  |none=>
   have hge:own'.length≤n':=by rw[←q1,←hs,List.length_map];exact List.getElem?_eq_none_iff.1 e
   simp only[List.getD_eq_getElem?_getD,List.getElem?_eq_none hge,Option.getD_none]
   show φ' n'=.unused
   rw[hφ'];simp only[e]
  |some n=>
   have hlt:n'<own'.length:=by rw[←q1,←hs,List.length_map];exact(List.getElem?_eq_some_iff.1 e).1
   have hg:=List.getElem?_eq_getElem hlt
   have hsp:=q2 n' (own.getD n .unused) _ (by rw[←hs,List.getElem?_map,e];rfl) hg
   simp only[List.getD_eq_getElem?_getD,hg,Option.getD_some]
   have hok:=henv.slot n
   (try dsimp only at hok)
   generalize own.getD n .unused=s1 at hsp hok
   generalize own'[n']=s2 at hsp
   cases hsp with
   |unused=>exact(hM n n' e).trans hok
   |dead=>exact(hM n n' e).trans hok
   |tok=>obtain⟨t,ht,ht'⟩:=hok;exact⟨t,(hM n n' e).trans ht,ht'⟩
   |own m xs xs' hl' hp=>obtain⟨b,hb,hown⟩:=hok;exact⟨b,(hM n n' e).trans hb,hown.pw hR hl' hp⟩
   |gro m xs xs' hl' hp=>
    rcases hok with ⟨h1,h2⟩ |⟨b,hb,hown⟩
    ·exact .inl ⟨List.eq_nil_of_length_eq_zero (by rw[←hl',h1];rfl),(hM n n' e).trans h2⟩
    ·exact .inr ⟨b,(hM n n' e).trans hb,hown.pw hR hl' hp⟩
   |far J=>
    obtain⟨Y,D,B,f1,f2,f3⟩:=hok
    exact⟨Y,D,B,(hM n n' e).trans f1,f2,f3.own,fun b off hx hy=>⟨fwd b off (f3.dat b off hx hy).1,(f3.dat b off hx hy).2⟩,f3.os,f3.tape,f3.output,f3.size⟩
   |mat m rows hp=>
    obtain⟨bs,m1,m2,m3,m4⟩:=hok
    refine⟨bs,(hM n n' e).trans m1,m2,m3,fun k xs hk=>?_⟩
    rcases m4 k xs hk with m5 |⟨b,m5,m6⟩
    ·exact .inl m5
    ·exact .inr ⟨b,m5,m6.pw hR rfl fun j x x' h1 h2=>by rw[h1] at h2;cases h2;exact hp xs (List.mem_of_getElem? hk) x (List.mem_of_getElem? h1)⟩
   |mp es clock=>obtain⟨b,hb,hown⟩:=hok;exact⟨b,(hM n n' e).trans hb,hown⟩
 ·obtain⟨m1,e1,h3⟩:=inv n1 b h1
  obtain⟨m2,e2,h4⟩:=inv n2 b h2
  have:=henv.distinct m1 m2 b h3 h4
  subst this
  exact inj n1 n2 m1 e1 e2
 ·have:=List.all_eq_true.1 hid n (by simpa using hn)
  exact hM n n (by simpa using this)
 ·obtain⟨n,_,h⟩:=inv n' b hb
  exact⟨n,h⟩
structure Mid (kb:Nat) (s:AS) (a:Act) (l D0:Nat) (φ1:Nat→FSlot) (W1:World) (own1:List Slot) (o:Obj) (φ:Nat→FSlot) (Y D:Nat→Nat→Prop) (B:World):Prop where
 hY:Y=Yof φ D0
 regs:∀i v,s.regs[i]? = some v→RelV (XH Y D B) φ B v (a.tmps.getD i undef)
 slot:∀n,SlotOK (XH Y D B) φ B n ((own1++[Slot.far (farL l o)]).getD n .unused)
 distinct:Qc7 φ
 mark:B.heap[D0]? = some (.deferred (some []))
 free:¬Qjc φ D0
 names:EvoN kb φ1 W1 φ B
theorem Qjm {own1:List Slot}{x:Slot}:(own1++[x]).getD own1.length .unused=x:=by simp
theorem Qlp {own1:List Slot}{x:Slot}{n:Nat}(h:n<own1.length):(own1++[x]).getD n .unused=own1.getD n .unused:=by simp[List.getElem?_append_left h]
theorem Qkd {own1:List Slot}{x:Slot}{n:Nat}(h:own1.length<n):(own1++[x]).getD n .unused=.unused:=by
 have:(own1++[x])[n]? = none:=List.getElem?_eq_none (by simp;omega)
 simp[List.getD_eq_getElem?_getD,this]
section
variable {kb : Nat} {a : Act} {l D0 : Nat} {φ1 : Nat → FSlot} {W1 : World} {own1 : List Slot} {o : Obj} {Y D : Nat → Nat → Prop} {B : World}
theorem Mid.far (m:Mid kb s a l D0 φ1 W1 own1 o φ Y D B):φ own1.length=.far (fun b _=>b=l)∧B.heap[l]? = some o∧l<B.heap.size:=by
 have:=m.slot own1.length
 rw[Qjm] at this
 obtain⟨Y0,D',B',h1,⟨rfl,h2⟩,h3⟩:=this
 exact⟨h1,(h3.own l 0 rfl).2.1.trans h2,(h3.own l 0 rfl).1⟩
theorem Mid.shift (m:Mid kb s a l D0 φ1 W1 own1 o φ Y D B) {Xi:Nat→Nat→Prop}{φi:Nat→FSlot}(hF:Qur Xi φi w Y D B):Evo1 (XH Y D B) φ B (XH Y D w) φ w:=by
 have hb:∀n b,(φ n).lies b→w.heap[b]? = B.heap[b]? := fun n b h=>by
  obtain⟨off,hy⟩:=Qjb (D0:=D0) h
  exact(hF.own b off (by rw[m.hY];exact hy)).2.1
 refine⟨fun b off hd=>⟨⟨Nat.lt_of_lt_of_le hd.lt hF.size,fun hx=>hd.hid ⟨hd.lt,hx.2⟩,hd.own,hd.tok,hd.far,hd.mat⟩,?_⟩,fun _ h=>h,fun _ _ _ h=>h,fun n t _ h=>⟨h,fun b L e=>hb n b (.tok (L:=L) (by rw[h,e]))⟩,fun n b h _=>.same (hb n b (.own h)),fun _ bs _ h=>⟨bs,h,.refl bs⟩⟩
 by_cases hy:∃off',Y b off'
 ·obtain⟨off',hy⟩:=hy
  exact World.cell?_of_block (hF.own b off' hy).2.1
 ·have hD:D b off:=Classical.byContradiction fun hD=>hd.hid ⟨hd.lt,hD,fun off' h=>hy ⟨off',h⟩⟩
  exact(hF.dat b off hD fun h=>hy ⟨off,h⟩).2
theorem Mid.sim (m:Mid kb s a l D0 φ1 W1 own1 o φ Y D B) (hnf:∀st∈own1,st.isFar=false) {Xi:Nat→Nat→Prop}{φi:Nat→FSlot}(hF:Qur Xi φi w Y D B) :
  (∀i v,s.regs[i]? = some v→RelV (XH Y D w) φ w v (a.tmps.getD i undef))∧Qk2 (XH Y D w) φ w (fun n=>(own1++[Slot.far (farL l o)]).getD n .unused)∧w.heap[l]? = some o:=by
 have e:=m.shift hF
 have hlie:∀n b,(φ n).lies b→w.heap[b]? = B.heap[b]? ∧ ∀off,¬XH Y D w b off:=fun n b h=>by
  obtain⟨off,hy⟩:=Qjb (D0:=D0) h
  exact⟨(hF.own b off (by rw[m.hY];exact hy)).2.1,fun off' hx=>hx.2.2 off (by rw[m.hY];exact hy)⟩
 obtain⟨f1,f2,f3⟩:=m.far
 have hl:w.heap[l]? = some o:=(hlie _ l (.far (off:=0) f1 rfl)).1.trans f2
 refine⟨fun i v hv=>(m.regs i v hv).evo1 e,⟨fun n=>?_,m.distinct,fun b off hx=>hx.1⟩,hl⟩
 have hn:=m.slot n
 show SlotOK _ _ _ n ((own1++[Slot.far (farL l o)]).getD n .unused)
 rcases Nat.lt_trichotomy n own1.length with h |rfl |h
 ·rw[Qlp h] at hn ⊢
  exact hn.evo1 (hnf _ (by simp[h])) e rfl fun b hb=>hlie n b hb
 ·rw[Qjm]
  exact⟨_,fun _ _=>False,w,f1,⟨rfl,hl⟩,⟨fun b off hb=>⟨by have hb':b=l:=hb;subst hb';exact(Array.getElem?_eq_some_iff.1 hl).1,rfl,fun off'=>by have hb':b=l:=hb;subst hb';exact(hlie _ b (.far (off:=0) f1 rfl)).2 off'⟩,fun b off hf=>hf.elim,rfl,rfl,rfl,Nat.le_refl _⟩⟩
 ·rw[Qkd h] at hn ⊢
  exact hn
theorem Mid.back {own2 own3:List Slot}{o' o'':Obj}{regs3:List AV}{a2:Act}{w2:World}{Xi:Nat→Nat→Prop}{φi φ3:Nat→FSlot}(m:Mid kb s a l D0 φ1 W1 own1 o φ Y D B) (hnf:∀st∈own1,st.isFar=false) (hF:Qur Xi φi w Y D B) (hreg:∀v∈s.regs,NLt kb v)
  (hnf2:∀st∈own2,st.isFar=false) (hlen:own2.length=own1.length) (hs:Sim (XH Y D w) φ { w with drawn:=0 } φ3 ⟨regs3,own3⟩ a2 w2) (hren:Ren kb own3 (own2++[Slot.far (farL l o')])) (ho':o'.isCells=false) (ho'':o''.isCells=false) :
  ∃φ2,w2.heap[l]? = some o'∧Kept Y (Yof φ2 D0) w (w2.putObj l o'')∧(∀b off,Yof φ2 D0 b off→b<(w2.putObj l o'').heap.size)∧Mid kb s a l D0 φ1 W1 own2 o'' φ2 (Yof φ2 D0) (grow D Y w (w2.putObj l o'')) (w2.putObj l o''):=by
 obtain⟨hregs,henv,hl⟩:=m.sim hnf hF
 obtain⟨f1,_,_⟩:=m.far
 have E:=hs.evo.of_at
 obtain⟨φ2,henv2,hlow2,hsub,hfwd⟩:=hren _ φ3 w2 hs.env
 refine⟨φ2,?_⟩
 have hk2:φ2 own1.length=.far (fun b _=>b=l)∧w2.heap[l]? = some o':=by
  have:=henv2.slot own1.length
  have e:(own2++[Slot.far (farL l o')]).getD own1.length .unused=.far (farL l o'):=by rw[←hlen];exact Qjm
  (try dsimp only at this)
  rw[e] at this
  obtain⟨Y0,D',B',h1,⟨rfl,h2⟩,h3⟩:=this
  exact⟨h1,(h3.own l 0 rfl).2.1.trans h2⟩
 obtain⟨k1,k2⟩:=hk2
 have hlt2:l<w2.heap.size:=(Array.getElem?_eq_some_iff.1 k2).1
 have hcell:=Qma k2 ho' ho''
 have hYl:∀off,Y l off:=fun off=>by rw[m.hY];exact .inr (.inr (.inl ⟨_,_,f1,rfl⟩))
 have hYD:∀off,Y D0 off:=fun off=>by rw[m.hY];exact .inr (.inr (.inr (.inr rfl)))
 have hlD:D0≠l:=fun e=>m.free ⟨own1.length,.far (off:=0) f1 e⟩
 have hD0:D0<w.heap.size:=(hF.own D0 0 (hYD 0)).1
 have noY:∀b,(∀off,¬Y b off)→¬Qjc φ b:=fun b h ⟨n,hn⟩=>by
  obtain⟨off,hy⟩:=Qjb (D0:=D0) hn
  exact h off (by rw[m.hY];exact hy)
 have hne:∀n b,n≠own1.length→(φ2 n).lies b→b≠l:=fun n b hn hb e=>hn (henv2.distinct n _ b hb (.far (off:=0) k1 e))
 have hbl:∀b,b<w.heap.size→(∀off,¬Y b off)→(w2.putObj l o'').heap[b]? = w.heap[b]? := fun b hb h=>(Qcz fun e=>h 0 (by subst e;exact hYl 0)).trans (E.blk b hb (noY b h))
 have hdat:∀b off,b<w.heap.size→¬Y b off→(∃off',Y b off')→DataAt (XH Y D w) φ w b off:=fun b off hb hy ⟨off',hy'⟩=>by
  rw[m.hY] at hy
  refine⟨hb,fun hx=>hx.2.2 off' hy',fun n hn=>hy (.inl ⟨n,hn⟩),fun n L hn=>?_,fun n Y0 hn hy0=>hy (.inr (.inr (.inl ⟨n,Y0,hn,hy0⟩))),fun n bs z hn hz=>hy (.inr (.inr (.inr (.inl ⟨n,bs,z,hn,hz⟩))))⟩
  rcases Nat.lt_or_ge off L with h |h
  ·exact h
  ·exact absurd (.inr (.inl ⟨n,L,hn,h⟩)) hy
 have hnew:∀b off,Yof φ2 D0 b off→(∃off,Y b off)∨w.heap.size≤b:=fun b off hy=>by
  rcases Qna hy with hh |rfl
  ·rcases E.new b (hsub b hh) with ⟨n,hn⟩ |h1
   ·obtain⟨off',h2⟩:=Qjb (D0:=D0) hn
    exact .inl ⟨off',by rw[m.hY];exact h2⟩
   ·exact .inr h1
  ·exact .inl ⟨0,hYD 0⟩
 have e2:Evo1 (XH Y D w) φ2 w2 (XH (Yof φ2 D0) (grow D Y w (w2.putObj l o'')) (w2.putObj l o'')) φ2 (w2.putObj l o''):=by
  refine⟨fun b off hd=>⟨⟨by simpa using hd.lt,fun hx=>?_,hd.own,hd.tok,hd.far,hd.mat⟩,hcell b off⟩,fun _ h=>h,fun _ _ _ h=>h,fun n t _ h=>⟨h,fun b L e=>Qcz (hne n b (fun en=>by subst en;rw[k1] at h;cases h) (.tok (L:=L) (by rw[h,e])))⟩,fun n b h _=>.same (Qcz (hne n b (fun en=>by subst en;rw[k1] at h;cases h) (.own h))),fun _ bs _ h=>⟨bs,h,.refl bs⟩⟩
  obtain⟨h1,h2,h3⟩:=hx
  have hlt:b<w.heap.size:=Classical.byContradiction fun h=>h2 (.inr (.inr ⟨Nat.le_of_not_lt h,h1⟩))
  exact hd.hid ⟨hlt,fun h=>h2 (.inl h),fun off' h=>h2 (.inr (.inl ⟨off',h⟩))⟩
 have hbound:∀b off,Yof φ2 D0 b off→b<(w2.putObj l o'').heap.size:=fun b off hy=>by
  rw[Qho]
  rcases Qna hy with ⟨n,hn⟩ |rfl
  ·exact(henv2.slot n).lt hn
  ·exact Nat.lt_of_lt_of_le hD0 E.size
 have hlie2:∀n b,(φ2 n).lies b→∀off,¬XH (Yof φ2 D0) (grow D Y w (w2.putObj l o'')) (w2.putObj l o'') b off:=fun n b h off hx=>by
  obtain⟨off',hy⟩:=Qjb (D0:=D0) h
  exact hx.2.2 off' hy
 refine⟨k2,⟨E.os,E.tape,E.output,by rw[Qho];exact E.size,hbl,fun b off hb hy=>?_,hnew⟩,hbound,⟨rfl,fun i v hv=>(((hregs i v hv).evo E).env (k:=kb) hlow2 hfwd (hreg v (List.mem_of_getElem? hv))).evo1 e2,fun n=>?_,henv2.distinct,?_,?_,?_⟩⟩
 ·by_cases hyy:∃off',Y b off'
  ·obtain⟨d1,d2⟩:=E.dat b off (hdat b off hb hy hyy)
   have d1:=hfwd b off d1
   refine⟨fun hy'=>?_,(hcell b off).trans d2⟩
   rcases hy' with ⟨n,h⟩ |⟨n,L,h,hL⟩ |⟨n,Y0,h,h0⟩ |⟨n,bs,z,h,hz⟩ |rfl
   ·exact d1.own n h
   ·have:=d1.tok n L h;omega
   ·exact d1.far n Y0 h h0
   ·exact d1.mat n bs z h hz
   ·exact hy (hYD off)
  ·have hno:∀off',¬Y b off':=fun off' h=>hyy ⟨off',h⟩
   refine⟨fun hy'=>?_,World.cell?_of_block (hbl b hb hno)⟩
   rcases hnew b off hy' with ⟨off',h⟩ |h
   ·exact hno off' h
   ·omega
 ·have hn:=henv2.slot n
  (try dsimp only at hn)
  show SlotOK _ _ _ n ((own2++[Slot.far (farL l o'')]).getD n .unused)
  rcases Nat.lt_trichotomy n own2.length with h |rfl |h
  ·rw[Qlp h] at hn ⊢
   exact hn.evo1 (hnf2 _ (by simp[h])) e2 rfl fun b hb=>⟨Qcz (hne n b (by omega) hb),hlie2 n b hb⟩
  ·rw[Qjm]
   exact⟨_,fun _ _=>False,w2.putObj l o'',by rw[hlen];exact k1,⟨rfl,Ql9 hlt2⟩,⟨fun b off hb=>⟨by have hb':b=l:=hb;subst hb';rw[Qho];exact hlt2,rfl,fun off'=>by have hb':b=l:=hb;subst hb';exact hlie2 _ b (.far (off:=0) k1 rfl) off'⟩,fun b off hf=>hf.elim,rfl,rfl,rfl,Nat.le_refl _⟩⟩
  ·rw[Qkd h] at hn ⊢
   exact hn
 ·rw[Qcz hlD,E.blk D0 hD0 m.free,(hF.own D0 0 (hYD 0)).2.1]
  exact m.mark
 ·intro hh
  rcases E.new D0 (hsub D0 hh) with h |h
  ·exact m.free h
  ·omega
 ·have n1:EvoN kb φ B φ w:=Qsv fun n b h=>by
   obtain⟨off,hy⟩:=Qjb (D0:=D0) h
   exact(hF.own b off (by rw[m.hY];exact hy)).2.1
  refine m.names.trans (n1.trans (E.toN.trans ((Q2t hlow2).trans ?_)))
  exact⟨fun _ _ h=>h,fun _ _ _ h=>.inl h,fun n t _ ht=>.inr ⟨ht,fun b L e=>Qcz (hne n b (fun en=>by subst en;rw[k1] at ht;cases ht) (.tok (L:=L) (by rw[ht,e])))⟩,fun _ Y _ h=>.inr ⟨Y,h⟩,fun n b _ h _=>.same (Qcz (hne n b (fun en=>by subst en;rw[k1] at h;cases h) (.own h))),fun _ bs _ h=>.inr ⟨bs,h,.refl bs⟩⟩
end
def Q8l (regs:List AV) (ps:Array Tmp) (vs:List Value):List AV:=(ps.toList.zip vs).foldl (fun r p=>r.set p.1 (.lit p.2)) regs
theorem Qr6 {X:Nat→Nat→Prop}{φ:Nat→FSlot}{w:World}:∀(l:List (Tmp×Value)) (regs:List AV) (tmps:Array Value),tmps.size=regs.length→(∀i v,regs[i]? = some v→RelV X φ w v (tmps.getD i undef)) →
  (l.foldl (fun t p=>t.setIfInBounds p.1 p.2) tmps).size=(l.foldl (fun r p=>r.set p.1 (AV.lit p.2)) regs).length∧∀i v,(l.foldl (fun r p=>r.set p.1 (AV.lit p.2)) regs)[i]? = some v→RelV X φ w v ((l.foldl (fun t p=>t.setIfInBounds p.1 p.2) tmps).getD i undef)
 |[],_,_,hs,h=>⟨hs,h⟩
 |p::l,regs,tmps,hs,h=>by
  refine Qr6 l (regs.set p.1 (AV.lit p.2)) (tmps.setIfInBounds p.1 p.2) (by simpa using hs) fun i v hi=>?_
  rw[List.getElem?_set] at hi
  simp only[Array.getD_eq_getD_getElem?,Array.getElem?_setIfInBounds]
  split at hi
  ·rename_i e
   subst e
   split at hi
   ·rename_i hlt
    cases hi
    simp[hs,hlt]
    exact .lit _
   ·cases hi
  ·rename_i e
   rw[if_neg e]
   have:=h i v hi
   rwa [Array.getD_eq_getD_getElem?] at this
def Q3v (kb:Nat) (Q:Exit→AS→Prop) (s:AS) (l:Nat) {τ:Type}(G:τ→Prop) (own:τ→List Slot) (k:Nat) (o:Obj):Exit→AS→Prop
 |.normal,s'=>∃t,G t∧Ren kb s'.own (own t++[Slot.far (farL l o)])
 |.ret,s'=>∃own2,(own2.length==k&&own2.all (fun x=>!x.isFar))=true∧Q .ret ⟨s.regs,own2++[.dead]⟩∧Ren kb s'.own (own2++[Slot.far (farL l o)])
 |.exit id,s'=>∃own2,(own2.length==k&&own2.all (fun x=>!x.isFar))=true∧Q (.exit id) ⟨s.regs,own2++[.dead]⟩∧Ren kb s'.own (own2++[Slot.far (farL l o)])
 |_,_=>False
def Q1b (P:Program) (X:Nat→Nat→Prop) (φr:Nat→FSlot) (Wr:World) (l:Nat) (k:Nat) (o:Obj) (body:Code) (K:Obj→Exit→AS→Prop):Exit→AS→Prop
 |.normal,s1=>s1.own[k]? = some (.far (farL l o))∧∀o',AWp P X φr Wr (some l) body (K o') ⟨s1.regs,s1.own.set k (.far (farL l o'))⟩
 |_,_=>False
def Qoq (own:List Slot) (ρ:List Nat):List Slot:=ρ.foldl (fun o n=>o.set n .dead) own
theorem Ql5:∀(ρ:List Nat) (own:List Slot) (n:Nat),n<own.length→(Qoq own ρ).getD n .unused=if n∈ρ then .dead else own.getD n .unused
 |[],own,n,_=>by simp[Qoq]
 |q::ρ,own,n,h=>by
  have:=Ql5 ρ (own.set q .dead) n (by simpa using h)
  show(Qoq (own.set q .dead) ρ).getD n .unused=_
  rw[this]
  by_cases h1:n∈ρ
  ·simp[h1]
  ·by_cases h2:n=q
   ·subst h2;simp[h1,h]
   ·have:q≠n:=fun e=>h2 e.symm
    simp[h1,h2,List.getElem?_set_ne this]
section
variable {P : Program} {X : Nat → Nat → Prop} {φ0 φ : Nat → FSlot} {w0 w : World} {Q : Exit → AS → Prop} {s : AS}
theorem Mid.finish {kb:Nat}{a:Act}{own2:List Slot}{o o':Obj}{φi φ2 φe:Nat→FSlot}{Y D:Nat→Nat→Prop}{B w2 W1:World}{φ1:Nat→FSlot}{ρ:List Nat}(h:Sim X φ0 w0 φ s a w) (h00:∀n,kb≤n→φ0 n=.unused) (hdr0:w0.drawn≠1) (hk:own2.length=s.own.length)
  (hφ1:∀n,φ1 n=if n∈ρ then .dead else if n=s.own.length then .far (fun b _=>b=w.heap.size+1) else φ n)
  (hW1:∃r,W1=(w.alloc (.deferred (some []))).alloc (.loop r))
  (m:Mid kb s a (w.heap.size+1) w.heap.size φ1 W1 own2 o φe Y D B) (hnf:∀st∈own2,st.isFar=false) (ho:o.isCells=false) (ho':o'.isCells=false)
  (hF:Qur X φ2 w2 Y D B) {q:Nat}(hq:φ2 q=.far Y) (E:Evo X φi W1 φ2 w2) (hi:∀b,Qjc φi b→Qjc φ b∨w.heap.size≤b) (hid:∀b off,DataAt X φ w b off→DataAt X φi W1 b off) :
  w2.heap[w.heap.size+1]? = some o∧Sim X φ0 w0 (fun n=>if n=s.own.length then .dead else φe n) ⟨s.regs,own2++[.dead]⟩ { a with defers:={ target:=.collected w.heap.size,args := #[] }::a.defers } (w2.putObj (w.heap.size+1) o'):=by
 obtain⟨r,hW1⟩:=hW1
 have hsz1:W1.heap.size=w.heap.size+2:=by subst hW1;simp
 have hold:∀b,b<w.heap.size→W1.heap[b]? = w.heap[b]? := fun b hb=>by
  subst hW1
  exact(heap_alloc_old _ _ (by simp;omega)).trans (heap_alloc_old w _ hb)
 obtain⟨hregs,henv,hl⟩:=m.sim hnf hF
 refine⟨hl,?_⟩
 obtain⟨f1,_,_⟩:=m.far
 rw[hk] at f1
 have hlt2:w.heap.size+1<w2.heap.size:=(Array.getElem?_eq_some_iff.1 hl).1
 have hcell:=Qma (o':=o') hl ho ho'
 have hu:φ s.own.length=.unused:=by
  have:=h.env.slot s.own.length
  have e:s.slot s.own.length=.unused:=by simp[AS.slot]
  rw[e] at this
  exact this
 have hYof:∀n b,(φe n).lies b→∃off,Y b off:=fun n b hn=>by
  obtain⟨off,hy⟩:=Qjb (D0:=w.heap.size) hn
  exact⟨off,by rw[m.hY];exact hy⟩
 have hne:∀n b,n≠s.own.length→(φe n).lies b→b≠w.heap.size+1:=fun n b hn hb e=>hn (m.distinct n _ b hb (.far (off:=0) f1 e))
 have hH:∀b,Qjc φe b→b<w.heap.size→Qjc φ b:=fun b ⟨n,hn⟩ hb=>by
  obtain⟨off,hy⟩:=hYof n b hn
  rcases E.new b ⟨q,.far hq hy⟩ with h1 |h1
  ·rcases hi b h1 with h2 |h2
   ·exact h2
   ·omega
  ·omega
 have keep:∀b,b<w.heap.size→¬Qjc φ b→(w2.putObj (w.heap.size+1) o').heap[b]? = w.heap[b]? := fun b hb hh=>by
  rw[Qcz (by omega),E.blk b (by omega) fun h1=>?_,hold b hb]
  rcases hi b h1 with h2 |h2
  ·exact hh h2
  ·omega
 have n1:EvoN kb φ1 W1 φe w2:=m.names.trans (Qsv fun n b hb=>by
  obtain⟨off,hy⟩:=hYof n b hb
  exact(hF.own b off hy).2.1)
 have uns:∀n,φ n≠.unused→n≠s.own.length:=fun n hn e=>hn (e▸hu)
 have same1:∀n,n∉ρ→n≠s.own.length→φ1 n=φ n:=fun n h1 h2=>by rw[hφ1,if_neg h1,if_neg h2]
 have E0:=h.evo
 have lk:∀n,φ0 n≠.unused→n<kb:=fun n hn=>Classical.byContradiction fun h1=>hn (h00 n (by omega))
 have dead1:∀n,n<kb→n∈ρ→(if n=s.own.length then FSlot.dead else φe n)=.dead:=fun n hkn h1=>by
  split
  ·rfl
  ·exact n1.dead n hkn (by rw[hφ1,if_pos h1])
 have step:∀n,n<kb→φ n≠.unused→(n∈ρ∧(if n=s.own.length then FSlot.dead else φe n)=.dead)∨(φ1 n=φ n∧(if n=s.own.length then FSlot.dead else φe n)=φe n):=fun n hkn hn=>by
  by_cases hr:n∈ρ
  ·exact .inl ⟨hr,dead1 n hkn hr⟩
  ·have hne':=uns n hn
   exact .inr ⟨same1 n hr hne',if_neg hne'⟩
 have evo2:Evo X φ0 w0 (fun n=>if n=s.own.length then .dead else φe n) (w2.putObj (w.heap.size+1) o'):=by
  have w1w:W1.os=w.os∧W1.tape=w.tape∧W1.output=w.output:=by subst hW1;exact⟨rfl,rfl,rfl⟩
  have hsz:=E0.size
  refine⟨(E.os.trans w1w.1).trans E0.os,(E.tape.trans w1w.2.1).trans E0.tape,(E.output.trans w1w.2.2).trans E0.output,by rw[Qho];omega,fun b hb hh=>(keep b (by omega) fun h1=>?_).trans (E0.blk b hb hh),fun b ⟨n,hn⟩=>?_,fun b off hd=>?_,fun n hn=>?_,fun n b hn=>?_,fun n t hn=>?_,fun n Y0 hn=>?_,fun n bs hn=>?_,fun n b hn hn2=>?_⟩
  ·rcases E0.new b h1 with h2 |h2
   ·exact hh h2
   ·omega
  ·dsimp only at hn
   split at hn
   ·exact(Qay hn).elim
   ·rcases Nat.lt_or_ge b w.heap.size with h1 |h1
    ·exact E0.new b (hH b ⟨n,hn⟩ h1)
    ·exact .inr (by omega)
  ·obtain⟨c1,c2⟩:=E0.dat b off hd
   obtain⟨d1,d2⟩:=E.dat b off (hid b off c1)
   have hny:¬Y b off:=d1.far q Y hq
   refine⟨⟨by rw[Qho];exact d1.lt,d1.hid,fun n hn=>?_,fun n L hn=>?_,fun n Y0 hn hy=>?_,fun n bs z hn hz=>?_⟩,(hcell b off).trans (d2.trans ((World.cell?_of_block (hold b c1.lt)).trans c2))⟩
   ·split at hn
    ·cases hn
    ·exact hny (by rw[m.hY];exact .inl ⟨n,hn⟩)
   ·split at hn
    ·cases hn
    ·rcases Nat.lt_or_ge off L with h1 |h1
     ·exact h1
     ·exact absurd (by rw[m.hY];exact .inr (.inl ⟨n,L,hn,h1⟩)) hny
   ·split at hn
    ·cases hn
    ·exact hny (by rw[m.hY];exact .inr (.inr (.inl ⟨n,Y0,hn,hy⟩)))
   ·split at hn
    ·cases hn
    ·exact hny (by rw[m.hY];exact .inr (.inr (.inr (.inl ⟨n,bs,z,hn,hz⟩))))
  ·have hkn:=lk n (by rw[hn];simp)
   have h1:=E0.dead n hn
   rcases step n hkn (by rw[h1];simp) with ⟨_,h2⟩ |⟨h2,h3⟩
   ·exact h2
   ·exact h3.trans (n1.dead n hkn (h2.trans h1))
  ·have hkn:=lk n (by rw[hn];simp)
   rcases E0.own n b hn with h1 |h1
   ·rcases step n hkn (by rw[h1];simp) with ⟨_,h2⟩ |⟨h2,h3⟩
    ·exact .inr h2
    ·rcases n1.own n b hkn (h2.trans h1) with h4 |h4
     ·exact .inl (h3.trans h4)
     ·exact .inr (h3.trans h4)
   ·rcases step n hkn (by rw[h1];simp) with ⟨_,h2⟩ |⟨h2,h3⟩
    ·exact .inr h2
    ·exact .inr (h3.trans (n1.dead n hkn (h2.trans h1)))
  ·have hkn:=lk n (by rw[hn];simp)
   rcases E0.tok n t hn with h1 |⟨h1,h1'⟩
   ·rcases step n hkn (by rw[h1];simp) with ⟨_,h2⟩ |⟨h2,h3⟩
    ·exact .inl h2
    ·exact .inl (h3.trans (n1.dead n hkn (h2.trans h1)))
   ·rcases step n hkn (by rw[h1];simp) with ⟨_,h2⟩ |⟨h2,h3⟩
    ·exact .inl h2
    ·rcases n1.tok n t hkn (h2.trans h1) with h4 |⟨h4,h5⟩
     ·exact .inl (h3.trans h4)
     ·refine .inr ⟨h3.trans h4,fun b L e=>?_⟩
      have hb:=(h.env.slot n).lt (FSlot.lies.tok (L:=L) (show φ n=_ by rw[h1,e]))
      rw[Qcz (by omega),h5 b L e,hold b hb]
      exact h1' b L e
  ·have hkn:=lk n (by rw[hn];simp)
   rcases E0.far n Y0 hn with h1 |⟨Y',h1⟩
   ·rcases step n hkn (by rw[h1];simp) with ⟨_,h2⟩ |⟨h2,h3⟩
    ·exact .inl h2
    ·exact .inl (h3.trans (n1.dead n hkn (h2.trans h1)))
   ·rcases step n hkn (by rw[h1];simp) with ⟨_,h2⟩ |⟨h2,h3⟩
    ·exact .inl h2
    ·rcases n1.far n Y' hkn (h2.trans h1) with h4 |⟨Y2,h4⟩
     ·exact .inl (h3.trans h4)
     ·exact .inr ⟨Y2,h3.trans h4⟩
  ·have hkn:=lk n (by rw[hn];simp)
   rcases E0.mat n bs hn with h1 |⟨bs',h1,hl1⟩
   ·rcases step n hkn (by rw[h1];simp) with ⟨_,h2⟩ |⟨h2,h3⟩
    ·exact .inl h2
    ·exact .inl (h3.trans (n1.dead n hkn (h2.trans h1)))
   ·rcases step n hkn (by rw[h1];simp) with ⟨_,h2⟩ |⟨h2,h3⟩
    ·exact .inl h2
    ·rcases n1.mat n bs' hkn (h2.trans h1) with h4 |⟨bs2,h4,hl2⟩
     ·exact .inl (h3.trans h4)
     ·exact .inr ⟨bs2,h3.trans h4,hl1.trans hl2⟩
  ·have hkn:=lk n (by rw[hn];simp)
   rcases E0.own n b hn with h1 |h1
   ·rcases step n hkn (by rw[h1];simp) with ⟨_,h2⟩ |⟨h2,h3⟩
    ·rw[h2] at hn2;cases hn2
    ·rw[h3] at hn2
     have hb:=(h.env.slot n).lt (FSlot.lies.own h1)
     exact(E0.shape n b hn h1).trans ((Shape.same (hold b hb)).trans ((n1.shape n b hkn (h2.trans h1) hn2).trans (.same (Qcz (by omega)))))
   ·rcases step n hkn (by rw[h1];simp) with ⟨_,h2⟩ |⟨h2,h3⟩
    ·rw[h2] at hn2;cases hn2
    ·rw[h3,n1.dead n hkn (h2.trans h1)] at hn2;cases hn2
 have e3:Evo1 (XH Y D w2) φe w2 X (fun n=>if n=s.own.length then .dead else φe n) (w2.putObj (w.heap.size+1) o'):=by
  refine⟨fun b off hd=>⟨⟨by rw[Qho];exact hd.lt,?_,fun n hn=>?_,fun n L hn=>?_,fun n Y0 hn=>?_,fun n bs z hn=>?_⟩,hcell b off⟩,fun n hn=>?_,fun n b hn hb=>?_,fun n t hn ht=>?_,fun n b hn hn2=>?_,fun n bs hn hb=>?_⟩
  ·by_cases hy:∃off',Y b off'
   ·obtain⟨off',hy⟩:=hy
    exact(hF.own b off' hy).2.2 off
   ·have hD:D b off:=Classical.byContradiction fun hD=>hd.hid ⟨hd.lt,hD,fun off' h=>hy ⟨off',h⟩⟩
    exact(hF.dat b off hD fun h=>hy ⟨off,h⟩).1.hid
  ·split at hn
   ·cases hn
   ·exact hd.own n hn
  ·split at hn
   ·cases hn
   ·exact hd.tok n L hn
  ·split at hn
   ·cases hn
   ·exact hd.far n Y0 hn
  ·split at hn
   ·cases hn
   ·exact hd.mat n bs z hn
  ·split
   ·simp
   ·exact hn
  ·split at hb
   ·cases hb
   ·exact hb
  ·split at ht
   ·cases ht
   ·rename_i hne'
    exact⟨ht,fun b L e=>Qcz (hne n b hne' (.tok (L:=L) (by rw[ht,e])))⟩
  ·split at hn2
   ·cases hn2
   ·rename_i hne'
    exact .same (Qcz (hne n b hne' (.own hn)))
  ·split at hb
   ·cases hb
   ·exact⟨bs,hb,.refl bs⟩
 obtain⟨hm1,hm2,_,hm3⟩:=h.defers
 have hYD:Y w.heap.size 0:=by rw[m.hY];exact .inr (.inr (.inr (.inr rfl)))
 refine⟨h.low,⟨w.heap.size::hm1,by rw[hm2];rfl,fun e=>absurd e hdr0,?_,?_⟩,h.size,fun t v hv=>(hregs t v hv).evo1 e3,⟨fun n=>?_,fun n n' b h1 h2=>?_,fun b off hx=>?_⟩,evo2⟩
 ·refine List.nodup_cons.2 ⟨fun hD=>?_,hm3.1⟩
  have:=(Array.getElem?_eq_some_iff.1 (hm3.2 _ hD).2.1).1
  omega
 ·intro D' hD
  rcases List.mem_cons.1 hD with rfl |hD
  ·refine⟨h.evo.size,?_,fun ⟨n,hn⟩=>?_⟩
   ·rw[Qcz (by omega),(hF.own _ 0 hYD).2.1]
    exact m.mark
   ·(try dsimp only at hn)
    split at hn
    ·exact Qay hn
    ·exact m.free ⟨n,hn⟩
  ·obtain⟨d1,d2,d3⟩:=hm3.2 D' hD
   have hlt:=(Array.getElem?_eq_some_iff.1 d2).1
   refine⟨d1,(keep D' hlt d3).trans d2,fun ⟨n,hn⟩=>?_⟩
   (try dsimp only at hn)
   split at hn
   ·exact Qay hn
   ·exact d3 (hH D' ⟨n,hn⟩ hlt)
 ·have hn:=henv.slot n
  show SlotOK _ _ _ n ((own2++[Slot.dead]).getD n .unused)
  (try dsimp only at hn)
  rcases Nat.lt_trichotomy n own2.length with h1 |rfl |h1
  ·rw[Qlp h1] at hn ⊢
   exact hn.evo1 (hnf _ (by simp[h1])) e3 (if_neg (by omega)) fun b hb=>⟨Qcz (hne n b (by omega) hb),fun off hx=>by
    obtain⟨off',hy⟩:=hYof n b hb
    exact(hF.own b off' hy).2.2 off hx⟩
  ·rw[Qjm]
   exact if_pos hk
  ·rw[Qkd h1] at hn ⊢
   exact(if_neg (by omega)).trans hn
 ·(try dsimp only at h1 h2)
  split at h1
  ·exact(Qay h1).elim
  ·split at h2
   ·exact(Qay h2).elim
   ·exact m.distinct n n' b h1 h2
 ·have:=h.env.hid b off hx
  rw[Qho]
  omega
theorem Q02 {α τ:Type}{g:Operand}{ps:Array Tmp}{assign body:Code}{gf:FuncId}{caps caps':List AV}{σ σr:List Slot}{encs:α→List Value}{L:List α}{kb:Nat}(ρ:List Nat) (h00:∀n,kb≤n→φ0 n=.unused) (hdr0:w0.drawn≠1) (seq:Qpj P gf caps' σ encs L) (hcall:∀vals w,(callFunc gf vals).run P w=.ok (.enter gf vals) w)
  (hg:opd s.regs g=.fn (.func gf) [] caps) (hdec:(decide ρ.Nodup&&(ρ.length==σ.length)&&ρ.all (fun n=>Nat.blt n s.own.length)&&σ.all Slot.alive)=true)
  (hcaps:Rn (fun n n'=>ρ[n]? = some n') (.agg caps') (.agg caps)) (hσ:SLw (fun n n'=>ρ[n]? = some n') σ σr) (hs:(ρ.map fun n=>s.slot n)=σr) (hps:∀x,(encs x).length=ps.size) (hreg:∀v∈s.regs,NLt kb v)
  (own:τ→List Slot) (hk:∀t,(own t).length=s.own.length) (hnf:∀t,∀st∈own t,st.isFar=false) (G:List α→τ→Prop) (t0:τ) (hG:G L t0) (h0:own t0=Qoq s.own ρ)
  (hround:∀l o X φr Wr,(∀n,s.own.length+1≤n→φr n=.unused)→∀x rest t,G (x::rest) t→AWp P X φr Wr (some l) assign (Q1b P X φr Wr l s.own.length o body (Q3v kb Q s l (G rest) own s.own.length)) ⟨Q8l s.regs ps (encs x),own t++[Slot.far (farL l o)]⟩)
  (hdone:∀t,G [] t→Q .normal ⟨s.regs,own t++[.dead]⟩):AWp P X φ0 w0 none (.rangeFunc g ps assign body) Q s:=by
 intro φ a w h
 simp only[Bool.and_eq_true,decide_eq_true_eq,beq_iff_eq,List.all_eq_true,Nat.blt_eq] at hdec
 obtain⟨⟨⟨hnd,hlen⟩,hlow⟩,halive⟩:=hdec
 refine wpIn_rangeFunc ?_
 intro fn hfn
 obtain⟨rec,hrec⟩:∃rec:LoopState→Option Code→Loop,rec=fun st pe=>{ state:=st,pending:=pe,fn,tmps:=a.tmps,params:=ps,assign,body,defers:=w.heap.size }:=⟨_,rfl⟩
 obtain⟨W1,hW1⟩:∃W1,(w.alloc (.deferred (some []))).alloc (.loop (rec .ready none))=W1:=⟨_,rfl⟩
 have hgv:∃cs:Array Value,a.eval g=.func (.func gf) #[] cs∧cs.size=caps.length∧∀i v,caps[i]? = some v→RelV X φ w v (cs.getD i undef):=by
  have:=h.opd g
  rw[hg] at this
  cases hv:a.eval g with
  |func f us cs=>
   rw[hv] at this
   cases this with
   |fn _ _ _ _ _ hu hc h1 h2=>
    obtain rfl:us = #[]:=Array.eq_empty_of_size_eq_zero hu
    exact⟨cs,rfl,hc,h2⟩
  |_=>rw[hv] at this;cases this
 obtain⟨cs,hge,hcs,hcr⟩:=hgv
 have hlt:∀n b,(φ n).lies b→b<w.heap.size:=fun n b hb=>(h.env.slot n).lt hb
 have hsz1:W1.heap.size=w.heap.size+2:=by subst hW1;simp
 have hold:∀b,b<w.heap.size→W1.heap[b]? = w.heap[b]? := fun b hb=>by
  subst hW1
  exact(heap_alloc_old _ _ (by simp;omega)).trans (heap_alloc_old w _ hb)
 have hD1:W1.heap[w.heap.size]? = some (.deferred (some [])):=by
  subst hW1
  exact(heap_alloc_old _ _ (by simp)).trans (heap_alloc_new w _)
 have hL1:W1.heap[w.heap.size+1]? = some (.loop (rec .ready none)):=by
  subst hW1
  have:=heap_alloc_new (w.alloc (.deferred (some []))) (.loop (rec .ready none))
  rwa [World.size_alloc] at this
 have hu:∀n,s.own.length≤n→φ n=.unused:=fun n hn=>by
  have:=h.env.slot n
  have e:s.slot n=.unused:=by simp[AS.slot,List.getElem?_eq_none hn]
  rw[e] at this
  exact this
 have inj:∀(n1 n2 n':Nat),ρ[n1]? = some n'→ρ[n2]? = some n'→n1=n2:=fun n1 n2 n' h1 h2=>by
  obtain⟨l1,e1⟩:=List.getElem?_eq_some_iff.1 h1
  obtain⟨l2,e2⟩:=List.getElem?_eq_some_iff.1 h2
  exact(List.getElem_inj hnd).1 (e1.trans e2.symm)
 obtain⟨φ1,hφ1⟩:∃φ1:Nat→FSlot,φ1=fun n=>if n∈ρ then .dead else if n=s.own.length then .far (fun b _=>b=w.heap.size+1) else φ n:=⟨_,rfl⟩
 have hφ1':∀n,φ1 n=if n∈ρ then .dead else if n=s.own.length then .far (fun b _=>b=w.heap.size+1) else φ n:=fun n=>by rw[hφ1]
 have hlies1:∀n b,(φ1 n).lies b→(n=s.own.length∧b=w.heap.size+1)∨(n∉ρ∧n≠s.own.length∧φ1 n=φ n∧(φ n).lies b):=fun n b hb=>by
  by_cases h1:n∈ρ
  ·rw[hφ1',if_pos h1] at hb;exact(Qay hb).elim
  ·by_cases h2:n=s.own.length
   ·rw[hφ1',if_neg h1,if_pos h2] at hb
    obtain⟨_,hb⟩:=Qkj hb
    exact .inl ⟨h2,hb⟩
   ·have e:φ1 n=φ n:=by rw[hφ1',if_neg h1,if_neg h2]
    exact .inr ⟨h1,h2,e,e▸hb⟩
 have hinj1:∀n b,(φ1 n).lies b→n≠s.own.length→(φ n).lies b∧n∉ρ:=fun n b hb hn=>by
  rcases hlies1 n b hb with ⟨h1,_⟩ |⟨h1,_,_,h2⟩
  ·exact absurd h1 hn
  ·exact⟨h2,h1⟩
 have notY:∀b off,DataAt X φ w b off→¬Yof φ1 w.heap.size b off:=fun b off hd hy=>by
  have hb:=hd.lt
  rcases hy with ⟨n,e⟩ |⟨n,L,e,hL⟩ |⟨n,Y0,e,h0⟩ |⟨n,bs,z,e,hz⟩ |e
  ·rcases hlies1 n b (.own e) with ⟨_,h1⟩ |⟨_,_,h1,_⟩
   ·omega
   ·exact hd.own n (h1▸e)
  ·rcases hlies1 n b (.tok e) with ⟨_,h1⟩ |⟨_,_,h1,_⟩
   ·omega
   ·have:=hd.tok n L (h1▸e);omega
  ·rcases hlies1 n b (.far e h0) with ⟨_,h1⟩ |⟨_,_,h1,_⟩
   ·omega
   ·exact hd.far n Y0 (h1▸e) h0
  ·rcases hlies1 n b (.mat e hz) with ⟨_,h1⟩ |⟨_,_,h1,_⟩
   ·omega
   ·exact hd.mat n bs z (h1▸e) hz
  ·omega
 have hXo:∀n b,(φ n).lies b→∀off,¬X b off:=fun n b hb off hx=>by
  have hsl:=h.env.slot n
  generalize s.slot n=sl at hsl
  cases sl with
  |unused=>have h':φ n=.unused:=hsl;rw[h'] at hb;exact Qep hb
  |dead=>have h':φ n=.dead:=hsl;rw[h'] at hb;exact Qay hb
  |own m xs=>
   obtain⟨b',h1,h2⟩:=hsl
   rw[h1] at hb
   obtain rfl:=Qge hb
   exact h2.hid off hx
  |tok=>
   obtain⟨t,h1,h2⟩:=hsl
   rw[h1] at hb
   obtain⟨L',rfl⟩:=Qki hb
   exact(h2 b L' rfl).2 off hx
  |gro m xs=>
   rcases hsl with ⟨_,h2⟩ |⟨b',h1,h2⟩
   ·rw[h2] at hb;exact Qdn hb
   ·rw[h1] at hb
    obtain rfl:=Qge hb
    exact h2.hid off hx
  |far J=>
   obtain⟨Y0,D0,B0,h1,h2,h3⟩:=hsl
   rw[h1] at hb
   obtain⟨off',hy⟩:=Qkj hb
   exact(h3.own b off' hy).2.2 off hx
  |mat m rows=>
   obtain⟨bs,m1,m2,m3,m4⟩:=hsl
   rw[m1] at hb
   obtain⟨k,hk⟩:=Qq3 hb
   have hkl:k<rows.length:=m2▸(List.getElem?_eq_some_iff.1 hk).1
   rcases m4 k _ (List.getElem?_eq_getElem hkl) with ⟨_,m5⟩ |⟨b',m5,m6⟩
   ·rw[m5] at hk;cases hk
   ·rw[m5] at hk;cases hk;exact m6.hid off hx
  |mp es clock=>
   obtain⟨b',h1,h2⟩:=hsl
   rw[h1] at hb
   obtain rfl:=Qge hb
   exact h2.hid off hx
 have hXl:∀b off,w.heap.size≤b→¬X b off:=fun b off hb hx=>by have:=h.env.hid b off hx;omega
 have e0:Evo1 X φ w (XH (Yof φ1 w.heap.size) (fun b off=>DataAt X φ w b off) W1) φ1 W1:=by
  refine⟨fun b off hd=>⟨⟨by have:=hd.lt;omega,fun hx=>hx.2.1 hd,fun n hn=>?_,fun n L hn=>?_,fun n Y0 hn h0=>?_,fun n bs z hn hz=>?_⟩,World.cell?_of_block (hold b hd.lt)⟩,fun n hn=>?_,fun n b hn hb=>?_,fun n t hn ht=>?_,fun n b hn _=>.same (hold b (hlt n b (.own hn))),fun n bs hn hb=>?_⟩
  ·exact notY b off hd (.inl ⟨n,hn⟩)
  ·rcases Nat.lt_or_ge off L with h1 |h1
   ·exact h1
   ·exact absurd (.inr (.inl ⟨n,L,hn,h1⟩)) (notY b off hd)
  ·exact notY b off hd (.inr (.inr (.inl ⟨n,Y0,hn,h0⟩)))
  ·exact notY b off hd (.inr (.inr (.inr (.inl ⟨n,bs,z,hn,hz⟩))))
  ·rw[hφ1']
   split
   ·simp
   ·split
    ·simp
    ·exact hn
  ·rcases hlies1 n b (.own hb) with ⟨h1,_⟩ |⟨_,_,h1,_⟩
   ·exact absurd (hu n (by omega)) hn
   ·exact h1▸hb
  ·by_cases h1:n∈ρ
   ·rw[hφ1',if_pos h1] at ht;cases ht
   ·by_cases h2:n=s.own.length
    ·exact absurd (hu n (by omega)) hn
    ·rw[hφ1',if_neg h1,if_neg h2] at ht
     exact⟨ht,fun b L e=>hold b (hlt n b (.tok (L:=L) (by rw[ht,e])))⟩
  ·by_cases h1:n∈ρ
   ·rw[hφ1',if_pos h1] at hb;cases hb
   ·by_cases h2:n=s.own.length
    ·exact absurd (hu n (by omega)) hn
    ·rw[hφ1',if_neg h1,if_neg h2] at hb
     exact⟨bs,hb,.refl bs⟩
 have hfree:¬Qjc φ1 w.heap.size:=fun ⟨n,hn⟩=>by
  rcases hlies1 n _ hn with ⟨_,h1⟩ |⟨_,_,_,h1⟩
  ·omega
  ·have:=hlt n _ h1;omega
 have hd1:Qc7 φ1:=fun n n' b h1 h2=>by
  rcases hlies1 n b h1 with ⟨a1,a2⟩ |⟨_,_,_,a2⟩<;>rcases hlies1 n' b h2 with ⟨b1,b2⟩ |⟨_,_,_,b2⟩
  ·rw[a1,b1]
  ·have:=hlt n' b b2;omega
  ·have:=hlt n b a2;omega
  ·exact h.env.distinct n n' b a2 b2
 have m0:Mid kb s a (w.heap.size+1) w.heap.size φ1 W1 (own t0) (.loop (rec .ready none)) φ1 (Yof φ1 w.heap.size) (fun b off=>DataAt X φ w b off) W1:=by
  refine⟨rfl,fun i v hv=>(h.regs i v hv).evo1 e0,fun n=>?_,hd1,hD1,hfree,EvoN.refl⟩
  have hk0:=hk t0
  rcases Nat.lt_trichotomy n s.own.length with h1 |h1 |h1
  ·rw[Qlp (by omega),h0,Ql5 ρ _ n h1]
   by_cases hr:n∈ρ
   ·rw[if_pos hr]
    show φ1 n=.dead
    rw[hφ1',if_pos hr]
   ·rw[if_neg hr]
    have e:φ1 n=φ n:=by rw[hφ1',if_neg hr,if_neg (by omega)]
    refine(h.env.slot n).evo1 ?_ e0 e fun b hb=>⟨hold b (hlt n b hb),fun off hx=>?_⟩
    ·have:=hnf t0 ((own t0)[n]'(by omega)) (List.getElem_mem _)
     have e2:(own t0).getD n .unused=s.own.getD n .unused:=by rw[h0,Ql5 ρ _ n h1,if_neg hr]
     have e3:(own t0)[n]'(by omega)=s.slot n:=by
      rw[List.getD_eq_getElem?_getD,List.getElem?_eq_getElem (by omega)] at e2
      exact e2
     rwa [e3] at this
    ·obtain⟨off',hy⟩:=Qjb (φ:=φ1) (D0:=w.heap.size) (n:=n) (b:=b) (by rw[e];exact hb)
     exact hx.2.2 off' hy
  ·have:n=(own t0).length:=by omega
   subst this
   rw[Qjm]
   refine⟨_,fun _ _=>False,W1,by rw[hφ1',if_neg (fun hr=>by have:=hlow _ hr;omega),if_pos (by omega)],⟨rfl,hL1⟩,⟨fun b off hb=>?_,fun b off hf=>hf.elim,rfl,rfl,rfl,Nat.le_refl _⟩⟩
   have hb':b=w.heap.size+1:=hb
   subst hb'
   refine⟨by omega,rfl,fun off' hx=>?_⟩
   obtain⟨off2,hy⟩:=Qjb (φ:=φ1) (D0:=w.heap.size) (n:=s.own.length) (b:=w.heap.size+1) (.far (Y:=fun b _=>b=w.heap.size+1) (off:=0) (by rw[hφ1',if_neg (fun hr=>by have:=hlow _ hr;omega),if_pos rfl]) rfl)
   exact hx.2.2 off2 hy
  ·rw[Qkd (by omega)]
   show φ1 n=.unused
   rw[hφ1',if_neg (fun hr=>by have:=hlow _ hr;omega),if_neg (by omega)]
   exact hu n (by omega)
 obtain⟨J,hJ⟩:∃J:Far α,J=fun o Y D B=>match o with
  |some rest=>∃φe t,G rest t∧Mid kb s a (w.heap.size+1) w.heap.size φ1 W1 (own t) (.loop (rec .ready none)) φe Y D B
  |none=>∃φe c own2,own2.length=s.own.length∧(∀st∈own2,st.isFar=false)∧((c=.ret∧Q .ret ⟨s.regs,own2++[.dead]⟩)∨∃id,c=.exit id∧Q (.exit id) ⟨s.regs,own2++[.dead]⟩)∧Mid kb s a (w.heap.size+1) w.heap.size φ1 W1 own2 (.loop (rec .done (some c))) φe Y D B:=⟨_,rfl⟩
 have hy:Qph P (w.heap.size+1) J encs:=by
  intro x rest Xi φi Y D B W hj hF hXi
  rw[hJ] at hj
  obtain⟨φe,t,hGt,m⟩:=hj
  obtain⟨hregs,henv,hl⟩:=m.sim (hnf t) hF
  have hyl:=run_yield (P:=P) (args:=(encs x).toArray) hl (by rw[hrec];simp[hps x])
  rw[hrec] at hyl
  refine⟨fn,_,assign,body,hyl,roundIn_of_wpIn hfn ?_⟩
  obtain⟨f1,_,_⟩:=m.far
  rw[hk t] at f1
  have hfold:(ps.zip (encs x).toArray).foldl (fun t (p,v)=>t.setIfInBounds p v) a.tmps=((ps.toList.zip (encs x)).foldl (fun t p=>t.setIfInBounds p.1 p.2) a.tmps):=by
   rw[←Array.foldl_toList,Array.toList_zip]
  have hset:=Qr6 (X:=XH Y D W) (φ:=φe) (w:=W) (ps.toList.zip (encs x)) s.regs a.tmps h.size hregs
  have hs0:Sim (XH Y D W) φe { W with drawn:=0 } φe ⟨Q8l s.regs ps (encs x),own t++[Slot.far (farL (w.heap.size+1) (.loop (rec .ready none)))]⟩ { tmps:=(ps.zip (encs x).toArray).foldl (fun t (p,v)=>t.setIfInBounds p v) a.tmps,defers:=[] } W:=
   ⟨fun n b hb=>(henv.slot n).lt hb,.nil0 _ _ rfl,by rw[hfold];exact hset.1,fun i v hv=>by rw[hfold];exact hset.2 i v hv,henv,Evo.refl.to_at⟩
  have hub:∀n,s.own.length+1≤n→φe n=.unused:=fun n hn=>by
   have:=henv.slot n
   (try dsimp only at this)
   rw[Qkd (by rw[hk t];omega)] at this
   exact this
  refine wpIn_mono (hround _ _ (XH Y D W) φe { W with drawn:=0 } hub x rest t hGt φe _ W hs0) ?_
  rintro e a1 w1 ⟨φ2,s1,hs1,hq1⟩
  cases e with
  |normal=>
   obtain⟨hk1,hbody⟩:=hq1
   obtain⟨hl1,hs2⟩:=hs1.turnL (o':=.loop (rec .busy none)) m.distinct (.far (off:=0) f1 rfl) hk1 rfl rfl
   refine⟨w1.putObj (w.heap.size+1) (.loop (rec .busy none)),by rw[hrec] at hl1 ⊢;exact run_beginRound hl1 rfl,?_⟩
   refine wpIn_mono (hbody _ φ2 _ _ hs2) ?_
   rintro e a3 w3 ⟨φ3,s3,hs3,hq3⟩
   have fin:∀(jump:Option Code) (own2:List Slot),own2.length=s.own.length→(∀st∈own2,st.isFar=false)→Ren kb s3.own (own2++[Slot.far (farL (w.heap.size+1) (.loop (rec .busy none)))]) →
     ∃φ4,(Instr.endRound (w.heap.size+1) jump).run P w3=.ok (.bool jump.isNone) (w3.putObj (w.heap.size+1) (.loop (rec (if jump.isNone then .ready else .done) jump)))∧Kept Y (Yof φ4 w.heap.size) W (w3.putObj (w.heap.size+1) (.loop (rec (if jump.isNone then .ready else .done) jump))) ∧
      (∀b off,Yof φ4 w.heap.size b off→b<(w3.putObj (w.heap.size+1) (.loop (rec (if jump.isNone then .ready else .done) jump))).heap.size) ∧
      Mid kb s a (w.heap.size+1) w.heap.size φ1 W1 own2 (.loop (rec (if jump.isNone then .ready else .done) jump)) φ4 (Yof φ4 w.heap.size) (grow D Y W (w3.putObj (w.heap.size+1) (.loop (rec (if jump.isNone then .ready else .done) jump)))) (w3.putObj (w.heap.size+1) (.loop (rec (if jump.isNone then .ready else .done) jump))):=fun jump own2 h1 h2 hm=>by
    obtain⟨φ4,b1,b2,b3,b4⟩:=m.back (own2:=own2) (own3:=s3.own) (o':=.loop (rec .busy none)) (o'':=.loop (rec (if jump.isNone then .ready else .done) jump)) (hnf t) hF hreg h2 (by rw[hk t,h1]) hs3 hm rfl rfl
    refine⟨φ4,?_,b2,b3,b4⟩
    rw[hrec] at b1 ⊢
    exact run_endRound jump b1
   have two:∀{own2:List Slot},(own2.length==s.own.length&&own2.all (fun x=>!x.isFar))=true→own2.length=s.own.length∧∀st∈own2,st.isFar=false:=fun h=>by
    simp only[Bool.and_eq_true,beq_iff_eq,List.all_eq_true,Bool.not_eq_true'] at h
    exact h
   cases e with
   |normal=>
    obtain⟨t',hG',hm⟩:=hq3
    obtain⟨φ4,r1,r2,r3,r4⟩:=fin none (own t') (hk t') (hnf t') hm
    exact⟨_,_,r1,_,r2,r3,.inl ⟨rfl,by rw[hJ];exact⟨φ4,t',hG',r4⟩⟩⟩
   |ret=>
    obtain⟨own2,h1,hq,hm⟩:=hq3
    obtain⟨φ4,r1,r2,r3,r4⟩:=fin (some .ret) own2 (two h1).1 (two h1).2 hm
    exact⟨_,_,r1,_,r2,r3,.inr ⟨rfl,by rw[hJ];exact⟨φ4,.ret,own2,(two h1).1,(two h1).2,.inl ⟨rfl,hq⟩,r4⟩⟩⟩
   |exit id=>
    obtain⟨own2,h1,hq,hm⟩:=hq3
    obtain⟨φ4,r1,r2,r3,r4⟩:=fin (some (.exit id)) own2 (two h1).1 (two h1).2 hm
    exact⟨_,_,r1,_,r2,r3,.inr ⟨rfl,by rw[hJ];exact⟨φ4,.exit id,own2,(two h1).1,(two h1).2,.inr ⟨id,rfl,hq⟩,r4⟩⟩⟩
   |goto=>exact hq3.elim
   |panic=>exact hq3.elim
   |outgrown=>exact hq3.elim
  |ret=>exact hq1.elim
  |exit=>exact hq1.elim
  |goto=>exact hq1.elim
  |panic=>exact hq1.elim
  |outgrown=>exact hq1.elim
 obtain⟨φi,hφi⟩:∃φi:Nat→FSlot,φi=fun n=>if n<σ.length then(match ρ[n]? with |some n'=>φ n' |none=>.unused) else if n=σ.length then .far (Yof φ1 w.heap.size) else .unused:=⟨_,rfl⟩
 have iM:∀n n',ρ[n]? = some n'→φi n=φ n':=fun n n' e=>by
  have:n<σ.length:=by rw[←hlen];exact(List.getElem?_eq_some_iff.1 e).1
  rw[hφi]
  simp only[this,if_true,e]
 have iF:φi σ.length=.far (Yof φ1 w.heap.size):=by rw[hφi];simp
 have iU:∀n,σ.length<n→φi n=.unused:=fun n hn=>by
  rw[hφi]
  simp only[show ¬n<σ.length by omega,show n≠σ.length by omega,if_false]
 have iInv:∀n b,(φi n).lies b→(∃n',ρ[n]? = some n'∧(φ n').lies b)∨(n=σ.length∧∃off,Yof φ1 w.heap.size b off):=fun n b hb=>by
  rcases Nat.lt_trichotomy n σ.length with h1 |h1 |h1
  ·obtain⟨n',e⟩:∃n',ρ[n]? = some n':=⟨_,List.getElem?_eq_getElem (by omega)⟩
   rw[iM n n' e] at hb
   exact .inl ⟨n',e,hb⟩
  ·subst h1
   rw[iF] at hb
   exact .inr ⟨rfl,Qkj hb⟩
  ·rw[iU n h1] at hb;exact(Qep hb).elim
 have fwd:∀b off,DataAt X φ w b off→DataAt X φi w b off:=fun b off hd=>by
  refine⟨hd.lt,hd.hid,fun n hn=>?_,fun n L' hn=>?_,fun n Y0 hn h0'=>?_,fun n bs z hn hz=>?_⟩
  ·rcases iInv n b (.own hn) with ⟨n',e,_⟩ |⟨rfl,_⟩
   ·exact hd.own n' ((iM n n' e)▸hn)
   ·rw[iF] at hn;cases hn
  ·rcases iInv n b (.tok hn) with ⟨n',e,_⟩ |⟨rfl,_⟩
   ·exact hd.tok n' L' ((iM n n' e)▸hn)
   ·rw[iF] at hn;cases hn
  ·rcases iInv n b (.far hn h0') with ⟨n',e,_⟩ |⟨rfl,_⟩
   ·exact hd.far n' Y0 ((iM n n' e)▸hn) h0'
   ·rw[iF] at hn;cases hn;exact notY b off hd h0'
  ·rcases iInv n b (.mat hn hz) with ⟨n',e,_⟩ |⟨rfl,_⟩
   ·exact hd.mat n' bs z ((iM n n' e)▸hn) hz
   ·rw[iF] at hn;cases hn
 have ei:Evo1 X φi w X φi W1:=by
  have hb:∀n b,(φi n).lies b→n≠σ.length→W1.heap[b]? = w.heap[b]? := fun n b h1 h2=>by
   rcases iInv n b h1 with ⟨n',_,h3⟩ |⟨h3,_⟩
   ·exact hold b (hlt n' b h3)
   ·exact absurd h3 h2
  refine⟨fun b off hd=>⟨⟨by have:=hd.lt;omega,hd.hid,hd.own,hd.tok,hd.far,hd.mat⟩,World.cell?_of_block (hold b hd.lt)⟩,fun _ h=>h,fun _ _ _ h=>h,fun n t _ ht=>⟨ht,fun b L' e=>hb n b (.tok (L:=L') (by rw[ht,e])) (fun e'=>by subst e';rw[iF] at ht;cases ht)⟩,fun n b hn _=>.same (hb n b (.own hn) fun e'=>by subst e';rw[iF] at hn;cases hn),fun _ bs _ h=>⟨bs,h,.refl bs⟩⟩
 have fwd1:∀b off,DataAt X φ w b off→DataAt X φi W1 b off:=fun b off hd=>(ei.dat b off (fwd b off hd)).1
 have hYlt:∀b off,Yof φ1 w.heap.size b off→b<W1.heap.size:=fun b off hy'=>by
  rcases Qna hy' with ⟨n,hn⟩ |e
  ·rcases hlies1 n b hn with ⟨_,e⟩ |⟨_,_,_,h1⟩
   ·omega
   ·have:=hlt n b h1;omega
  ·omega
 have hYX:∀b off,Yof φ1 w.heap.size b off→∀off',¬X b off':=fun b off hy' off'=>by
  rcases Qna hy' with ⟨n,hn⟩ |e
  ·rcases hlies1 n b hn with ⟨_,e⟩ |⟨_,_,_,h1⟩
   ·exact hXl b off' (by omega)
   ·exact hXo n b h1 off'
  ·exact hXl b off' (by omega)
 have henvi:Qk2 X φi W1 (fun n=>(σ++[Slot.far (J (some L))]).getD n .unused):=by
  refine⟨fun n=>?_,fun n n' b h1 h2=>?_,fun b off hx=>by have:=h.env.hid b off hx;omega⟩
  ·show SlotOK X φi W1 n ((σ++[Slot.far (J (some L))]).getD n .unused)
   rcases Nat.lt_trichotomy n σ.length with h1 |h1 |h1
   ·rw[Qlp h1]
    obtain⟨n',e⟩:∃n',ρ[n]? = some n':=⟨_,List.getElem?_eq_getElem (by omega)⟩
    have hsl:=h.env.slot n'
    have hr:σr[n]? = some (s.slot n'):=by rw[←hs];simp[e]
    obtain⟨q1,q2⟩:=hσ.spec
    have hst:=q2 n σ[n] (s.slot n') (List.getElem?_eq_getElem h1) hr
    have hal:=halive σ[n] (List.getElem_mem h1)
    have e2:σ.getD n .unused=σ[n]:=by simp[h1]
    rw[e2]
    have hof:∀b,(φi n).lies b→W1.heap[b]? = w.heap[b]? ∧ ∀off,¬X b off:=fun b hb=>by
     rw[iM n n' e] at hb
     exact⟨hold b (hlt n' b hb),hXo n' b hb⟩
    generalize σ[n]=st at hst hal ⊢
    generalize s.slot n'=st' at hst hsl
    cases hst with
    |dead=>cases hal
    |tok=>cases hal
    |own m xs xs' hl hx hr'=>
     obtain⟨b,b1,b2⟩:=hsl
     have:SlotOK X φi w n (.own m xs):=⟨b,(iM n n' e).trans b1,OwnOK.ren fwd (M:=fun n' n=>ρ[n]? = some n') (fun n' n hM=>iM n n' hM) b2 (.own m xs' xs hl.symm (fun j x x' h1 h2=>(hx j x' x h2 h1).symm) fun j x x' h1 h2 i a a' h3 h4=>(hr' j x' x h2 h1 i a' a h4 h3).symm) b2.hid⟩
     exact this.evo1 rfl ei rfl hof
    |gro m xs xs' hl hx hr'=>
     have:SlotOK X φi w n (.gro m xs):=by
      rcases hsl with ⟨b1,b2⟩ |⟨b,b1,b2⟩
      ·exact .inl ⟨List.eq_nil_of_length_eq_zero (by rw[hl,b1];rfl),(iM n n' e).trans b2⟩
      ·exact .inr ⟨b,(iM n n' e).trans b1,OwnOK.ren fwd (M:=fun n' n=>ρ[n]? = some n') (fun n' n hM=>iM n n' hM) b2 (.own m xs' xs hl.symm (fun j x x' h1 h2=>(hx j x' x h2 h1).symm) fun j x x' h1 h2 i a a' h3 h4=>(hr' j x' x h2 h1 i a' a h4 h3).symm) b2.hid⟩
     exact this.evo1 rfl ei rfl hof
    |mat m rows hx=>
     obtain⟨bs,m1,m2,m3,m4⟩:=hsl
     have:SlotOK X φi w n (.mat m rows):=by
      refine⟨bs,(iM n n' e).trans m1,m2,m3,fun k xs hk=>?_⟩
      rcases m4 k xs hk with m5 |⟨b,m5,m6⟩
      ·exact .inl m5
      ·exact .inr ⟨b,m5,OwnOK.ren fwd (M:=fun n' n=>ρ[n]? = some n') (fun n' n hM=>iM n n' hM) m6 (.plain (hx xs (List.mem_of_getElem? hk))) m6.hid⟩
     exact this.evo1 rfl ei rfl hof
    |mp es clock=>
     obtain⟨b,b1,b2⟩:=hsl
     have:SlotOK X φi w n (.mp es clock):=⟨b,(iM n n' e).trans b1,b2⟩
     exact this.evo1 rfl ei rfl hof
   ·subst h1
    rw[Qjm]
    exact⟨_,_,W1,iF,by rw[hJ];exact⟨φ1,t0,hG,m0⟩,⟨fun b off hy'=>⟨hYlt b off hy',rfl,hYX b off hy'⟩,fun b off hd _=>⟨fwd1 b off hd,rfl⟩,rfl,rfl,rfl,Nat.le_refl _⟩⟩
   ·rw[Qkd h1]
    exact iU n h1
  ·have mix:∀(n1 b:Nat),(∃n':Nat,ρ[n1]? = some n'∧(φ n').lies b)→(∃off,Yof φ1 w.heap.size b off)→False:=fun n1 b hmix ⟨off,hy'⟩=>by
    obtain⟨n',e,hb⟩:=hmix
    rcases Qna hy' with ⟨q,hq⟩ |e'
    ·rcases hlies1 q b hq with ⟨_,e'⟩ |⟨hq1,_,_,hq2⟩
     ·have:=hlt n' b hb;omega
     ·have:=h.env.distinct n' q b hb hq2
      subst this
      exact hq1 (List.mem_of_getElem? e)
    ·have:=hlt n' b hb;omega
   rcases iInv n b h1 with g1 |⟨g1,g2⟩<;>rcases iInv n' b h2 with g3 |⟨g3,g4⟩
   ·obtain⟨p1,e1,l1⟩:=g1
    obtain⟨p2,e2,l2⟩:=g3
    have:=h.env.distinct p1 p2 b l1 l2
    subst this
    exact inj n n' p1 e1 e2
   ·exact(mix n b g1 g4).elim
   ·exact(mix n' b g3 g2).elim
   ·rw[g1,g3]
 have hcapi:caps'.length=caps.length∧∀i v,caps'[i]? = some v→RelV X φi W1 v (cs.getD i undef):=by
  have hv:RelV X φ w (.agg caps) (.agg cs):=.agg _ _ hcs hcr
  have:=(RelV.ren fwd (fun n' n hM=>iM n n' hM) hcaps.symm hv).evo1 ei
  cases this with
  |agg _ _ h1 h2=>exact⟨by rw[←h1,hcs],h2⟩
 refine⟨w.heap.size+1,[{ target:=.collected w.heap.size,args := #[] }],W1,{ target:=.fn (.func gf) cs,args := #[.func (.yield (w.heap.size+1)) #[] #[]] },W1,gf,
  #[.func (.yield (w.heap.size+1)) #[] #[]]++cs,W1,?_,?_,fun _ _=>trivial,?_,fun e=>(by cases e),?_⟩
 ·rw[←hW1,hrec];exact run_enterLoop_outer _ _ _ _ _
 ·simp only[resolve,hge]
  simp[go_sem]
 ·simp[invoke,go_sem,hcall]
 ·refine Qp8.2 ((seq X φi W1 cs (w.heap.size+1) J (by rw[hcs,hcapi.1]) hcapi.2 henvi hy).mono ?_)
  rintro e w2 ⟨⟨v,rfl⟩,φ2,E,_,hend⟩
  have hiH:∀b,Qjc φi b→Qjc φ b∨w.heap.size≤b:=fun b ⟨n,hn⟩=>by
   rcases iInv n b hn with ⟨n',_,hb⟩ |⟨_,off,hy'⟩
   ·exact .inl ⟨n',hb⟩
   ·rcases Qna hy' with ⟨q,hq⟩ |e'
    ·rcases hlies1 q b hq with ⟨_,e'⟩ |⟨_,_,_,hq2⟩
     ·exact .inr (by omega)
     ·exact .inl ⟨q,hq2⟩
    ·exact .inr (by omega)
  have hends:∀{o:Option (List α)},SlotOK X φ2 w2 σ.length (.far (J o))→∃Y D B,φ2 σ.length=.far Y∧J o Y D B∧Qur X φ2 w2 Y D B:=fun h=>h
  rcases hend with hend |hend
  ·obtain⟨Y,D,B,q1,q2,q3⟩:=hends hend
   rw[hJ] at q2
   obtain⟨φe,t,hGt,m⟩:=q2
   obtain⟨r1,r2⟩:=m.finish (o':=.loop (rec .exhausted none)) h h00 hdr0 (hk t) hφ1' ⟨_,hW1.symm⟩ (hnf t) rfl rfl q3 q1 E hiH fwd1
   refine⟨none,w2.putObj (w.heap.size+1) (.loop (rec .exhausted none)),by have:=run_endLoop (P:=P) r1 (by rw[hrec];simp);rw[hrec] at this ⊢;exact this,?_⟩
   exact⟨_,_,r2,hdone t hGt⟩
  ·obtain⟨Y,D,B,q1,q2,q3⟩:=hends hend
   rw[hJ] at q2
   obtain⟨φe,c,own2,hl2,hf2,hc,m⟩:=q2
   obtain⟨r1,r2⟩:=m.finish (o':=.loop (rec .exhausted (some c))) h h00 hdr0 hl2 hφ1' ⟨_,hW1.symm⟩ hf2 rfl rfl q3 q1 E hiH fwd1
   refine⟨some c,w2.putObj (w.heap.size+1) (.loop (rec .exhausted (some c))),by have:=run_endLoop (P:=P) r1 (by rw[hrec];simp);rw[hrec] at this ⊢;exact this,?_⟩
   rcases hc with ⟨rfl,hq⟩ |⟨id,rfl,hq⟩
   ·exact wpIn_ret ⟨_,_,r2,hq⟩
   ·exact wpIn_exit ⟨_,_,r2,hq⟩
end
end
end
section
theorem Qjd {P:Program}{s:AS}{rv:ResultVar}{v v':AV}(h:Qw1 P s rv v) (hl:Less v v'):Qw1 P s rv v':=fun X φ0 w0 φ a w hs=>by
 obtain⟨u,h1,h2⟩:=h X φ0 w0 φ a w hs
 exact⟨u,h1,hl _ _ _ _ h2⟩
def yld {α:Type}(x:α) (o:Option (List α)):Option (List α):=o.map (x :: ·)
theorem Q46 {α:Type}{x:α}{o:Option (List α)}{r:List α}(h:yld x o=some r):∃r',o=some r'∧r=x::r':=by
 unfold yld at h
 obtain⟨r',h1,h2⟩:=Option.map_eq_some_iff.1 h
 exact⟨r',h1,h2.symm⟩
theorem Quq {P:Program}{o:Oper}{rd rd':List (Operand×AV)}{bl:List (Nat×Slot)}{r r':AV}{eff eff':List (Nat×Slot)}(hw:LW rd rd') (h:Qn1 P o rd' bl r eff r' eff'):Qn1 P o rd bl r eff r' eff':=fun X φ a w hr=>h X φ a w fun q hq=>by
 obtain⟨p,hp,e1,e2⟩:=hw.get q hq
 rw[←e1]
 exact e2 _ _ _ _ (hr p hp)
theorem Qs4 {P:Program}{α:Type}{o:Oper}{f:Operand}{xs:Array Operand}{ts:Array TypeId}{l n:Nat}{J:Far α}{encs:α→List Value}{x:α}{rest:List α}{rd:List (Operand×AV)}
  (h:o.op=.call { callee:=.value f,args:=xs,argTypes:=ts }) (hl:(encs x).length=xs.size) (hy:Qph P l J encs) (hrd:(f,.lit (.func (.yield l) #[] #[]))::xs.toList.zip ((encs x).map AV.lit)=rd) :
  Qn1 P o rd [(n,.far (J (some (x::rest))))] (.lit (.bool true)) [(n,.far (J (some rest)))] (.lit (.bool false)) [(n,.far (J none))]:=hrd▸Qul h hl hy
def Q9s (regs:List AV) (ps:Array Tmp) (vs:List AV):List AV:=(ps.toList.zip vs).foldl (fun r p=>r.set p.1 p.2) regs
theorem Qsi:∀{l k:List AV}(t:Nat) {a b:AV},LessL l k→Less a b→LessL (l.set t a) (k.set t b)
 |[],[],_,_,_,_,_=>trivial
 |_::_,_::_,0,_,_,h,hr=>⟨hr,h.2⟩
 |_::_,_::_,t+1,_,_,h,hr=>⟨h.1,Qsi t h.2 hr⟩
theorem Qp2:∀l:List AV,LessL l l
 |[]=>trivial
 |_::l=>⟨Less.rfl,Qp2 l⟩
theorem Qvc:∀(ps:List Tmp) (vs:List Value) (us:List AV) (regs regs':List AV),LessL regs regs'→LPw Less (vs.map AV.lit) us→LessL ((ps.zip vs).foldl (fun r p=>r.set p.1 (AV.lit p.2)) regs) ((ps.zip us).foldl (fun r p=>r.set p.1 p.2) regs')
 |[],_,_,_,_,h,_=>by simpa using h
 |p::ps,[],[],_,_,h,_=>by simpa using h
 |p::ps,v::vs,u::us,regs,regs',h,hv=>Qvc ps vs us _ _ (Qsi p h hv.1) hv.2
 |_::_,[],_::_,_,_,_,hv=>hv.elim
 |_::_,_::_,[],_,_,_,hv=>hv.elim
section
variable {P : Program} {X : Nat → Nat → Prop} {φ0 : Nat → FSlot} {w0 : World} {Q : Exit → AS → Prop} {s : AS}
theorem Qqb {α τ:Type}{g:Operand}{ps:Array Tmp}{assign body:Code}{gf:FuncId}{caps caps':List AV}{σ σr:List Slot}{encs:α→List Value}{L:List α}{kb:Nat}(avs:α→List AV) (ρ:List Nat) (h00:∀n,kb≤n→φ0 n=.unused) (hdr0:w0.drawn≠1) (seq:Qpj P gf caps' σ encs L) (hcall:∀vals w,(callFunc gf vals).run P w=.ok (.enter gf vals) w)
  (hg:opd s.regs g=.fn (.func gf) [] caps) (hdec:(decide ρ.Nodup&&(ρ.length==σ.length)&&ρ.all (fun n=>Nat.blt n s.own.length)&&σ.all Slot.alive)=true)
  (hcaps:Rn (fun n n'=>ρ[n]? = some n') (.agg caps') (.agg caps)) (hσ:SLw (fun n n'=>ρ[n]? = some n') σ σr) (hs:(ρ.map fun n=>s.slot n)=σr) (hps:∀x,(encs x).length=ps.size) (havs:∀x,LPw Less ((encs x).map AV.lit) (avs x)) (hreg:∀v∈s.regs,NLt kb v)
  (own:τ→List Slot) (hk:∀t,(own t).length=s.own.length) (hnf:∀t,(own t).all (fun x=>!x.isFar)=true) (G:List α→τ→Prop) (t0:τ) (hG:G L t0) (h0:own t0=Qoq s.own ρ)
  (hround:∀l o X φr Wr,(∀n,s.own.length+1≤n→φr n=.unused)→∀x rest t,G (x::rest) t→AWp P X φr Wr (some l) assign (Q1b P X φr Wr l s.own.length o body (Q3v kb Q s l (G rest) own s.own.length)) ⟨Q9s s.regs ps (avs x),own t++[Slot.far (farL l o)]⟩)
  (hdone:∀t,G [] t→Q .normal ⟨s.regs,own t++[.dead]⟩):AWp P X φ0 w0 none (.rangeFunc g ps assign body) Q s:=
 Q02 ρ h00 hdr0 seq hcall hg hdec hcaps hσ hs hps hreg own hk (fun t st hst=>by have:=List.all_eq_true.1 (hnf t) st hst;simpa using this) G t0 hG h0 (fun l o X φr Wr hr x rest t ht=>Q23 (Qvc ps.toList (encs x) (avs x) s.regs s.regs (Qp2 _) (havs x)) (hround l o X φr Wr hr x rest t ht)) hdone
theorem Q3z {kb n:Nat}{l:List (Nat×AV)}(h:∀p∈l,NLt kb p.2):∀v∈mk n l,NLt kb v:=by
 have:∀(l:List (Nat×AV)) (r:List AV),(∀v∈r,NLt kb v)→(∀p∈l,NLt kb p.2)→∀v∈l.foldl (fun r p=>r.set p.1 p.2) r,NLt kb v:=by
  intro l
  induction l with
  |nil=>intro r h _;exact h
  |cons p l ih=>
   intro r h hp
   refine ih (r.set p.1 p.2) (fun v hv=>?_) fun q hq=>hp q (List.mem_cons_of_mem _ hq)
   rcases List.mem_or_eq_of_mem_set hv with h1 |h1
   ·exact h v h1
   ·rw[h1];exact hp p (by simp)
 exact this l _ (fun v hv=>by rw[List.eq_of_mem_replicate hv];exact .any) h
theorem Qy5 {kb:Nat}:∀p∈([]:List (Nat×AV)),NLt kb p.2:=by simp
theorem Qn8 {kb t:Nat}{a:AV}{l:List (Nat×AV)}(h:NLt kb a) (hl:∀p∈l,NLt kb p.2):∀p∈(t,a)::l,NLt kb p.2:=fun p hp=>by
 rcases List.mem_cons.1 hp with rfl |hp
 ·exact h
 ·exact hl p hp
theorem Qmx {n ty m q mq:Nat}{c:List AV}(i:Nat) {s:AS}(hq:s.own.getD q .unused=.own mq [c]) (hc:c[i]? = some (.lit (.slice none 0 0))) (hn:s.own.length=n) (hqn:q<n):Mor X φ0 w0 s ⟨s.regs,(s.own.set q (.own mq [c.set i (.acc n ty m [])]))++[.tok]⟩:=by
 refine Q2o n ty m ?_ (LPw.refl (fun a=>.same a) _) ?_ fun k hk=>?_
 ·simp[AS.slot,←hn]
 ·simp[←hn]
 ·have hke:((s.own.set q (.own mq [c.set i (.acc n ty m [])]))++[Slot.tok]).getD k .unused=(s.own.set q (.own mq [c.set i (.acc n ty m [])])).getD k .unused:=by
   rcases Nat.lt_or_ge k n with h |h
   ·exact Qlp (by simpa [hn] using h)
   ·have h1:((s.own.set q (.own mq [c.set i (.acc n ty m [])]))++[Slot.tok])[k]? = none:=List.getElem?_eq_none (by simp;omega)
    have h2:(s.own.set q (.own mq [c.set i (.acc n ty m [])]))[k]? = none:=List.getElem?_eq_none (by simp;omega)
    simp only[List.getD_eq_getElem?_getD,h1,h2]
  rw[hke]
  by_cases e:k=q
  ·subst e
   have:(s.own.set k (.own mq [c.set i (.acc n ty m [])])).getD k .unused=.own mq [c.set i (.acc n ty m [])]:=by
    simp[show k<s.own.length by omega]
   rw[this]
   have e2:s.slot k=.own mq [c]:=hq
   rw[e2]
   refine .own mq _ _ rfl fun j x x' h1 h2=>?_
   cases j with
   |zero=>simp at h1 h2;subst h1 h2;exact LPw.set (fun a=>.same a) c i hc .nil
   |succ j=>simp at h1
  ·have:(s.own.set q (.own mq [c.set i (.acc n ty m [])])).getD k .unused=s.own.getD k .unused:=by
    simp only[List.getD_eq_getElem?_getD]
    rw[List.getElem?_set_ne (fun e'=>e e'.symm)]
   rw[this]
   exact SPw.refl (fun a=>.same a) _
end
end
section
section
variable {P : Program} {o : Oper} {X : Nat → Nat → Prop} {φ φ' : Nat → FSlot} {w w' : World}
theorem Evo.allocT {n:Nat}(hn:φ n=.unused) (hlt:∀n b,(φ n).lies b→b<w.heap.size) (ob:Obj):Evo X φ w (upd φ n (.tok none)) (w.alloc ob):=by
 have ne:∀k,φ k≠.unused→k≠n:=fun k hk e=>hk (e▸hn)
 refine⟨rfl,rfl,rfl,by simp,fun b hb _=>heap_alloc_old w ob hb,fun b ⟨k,hk⟩=>?_,fun b off hd=>⟨⟨by simp;have:=hd.lt;omega,hd.hid,fun k hk=>?_,fun k L hk=>?_,fun k Y hk=>?_,fun k bs q hk=>?_⟩,World.cell?_of_block (heap_alloc_old w ob hd.lt)⟩,fun k hk=>?_,fun k b hk=>?_,fun k t hk=>?_,fun k Y hk=>?_,fun k bs hk=>?_,fun k b hk _=>?_⟩
 ·unfold upd at hk
  split at hk
  ·exact(Qdn hk).elim
  ·exact .inl ⟨k,hk⟩
 ·unfold upd at hk
  split at hk
  ·cases hk
  ·exact hd.own k hk
 ·unfold upd at hk
  split at hk
  ·cases hk
  ·exact hd.tok k L hk
 ·unfold upd at hk
  split at hk
  ·cases hk
  ·exact hd.far k Y hk
 ·unfold upd at hk
  split at hk
  ·cases hk
  ·exact hd.mat k bs q hk
 ·rw[upd,if_neg (ne k (by rw[hk];simp))];exact hk
 ·rw[upd,if_neg (ne k (by rw[hk];simp))];exact .inl hk
 ·rw[upd,if_neg (ne k (by rw[hk];simp))]
  exact .inr ⟨hk,fun b L e=>heap_alloc_old w ob (hlt k b (.tok (L:=L) (by rw[hk,e])))⟩
 ·rw[upd,if_neg (ne k (by rw[hk];simp))];exact .inr ⟨Y,hk⟩
 ·rw[upd,if_neg (ne k (by rw[hk];simp))];exact .inr ⟨bs,hk,.refl bs⟩
 ·exact .same (heap_alloc_old w ob (hlt k b (.own hk)))
theorem Qqo {n:Nat}(hd:Qc7 φ):Qc7 (upd φ n (.tok none)):=by
 intro k k' b hk hk'
 unfold upd at hk hk'
 split at hk
 ·exact(Qdn hk).elim
 ·split at hk'
  ·exact(Qdn hk').elim
  ·exact hd k k' b hk hk'
theorem Qid {t e:TypeId}{nm m:Nat}{gg:Bool}{zs:List Value}(h:o.op=.buildSlice t 0 #[]) (ht:P.underlying t=some (.slice e)) (he:TI P e gg m) (hz:TZ P e zs) :
  Qdw P o [] [(nm,.unused)] (.acc nm e m []) [(nm,.tok)]:=by
 intro X φ a w hr hb hd hX hlt next Q k
 have hn:φ nm=.unused:=hb (nm,.unused) (by simp)
 obtain⟨z,hz1,hz2⟩:=hz.run w
 have hexec:∃cs,(execOp a.eval o).run P w=.ok (.value (.slice (some ⟨w.heap.size,0,none⟩) 0 0)) (w.alloc (.cells cs e)):=
  ⟨(Array.range 0).map fun _=>(default:Value),by simp[execOp,h,Instr.buildSlice,run_underlying ht,he.size,newRow,newObj,Instr.fill];rfl⟩
 obtain⟨cs,hexec⟩:=hexec
 have evo:=Evo.allocT (X:=X) hn hlt (.cells cs e)
 refine Qh0 hexec ?_
 refine k _ (upd φ nm (.tok none)) _ (RelV.acc nm e m [] _ 0 0 (fun _ _=>undef) (DatOK.nil _ _ _ _ (by simp[maxLen])) (by simp) (by simp[upd]) (fun t ht=>?_)) (fun p hp=>?_) (Qqo hd) (fun q hq=>?_) (fun b hb _=>heap_alloc_old w _ hb) evo
 ·simp[upd] at ht
  subst ht
  exact⟨rfl,rfl⟩
 ·simp at hp
  subst hp
  exact⟨none,by simp[upd],fun b L e=>by cases e⟩
 ·simp at hq
  simp[upd,hq]
theorem Q29 {n0:Option Nat}{n b':Nat}{e:TypeId}{cur':Array Value}{w':World}(hd:Qc7 φ) (hlt:∀n b,(φ n).lies b→b<w.heap.size) (hn:φ n=.unused)
  (hc:(∃(k:Nat) (cur:Array Value),n0=some k∧φ k=.tok (some (b',0))∧w.heap[b']? = some (.cells cur e (0,0))∧w'=w.setRow b' cur')∨(b'=w.heap.size∧w'=w.drew.alloc (.cells cur' e)∧∀k,n0=some k→∃t,φ k=.tok t)) :
  Evo X φ w (fun k=>if k=n then .own b' else if some k=n0 then .dead else φ k) w'∧Qc7 (fun k=>if k=n then FSlot.own b' else if some k=n0 then .dead else φ k):=by
 have ne:∀k,φ k≠.unused→k≠n:=fun k hk e=>hk (e▸hn)
 have only:∀k,(φ k).lies b'→some k=n0∨k=n:=fun k hk=>by
  rcases hc with ⟨k0,cur,rfl,h1,_⟩ |⟨rfl,_⟩
  ·exact .inl (congrArg some (hd k k0 b' hk (.tok h1)))
  ·exact absurd (hlt k _ hk) (Nat.lt_irrefl _)
 have dead0:∀k,some k=n0→∃t,φ k=.tok t:=fun k hk=>by
  rcases hc with ⟨k0,cur,h0,h1,_⟩ |⟨_,_,h2⟩
  ·rw[h0] at hk;cases hk;exact⟨_,h1⟩
  ·exact h2 k hk.symm
 have hother:∀b,b≠b'→b<w.heap.size→w'.heap[b]? = w.heap[b]? := fun b hb hbl=>by
  rcases hc with ⟨_,_,_,_,_,rfl⟩ |⟨_,rfl,_⟩
  ·exact setRow_other w b' b cur' hb
  ·exact heap_alloc_old w.drew _ hbl
 have hsize:w.heap.size≤w'.heap.size:=by
  rcases hc with ⟨_,_,_,_,_,rfl⟩ |⟨_,rfl,_⟩<;>simp
 refine⟨⟨?_,?_,?_,hsize,fun b hb hnb=>?_,fun b ⟨k,hk⟩=>?_,fun b off hdat=>?_,fun k hk=>?_,fun k b hk=>?_,fun k t hk=>?_,fun k Y hk=>?_,fun k bs hk=>?_,fun k b hk _=>?_⟩,fun k k' b hk hk'=>?_⟩
 ·rcases hc with ⟨_,_,_,_,_,rfl⟩ |⟨_,rfl,_⟩<;>rfl
 ·rcases hc with ⟨_,_,_,_,_,rfl⟩ |⟨_,rfl,_⟩<;>rfl
 ·rcases hc with ⟨_,_,_,_,_,rfl⟩ |⟨_,rfl,_⟩<;>rfl
 ·refine hother b (fun e=>?_) hb
  rcases hc with ⟨k0,cur,_,h1,_⟩ |⟨h1,_⟩
  ·exact hnb ⟨k0,.tok (L:=0) (by rw[h1,e])⟩
  ·omega
 ·dsimp only at hk
  split at hk
  ·obtain rfl:=Qge hk
   rcases hc with ⟨k0,cur,_,h1,_⟩ |⟨h1,_⟩
   ·exact .inl ⟨k0,.tok h1⟩
   ·exact .inr (by omega)
  ·split at hk
   ·exact(Qay hk).elim
   ·exact .inl ⟨k,hk⟩
 ·have hbb:b≠b':=fun e=>by
   subst e
   rcases hc with ⟨k0,cur,_,h1,_⟩ |⟨h1,_⟩
   ·exact absurd (hdat.tok k0 0 h1) (Nat.not_lt_zero _)
   ·have:=hdat.lt;omega
  refine⟨⟨Nat.lt_of_lt_of_le hdat.lt hsize,hdat.hid,fun k hk=>?_,fun k L hk=>?_,fun k Y hk=>?_,fun k bs q hk=>?_⟩,World.cell?_of_block (hother b hbb hdat.lt)⟩
  ·split at hk
   ·cases hk;exact hbb rfl
   ·split at hk
    ·cases hk
    ·exact hdat.own k hk
  ·split at hk
   ·cases hk
   ·split at hk
    ·cases hk
    ·exact hdat.tok k L hk
  ·split at hk
   ·cases hk
   ·split at hk
    ·cases hk
    ·exact hdat.far k Y hk
  ·split at hk
   ·cases hk
   ·split at hk
    ·cases hk
    ·exact hdat.mat k bs q hk
 ·rw[if_neg (ne k (by rw[hk];simp)),if_neg (fun e=>by obtain⟨t,ht⟩:=dead0 k e;rw[hk] at ht;cases ht)]
  exact hk
 ·rw[if_neg (ne k (by rw[hk];simp)),if_neg (fun e=>by obtain⟨t,ht⟩:=dead0 k e;rw[hk] at ht;cases ht)]
  exact .inl hk
 ·rw[if_neg (ne k (by rw[hk];simp))]
  by_cases e:some k=n0
  ·rw[if_pos e];exact .inl rfl
  ·rw[if_neg e]
   refine .inr ⟨hk,fun b L ht=>?_⟩
   subst ht
   have hl:(φ k).lies b:=.tok hk
   refine hother b (fun e'=>?_) (hlt k b hl)
   subst e'
   rcases only k hl with h |h
   ·exact e h
   ·exact ne k (by rw[hk];simp) h
 ·rw[if_neg (ne k (by rw[hk];simp)),if_neg (fun e=>by obtain⟨t,ht⟩:=dead0 k e;rw[hk] at ht;cases ht)]
  exact .inr ⟨Y,hk⟩
 ·rw[if_neg (ne k (by rw[hk];simp)),if_neg (fun e=>by obtain⟨t,ht⟩:=dead0 k e;rw[hk] at ht;cases ht)]
  exact .inr ⟨bs,hk,.refl bs⟩
 ·have hl:(φ k).lies b:=.own hk
  refine .same (hother b (fun e'=>?_) (hlt k b hl))
  subst e'
  rcases only k hl with h |h
  ·obtain⟨t,ht⟩:=dead0 k h;rw[hk] at ht;cases ht
  ·exact ne k (by rw[hk];simp) h
 ·dsimp only at hk hk'
  split at hk<;>split at hk'
  ·simp_all
  ·obtain rfl:=Qge hk
   split at hk'
   ·exact(Qay hk').elim
   ·rcases only k' hk' with h |h<;>contradiction
  ·obtain rfl:=Qge hk'
   split at hk
   ·exact(Qay hk).elim
   ·rcases only k hk with h |h<;>contradiction
  ·split at hk
   ·exact(Qay hk).elim
   ·split at hk'
    ·exact(Qay hk').elim
    ·exact hd k k' b hk hk'
theorem Qwx {x y:Operand}{t e:TypeId}{m m' bytes:Nat}{v u:AV}{ys:List (List AV)}{n0:Option Nat}{n:Nat}(h:o.op=.call { callee:=.builtin .append,args := #[x,y],argTypes := #[t,t] }) (ht:P.underlying t=some (.slice e)) (he:TE P e m bytes)
  (hv:Base e m v [] n0) (hu:Qta u=some (m',ys)) (hm':m'=m) (hne:ys≠[]) (h1:(ys.all fun y=>y.all AV.one)=true) (hb:(0+ys.length)*bytes≤140737488355328) (h63:0+ys.length≤maxLen) {L:Nat}(hL:ys.length=L) :
  Qdw P o [(x,v),(y,u)] (Qo7 n0++[(n,.unused)]) (.own n m 0 L) (Qim n0++[(n,.own m ys)]):=by
 subst hm' hL
 intro X φ a w hrd hbl hd hX hlt next Q k
 have hn:φ n=.unused:=hbl (n,.unused) (by simp)
 have hpos:=he.pos
 obtain⟨A,len,cap,g,hy,ok,hr⟩:=Qor (hrd (y,u) (by simp)) hu
 dsimp only at hy
 obtain⟨ad,news,rfl,hnl,hnc,hn1,hng⟩:=Qo3 ok hr hpos hne h1
 have elen:=ok.hlen
 subst elen
 have hx:=hrd (x,v) (by simp)
 dsimp only at hx
 have hbase:(n0=none∧∃A,a.eval x=.slice A 0 0)∨∃k0,n0=some k0∧((φ k0=.tok none∧∃A,a.eval x=.slice A 0 0)∨∃b cap cur,φ k0=.tok (some (b,0))∧a.eval x=.slice (some ⟨b,0,none⟩) 0 cap∧w.heap[b]? = some (.cells cur e (0,0))∧cur.size=cap*m'∧cap≤maxLen∧∀off,¬X b off):=by
  generalize hxs:([]:List (List AV))=xs0 at hv
  cases hv with
  |nil=>exact .inl ⟨rfl,_,Qd6 hx⟩
  |acc k0 _=>
   subst hxs
   obtain⟨T,hT,hT2⟩:=hbl (k0,.tok) (by simp[Qo7])
   cases hxe:a.eval x with
   |slice A len cap=>
    rw[hxe] at hx
    cases hx with
    |acc _ _ _ _ _ _ _ gx okx hrx hnx htip=>
     have tip:=htip T hT
     unfold Tip at tip
     have el:=okx.hlen
     simp only[List.length_nil] at el
     subst el
     cases T with
     |none=>
      obtain⟨_,rfl⟩:=tip
      exact .inr ⟨k0,rfl,.inl ⟨hT,_,rfl⟩⟩
     |some p=>
      obtain⟨b,L⟩:=p
      obtain⟨rfl,h2,cur,hc1,hc2,hc3⟩:=tip
      rw[Nat.zero_mul] at h2
      subst h2
      exact .inr ⟨k0,rfl,.inr ⟨b,cap,cur,hT,rfl,hc1,hc2,hc3,(hT2 b _ rfl).2⟩⟩
   |_=>rw[hxe] at hx;cases hx
 have hsv:((∃A,a.eval x=.slice A 0 0)∧0=0)∨∃g cap cur,a.eval x=.slice (some ⟨g,0,none⟩) 0 cap∧w.heap[g]? = some (.cells cur e (0,0))∧cur.size=cap*m'∧0≤cap∧cap≤maxLen∧cur.toList.take (0*m')=[]:=by
  rcases hbase with ⟨_,h3⟩ |⟨k0,_,⟨_,h3⟩ |⟨b,cap,cur,h2,h3,h4,h5,h6,_⟩⟩
  ·exact .inl ⟨h3,rfl⟩
  ·exact .inl ⟨h3,rfl⟩
  ·exact .inr ⟨b,cap,cur,h3,h4,h5,Nat.zero_le _,h6,by simp⟩
 obtain⟨b',cap',cur',w',hrun,c1,c2,c3,c4,c5⟩:=Qnn (P:=P) (ty:=o.type) ht he (a.eval x) 0 [] (by simp) hsv ad ys.length cap news hnl hnc hn1 (List.length_pos_iff.2 hne) hb h63
 have hexec:(execOp a.eval o).run P w=.ok (.value (.slice (some ⟨b',0,none⟩) (0+ys.length) cap')) w':=by
  simp only[execOp,h,resolve,invoke,builtin,Sem.run_bind,Sem.run_pure,Result.andThen_ok,List.map_toArray,List.map_cons,List.map_nil,hy,hrun]
 have hcase:(∃(k:Nat) (cur:Array Value),n0=some k∧φ k=.tok (some (b',0))∧w.heap[b']? = some (.cells cur e (0,0))∧w'=w.setRow b' cur')∨(b'=w.heap.size∧w'=w.drew.alloc (.cells cur' e)∧∀k,n0=some k→∃t,φ k=.tok t):=by
  rcases c5 with ⟨capx,h3,hroom,h4⟩ |⟨h3,h4⟩
  ·rcases hbase with ⟨_,A,h6⟩ |⟨k0,h5,⟨_,A,h6⟩ |⟨b,cap,cur,h2,h6,h7,h8,h9,_⟩⟩
   ·rw[h6] at h3
    have hc:=(Value.slice.inj h3).2.2
    have:=List.length_pos_iff.2 hne
    omega
   ·rw[h6] at h3
    have hc:=(Value.slice.inj h3).2.2
    have:=List.length_pos_iff.2 hne
    omega
   ·rw[h6] at h3
    cases h3
    exact .inl ⟨k0,cur,h5,h2,h7,h4⟩
  ·refine .inr ⟨h3,h4,fun k hk=>?_⟩
   rcases hbase with ⟨h5,_⟩ |⟨k0,h5,⟨h2,_⟩ |⟨b,cap,cur,h2,_⟩⟩
   ·rw[h5] at hk;cases hk
   ·rw[h5] at hk;cases hk;exact⟨_,h2⟩
   ·rw[h5] at hk;cases hk;exact⟨_,h2⟩
 rw[Nat.zero_add] at hexec c2 c4
 have cget:∀off,off<ys.length*m'→cur'[off]? = news[off]? := fun off ho=>by
  rw[List.nil_append] at c4
  rw[←c4,List.getElem?_take,if_pos ho,Array.getElem?_toList]
 have hheap:w'.heap[b']? = some (.cells cur' e (0,0)):=by
  rcases hcase with ⟨_,cur,_,_,h3,rfl⟩ |⟨rfl,rfl,_⟩
  ·exact setRow_heap w b' cur cur' _ _ h3
  ·exact heap_alloc_new w.drew _
 have hXb:∀off,¬X b' off:=fun off hx'=>by
  rcases hcase with ⟨k1,cur,h6,h7,_⟩ |⟨h6,_⟩
  ·rcases hbase with ⟨h5,_⟩ |⟨k0,h5,⟨h8,_⟩ |⟨b,cap,cur2,h8,_,_,_,_,h9⟩⟩
   ·rw[h5] at h6;cases h6
   ·rw[h5] at h6;cases h6;rw[h8] at h7;cases h7
   ·rw[h5] at h6;cases h6;rw[h8] at h7;cases h7;exact h9 off hx'
  ·have:=hX _ _ hx';omega
 obtain⟨evo,hd'⟩:=Q29 (X:=X) hd hlt hn hcase
 refine Qh0 hexec ?_
 refine k _ _ w' (.own _ _ _ _ _ _ c2 c3 (by simp) fun b hb'=>?_) (fun p hp=>?_) hd' (fun q hq=>?_) (fun b hb hfr=>?_) evo
 ·simp at hb'
  subst hb'
  simp
 ·simp only[List.mem_append,List.mem_singleton] at hp
  rcases hp with hp |rfl
  ·cases n0 with
   |none=>simp[Qim] at hp
   |some k0=>
    simp only[Qim,List.mem_singleton] at hp
    subst hp
    have:k0≠n:=fun e=>by
     rcases hbase with ⟨h5,_⟩ |⟨k1,h5,⟨h8,_⟩ |⟨_,_,_,h8,_⟩⟩<;>cases h5<;>rw[e,hn] at h8<;>cases h8
    show(if k0=n then _ else _)=_
    rw[if_neg this,if_pos rfl]
  ·refine⟨b',by simp,⟨cur',e,hheap,?_,ok.hsize,fun j z hj i u hu=>?_⟩,hXb⟩
   ·rw[c1];exact Nat.mul_le_mul_right _ c2
   ·have hjl:=(List.getElem?_eq_some_iff.1 hj).1
    have him:i<m':=by
     have:=ok.hsize z (List.mem_of_getElem? hj)
     have:=(List.getElem?_eq_some_iff.1 hu).1
     omega
    rw[Array.getD_eq_getD_getElem?,cget _ (Qd7 hjl him),hng j i hjl him]
    exact(hr j z hj i u hu).evo evo
 ·have hqn:q≠n:=fun e=>hq (by simp[e])
  have hq0:¬some q=n0:=fun e=>by
   subst e
   exact hq (by simp[Qim])
  simp[hqn,hq0]
 ·rcases hcase with ⟨k1,cur,h6,h7,h8,rfl⟩ |⟨rfl,rfl,_⟩
  ·refine setRow_other w b' b cur' (fun e=>?_)
   subst e
   subst h6
   exact hfr (k1,.dead) (by simp[Qim]) (.tok h7)
  ·exact heap_alloc_old w.drew _ hb
theorem Qji {α β:Type}{l:List α}{c:α→β}(h:(!l.isEmpty)=true):l.map c≠[]:=by
 cases l<;>simp_all
end
end
section
section
variable {P : Program} {o : Oper} {X : Nat → Nat → Prop} {φ0 : Nat → FSlot} {w0 : World} {s : AS}
inductive OpG (n:Nat) (ty:TypeId) (m:Nat):AV→AV→Prop where
 |same (a:AV):OpG n ty m a a
 |nil:OpG n ty m (.lit (.slice none 0 0)) (.gro n ty m 0)
theorem Qza (n:Nat) (ty:TypeId) (m:Nat) (hs:s.slot n=.unused) {regs':List AV}{own':List Slot}(hr:LPw (OpG n ty m) s.regs regs') (hd:own'.getD n .unused=.gro m []) (ho:∀k,k≠n→SPw (OpG n ty m) (s.slot k) (own'.getD k .unused)):Mor X φ0 w0 s ⟨regs',own'⟩:=
 Qmy (R:=OpG n ty m) (fun φ w henv=>by
  have hn:φ n=.unused:=by
   have:=henv.slot n
   rw[hs] at this
   exact this
  have ne:∀q,φ q≠.unused→q≠n:=fun q hq e=>hq (e▸hn)
  have evo:Evo X φ w (upd φ n (.tok none)) w:=by
   refine⟨rfl,rfl,rfl,Nat.le_refl _,fun _ _ _=>rfl,fun b' ⟨q,hq⟩=>?_,fun b' off hdat=>⟨⟨hdat.lt,hdat.hid,fun q hq=>?_,fun q L hq=>?_,fun q Y hq=>?_,fun q bs z hq=>?_⟩,rfl⟩,fun q hq=>?_,fun q b' hq=>?_,fun q t hq=>?_,fun q Y hq=>?_,fun q bs hq=>?_,fun _ _ _ _=>.same rfl⟩
   ·unfold upd at hq
    split at hq
    ·first |exact(Qay hq).elim |exact(Qdn hq).elim
    ·exact .inl ⟨q,hq⟩
   ·unfold upd at hq
    split at hq
    ·cases hq
    ·exact hdat.own q hq
   ·unfold upd at hq
    split at hq
    ·cases hq
    ·exact hdat.tok q L hq
   ·unfold upd at hq
    split at hq
    ·cases hq
    ·exact hdat.far q Y hq
   ·unfold upd at hq
    split at hq
    ·cases hq
    ·exact hdat.mat q bs z hq
   ·unfold upd;rw[if_neg (ne q (by rw[hq];simp))];exact hq
   ·unfold upd;rw[if_neg (ne q (by rw[hq];simp))];exact .inl hq
   ·unfold upd;rw[if_neg (ne q (by rw[hq];simp))];exact .inr ⟨hq,fun _ _ _=>rfl⟩
   ·unfold upd;rw[if_neg (ne q (by rw[hq];simp))];exact .inr ⟨Y,hq⟩
   ·unfold upd;rw[if_neg (ne q (by rw[hq];simp))];exact .inr ⟨bs,hq,.refl bs⟩
  have hR:∀a a' v,OpG n ty m a a'→RelV X φ w a v→RelV X (upd φ n (.tok none)) w a' v:=fun a a' v hf hv=>by
   cases hf with
   |same=>exact hv.evo evo
   |nil=>
    have:=Qd6 hv
    subst this
    exact .gro n ty m 0 none 0 (Nat.le_refl _) (Nat.zero_le _) (by simp[upd]) (fun _=>⟨rfl,rfl⟩) (fun b hb=>by simp[upd] at hb)
  refine⟨upd φ n (.tok none),evo,fun q q' b' h1 h2=>?_,fun q=>?_,hR⟩
  ·unfold upd at h1 h2
   split at h1
   ·first |exact(Qay h1).elim |exact(Qdn h1).elim
   ·split at h2
    ·first |exact(Qay h2).elim |exact(Qdn h2).elim
    ·exact henv.distinct q q' b' h1 h2
  ·by_cases e:q=n
   ·subst e
    rw[hd]
    exact .inl ⟨rfl,by simp[upd]⟩
   ·have hsp:=ho q e
    have hok:=henv.slot q
    have eq:upd φ n (.tok none) q=φ q:=by simp[upd,e]
    generalize s.slot q=s1 at hsp hok
    generalize own'.getD q .unused=s2 at hsp
    cases hsp with
    |unused=>exact eq.trans hok
    |dead=>exact eq.trans hok
    |tok=>obtain⟨t,ht,ht'⟩:=hok;exact⟨t,eq.trans ht,ht'⟩
    |own m xs xs' hl' hp=>obtain⟨b,hb,hown⟩:=hok;exact⟨b,eq.trans hb,hown.pw hR hl' hp⟩
    |gro m xs xs' hl' hp=>
     rcases hok with ⟨h1,h2⟩ |⟨b,hb,hown⟩
     ·exact .inl ⟨List.eq_nil_of_length_eq_zero (by rw[←hl',h1];rfl),eq.trans h2⟩
     ·exact .inr ⟨b,eq.trans hb,hown.pw hR hl' hp⟩
    |far J=>
     obtain⟨Y,D,B,f1,f2,f3⟩:=hok
     exact⟨Y,D,B,eq.trans f1,f2,f3.own,fun b off hx hy=>⟨(evo.dat b off (f3.dat b off hx hy).1).1,(f3.dat b off hx hy).2⟩,f3.os,f3.tape,f3.output,f3.size⟩
    |mat m rows hp=>
     obtain⟨bs,m1,m2,m3,m4⟩:=hok
     refine⟨bs,eq.trans m1,m2,m3,fun k xs hk=>?_⟩
     rcases m4 k xs hk with m5 |⟨b,m5,m6⟩
     ·exact .inl m5
     ·exact .inr ⟨b,m5,m6.pw hR rfl fun j x x' h1 h2=>by rw[h1] at h2;cases h2;exact hp xs (List.mem_of_getElem? hk) x (List.mem_of_getElem? h1)⟩
    |mp es clock=>obtain⟨b,hb,hown⟩:=hok;exact⟨b,eq.trans hb,hown⟩) hr
end
section
variable {P : Program} {o : Oper} {X : Nat → Nat → Prop} {φ : Nat → FSlot} {w : World}
theorem Q3a {n0 n b':Nat}{e:TypeId}{cur':Array Value}{w':World}(hd:Qc7 φ) (hlt:∀n b,(φ n).lies b→b<w.heap.size) (hn:φ n=.unused)
  (h0:φ n0=.tok none∨∃b,φ n0=.own b) (hc:(∃(cur:Array Value),φ n0=.own b'∧w.heap[b']? = some (.cells cur e (0,0))∧w'=w.setRow b' cur')∨(b'=w.heap.size∧w'=w.drew.alloc (.cells cur' e))) :
  Evo X φ w (fun k=>if k=n then .own b' else if k=n0 then .dead else φ k) w'∧Qc7 (fun k=>if k=n then FSlot.own b' else if k=n0 then .dead else φ k):=by
 have ne:∀k,φ k≠.unused→k≠n:=fun k hk e=>hk (e▸hn)
 have only:∀k,(φ k).lies b'→k=n0∨k=n:=fun k hk=>by
  rcases hc with ⟨cur,h1,_⟩ |⟨rfl,_⟩
  ·exact .inl (hd k n0 b' hk (.own h1))
  ·exact absurd (hlt k _ hk) (Nat.lt_irrefl _)
 have dead0:∀k,k=n0→φ k=.tok none∨∃b,φ k=.own b:=fun k hk=>by subst hk;exact h0
 have hother:∀b,b≠b'→b<w.heap.size→w'.heap[b]? = w.heap[b]? := fun b hb hbl=>by
  rcases hc with ⟨_,_,_,rfl⟩ |⟨_,rfl⟩
  ·exact setRow_other w b' b cur' hb
  ·exact heap_alloc_old w.drew _ hbl
 have hsize:w.heap.size≤w'.heap.size:=by
  rcases hc with ⟨_,_,_,rfl⟩ |⟨_,rfl⟩<;>simp
 refine⟨⟨?_,?_,?_,hsize,fun b hb hnb=>?_,fun b ⟨k,hk⟩=>?_,fun b off hdat=>?_,fun k hk=>?_,fun k b hk=>?_,fun k t hk=>?_,fun k Y hk=>?_,fun k bs hk=>?_,fun k b hk hk2=>?_⟩,fun k k' b hk hk'=>?_⟩
 ·rcases hc with ⟨_,_,_,rfl⟩ |⟨_,rfl⟩<;>rfl
 ·rcases hc with ⟨_,_,_,rfl⟩ |⟨_,rfl⟩<;>rfl
 ·rcases hc with ⟨_,_,_,rfl⟩ |⟨_,rfl⟩<;>rfl
 ·refine hother b (fun e=>?_) hb
  rcases hc with ⟨cur,h1,_⟩ |⟨h1,_⟩
  ·exact hnb ⟨n0,.own (by rw[h1,e])⟩
  ·omega
 ·dsimp only at hk
  split at hk
  ·obtain rfl:=Qge hk
   rcases hc with ⟨cur,h1,_⟩ |⟨h1,_⟩
   ·exact .inl ⟨n0,.own h1⟩
   ·exact .inr (by omega)
  ·split at hk
   ·exact(Qay hk).elim
   ·exact .inl ⟨k,hk⟩
 ·have hbb:b≠b':=fun e=>by
   subst e
   rcases hc with ⟨cur,h1,_⟩ |⟨h1,_⟩
   ·exact hdat.own n0 h1
   ·have:=hdat.lt;omega
  refine⟨⟨Nat.lt_of_lt_of_le hdat.lt hsize,hdat.hid,fun k hk=>?_,fun k L hk=>?_,fun k Y hk=>?_,fun k bs q hk=>?_⟩,World.cell?_of_block (hother b hbb hdat.lt)⟩
  ·split at hk
   ·cases hk;exact hbb rfl
   ·split at hk
    ·cases hk
    ·exact hdat.own k hk
  ·split at hk
   ·cases hk
   ·split at hk
    ·cases hk
    ·exact hdat.tok k L hk
  ·split at hk
   ·cases hk
   ·split at hk
    ·cases hk
    ·exact hdat.far k Y hk
  ·split at hk
   ·cases hk
   ·split at hk
    ·cases hk
    ·exact hdat.mat k bs q hk
 ·rw[if_neg (ne k (by rw[hk];simp)),if_neg (fun e=>by rcases dead0 k e with ht |⟨b,ht⟩<;>rw[hk] at ht<;>cases ht)]
  exact hk
 ·rw[if_neg (ne k (by rw[hk];simp))]
  by_cases e:k=n0
  ·rw[if_pos e];exact .inr rfl
  ·rw[if_neg e];exact .inl hk
 ·rw[if_neg (ne k (by rw[hk];simp))]
  by_cases e:k=n0
  ·rw[if_pos e];exact .inl rfl
  ·rw[if_neg e]
   refine .inr ⟨hk,fun b L ht=>?_⟩
   subst ht
   have hl:(φ k).lies b:=.tok hk
   refine hother b (fun e'=>?_) (hlt k b hl)
   subst e'
   rcases only k hl with h |h
   ·exact e h
   ·exact ne k (by rw[hk];simp) h
 ·rw[if_neg (ne k (by rw[hk];simp)),if_neg (fun e=>by rcases dead0 k e with ht |⟨b,ht⟩<;>rw[hk] at ht<;>cases ht)]
  exact .inr ⟨Y,hk⟩
 ·rw[if_neg (ne k (by rw[hk];simp)),if_neg (fun e=>by rcases dead0 k e with ht |⟨b,ht⟩<;>rw[hk] at ht<;>cases ht)]
  exact .inr ⟨bs,hk,.refl bs⟩
 ·have hl:(φ k).lies b:=.own hk
  refine .same (hother b (fun e'=>?_) (hlt k b hl))
  subst e'
  rcases only k hl with h |h
  ·rw[if_neg (ne k (by rw[hk];simp)),if_pos h] at hk2;cases hk2
  ·exact ne k (by rw[hk];simp) h
 ·dsimp only at hk hk'
  split at hk<;>split at hk'
  ·simp_all
  ·obtain rfl:=Qge hk
   split at hk'
   ·exact(Qay hk').elim
   ·rcases only k' hk' with h |h<;>contradiction
  ·obtain rfl:=Qge hk'
   split at hk
   ·exact(Qay hk).elim
   ·rcases only k hk with h |h<;>contradiction
  ·split at hk
   ·exact(Qay hk).elim
   ·split at hk'
    ·exact(Qay hk').elim
    ·exact hd k k' b hk hk'
theorem Qwy {x y:Operand}{t e:TypeId}{m m' bytes:Nat}{u:AV}{xs ys:List (List AV)}{n0 n len:Nat}(h:o.op=.call { callee:=.builtin .append,args := #[x,y],argTypes := #[t,t] }) (ht:P.underlying t=some (.slice e)) (he:TE P e m bytes)
  (hlen:xs.length=len) (hu:Qta u=some (m',ys)) (hm':m'=m) (hne:ys≠[]) (h1:(ys.all fun y=>y.all AV.one)=true) (hb:(xs.length+ys.length)*bytes≤140737488355328) (h63:xs.length+ys.length≤maxLen) {L:Nat}(hL:len+ys.length=L) :
  Qdw P o [(x,.gro n0 e m len),(y,u)] [(n0,.gro m xs),(n,.unused)] (.gro n e m L) [(n0,.dead),(n,.gro m (xs++ys))]:=by
 subst hm' hlen hL
 intro X φ a w hrd hbl hd hX hlt next Q k
 have hn:φ n=.unused:=hbl (n,.unused) (by simp)
 have hpos:=he.pos
 obtain⟨A,len,cap,g,hy,ok,hr⟩:=Qor (hrd (y,u) (by simp)) hu
 dsimp only at hy
 obtain⟨ad,news,rfl,hnl,hnc,hn1,hng⟩:=Qo3 ok hr hpos hne h1
 have elen:=ok.hlen
 subst elen
 have hx:=hrd (x,.gro n0 e m' xs.length) (by simp)
 dsimp only at hx
 have hs0:=hbl (n0,.gro m' xs) (by simp)
 obtain⟨A1,cap1,hxe,hc1,hcm,hv,ho⟩:∃A1 cap1,a.eval x=.slice A1 xs.length cap1∧xs.length≤cap1∧cap1≤maxLen∧(φ n0=.tok none→xs.length=0∧cap1=0)∧(∀b,φ n0=.own b→A1=some ⟨b,0,none⟩∧∃cur,w.heap[b]? = some (.cells cur e (0,0))∧cur.size=cap1*m'):=by
  cases hxe:a.eval x with
  |slice A l c=>
   rw[hxe] at hx
   cases hx with
   |gro _ _ _ _ _ _ q1 q2 q3 q4 q5=>exact⟨A,c,rfl,q1,q2,q4,q5⟩
  |_=>rw[hxe] at hx;cases hx
 have h0:φ n0=.tok none∨∃b,φ n0=.own b:=by
  rcases hs0 with ⟨_,h⟩ |⟨b,h,_⟩
  ·exact .inl h
  ·exact .inr ⟨b,h⟩
 obtain⟨olds,hol,hsv,hog⟩:∃olds:List Value,olds.length=xs.length*m'∧(((∃A,a.eval x=.slice A 0 0)∧xs.length=0)∨∃g cap cur,a.eval x=.slice (some ⟨g,0,none⟩) xs.length cap∧w.heap[g]? = some (.cells cur e (0,0))∧cur.size=cap*m'∧xs.length≤cap∧cap≤maxLen∧cur.toList.take (xs.length*m')=olds) ∧
   (∀j z,xs[j]? = some z→z.length=m'∧∀i c,z[i]? = some c→∃v,olds[j*m'+i]? = some v∧RelV X φ w c v):=by
  rcases hs0 with ⟨rfl,h⟩ |⟨b,h,hown⟩
  ·obtain⟨q1,q2⟩:=hv h
   subst q2
   exact⟨[],by simp,.inl ⟨⟨A1,hxe⟩,rfl⟩,by simp⟩
  ·obtain⟨rfl,cur,q3,q4⟩:=ho b h
   obtain⟨⟨cur2,ty2,r1,r2,r3,r4⟩,_⟩:=hown
   rw[q3] at r1
   cases r1
   refine⟨cur.toList.take (xs.length*m'),by simp;omega,.inr ⟨b,cap1,cur,hxe,q3,q4,hc1,hcm,rfl⟩,fun j z hj=>⟨r3 z (List.mem_of_getElem? hj),fun i c hi=>?_⟩⟩
   have hjl:=(List.getElem?_eq_some_iff.1 hj).1
   have him:i<m':=by
    have:=r3 z (List.mem_of_getElem? hj)
    have:=(List.getElem?_eq_some_iff.1 hi).1
    omega
   have hoff:=Qd7 hjl him
   have:=r4 j z hj i c hi
   have hlt2:j*m'+i<cur.size:=by omega
   refine⟨cur.getD (j*m'+i) undef,?_,this⟩
   rw[List.getElem?_take,if_pos hoff,Array.getElem?_toList,Array.getD_eq_getD_getElem?,Array.getElem?_eq_getElem hlt2]
   rfl
 obtain⟨b',cap',cur',w',hrun,c1,c2,c3,c4,c5⟩:=Qnn (P:=P) (ty:=o.type) ht he (a.eval x) xs.length olds hol hsv ad ys.length cap news hnl hnc hn1 (List.length_pos_iff.2 hne) hb h63
 have hexec:(execOp a.eval o).run P w=.ok (.value (.slice (some ⟨b',0,none⟩) (xs.length+ys.length) cap')) w':=by
  simp only[execOp,h,resolve,invoke,builtin,Sem.run_bind,Sem.run_pure,Result.andThen_ok,List.map_toArray,List.map_cons,List.map_nil,hy,hrun]
 have hcase:(∃(cur:Array Value),φ n0=.own b'∧w.heap[b']? = some (.cells cur e (0,0))∧w'=w.setRow b' cur')∨(b'=w.heap.size∧w'=w.drew.alloc (.cells cur' e)):=by
  rcases c5 with ⟨capx,h3,hroom,h4⟩ |h3
  ·rcases hs0 with ⟨_,h⟩ |⟨b,h,_⟩
   ·obtain⟨q1,q2⟩:=hv h
    rw[hxe] at h3
    have hc:=(Value.slice.inj h3).2.2
    have:=List.length_pos_iff.2 hne
    omega
   ·obtain⟨q1,cur,q3,_⟩:=ho b h
    rw[hxe,q1] at h3
    have hb2:=(Value.slice.inj h3).1
    cases hb2
    exact .inl ⟨cur,h,q3,h4⟩
  ·exact .inr h3
 have cget:∀off,off<(xs.length+ys.length)*m'→cur'[off]? = (olds++news)[off]? := fun off ho=>by
  rw[←c4,List.getElem?_take,if_pos ho,Array.getElem?_toList]
 have hheap:w'.heap[b']? = some (.cells cur' e (0,0)):=by
  rcases hcase with ⟨cur,_,h3,rfl⟩ |⟨rfl,rfl⟩
  ·exact setRow_heap w b' cur cur' _ _ h3
  ·exact heap_alloc_new w.drew _
 have hXb:∀off,¬X b' off:=fun off hx'=>by
  rcases hcase with ⟨cur,h6,_⟩ |⟨h6,_⟩
  ·rcases hs0 with ⟨_,h⟩ |⟨b,h,hown⟩
   ·rw[h] at h6;cases h6
   ·rw[h] at h6;cases h6;exact hown.hid off hx'
  ·have:=hX _ _ hx';omega
 obtain⟨evo,hd'⟩:=Q3a (X:=X) hd hlt hn h0 hcase
 have hnn:n0≠n:=fun e=>by
  subst e
  rcases h0 with h |⟨b,h⟩<;>rw[hn] at h<;>cases h
 refine Qh0 hexec ?_
 refine k _ _ w' (.gro _ _ _ _ _ _ c2 c3 (by simp) (fun h=>by simp at h) fun b hb'=>?_) (fun p hp=>?_) hd' (fun q hq=>?_) (fun b hb hfr=>?_) evo
 ·simp at hb'
  subst hb'
  exact⟨rfl,cur',hheap,c1⟩
 ·simp only[List.mem_cons,List.not_mem_nil,or_false] at hp
  rcases hp with rfl |rfl
  ·show(if n0=n then _ else _)=_
   rw[if_neg hnn,if_pos rfl]
  ·refine .inr ⟨b',by simp,⟨cur',e,hheap,?_,fun z hz=>?_,fun j z hj i c hi=>?_⟩,hXb⟩
   ·rw[c1,List.length_append];exact Nat.mul_le_mul_right _ c2
   ·rcases List.mem_append.1 hz with hz |hz
    ·obtain⟨j,hj,rfl⟩:=List.getElem_of_mem hz
     exact(hog j _ (List.getElem?_eq_getElem hj)).1
    ·exact ok.hsize z hz
   ·have hjl:j<xs.length+ys.length:=by simpa using(List.getElem?_eq_some_iff.1 hj).1
    rw[Array.getD_eq_getD_getElem?]
    by_cases hjx:j<xs.length
    ·rw[List.getElem?_append_left hjx] at hj
     obtain⟨hz,hzr⟩:=hog j z hj
     have him:i<m':=by
      have:=(List.getElem?_eq_some_iff.1 hi).1
      omega
     obtain⟨v,hv1,hv2⟩:=hzr i c hi
     rw[cget _ (Qd7 hjl him),List.getElem?_append_left (by rw[hol];exact Qd7 hjx him),hv1]
     exact hv2.evo evo
    ·rw[List.getElem?_append_right (by omega)] at hj
     have him:i<m':=by
      have:=ok.hsize z (List.mem_of_getElem? hj)
      have:=(List.getElem?_eq_some_iff.1 hi).1
      omega
     have e1:j*m'+i-olds.length=(j-xs.length)*m'+i:=by
      rw[hol,Nat.sub_mul]
      have:=Nat.mul_le_mul_right m' (show xs.length≤j by omega)
      omega
     rw[cget _ (Qd7 hjl him),List.getElem?_append_right (by rw[hol];have:=Nat.mul_le_mul_right m' (show xs.length≤j by omega);omega),e1,hng (j-xs.length) i (by omega) him]
     exact(hr (j-xs.length) z hj i c hi).evo evo
 ·have hqn:q≠n:=fun e=>hq (by simp[e])
  have hq0:q≠n0:=fun e=>hq (by simp[e])
  simp[hqn,hq0]
 ·rcases hcase with ⟨cur,h6,h8,rfl⟩ |⟨rfl,rfl⟩
  ·refine setRow_other w b' b cur' (fun e=>?_)
   subst e
   exact hfr (n0,.dead) (by simp) (.own h6)
  ·exact heap_alloc_old w.drew _ hb
inductive OpU (n:Nat):AV→AV→Prop where
 |same (a:AV):OpU n a a
 |own (ty m len:Nat):OpU n (.gro n ty m len) (.own n m 0 len)
end
end
section
theorem Less.gro {n:Nat}{ty:TypeId}{m len:Nat}:Less (.gro n ty m len) (.own n m 0 len):=fun _ _ _ _ h=>by
 cases h with
 |gro _ _ _ _ A cap hc hm hn hv h=>exact .own n m 0 len A cap hc hm hn fun b hb=>by rw[(h b hb).1];simp
def SLess (s t:Slot):Prop:=∀(X:Nat→Nat→Prop) (φ:Nat→FSlot) (w:World) (n:Nat),SlotOK X φ w n s→SlotOK X φ w n t
theorem SLess.rfl {s:Slot}:SLess s s:=fun _ _ _ _ h=>h
theorem SLess.gro {m:Nat}{xs:List (List AV)}(hne:xs≠[]):SLess (.gro m xs) (.own m xs):=fun _ _ _ _ h=>by
 rcases h with ⟨h,_⟩ |h
 ·exact absurd h hne
 ·exact h
def BW:List (Nat×Slot)→List (Nat×Slot)→Prop
 |[],[]=>True
 |p::l,q::k=>p.1=q.1∧SLess p.2 q.2∧BW l k
 |_,_=>False
theorem BW.get:∀{l k:List (Nat×Slot)},BW l k→∀q∈k,∃p∈l,p.1=q.1∧SLess p.2 q.2
 |[],[],_,q,hq=>by cases hq
 |p::l,q'::k,h,q,hq=>by
  rcases List.mem_cons.1 hq with rfl |hq
  ·exact⟨p,by simp,h.1,h.2.1⟩
  ·obtain⟨p',hp',e⟩:=BW.get h.2.2 q hq
   exact⟨p',List.mem_cons_of_mem _ hp',e⟩
section
variable {P : Program} {o : Oper} {rd rd' : List (Operand × AV)} {bl bl' eff : List (Nat × Slot)} {r : AV}
theorem Qo9 (hw:BW bl bl') (h:Qdw P o rd bl' r eff):Qdw P o rd bl r eff:=fun X φ a w hr hb=>h X φ a w hr fun q hq=>by
 obtain⟨p,hp,e1,e2⟩:=hw.get q hq
 rw[←e1]
 exact e2 _ _ _ _ (hb p hp)
end
section
variable {P : Program} {X : Nat → Nat → Prop} {φ0 : Nat → FSlot} {w0 : World} {s : AS}
theorem Qu8 (n:Nat) (ty:TypeId) (m:Nat) (t:Nat) (h1:s.regs[t]? = some nilS) (h2:s.slot n=.unused):Mor X φ0 w0 s ⟨s.regs.set t (.gro n ty m 0),setL s.own n (.gro m [])⟩:=
 Qza n ty m h2 (LPw.set (fun a=>.same a) _ t h1 .nil) (by rw[Qle,if_pos rfl]) fun k hk=>by
  rw[Qle,if_neg (fun e=>hk e.symm)]
  exact SPw.refl (fun a=>.same a) _
end
theorem Qia {ρ:List Nat}{n n':Nat}{ty:TypeId}{m i:Nat}(h:(ρ[n']? == some n)=true):Rn (fun n n'=>ρ[n']? = some n) (.gro n ty m i) (.gro n' ty m i):=.gro (by simpa using h) _ _ _
theorem Qgy {M:Nat→Nat→Prop}{m:Nat}{α:Type}{c:α→List AV}{l:List α}(h:∀x,∀a∈c x,NLt 0 a):SPw (RW M) (.gro m (l.map c)) (.gro m (l.map c)):=.gro m _ _ rfl fun j y y' hj hj'=>by
 rw[hj] at hj'
 cases hj'
 have hy:=Qeg h l y (List.mem_of_getElem? hj)
 clear hj
 induction y with
 |nil=>exact trivial
 |cons a y ih=>exact⟨.rn (.plain a (hy a (by simp))),ih fun b hb=>hy b (List.mem_cons_of_mem _ hb)⟩
theorem Qzi {α:Type}{c:α→List AV}{a:List α}:(a.map c).length=a.length:=by simp
theorem Q5w {α:Type}(c:α→List AV) {a b:List α}{n:Nat}(h:decide ((a.length+b.length)*n≤140737488355328)=true):((a.map c).length+(b.map c).length)*n≤140737488355328:=by simpa using h
theorem Qpf {P:Program}{o:Oper}{α:Type}{c:α→List AV}{a b:List α}{x y:Operand}{t e:TypeId}{m bytes:Nat}{u:AV}{n0 n:Nat}(h:o.op=.call { callee:=.builtin .append,args := #[x,y],argTypes := #[t,t] }) (ht:P.underlying t=some (.slice e)) (he:TE P e m bytes)
  (hu:Qta u=some (m,b.map c)) (hne:b.map c≠[]) (h1:((b.map c).all fun y=>y.all AV.one)=true) (hb:decide ((a.length+b.length)*bytes≤140737488355328)=true) (hp:0<bytes) :
  Qdw P o [(x,.gro n0 e m a.length),(y,u)] [(n0,.gro m (a.map c)),(n,.unused)] (.gro n e m (a++b).length) [(n0,.dead),(n,.gro m ((a++b).map c))]:=by
 have h2:=Qwy (o:=o) (n0:=n0) (n:=n) (xs:=a.map c) (len:=a.length) (L:=(a++b).length) h ht he (by simp) hu rfl hne h1 (Q5w c hb) (by
  have h1:=of_decide_eq_true hb
  have h2:=Nat.le_mul_of_pos_right (a.length+b.length) hp
  simp only[List.length_map,maxLen]
  omega) (by simp)
 rwa [←List.map_append] at h2
theorem Qi2 {P:Program}{o:Oper}{t t':TypeId}{x y:Operand}{k yk:IntKind}{a b D:Int}(h:o.op=.binOp .shr t x y t') (h0:0≤b) (hD:D=2 ^ min b.toNat k.bits):Qdw P o [(x,.lit (.int k a)),(y,.lit (.int yk b))] [] (.lit (.int k (a/D))) []:=Qdc fun X φ ac w hr _=>by
 have h1:ac.eval x=.int k a:=Qd6 (hr (x,.lit (.int k a)) (by simp))
 have h2:ac.eval y=.int yk b:=Qd6 (hr (y,.lit (.int yk b)) (by simp))
 have e:a.fdiv D=a/D:=Int.fdiv_eq_ediv_of_nonneg _ (by rw[hD];exact Int.pow_nonneg (by decide))
 subst hD
 exact⟨_,by simp[execOp,h,h1,h2,eqGuard,binOp,Op.shift,Int.not_lt.2 h0,e],.lit _⟩
theorem Qd8 {P:Program}{o:Oper}{x y:Operand}{t e:TypeId}{gg:Bool}{sz len i i':Nat}{c:List AV}{k:IntKind}{q:Int}(h:o.op=.indexAddr t x y) (ht:P.underlying t=some (.array len e)) (he:TI P e gg sz) (h0:0≤q) (hq:q.toNat<len) (hi:i+q.toNat*sz=i') :
  Qdw P o [(x,.dptr c i),(y,.lit (.int k q))] [] (.dptr c i') []:=Qdc fun X φ a w hrd _=>by
 have hx:=hrd (x,.dptr c i) (by simp)
 dsimp only at hx
 have hy:a.eval y=.int k q:=Qd6 (hrd (y,.lit (.int k q)) (by simp))
 cases hv:a.eval x with
 |pointer A=>
  rw[hv] at hx
  cases hx with
  |dptr _ _ b of g' hc hrel=>
   refine⟨.pointer (some ⟨b,of+i+q.toNat*sz,none⟩),?_,?_⟩
   ·have h1:q<(len:Int):=by omega
    simp[execOp,h,hv,hy,Instr.indexAt,run_underlying ht,asIntOf,Instr.sureAddr,h0,h1,he.size,Addr.add_lit]
   ·subst hi
    rw[Nat.add_assoc]
    exact .dptr c _ b of g' hc hrel
 |_=>rw[hv] at hx;cases hx
class AVo (α:Type) where val:α→Value
instance:AVo Int:=⟨fun x=>.int .i64 x⟩
instance:AVo Bool:=⟨fun b=>.bool b⟩
def Qpg {α:Type} [AVo α]:Nat→Nat→(Nat→α)→List AV
 |0,_,_=>[]
 |n+1,k,f=>.lit (AVo.val (f k))::Qpg n (k+1) f
def arrF {α:Type} [AVo α] (n:Nat) (f:Nat→α):List AV:=Qpg n 0 f
def setF {α:Type}(f:Nat→α) (k:Nat) (x:α):Nat→α:=fun j=>if j=k then x else f j
section
variable {α : Type} [AVo α]
theorem Qqh:∀(n k:Nat) (f:Nat→α),Qpg n k f=(List.range n).map fun i=>.lit (AVo.val (f (k+i)))
 |0,_,_=>rfl
 |n+1,k,f=>by
  rw[Qpg,Qqh n,List.range_succ_eq_map]
  simp[Nat.add_assoc,Nat.add_comm 1,Function.comp_def]
theorem Qnm (n:Nat) (f:Nat→α):arrF n f=(List.range n).map fun k=>.lit (AVo.val (f k)):=by rw[arrF,Qqh];simp
theorem Qrr (n:Nat) (f:Nat→α):(arrF n f).length=n:=by simp[Qnm]
theorem Qdd {R:AV→AV→Prop}:∀{a a' b b':List AV},LPw R a a'→LPw R b b'→LPw R (a++b) (a'++b')
 |[],[],_,_,_,h=>h
 |_::_,_::_,_,_,h,h'=>⟨h.1,Qdd h.2 h'⟩
 |[],_::_,_,_,h,_=>h.elim
 |_::_,[],_,_,h,_=>h.elim
theorem Qa6 {R:AV→AV→Prop}{n:Nat}{f:Nat→α}(h:∀v,R (.lit v) (.lit v)):LPw R (arrF n f) (arrF n f):=by
 rw[Qnm]
 induction List.range n with
 |nil=>trivial
 |cons k l ih=>exact⟨h _,ih⟩
theorem Qnf {n:Nat}{f:Nat→α}:LPw Less (arrF n f) (List.replicate n .any):=by
 have:∀(m k:Nat),LPw Less (Qpg m k f) (List.replicate m .any):=fun m=>by
  induction m with
  |zero=>exact fun _=>trivial
  |succ m ih=>exact fun k=>⟨Less.any,ih (k+1)⟩
 exact this n 0
theorem Qb2 {k n:Nat}{f:Nat→α}:∀a∈arrF n f,NLt k a:=fun a ha=>by
 rw[Qnm] at ha
 obtain⟨i,_,rfl⟩:=List.mem_map.1 ha
 exact .lit _
theorem Qzj {c pre post:List AV}{n off k:Nat}{f:Nat→α}(hc:c=pre++(arrF n f++post)) (hp:pre.length=off) (hk:k<n):ldA false 1 (off+k*1) c=.lit (AVo.val (f k)):=by
 subst hc hp
 simp only[ldA,cond_false,Nat.mul_one,List.getD_eq_getElem?_getD,List.getElem?_append_right (Nat.le_add_right _ _),Nat.add_sub_cancel_left]
 rw[List.getElem?_append_left (by rw[Qrr];exact hk)]
 simp[Qnm,hk]
theorem Qjj {c pre post:List AV}{n off k a:Nat}{f:Nat→α}(hc:c=pre++(arrF n f++post)) (hp:pre.length=off) (hk:k<n) (ha:a=off+k*1):ldA false 1 a c=.lit (AVo.val (f k)):=by
 subst ha
 exact Qzj hc hp hk
theorem Qzp {c:List AV}{n off k:Nat}(hk:k<n) (h:off+n≤c.length):off+k*1+1≤c.length:=by omega
theorem Qhp {c:List AV}{n off k a:Nat}(hk:k<n) (ha:a=off+k*1) (h:off+n≤c.length):a+1≤c.length:=by omega
theorem lt2 {u v a b n:Nat}(h:u<a) (h':v<b) (hn:a*b=n):u*b+v<n:=by
 have:=Nat.mul_le_mul_right b (show u+1≤a from h)
 rw[Nat.add_mul] at this
 omega
theorem Q26 {n k:Nat}{f:Nat→α}{x:α}:(arrF n f).set k (.lit (AVo.val x))=arrF n (setF f k x):=by
 refine List.ext_getElem? fun i=>?_
 simp only[Qnm,List.getElem?_set,List.getElem?_map,setF,List.length_map,List.length_range]
 rcases Nat.lt_or_ge i n with h |h
 ·rw[List.getElem?_range h]
  by_cases e:k=i
  ·subst e;simp[h]
  ·simp[e]
   exact congrArg (fun q:α=>AVo.val q) (if_neg fun e'=>e e'.symm).symm
 ·rw[List.getElem?_eq_none (by simpa using h)]
  by_cases e:k=i
  ·subst e;simp;omega
  ·simp[e]
theorem Q5g {c:List AV}{i:Nat}{y:AV}(h:i<c.length):Qgp c i [y]=c.set i y:=by
 rw[List.set_eq_take_append_cons_drop,if_pos h]
 simp[Qgp]
theorem Q3t {c c' pre post:List AV}{n off k:Nat}{f:Nat→α}{x:α}(hc:c=pre++(arrF n f++post)) (hp:pre.length=off) (hc':c'=pre++(arrF n (setF f k x)++post)) (hk:k<n):[c].set 0 (Qgp c (off+k*1) (stA (.lit (AVo.val x))))=[c']:=by
 subst hc hp hc'
 show[Qgp _ _ [.lit (AVo.val x)]]=_
 rw[Nat.mul_one,Q5g (by simp[Qrr];omega),List.set_append,if_neg (by omega),Nat.add_sub_cancel_left,List.set_append,if_pos (by rw[Qrr];exact hk),Q26]
theorem Qqr {c c' pre post:List AV}{n off k a:Nat}{f:Nat→α}{x:α}(hc:c=pre++(arrF n f++post)) (hp:pre.length=off) (hc':c'=pre++(arrF n (setF f k x)++post)) (hk:k<n) (ha:a=off+k*1):[c].set 0 (Qgp c a (stA (.lit (AVo.val x))))=[c']:=by
 subst ha
 exact Q3t hc hp hc' hk
end
def arrI (n:Nat) (f:Nat→Int):List Int:=(List.range n).map f
theorem Qve (n:Nat) (f:Nat→Int):ints (arrI n f)=arrF n f:=by rw[Qnm,ints,arrI,List.map_map];rfl
theorem Quo {P:Program}{o:Oper}{t t':TypeId}{x y:Operand}{n d:Nat}{f g:Nat→Int}(h:o.op=.binOp .eql t x y t') (hd:d=10000) (he:EqT P d t n) (hg:P.eqGuardType P.depth t=false) :
  Qdw P o [(x,.agg (arrF n f)),(y,.agg (arrF n g))] [] (.lit (.bool (arrI n f==arrI n g))) []:=by
 rw[←Qve,←Qve]
 exact Q09 _ _ h hd he hg (by simp[arrI]) (by simp[arrI])
end
section
section
variable {F : Fence} {n : Nat} {P : Program} {Q : Exit → Act → World → Prop} {a : Act} {w : World}
theorem Qil {b:Frame}{c:Code}{k:List Item}{cs:List Frame}:step P (lone (b.atR a (.code (.scope c)::k)) cs w)=.next (lone (b.atR a (.code c::.inScope c::k)) cs w):=
 step_lone_go (by simp[stepG,stepG.exec,Frame.atR])
theorem Qqp {b:Frame}{c:Code}{k:List Item}{cs:List Frame}:step P (lone (b.atR a (.inScope c::k)) cs w)=.next (lone (b.atR a k) cs w):=
 step_lone_go (by simp[stepG,stepG.exec,Frame.atR])
theorem Qv5 {c:Code}(h:c.wpIn F n P (Exit.noGoto Q) a w):(Code.scope c).wpIn F n P Q a w:=by
 intro b k cs hro hb hr
 have h0:(lone (b.atR a (.code (.scope c)::k)) cs w).fenced P F:=fenced_calm hb hr rfl
 obtain⟨e,a₁,w₁,hq,harr⟩:=h b (.inScope c::k) cs hro hb hr
 cases e with
 |normal=>exact⟨.normal,a₁,w₁,hq,.head h0 Qil (StepsIn.trans harr (.one (fenced_calm hb hr rfl) Qqp))⟩
 |exit id'=>
  have hx:exitTo id' (.inScope c::k)=exitTo id' k:=by simp[exitTo]
  exact⟨.exit id',a₁,w₁,hq,fun k' hk=>.head h0 Qil (harr.1 k' (by rw[hx];exact hk)),
   fun hr' hk=>let ⟨k₁,h1,h2⟩:=harr.2 hr' (by rw[hx];exact hk);⟨k₁,h1,.head h0 Qil h2⟩⟩
 |goto l=>exact hq.elim
 |ret=>exact⟨_,a₁,w₁,hq,.of_steps (.one h0 Qil) harr⟩
 |panic ch=>exact⟨_,a₁,w₁,hq,.of_steps (.one h0 Qil) harr⟩
 |outgrown=>exact⟨_,a₁,w₁,hq,.of_steps (b:=b) (k:=k) (cs:=cs) (e:=.outgrown) (.one h0 Qil) harr⟩
end
section
variable {P : Program} {X : Nat → Nat → Prop} {φ0 : Nat → FSlot} {w0 : World} {ro : Option Nat} {Q : Exit → AS → Prop} {s : AS} {c : Code}
def Q3u (Q:Exit→AS→Prop):Exit→AS→Prop
 |.goto _,_=>False
 |e,s=>Q e s
theorem Q0x (h:AWp P X φ0 w0 ro c (Q3u Q) s):AWp P X φ0 w0 ro (.scope c) Q s:=fun φ a w hs=>Qv5 (wpIn_mono (h φ a w hs) fun e a w ⟨φ',s',h1,h2⟩=>by
 cases e with
 |goto l=>exact h2.elim
 |_=>exact⟨φ',s',h1,h2⟩)
theorem Q2f (h:Q .ret s):Q3u Q .ret s:=h
end
section
variable {P : Program} {o : Oper} {X : Nat → Nat → Prop} {φ φ' : Nat → FSlot} {w w' : World}
def kill (ns:List Nat) (φ:Nat→FSlot):Nat→FSlot:=fun k=>if ns.contains k then .dead else φ k
theorem Qzm {ns:List Nat}{k:Nat}(h:k∈ns):kill ns φ k=.dead:=by simp[kill,h]
theorem Qvd {ns:List Nat}{k:Nat}(h:k∉ns):kill ns φ k=φ k:=by simp[kill,h]
theorem Qzl {ns:List Nat}{q c:Nat}(hq:(kill ns φ q).lies c):(φ q).lies c∧q∉ns:=by
 by_cases e:q∈ns
 ·rw[Qzm e] at hq;exact(Qay hq).elim
 ·rw[Qvd e] at hq;exact⟨hq,e⟩
theorem Q2s (ns:List Nat):Evo X φ w (kill ns φ) w:=by
 have ho:∀{q s},kill ns φ q=s→s≠.dead→φ q=s:=fun {q s} h hs=>by
  by_cases e:q∈ns
  ·rw[Qzm e] at h;exact absurd h.symm hs
  ·rwa [Qvd e] at h
 refine⟨rfl,rfl,rfl,Nat.le_refl _,fun _ _ _=>rfl,fun b' ⟨q,hq⟩=>.inl ⟨q,(Qzl hq).1⟩,fun b' off hdat=>⟨⟨hdat.lt,hdat.hid,fun q hq=>hdat.own q (ho hq (by simp)),fun q L hq=>hdat.tok q L (ho hq (by simp)),fun q Y hq=>hdat.far q Y (ho hq (by simp)),fun q bs z hq=>hdat.mat q bs z (ho hq (by simp))⟩,rfl⟩,fun q hq=>?_,fun q b' hq=>?_,fun q t hq=>?_,fun q Y hq=>?_,fun q bs hq=>?_,fun _ _ _ _=>.same rfl⟩
 ·unfold kill;split<;>simp[hq]
 ·unfold kill;split
  ·exact .inr rfl
  ·exact .inl hq
 ·unfold kill;split
  ·exact .inl rfl
  ·exact .inr ⟨hq,fun _ _ _=>rfl⟩
 ·unfold kill;split
  ·exact .inl rfl
  ·exact .inr ⟨Y,hq⟩
 ·unfold kill;split
  ·exact .inl rfl
  ·exact .inr ⟨bs,hq,.refl bs⟩
def wake (ns:List Nat) (φ0 φ:Nat→FSlot):Nat→FSlot:=fun k=>if ns.contains k then φ0 k else φ k
theorem Q47 {ns:List Nat}{φ0:Nat→FSlot}{k:Nat}(h:k∈ns):wake ns φ0 φ k=φ0 k:=by simp[wake,h]
theorem Q18 {ns:List Nat}{φ0:Nat→FSlot}{k:Nat}(h:k∉ns):wake ns φ0 φ k=φ k:=by simp[wake,h]
inductive Fresh (ns:List Nat) (eff:List (Nat×Slot)):AV→Prop where
 |any:Fresh ns eff .any
 |lit (v:Value):Fresh ns eff (.lit v)
 |ref (n' m j i:Nat) (h:n'∉ns):Fresh ns eff (.ref n' m j i)
 |own (n' m j len:Nat) (h:n'∉ns):Fresh ns eff (.own n' m j len)
 |gro (n':Nat) (ty:TypeId) (m len:Nat) (h:n'∉ns):Fresh ns eff (.gro n' ty m len)
 |acc (n':Nat) (ty:TypeId) (m:Nat) (xs:List (List AV)) (h:n'∉ns) (ht:(n',Slot.tok)∈eff) (hx:∀x∈xs,∀a∈x,∃v,a=.lit v):Fresh ns eff (.acc n' ty m xs)
 |tup (l:List AV) (h:∀a∈l,Fresh ns eff a):Fresh ns eff (.tup l)
 |agg (l:List AV) (h:∀a∈l,Fresh ns eff a):Fresh ns eff (.agg l)
theorem Fresh.rel {ns:List Nat}{φ0:Nat→FSlot}{eff:List (Nat×Slot)}{a:AV}(h:Fresh ns eff a) (hd:Qc7 (wake ns φ0 φ)) (he:∀p∈eff,SlotOK X φ w p.1 p.2)
  (hX:∀b' off,DataAt X φ w b' off→(∀n∈ns,φ0 n≠.own b')→DataAt X (wake ns φ0 φ) w b' off):∀{v:Value},RelV X φ w a v→RelV X (wake ns φ0 φ) w a v:=by
 have ne:∀{n'},n'∉ns→wake ns φ0 φ n'=φ n':=fun h=>Q18 h
 induction h with
 |any=>intro v _;exact .any v
 |lit u=>intro v hv;cases hv;exact .lit _
 |ref n' m j i h=>intro v hv;cases hv with |ref _ _ _ _ A hn hb=>exact .ref n' m j i A (by rw[ne h];exact hn) (by rw[ne h];exact hb)
 |own n' m j len h=>intro v hv;cases hv with |own _ _ _ _ A cap hc hm hn hb=>exact .own n' m j len A cap hc hm (by rw[ne h];exact hn) (by rw[ne h];exact hb)
 |gro n' ty m len h=>intro v hv;cases hv with |gro _ _ _ _ A cap hc hm hn hv hb=>exact .gro n' ty m len A cap hc hm (by rw[ne h];exact hn) (by rw[ne h];exact hv) (by rw[ne h];exact hb)
 |acc n' ty m xs h ht hx=>
  intro v hv
  cases hv with
  |acc _ _ _ _ A len cap g ok hr hn htip=>
   obtain⟨t,htok,_⟩:=he (n',.tok) ht
   dsimp only at htok
   have htip':=htip t htok
   refine .acc n' ty m xs A len cap g ⟨ok.hlen,ok.hcap,ok.hmost,ok.hsize,fun hne=>?_⟩ (fun j x hj i a hi=>?_) (by rw[ne h];exact hn) (by rw[ne h];exact htip)
   ·obtain⟨b0,o0,hA,hc⟩:=ok.hcells hne
    refine⟨b0,o0,hA,fun j x hj i hi=>⟨?_,(hc j x hj i hi).2⟩⟩
    have hb0:∀n∈ns,φ0 n≠.own b0:=by
     intro n hnn hb
     cases t with
     |none=>
      have:=htip'.1
      rw[ok.hlen] at this
      exact hne (List.eq_nil_of_length_eq_zero this)
     |some p=>
      obtain⟨b2,L⟩:=p
      have hA2:=htip'.1
      rw[hA] at hA2
      cases hA2
      have h1:(wake ns φ0 φ n').lies b0:=by rw[ne h];exact .tok htok
      have h2:(wake ns φ0 φ n).lies b0:=.own (by rw[Q47 hnn];exact hb)
      exact h (hd _ _ _ h1 h2▸hnn)
    exact hX _ _ (hc j x hj i hi).1 hb0
   ·obtain⟨u,rfl⟩:=hx x (List.mem_of_getElem? hj) a (List.mem_of_getElem? hi)
    have:=hr j x hj i _ hi
    rw[Qd6 this]
    exact .lit _
 |tup l h ih=>
  intro v hv
  cases hv with
  |tup _ vs hs hr=>exact .tup l vs hs fun i a hi=>ih a (List.mem_of_getElem? hi) (hr i a hi)
 |agg l h ih=>
  intro v hv
  cases hv with
  |agg _ vs hs hr=>exact .agg l vs hs fun i a hi=>ih a (List.mem_of_getElem? hi) (hr i a hi)
inductive Qvo (ns:List Nat) (eff:List (Nat×Slot)):Slot→Prop where
 |dead:Qvo ns eff .dead
 |tok:Qvo ns eff .tok
 |own (m:Nat) (xs:List (List AV)) (h:∀x∈xs,∀a∈x,Fresh ns eff a):Qvo ns eff (.own m xs)
 |gro (m:Nat) (xs:List (List AV)) (h:∀x∈xs,∀a∈x,Fresh ns eff a):Qvo ns eff (.gro m xs)
inductive Cv (B:List (Nat×Nat×List (List AV))):AV→AV→Prop where
 |same (a:AV):Cv B a a
 |dat (n m j len:Nat) (xs zs:List (List AV)) (h:(n,m,xs)∈B) (hl:j+len≤xs.length) (hz:zs.length=len) (hs:∀(i:Nat) y z,xs[j+i]? = some y→zs[i]? = some z→y.length=z.length) (hr:∀(i:Nat) y z,xs[j+i]? = some y→zs[i]? = some z→∀(q:Nat) a a',y[q]? = some a→z[q]? = some a'→Cv B a a'):Cv B (.own n m j len) (.dat m zs)
 |dptr (n m j i:Nat) (xs:List (List AV)) (c c':List AV) (h:(n,m,xs)∈B) (hj:xs[j]? = some c) (hl:c.length=c'.length) (hr:∀(q:Nat) a a',c[q]? = some a→c'[q]? = some a'→Cv B a a'):Cv B (.ref n m j i) (.dptr c' i)
 |agg (l l':List AV) (hl:l.length=l'.length) (hr:∀(q:Nat) a a',l[q]? = some a→l'[q]? = some a'→Cv B a a'):Cv B (.agg l) (.agg l')
 |fn (f:Fn) (l l' c c':List AV) (hl:l.length=l'.length) (hc:c.length=c'.length) (hr:∀(q:Nat) a a',l[q]? = some a→l'[q]? = some a'→Cv B a a') (hr':∀(q:Nat) a a',c[q]? = some a→c'[q]? = some a'→Cv B a a'):Cv B (.fn f l c) (.fn f l' c')
theorem Cv.rel {B:List (Nat×Nat×List (List AV))}{a a':AV}(h:Cv B a a') (hB:∀p∈B,∃b,φ p.1=.own b∧OwnOK X φ w b p.2.1 p.2.2) (ev:Evo X φ w φ' w) (hdat:∀p∈B,∀b off,φ p.1=.own b→DataAt X φ' w b off):∀{v:Value},RelV X φ w a v→RelV X φ' w a' v:=by
 have geti:∀{l l':List AV},l.length=l'.length→∀(q:Nat) a',l'[q]? = some a'→∃a,l[q]? = some a:=fun {l l'} hl q a' hq=>by
  have:=(List.getElem?_eq_some_iff.1 hq).1
  exact⟨_,List.getElem?_eq_getElem (by omega)⟩
 have cellat:∀{b m:Nat}{cur:Array Value}{ty:TypeId}{xs:List (List AV)}{j:Nat}{c:List AV}{q:Nat},w.heap[b]? = some (.cells cur ty (0,0))→xs.length*m≤cur.size→xs[j]? = some c→q<m→w.cell? ⟨b,j*m+q,none⟩=some (cur.getD (j*m+q) undef):=fun {b m cur ty xs j c q} hc hs hj hq=>by
  have hjl:j<xs.length:=(List.getElem?_eq_some_iff.1 hj).1
  have hpos:j*m+q<cur.size:=by
   have:(j+1)*m≤xs.length*m:=Nat.mul_le_mul_right m hjl
   rw[Nat.add_mul] at this
   omega
  rw[World.cell?]
  simp only[hc]
  simp[Array.getD_eq_getD_getElem?,hpos]
 induction h with
 |same a=>intro v hv;exact hv.evo ev
 |dat n m j len xs zs h hl hz hs hr ih=>
  intro v hv
  obtain⟨b,hn,hown⟩:=hB _ h
  dsimp only at hn hown
  obtain⟨cap,hc1,hc2,rfl⟩:=Qty hv hn
  obtain⟨cur,ty,hcell,hsz,hlen,hrel⟩:=hown.blk
  have hx:∀(i:Nat) z,zs[i]? = some z→∃y,xs[j+i]? = some y:=fun i z hi=>by
   have:=(List.getElem?_eq_some_iff.1 hi).1
   exact⟨_,List.getElem?_eq_getElem (by omega)⟩
  refine .dat m zs _ len cap (fun i q=>cur.getD ((j+i)*m+q) undef) ⟨hz.symm,hc1,hc2,fun z hz'=>?_,fun _=>⟨b,j*m,rfl,fun i z hi q hq=>⟨hdat _ h b _ hn,?_⟩⟩⟩ fun i z hi q c hq=>?_
  ·obtain⟨i,hi⟩:=List.getElem?_of_mem hz'
   obtain⟨y,hy⟩:=hx i z hi
   rw[←hs i y z hy hi]
   exact hlen y (List.mem_of_getElem? hy)
  ·obtain⟨y,hy⟩:=hx i z hi
   rw[show j*m+i*m+q=(j+i)*m+q from by rw[Nat.add_mul]]
   exact cellat hcell hsz hy hq
  ·obtain⟨y,hy⟩:=hx i z hi
   obtain⟨u,hu⟩:=geti (hs i y z hy hi) q c hq
   exact ih i y z hy hi q u c hu hq (hrel (j+i) y hy q u hu)
 |dptr n m j i xs c c' h hj hl hr ih=>
  intro v hv
  obtain⟨b,hn,hown⟩:=hB _ h
  dsimp only at hn hown
  obtain rfl:=Ql6 hv hn
  obtain⟨cur,ty,hcell,hsz,hlen,hrel⟩:=hown.blk
  refine .dptr c' i b (j*m) (fun k=>cur.getD (j*m+k) undef) (fun k hk=>⟨hdat _ h b _ hn,?_⟩) fun k u hk=>?_
  ·exact cellat hcell hsz hj (by rw[←hl,hlen c (List.mem_of_getElem? hj)] at hk;exact hk)
  ·obtain⟨u',hu'⟩:=geti hl k u hk
   exact ih k u' u hu' hk (hrel j c hj k u' hu')
 |agg l l' hl hr ih=>
  intro v hv
  cases hv with
  |agg _ vs hs h=>
   refine .agg l' vs (hs.trans hl) fun i a hi=>?_
   obtain⟨u,hu⟩:=geti hl i a hi
   exact ih i u a hu hi (h i u hu)
 |fn f l l' c c' hl hc hr hr' ih ih'=>
  intro v hv
  cases hv with
  |fn _ _ _ us vs hu hv h1 h2=>
   refine .fn f l' c' us vs (hu.trans hl) (hv.trans hc) (fun i a hi=>?_) fun i a hi=>?_
   ·obtain⟨u,hu⟩:=geti hl i a hi
    exact ih i u a hu hi (h1 i u hu)
   ·obtain⟨u,hu⟩:=geti hc i a hi
    exact ih' i u a hu hi (h2 i u hu)
def isIn {α:Type}(l:List α) (x:α) (k:Nat):Prop:=l[k]? = some x
theorem isIn.mem {α:Type}{l:List α}{x:α}{k:Nat}(h:isIn l x k):x∈l:=List.mem_of_getElem? h
def BR (B:List (Nat×Nat×List (List AV))):List (Operand×AV)→List (Operand×AV)→Prop
 |[],[]=>True
 |p::l,q::k=>p.1=q.1∧Cv B p.2 q.2∧BR B l k
 |_,_=>False
theorem BR.get {B:List (Nat×Nat×List (List AV))}:∀{l k:List (Operand×AV)},BR B l k→∀q∈k,∃p∈l,p.1=q.1∧Cv B p.2 q.2
 |[],[],_,q,hq=>by cases hq
 |p::l,q'::k,h,q,hq=>by
  rcases List.mem_cons.1 hq with rfl |hq
  ·exact⟨p,by simp,h.1,h.2.1⟩
  ·obtain⟨p',hp',e⟩:=BR.get h.2.2 q hq
   exact⟨p',List.mem_cons_of_mem _ hp',e⟩
end
abbrev amv := @Qqe
abbrev ag_ := @Qpd
abbrev aas := @Qny
abbrev nlc := @Qjh
abbrev apk := @Qqc
abbrev abn := @Qs7
abbrev rnc := @Qqw
abbrev ald := @Qqf
abbrev rn0 := @Q5l
abbrev nld := @Qmw
abbrev nl0 := @Qmv
abbrev bno := @Q20
abbrev afa := @Qpe
abbrev spb := @Qys
abbrev asb := @Q64
abbrev thn := @Q48
abbrev cko := @Q6t
abbrev jko := @Qzo
abbrev acv := @Qww
abbrev aln := @Qs5
abbrev mgt := @Qzg
abbrev gsm := @Qzu
abbrev wmr := @Q61
abbrev wjn := @Q24
abbrev mto := @Q8u
abbrev arm := @Qwz
abbrev bln := @Q2y
abbrev ald_ := @Qpc
abbrev afd := @Qnx
abbrev awk := @Qws
abbrev anc := @Qqd
abbrev wsq := @Qrm
abbrev slc := @Q2c
abbrev spr := @Q5e
abbrev rqr := @Qyu
abbrev lrf := @Less.rfl
abbrev ast := @Qpa
abbrev aio := @Qwu
theorem bfe {β:Type}{c:Bool}{a b:Option β}{r:β}{G:Prop}(h:(bif c then a else b)=some r) (h1:c=true→a=some r→G) (h2:c=false→b=some r→G):G:=by
 cases c
 ·exact h2 rfl h
 ·exact h1 rfl h
section
variable {P : Program} {X : Nat → Nat → Prop} {φ0 : Nat → FSlot} {w0 : World} {ro : Option Nat} {Q : Exit → AS → Prop} {s : AS}
theorem wft {x y:Code}{o:Operand}{b:Bool}(hb:b=true) (h:AWp P X φ0 w0 ro x Q s) (hc:opd s.regs o=.lit (.bool b):=by kernel_rfl):AWp P X φ0 w0 ro (.cond o x y) Q s:=Q62 hb hc h
theorem wfn {x y:Code}{o:Operand}{b:Bool}(hb:b=false) (h:AWp P X φ0 w0 ro y Q s) (hc:opd s.regs o=.lit (.bool b):=by kernel_rfl):AWp P X φ0 w0 ro (.cond o x y) Q s:=Q63 hb hc h
theorem wtr {c:Operand}{x y:Code}(h:AWp P X φ0 w0 ro x Q s) (hc:opd s.regs c=.lit (.bool true):=by kernel_rfl):AWp P X φ0 w0 ro (.cond c x y) Q s:=Qvk hc h
theorem wfa {c:Operand}{x y:Code}(h:AWp P X φ0 w0 ro y Q s) (hc:opd s.regs c=.lit (.bool false):=by kernel_rfl):AWp P X φ0 w0 ro (.cond c x y) Q s:=Qs2 hc h
theorem rot {t:Tmp}{v:AV}(h:s.regs.getD t .any=v:=by kernel_rfl):Qw1 P s (.tmp t) v:=Qyw h
end
theorem lcc {M:Nat→Nat→Prop}{u v:Value}{l k:List AV}(h:LPw (RW M) l k):LPw (RW M) (.lit u::.lit v::l) (.lit u::.lit v::k):=lc rwl (lc rwl h)
theorem nlcc {k:Nat}{u v:Value}{l:List AV}(h:∀a∈l,NLt k a):∀b∈AV.lit u::AV.lit v::l,NLt k b:=Qjh nll (Qjh nll h)
theorem rncc {M:Nat→Nat→Prop}{u v:Value}{l l':List AV}(h:LPw (Rn M) l l'):LPw (Rn M) (.lit u::.lit v::l) (.lit u::.lit v::l'):=Qqw (.plain _ nll) (Qqw (.plain _ nll) h)
theorem rnd {M:Nat→Nat→Prop}{m:Nat}{α:Type}{c:α→List AV}{l:List α}(h:∀x,∀a∈c x,NLt 0 a):RW M (.dat m (l.map c)) (.dat m (l.map c)):=.rn (.plain _ (Qmw h l))
theorem pld {M:Nat→Nat→Prop}{m:Nat}{α:Type}{c:α→List AV}{l:List α}(h:∀x,∀a∈c x,NLt 0 a):Rn M (.dat m (l.map c)) (.dat m (l.map c)):=.plain _ (Qmw h l)
end
section
section
variable {P : Program} {o : Oper} {X : Nat → Nat → Prop} {φ : Nat → FSlot} {w : World} {r : AV}
end
section
variable {P : Program} {X : Nat → Nat → Prop} {φ0 φ : Nat → FSlot} {w0 w : World} {s : AS}
end
section
variable {X : Nat → Nat → Prop} {φ0 : Nat → FSlot} {w0 : World} {s : AS}
theorem Qzb {n:Nat}(q p:Nat) (l:List (Nat×AV)) {l':List (Nat×AV)}{mp m:Nat}{c c':List AV}{xs:List (List AV)}{own':List Slot}(hmask:Qq2 s.regs (mk n l)=mk n l) (hn:(s.regs.length==n&&Nat.blt q s.own.length&&Nat.blt p s.own.length&&q != p)=true) (hs:s.own.getD q .unused=.own m xs) (hp:s.own.getD p .unused=.own mp [c])
  (hc:LPw (Fz q m xs) c c') (hr:PPw (Fz q m xs) l l') (ho:(s.own.set p (.own mp [c'])).set q .dead=own'):Mor X φ0 w0 s ⟨mk n l',own'⟩:=by
 subst ho
 simp only[Bool.and_eq_true,beq_iff_eq,Nat.blt_eq,bne_iff_ne,ne_eq] at hn
 obtain⟨⟨⟨hn1,hn2⟩,hn3⟩,hn4⟩:=hn
 refine Mor.trans (Qmz l hn1 hmask) (Qnd (s:=⟨mk n l,s.own⟩) q hs (Qsh (.any _) n hr) ?_ fun k hk=>?_)
 ·simp[hn2]
 ·have:((s.own.set p (Slot.own mp [c'])).set q Slot.dead).getD k .unused=(s.own.set p (Slot.own mp [c'])).getD k .unused:=by
   simp only[List.getD_eq_getElem?_getD]
   rw[List.getElem?_set_ne (fun e=>hk e.symm)]
  rw[this]
  by_cases e:k=p
  ·subst e
   have e1:(s.own.set k (Slot.own mp [c'])).getD k .unused=.own mp [c']:=by simp[hn3]
   have e2:AS.slot ⟨mk n l,s.own⟩ k=.own mp [c]:=hp
   rw[e1,e2]
   refine .own mp _ _ rfl fun j x x' h1 h2=>?_
   cases j with
   |zero=>simp at h1 h2;subst h1 h2;exact hc
   |succ j=>simp at h1
  ·have:(s.own.set p (Slot.own mp [c'])).getD k .unused=s.own.getD k .unused:=by
    simp only[List.getD_eq_getElem?_getD]
    rw[List.getElem?_set_ne (fun e'=>e e'.symm)]
   rw[this]
   exact SPw.refl (fun a=>.same a) _
end
section
variable {P : Program} {o : Oper}
end
end
section
section
variable {P : Program} {o : Oper} {X : Nat → Nat → Prop} {φ φ' : Nat → FSlot} {w : World}
end
section
variable {X : Nat → Nat → Prop} {φ0 : Nat → FSlot} {w0 : World} {s : AS}
inductive FzG (n m:Nat) (xs:List (List AV)):AV→AV→Prop where
 |same (a:AV):FzG n m xs a a
 |any (a:AV):FzG n m xs a .any
 |gro (ty:TypeId) (len:Nat) (h:len=xs.length):FzG n m xs (.gro n ty m len) (.dat m xs)
 |agg (l l':List AV) (hl:l.length=l'.length) (h:∀(i:Nat) a a',l[i]? = some a→l'[i]? = some a'→FzG n m xs a a'):FzG n m xs (.agg l) (.agg l')
theorem Qt4 (q:Nat) {m:Nat}{xs:List (List AV)}(hs:s.slot q=.gro m xs) {regs':List AV}{own':List Slot}(hr:LPw (FzG q m xs) s.regs regs') (hd:own'.getD q .unused=.dead) (ho:∀k,k≠q→SPw (FzG q m xs) (s.slot k) (own'.getD k .unused)):Mor X φ0 w0 s ⟨regs',own'⟩:=by
 refine Qmy (R:=FzG q m xs) (fun φ w henv=>?_) hr
 have evo:Evo X φ w (upd φ q .dead) w:=by
  have:=Q2s (X:=X) (φ:=φ) (w:=w) [q]
  have e:kill [q] φ=upd φ q .dead:=by
   funext k
   unfold kill upd
   by_cases h:k=q<;>simp[h]
  rwa [e] at this
 have ne:∀k,k≠q→upd φ q .dead k=φ k:=fun k e=>by simp[upd,e]
 have hsl:SlotOK X φ w q (.gro m xs):=by
  have:=henv.slot q
  rwa [hs] at this
 have hR:∀a a' v,FzG q m xs a a'→RelV X φ w a v→RelV X (upd φ q .dead) w a' v:=fun a a' v hf=>by
  induction hf generalizing v with
  |same a=>exact fun hv=>hv.evo evo
  |any a=>exact fun _=>.any v
  |agg l l' hl _ ih=>
   intro hv
   cases hv with
   |agg _ vs hs' hr=>
    refine .agg _ vs (hs'.trans hl) fun i a' hi=>?_
    have hlt:=(List.getElem?_eq_some_iff.1 hi).1
    exact ih i _ a' (List.getElem?_eq_getElem (by omega)) hi _ (hr i _ (List.getElem?_eq_getElem (by omega)))
  |gro ty len hlen=>
   intro hv
   subst hlen
   rcases hsl with ⟨h1,h2⟩ |⟨b,hb,hown⟩
   ·subst h1
    cases hv with
    |gro _ _ _ _ A cap hc hm hn0 hvd h=>exact .dat m [] A 0 cap (fun _ _=>undef) (DatOK.nil m A cap _ hm) (by simp)
   ·cases hv with
    |gro _ _ _ _ A cap hc hm hn0 hvd h=>
     obtain⟨hA,_⟩:=h b hb
     obtain⟨cur,cty,h1,h2,h3,h4⟩:=hown.blk
     have hdat:∀off,DataAt X (upd φ q .dead) w b off:=fun off=>by
      have no:∀k,k≠q→¬(φ k).lies b:=fun k hk hl=>hk (henv.distinct k q b hl (.own hb))
      have cas:∀k (f:FSlot),upd φ q .dead k=f→f≠.dead→k≠q∧φ k=f:=fun k f e hf=>by
       by_cases h:k=q
       ·subst h;simp[upd] at e;exact absurd e.symm hf
       ·exact⟨h,(ne k h).symm.trans e⟩
      refine⟨hown.lt,hown.hid off,fun k hk=>?_,fun k L hk=>?_,fun k Y hk hy=>?_,fun k bs z hk hz=>?_⟩
      ·obtain⟨e1,e2⟩:=cas k _ hk (by simp);exact no k e1 (.own e2)
      ·obtain⟨e1,e2⟩:=cas k _ hk (by simp);exact(no k e1 (.tok e2)).elim
      ·obtain⟨e1,e2⟩:=cas k _ hk (by simp);exact no k e1 (.far e2 hy)
      ·obtain⟨e1,e2⟩:=cas k _ hk (by simp);exact no k e1 (.mat e2 hz)
     refine .dat m xs A xs.length cap (fun z i=>cur.getD (z*m+i) undef) ⟨rfl,hc,hm,h3,fun _=>⟨b,0,hA,fun z y hz i hi=>⟨hdat _,?_⟩⟩⟩ (fun z y hz i u hu=>(h4 z y hz i u hu).evo evo)
     have hzl:=(List.getElem?_eq_some_iff.1 hz).1
     have:=Qd7 hzl hi
     have hlt':z*m+i<cur.size:=by omega
     rw[Nat.zero_add,cell_of_row w b _ cur _ _ h1]
     simp[Array.getD_eq_getD_getElem?,hlt']
 refine⟨upd φ q .dead,evo,fun k k' b h1 h2=>?_,fun k=>?_,hR⟩
 ·unfold upd at h1 h2
  split at h1
  ·exact(Qay h1).elim
  ·split at h2
   ·exact(Qay h2).elim
   ·exact henv.distinct k k' b h1 h2
 ·by_cases e:k=q
  ·subst e
   rw[hd]
   simp[SlotOK,upd]
  ·have hsp:=ho k e
   have hok:=henv.slot k
   have eq:=ne k e
   generalize s.slot k=s1 at hsp hok
   generalize own'.getD k .unused=s2 at hsp
   cases hsp with
   |unused=>exact eq.trans hok
   |dead=>exact eq.trans hok
   |tok=>obtain⟨t,ht,ht'⟩:=hok;exact⟨t,eq.trans ht,ht'⟩
   |own m xs xs' hl' hp=>obtain⟨b,hb,hown⟩:=hok;exact⟨b,eq.trans hb,hown.pw hR hl' hp⟩
   |gro m xs xs' hl' hp=>
    rcases hok with ⟨h1,h2⟩ |⟨b,hb,hown⟩
    ·exact .inl ⟨List.eq_nil_of_length_eq_zero (by rw[←hl',h1];rfl),eq.trans h2⟩
    ·exact .inr ⟨b,eq.trans hb,hown.pw hR hl' hp⟩
   |far J=>
    obtain⟨Y,D,B,f1,f2,f3⟩:=hok
    exact⟨Y,D,B,eq.trans f1,f2,f3.own,fun b off hx hy=>⟨(evo.dat b off (f3.dat b off hx hy).1).1,(f3.dat b off hx hy).2⟩,f3.os,f3.tape,f3.output,f3.size⟩
   |mat m rows hp=>
    obtain⟨bs,m1,m2,m3,m4⟩:=hok
    refine⟨bs,eq.trans m1,m2,m3,fun k xs hk=>?_⟩
    rcases m4 k xs hk with m5 |⟨b,m5,m6⟩
    ·exact .inl m5
    ·exact .inr ⟨b,m5,m6.pw hR rfl fun j x x' h1 h2=>by rw[h1] at h2;cases h2;exact hp xs (List.mem_of_getElem? hk) x (List.mem_of_getElem? h1)⟩
   |mp es clock=>obtain⟨b,hb,hown⟩:=hok;exact⟨b,eq.trans hb,hown⟩
theorem Qu5 {R:AV→AV→Prop}{own own':List Slot}{q:Nat}(hq:q<own.length) (h:QPw R (own.set q .dead) own'):own'.getD q .unused=.dead∧∀k,k≠q→SPw R (own.getD k .unused) (own'.getD k .unused):=by
 obtain⟨h1,h2⟩:=h.spec
 rw[List.length_set] at h1
 refine⟨?_,fun k hk=>?_⟩
 ·have:=h2 q .dead (own'[q]'(by omega)) (by rw[List.getElem?_set_self hq]) (List.getElem?_eq_getElem (by omega))
  rw[List.getD_eq_getElem?_getD,List.getElem?_eq_getElem (by omega),Option.getD_some]
  generalize own'[q]=z at this
  cases this
  rfl
 ·rcases Nat.lt_or_ge k own.length with hl |hl
  ·have:=h2 k own[k] (own'[k]'(by omega)) (by rw[List.getElem?_set_ne (Ne.symm hk),List.getElem?_eq_getElem hl]) (List.getElem?_eq_getElem (by omega))
   simpa [List.getD_eq_getElem?_getD,List.getElem?_eq_getElem hl,List.getElem?_eq_getElem (show k<own'.length by omega)] using this
  ·simp only[List.getD_eq_getElem?_getD,List.getElem?_eq_none hl,List.getElem?_eq_none (show own'.length≤k by omega),Option.getD_none]
   exact .unused
theorem Qu9 {n:Nat}(q:Nat) (l:List (Nat×AV)) {l':List (Nat×AV)}{m:Nat}{xs:List (List AV)}{own':List Slot}(hmask:Qq2 s.regs (mk n l)=mk n l) (hn:(s.regs.length==n&&Nat.blt q s.own.length)=true) (hs:s.own.getD q .unused=.gro m xs)
  (hr:PPw (FzG q m xs) l l') (ho:QPw (FzG q m xs) (s.own.set q .dead) own'):Mor X φ0 w0 s ⟨mk n l',own'⟩:=by
 simp only[Bool.and_eq_true,beq_iff_eq,Nat.blt_eq] at hn
 obtain⟨h1,h2⟩:=Qu5 hn.2 ho
 exact Mor.trans (Qmz l hn.1 hmask) (Qt4 (s:=⟨mk n l,s.own⟩) q hs (Qsh (.any _) n hr) h1 h2)
theorem Qt3 {n:Nat}(q:Nat) (l:List (Nat×AV)) {l':List (Nat×AV)}{m:Nat}{xs:List (List AV)}{own':List Slot}(hmask:Qq2 s.regs (mk n l)=mk n l) (hn:(s.regs.length==n&&Nat.blt q s.own.length)=true) (hs:s.own.getD q .unused=.own m xs)
  (hr:PPw (Fz q m xs) l l') (ho:QPw (Fz q m xs) (s.own.set q .dead) own'):Mor X φ0 w0 s ⟨mk n l',own'⟩:=by
 simp only[Bool.and_eq_true,beq_iff_eq,Nat.blt_eq] at hn
 obtain⟨h1,h2⟩:=Qu5 hn.2 ho
 exact Mor.trans (Qmz l hn.1 hmask) (Qnd (s:=⟨mk n l,s.own⟩) q hs (Qsh (.any _) n hr) h1 h2)
end
section
variable {X : Nat → Nat → Prop} {φ0 : Nat → FSlot} {w0 : World} {s : AS}
end
section
variable {X : Nat → Nat → Prop} {φ0 : Nat → FSlot} {w0 : World} {s : AS}
end
theorem Qio {n m:Nat}{xs:List (List AV)}{s:Slot}:SPw (FzG n m xs) s s:=SPw.refl (fun a=>.same a) s
theorem Qhj {n m:Nat}{xs:List (List AV)}{s:Slot}:SPw (Fz n m xs) s s:=SPw.refl (fun a=>.same a) s
theorem Less.tup {l k:List AV}(h:LessL l k):Less (.tup l) (.tup k):=fun X φ w v hv=>by
 cases hv with
 |tup _ vs hs hr=>
  refine .tup k vs (hs.trans h.length) fun i a hi=>?_
  obtain⟨b,hb,hl⟩:=h.get i a hi
  exact hl X φ w _ (hr i b hb)
theorem Q2b {k m:Nat}{α:Type}{c:α→List AV}(h:∀x,∀a∈c x,NLt 0 a) (l:List α):SNLt k (.gro m (l.map c)):=.gro m _ (Qq0 h l)
end
section
theorem Q5a {α β γ:Type}{f:α→Option γ}{g:β→Option γ}{a:α}{r:γ}(h:Sum.elim f g (.inl a)=some r):f a=some r:=h
theorem Q49 {α β γ:Type}{f:α→Option γ}{g:β→Option γ}{b:β}{r:γ}(h:Sum.elim f g (.inr b)=some r):g b=some r:=h
theorem Qko {P:Program}{fn:Func}{k:Nat}{res:AV}{σ':List Slot}{regs vs:List AV}(hr:ResL P ⟨regs,σ'⟩ fn.results.toList vs) (hres:res=Qpm vs) (hn:NLt k res) (hk:Nat.ble σ'.length k=true) (hs:∀s∈σ',SNLt k s):Fin P fn k res σ' ⟨regs,σ'⟩:=
 ⟨⟨vs,hr,hres⟩,hn,Nat.le_of_ble_eq_true hk,fun n _=>⟨rfl,by
  show SNLt _ (σ'.getD n .unused)
  rcases Nat.lt_or_ge n σ'.length with h |h
  ·simp only[List.getD_eq_getElem?_getD,List.getElem?_eq_getElem h,Option.getD_some]
   exact hs _ (List.getElem_mem h)
  ·simp only[List.getD_eq_getElem?_getD,List.getElem?_eq_none h,Option.getD_none]
   exact .unused⟩⟩
def PStep (P:Program) (o:Oper) (rd:List (Operand×AV)) (bl:List (Nat×Slot)) (pv:Value) (eff:List (Nat×Slot)):Prop:=
 ∀(X:Nat→Nat→Prop) (φ:Nat→FSlot) (a:Act) (w:World),(∀p∈rd,RelV X φ w p.2 (a.eval p.1))→(∀p∈bl,SlotOK X φ w p.1 p.2)→Qc7 φ→(∀b off,X b off→b<w.heap.size) →
  (∀n b,(φ n).lies b→b<w.heap.size) →
  ∀(next:Act→World→Prop) (Q:Exit→Act→World→Prop),
   (∀φ' w',(∀p∈eff,SlotOK X φ' w' p.1 p.2)→Qc7 φ'→(∀n,n∉eff.map (·.1)→φ' n=φ n) →
    (∀b,b<w.heap.size→(∀p∈eff,¬(φ p.1).lies b)→w'.heap[b]? = w.heap[b]?)→Evo X φ w φ' w'→Q (.panic [{ v:=pv,recovered:=false }]) a w')→Does P o a w next Q
theorem PStep.to {P:Program}{o:Oper}{rd rd2:List (Operand×AV)}{bl:List (Nat×Slot)}{v:Value}{eff:List (Nat×Slot)}(e:rd=rd2) (h:PStep P o rd bl v eff):PStep P o rd2 bl v eff:=e▸h
section
variable {X : Nat → Nat → Prop} {φ0 : Nat → FSlot} {w0 : World} {P : Program} {ex : Option Nat} {ops : Array Oper} {l : List (Oper × Rec)} {regs regs' : List AV} {own own' : List Slot}
end
section
variable {P : Program} {X : Nat → Nat → Prop} {φ0 : Nat → FSlot} {w0 : World} {ro : Option Nat} {Q : Exit → AS → Prop} {s : AS}
end
inductive Out where
 |ret (res:AV) (σ':List Slot)
 |pan (pv:Value)
section
variable {P : Program} {X : Nat → Nat → Prop} {φ0 : Nat → FSlot} {w0 : World} {fn : Func} {res : AV} {σ' : List Slot} {s : AS}
end
theorem Qnl {P:Program}{o:Oper}{x y:Operand}{av:AV}{k:IntKind}{q c:Int}{bl:List (Nat×Slot)}{r:AV}(hb:(q==c)=true) (h:Qdw P o [(x,av),(y,.lit (.int k c))] bl r []):Qdw P o [(x,av),(y,.lit (.int k q))] bl r []:=by
 rw[beq_iff_eq] at hb
 rw[hb]
 exact h
theorem Less.trans {a b c:AV}(h:Less a b) (k:Less b c):Less a c:=fun X φ w v hv=>k X φ w v (h X φ w v hv)
section
variable {P : Program} {X : Nat → Nat → Prop} {φ0 : Nat → FSlot} {w0 : World} {ro : Option Nat} {Q : Exit → AS → Prop} {s : AS}
theorem Q0i {ops:Array Oper}{listed:Array Bool}{i:Nat}(hsz:listed.size=ops.size) (hir:i<ops.size):(fun j=>(listed.setIfInBounds i true).getD j false)=Qgo (fun j=>listed.getD j false) i:=by
 funext j
 simp only[Qgo,Array.getD_eq_getD_getElem?,Array.getElem?_setIfInBounds]
 by_cases e:i=j
 ·subst e;simp[hsz,hir]
 ·have:(j==i)=false:=by simp;omega
  simp[e,this]
theorem Qo4 {ops:Array Oper}{listed:Array Bool}{i fuel:Nat}(hsz:listed.size=ops.size) (hir:i<ops.size) (hli:listed.getD i false=false) (hc:(List.range ops.size).countP (fun j=>!listed.getD j false)≤fuel+1):(List.range ops.size).countP (fun j=>!(listed.setIfInBounds i true).getD j false)≤fuel:=by
 have eS:=Q0i hsz hir
 have hlt:=Qo5 (p:=fun j=>!listed.getD j false) (p':=fun j=>!(listed.setIfInBounds i true).getD j false) (List.range ops.size) (fun x _ hx=>by
  rw[show(listed.setIfInBounds i true).getD x false=Qgo (fun j=>listed.getD j false) i x from congrFun eS x] at hx
  simp only[Qgo,Bool.not_or,Bool.and_eq_true] at hx
  exact hx.1) i (by simpa using hir) (by simpa using hli) (by
  rw[show(listed.setIfInBounds i true).getD i false=Qgo (fun j=>listed.getD j false) i i from congrFun eS i]
  simp[Qgo])
 omega
theorem Qni {ops:Array Oper}{l:List (Oper×Rec)}{listed:Array Bool}{i:Nat}{o:Oper}{c:Rec}(hsz:listed.size=ops.size) (hir:i<ops.size) (hp:l[i]? = some (o,c)) (closed:∀(i:Nat) (o:Oper) (c:Rec),l[i]? = some (o,c)→listed.getD i false=true→Qly (fun j=>listed.getD j false) o) (hpreds:Qly (fun j=>listed.getD j false) o) :
  ∀(j:Nat) (o:Oper) (c:Rec),l[j]? = some (o,c)→(listed.setIfInBounds i true).getD j false=true→Qly (fun j=>(listed.setIfInBounds i true).getD j false) o:=by
 have eS:=Q0i hsz hir
 intro j o' c' hj hS e he hb
 have e1:(listed.setIfInBounds i true).getD j false=Qgo (fun j=>listed.getD j false) i j:=congrFun eS j
 have e2:(listed.setIfInBounds i true).getD e.on false=Qgo (fun j=>listed.getD j false) i e.on:=congrFun eS e.on
 show(listed.setIfInBounds i true).getD e.on false=true
 rw[e1] at hS
 rw[e2]
 simp only[Qgo,Bool.or_eq_true,beq_iff_eq] at hS ⊢
 rcases hS with hS |rfl
 ·exact .inl (closed j o' c' hj hS e he hb)
 ·rw[hp] at hj
  cases hj
  exact .inl (hpreds e he hb)
theorem Qo1 {l:List (Oper×Rec)}{S:Nat→Bool}(hord:Qgv l [] []=true) (closed:∀(i:Nat) (o:Oper) (c:Rec),l[i]? = some (o,c)→S i=true→Qly S o) {i:Nat}{o:Oper}{c:Rec}(hp:l[i]? = some (o,c)) (hli:S i=false) (hpreds:Qly S o):Fit l S i o c:=
 ⟨hli,fun j o' c' hj=>⟨fun hlt hcl=>(Qg9 closed l [] [] rfl rfl (fun _ _ _ h=>by simp at h) hord i o c (by simp) hp).2 hpreds j o' c' hlt hj hcl,fun hgt hcl=>by
  cases hS:S j with
  |false=>rfl
  |true=>
   have:=(Qg9 closed l [] [] rfl rfl (fun _ _ _ h=>by simp at h) hord j o' c' (by simp) hj).2 (closed j o' c' hj hS) i o c hgt hp hcl
   rw[hli] at this
   cases this⟩⟩
theorem Q2i {ops:Array Oper}{listed:Array Bool}{i:Nat}(hsz:listed.size=ops.size) (hi:i∈Region.ready .any ops listed):i<ops.size∧listed.getD i false=false∧∀o,ops[i]? = some o→Qly (fun j=>listed.getD j false) o:=by
 unfold Region.ready at hi
 rw[List.mem_filter] at hi
 obtain⟨hir,hi2⟩:=hi
 rw[List.mem_range] at hir
 simp only[Bool.and_eq_true,Bool.not_eq_true'] at hi2
 obtain⟨hi2,hi3⟩:=hi2
 refine⟨hir,?_,fun o ho=>?_⟩
 ·simp only[Array.getD_eq_getD_getElem?] at hi2 ⊢
  rw[Array.getElem?_eq_getElem (by omega)] at hi2 ⊢
  simpa using hi2
 ·rw[ho] at hi3
  simp only[Option.map_some,Option.getD_some] at hi3
  intro e he hb
  have:=Array.all_eq_true'.1 hi3 e (by simpa using he)
  simpa [hb] using this
theorem Qyx {ops:Array Oper}{l:List (Oper×Rec)}{listed:Array Bool}(hops:ops.toList=l.map (·.1)) (hlen:l.length=ops.size) (hord:Qgv l [] []=true) (hsz:listed.size=ops.size) (closed:∀(i:Nat) (o:Oper) (c:Rec),l[i]? = some (o,c)→listed.getD i false=true→Qly (fun j=>listed.getD j false) o) (hr:Region.ready .any ops listed=[]):∀i,i<l.length→listed.getD i false=true:=by
 intro i
 induction i using Nat.strongRecOn with
 |_ i ih=>
  intro hi
  cases hli:listed.getD i false with
  |true=>rfl
  |false=>
   exfalso
   obtain⟨p,hp⟩:∃p,l[i]? = some p:=⟨_,List.getElem?_eq_getElem hi⟩
   obtain⟨o,c⟩:=p
   have h1:=(Qg9 closed l [] [] rfl rfl (fun _ _ _ h=>by simp at h) hord i o c (by simp) hp).1
   have ho:ops[i]? = some o:=by
    have:(l.map (·.1))[i]? = some o:=by rw[List.getElem?_map,hp];rfl
    rw[←hops] at this
    simpa using this
   have hmem:i∈Region.ready .any ops listed:=by
    unfold Region.ready
    rw[List.mem_filter]
    refine⟨by simp;omega,?_⟩
    rw[ho]
    have hl':listed.getD i true=false:=by
     simp only[Array.getD_eq_getD_getElem?] at hli ⊢
     rw[Array.getElem?_eq_getElem (by omega)] at hli ⊢
     simpa using hli
    simp only[hl',Bool.not_false,Bool.true_and,Option.map_some,Option.getD_some]
    refine Array.all_eq_true'.2 fun e he=>?_
    cases hb:Region.binds .any e with
    |false=>simp
    |true=>
     have hlt:=h1 e (by simpa using he) hb
     simpa using ih e.on hlt (by omega)
   rw[hr] at hmem
   cases hmem
theorem Qqy {ops:Array Oper}{l1 l2:List (Oper×Rec)}{i0:Nat}{regs r1 r2:List AV}{own o1 o2:List Slot}{oy:Oper}{c1 c2:Rec}(f1:Facts (some i0) P ops l1 regs own r1 o1) (f2:Facts (some i0) P ops l2 regs own r2 o2) (pre:∀j,j<i0→l1[j]? = l2[j]?)
  (h1:l1[i0]? = some (oy,c1)) (h2:l2[i0]? = some (oy,c2)) (hg:c1.skip=false) (hy:Qn1 P oy c1.rd c1.bl c1.r c1.eff c2.r c2.eff) (hlen:l1.length=l2.length) (hops:ops.toList=l1.map (·.1)) (hops2:ops.toList=l2.map (·.1)) (ha:∀j o' c',l1[j]? = some (o',c')→i0<j→Qlx oy c1 o' c'=true) (hord1:Qgv l1 [] []=true) (hord2:Qgv l2 [] []=true) {K:Exit→Act→World→Prop}
  (k1:∀φ' a' w',Sim X φ0 w0 φ' ⟨r1,o1⟩ a' w'→K .normal a' w') (k2:∀φ' a' w',Sim X φ0 w0 φ' ⟨r2,o2⟩ a' w'→K .normal a' w'):∀(fuel:Nat) (listed:Array Bool),listed.size=ops.size→(List.range ops.size).countP (fun j=>!listed.getD j false)≤fuel →
  (∀(i:Nat) (o:Oper) (c:Rec),l1[i]? = some (o,c)→listed.getD i false=true→Qly (fun j=>listed.getD j false) o)→listed.getD i0 false=false→∀(φ:Nat→FSlot) (a:Act) (w:World),RInv X φ0 w0 l1 regs own (fun j=>listed.getD j false) φ a w→RInv X φ0 w0 l2 regs own (fun j=>listed.getD j false) φ a w→wpAnyIn (FR ro) 0 P .any ops K fuel listed a w:=by
 have hl1:l1.length=ops.size:=by have:=congrArg List.length hops;simpa using this.symm
 have hi0:i0<l1.length:=(List.getElem?_eq_some_iff.1 h1).1
 have same:∀(i:Nat) (o:Oper) (c:Rec),l2[i]? = some (o,c)→∃c',l1[i]? = some (o,c'):=fun i o c h=>by
  have e1:(l1.map (·.1))[i]? = (l2.map (·.1))[i]? := by rw[←hops,←hops2]
  rw[List.getElem?_map,List.getElem?_map,h] at e1
  cases hq:l1[i]? with
  |none=>rw[hq] at e1;cases e1
  |some p=>
   rw[hq] at e1
   obtain⟨o',c'⟩:=p
   simp only[Option.map_some,Option.some.injEq] at e1
   exact⟨c',by rw[←e1]⟩
 intro fuel
 induction fuel with
 |zero=>
  intro listed hsz hc _ hex
  have:=List.countP_eq_zero.1 (Nat.le_zero.1 hc) i0 (by simp;omega)
  rw[hex] at this
  simp at this
 |succ fuel ih=>
  intro listed hsz hc closed hex φ a w q1 q2
  have closed2:∀(i:Nat) (o:Oper) (c:Rec),l2[i]? = some (o,c)→listed.getD i false=true→Qly (fun j=>listed.getD j false) o:=fun i o c h=>by
   obtain⟨c',h'⟩:=same i o c h
   exact closed i o c' h'
  refine⟨fun hr=>?_,fun i hi=>?_⟩
  ·have:=Qyx hops hl1 hord1 hsz closed hr i0 hi0
   rw[hex] at this
   cases this
  obtain⟨hir,hli,hpr⟩:=Q2i hsz hi
  obtain⟨c,hp⟩:=f1.get (Array.getElem?_eq_getElem hir)
  have hpreds:=hpr _ (Array.getElem?_eq_getElem hir)
  generalize ops[i]=o at hp hpreds
  have fit1:=Qo1 hord1 closed hp hli hpreds
  have eS:=Q0i hsz hir
  rcases Nat.lt_trichotomy i i0 with hlt |rfl |hgt
  ·have hp2:l2[i]? = some (o,c):=by rw[←pre i hlt];exact hp
   have fit2:=Qo1 hord2 closed2 hp2 hli hpreds
   refine q1.step' f1 hp fit1 (fun e=>by cases e;omega) fun v φ' w' hr he hd hn hb hev=>ih _ (by simpa using hsz) (Qo4 hsz hir hli hc) (Qni hsz hir hp closed hpreds) ?_ φ' _ w' ?_ ?_
   ·rw[show(listed.setIfInBounds i true).getD i0 false=Qgo (fun j=>listed.getD j false) i i0 from congrFun eS i0]
    simp only[Qgo,hex,Bool.false_or,beq_eq_false_iff_ne]
    omega
   ·rw[eS];exact q1.next f1 hp fit1 hr he hd hn hb hev
   ·rw[eS];exact q2.next f2 hp2 fit2 hr he hd hn hb hev
  ·rw[h1] at hp
   cases hp
   have fit2:=Qo1 hord2 closed2 h2 hli hpreds
   unfold wpOpIn
   rw[f1.at h1]
   dsimp only
   rw[if_pos (q1.wants f1 h1 fit1 hg)]
   refine hy X φ a w (q1.val f1 h1 fit1) (q1.blocks f1 h1 fit1) q1.distinct q1.hid q1.lt _ K (fun v φ' w' hr he hd hn hb hev=>?_) (fun v φ' w' hr he hd hn hb hev=>?_) ro
   ·refine Qlf f1 hord1 k1 fuel _ (by simpa using hsz) (Qo4 hsz hir hli hc) (Qni hsz hir h1 closed hpreds) (fun j e=>?_) φ' _ w' (by rw[eS];exact q1.next f1 h1 fit1 hr he hd hn hb hev)
    cases e
    rw[show(listed.setIfInBounds i true).getD i false=Qgo (fun j=>listed.getD j false) i i from congrFun eS i]
    simp[Qgo]
   ·refine Qlf f2 hord2 k2 fuel _ (by simpa using hsz) (Qo4 hsz hir hli hc) (Qni hsz hir h2 closed2 hpreds) (fun j e=>?_) φ' _ w' (by rw[eS];exact q2.next f2 h2 fit2 hr he hd hn hb hev)
    cases e
    rw[show(listed.setIfInBounds i true).getD i false=Qgo (fun j=>listed.getD j false) i i from congrFun eS i]
    simp[Qgo]
  ·have:listed.getD i0 false=true:=(fit1.2 i0 oy c1 h1).1 hgt (ha i o c hp hgt)
   rw[hex] at this
   cases this
theorem Q0y {id:Nat}{ops:Array Oper}{y:Code}(i0:Nat) (recs1 recs2:List Rec) {oy:Oper}{c1 c2:Rec}(hm1:Met ops recs1 s) (hm2:Met ops recs2 s) (hp:recs1.take i0=recs2.take i0) (h1:(ops.toList.zip recs1)[i0]? = some (oy,c1)) (h2:(ops.toList.zip recs2)[i0]? = some (oy,c2)) (hg:c1.skip=false)
  (hy:Qn1 P oy c1.rd c1.bl c1.r c1.eff c2.r c2.eff) (ha1:AllOkE P i0 0 (ops.toList.zip recs1)) (ha2:AllOkE P i0 0 (ops.toList.zip recs2)) (k1:AWp P X φ0 w0 ro y Q (after ops recs1 s)) (k2:AWp P X φ0 w0 ro y Q (after ops recs2 s))
  (hf:P.follows .mixedOrders=true:=by kernel_rfl) (ho1:Qgv (ops.toList.zip recs1) [] []=true:=by kernel_rfl) (ho2:Qgv (ops.toList.zip recs2) [] []=true:=by kernel_rfl) (hc:(((ops.toList.zip recs1).drop (i0+1)).all fun q=>Qlx oy c1 q.1 q.2)=true:=by kernel_rfl):AWp P X φ0 w0 ro (.seq (.region id ops true) y) Q s:=by
 refine Qrm fun φ a w hs=>?_
 have e1:=hm1.2
 have e2:=hm2.2
 simp only[Bool.and_eq_true,beq_iff_eq] at e1 e2
 have hl1:ops.toList.length=recs1.length:=e1.1
 have hl2:ops.toList.length=recs2.length:=e2.1
 have start:∀recs:List Rec,RInv X φ0 w0 (ops.toList.zip recs) s.regs s.own (fun j=>(Array.replicate ops.size false).getD j false) φ a { w with drawn:=w.drawn+1 }:=fun recs=>by
  have:=RInv.start (l:=ops.toList.zip recs) (regs:=s.regs) (own:=s.own) hs.drawn
  have e:(fun j=>(Array.replicate ops.size false).getD j false)=fun _=>false:=by
   funext j
   simp only[Array.getD_eq_getD_getElem?,Array.getElem?_replicate]
   split<;>rfl
  rw[e]
  exact this
 refine wpIn_region_any hf (Qqy (Qsu ha1 hm1) (Qsu ha2 hm2) (fun j hj=>?_) h1 h2 hg hy (by simp[List.length_zip];omega) (List.map_fst_zip (by omega)).symm (List.map_fst_zip (by omega)).symm (fun j o' c' hj hlt=>?_) ho1 ho2 (K:=conc X φ0 w0 (Qr2 (AWp P X φ0 w0 ro y Q) Q)) (fun φ' a' w' hs'=>⟨φ',_,hs',k1⟩) (fun φ' a' w' hs'=>⟨φ',_,hs',k2⟩) ops.size _ (by simp) ?_ ?_ ?_ φ a _ (start recs1) (start recs2))
 ·have hr:recs1[j]? = recs2[j]? := by
   have:=congrArg (fun l=>l[j]?) hp
   simpa [List.getElem?_take,hj] using this
  simp only[List.zip,List.getElem?_zipWith,hr]
 ·exact List.all_eq_true.1 hc (o',c') (List.mem_of_getElem? (i:=j-(i0+1)) (by rw[List.getElem?_drop,show i0+1+(j-(i0+1))=j from by omega];exact hj))
 ·exact Nat.le_trans List.countP_le_length (by simp)
 ·intro i o c hi hl
  simp only[Array.getD_eq_getD_getElem?,Array.getElem?_replicate] at hl
  split at hl<;>simp at hl
 ·simp only[Array.getD_eq_getD_getElem?,Array.getElem?_replicate]
  split<;>rfl
end
end
section
structure Ty where
 g:Bool
 sz:Nat
 z:Option (List Value)
 fl:List (Nat×Bool×Nat)
def FlOk (P:Program):List Field→List (Nat×Bool×Nat)→Prop
 |_,[]=>True
 |f::fs,q::l=>f.offset=q.1∧TI P f.type q.2.1 q.2.2∧FlOk P fs l
 |[],_::_=>False
structure Ty.ok (P:Program) (t:Nat) (v:Ty):Prop where
 ti:TI P t v.g v.sz
 z:match v.z with |some zs=>TZ P t zs |none=>True
 fl:v.fl=[]∨∃fs:Array Field,P.underlying t=some (.struct fs)∧FlOk P fs.toList v.fl
inductive Tab where
 |nil
 |node (k:Nat) (v:Ty) (l r:Tab)
def Tab.get:Tab→Nat→Option Ty
 |.nil,_=>none
 |.node k v l r,t=>bif Nat.beq t k then some v else bif Nat.blt t k then l.get t else r.get t
def Tab.ok (P:Program):Tab→Prop
 |.nil=>True
 |.node k v l r=>Ty.ok P k v∧l.ok P∧r.ok P
theorem Tab.ok.get {P:Program}:∀{T:Tab},T.ok P→∀{t:Nat}{v:Ty},T.get t=some v→Ty.ok P t v
 |.nil,_,_,_,h=>by cases h
 |.node k v l r,hT,t,u,h=>by
  rw[Tab.get] at h
  cases h1:Nat.beq t k with
  |true=>
   rw[h1] at h
   cases h
   rw[Nat.eq_of_beq_eq_true h1]
   exact hT.1
  |false=>
   rw[h1,cond_false] at h
   cases h2:Nat.blt t k with
   |true=>rw[h2] at h;exact Tab.ok.get hT.2.1 h
   |false=>rw[h2] at h;exact Tab.ok.get hT.2.2 h
theorem FlOk.get {P:Program}:∀{fs:List Field}{l:List (Nat×Bool×Nat)},FlOk P fs l→∀(f:Nat) {q:Nat×Bool×Nat},l[f]? = some q→∃fl,fs[f]? = some fl∧fl.offset=q.1∧TI P fl.type q.2.1 q.2.2
 |_,[],_,_,_,h=>by simp at h
 |f::fs,q0::l,hF,0,q,h=>by simp at h;subst h;exact⟨f,rfl,hF.1,hF.2.1⟩
 |f::fs,q0::l,hF,i+1,q,h=>by
  obtain⟨fl,h1,h2⟩:=FlOk.get hF.2.2 i (by simpa using h)
  exact⟨fl,by simpa using h1,h2⟩
 |[],_::_,hF,_,_,_=>hF.elim
abbrev AuR:Type:=List Operand×List Nat×AV×List (Nat×Slot)
def Q34 (own:List Slot) (n m j:Nat):Option (List AV):=match own.getD n .unused with
 |.own m' xs=>bif Nat.beq m' m then xs[j]? else none
 |_=>none
def Qvn (ty:Ty) (own:List Slot) (x:Operand):AV→Option AuR
 |.ref n m j i=>match Q34 own n m j with
  |some c=>bif Nat.ble (i+ty.sz) c.length&&(ty.g||Nat.beq ty.sz 1) then some ([x],[n],ldA ty.g ty.sz i c,[]) else none
  |none=>none
 |.dptr c i=>bif Nat.ble (i+ty.sz) c.length&&(ty.g||Nat.beq ty.sz 1) then some ([x],[],ldA ty.g ty.sz i c,[]) else none
 |_=>none
def Quj (ty:Ty) (own:List Slot) (x y:Operand) (v:AV):AV→Option AuR
 |.ref n m j i=>match own.getD n .unused with
  |.own m' xs=>bif Nat.beq m' m then(match xs[j]? with
   |some c=>bif Nat.beq ty.sz (stA v).length&&((stA v).all AV.one&&Nat.ble (i+(stA v).length) c.length) then some ([x,y],[n],.any,[(n,.own m (xs.set j (Qgp c i (stA v))))]) else none
   |none=>none) else none
  |_=>none
 |_=>none
def Qro (q:Nat×Bool×Nat) (own:List Slot) (x:Operand):AV→Option AuR
 |.ref n m j i=>match own.getD n .unused with
  |.own m' _=>bif Nat.beq m' m then some ([x],[n],.ref n m j (i+q.1),[]) else none
  |_=>none
 |.dptr c i=>some ([x],[],.dptr c (i+q.1),[])
 |_=>none
def Q9a (op:BinOp) (x y:Operand):AV→AV→Option AuR
 |.lit (.int k a),.lit (.int k' b)=>if k=k' then(match binI op k a b with |some v=>some ([x,y],[],.lit v,[]) |none=>none) else none
 |_,_=>none
def Q88 (x:Operand):AV→Option AuR
 |.lit (.bool b)=>some ([x],[],.lit (.bool !b),[])
 |_=>none
def Q89 (x:Operand):AV→Option AuR
 |.lit (.int k a)=>some ([x],[],.lit (.int k (k.wrap (0-a))),[])
 |_=>none
def Q87 (c x y:Operand) (u v:AV):AV→Option AuR
 |.lit (.bool b)=>some ([c,x,y],[],bif b then u else v,[])
 |_=>none
def Qs3 (x:Operand) (i:Nat):AV→Option AuR
 |.tup l=>match l[i]? with |some r=>some ([x],[],r,[]) |none=>none
 |_=>none
def Quk (q:Nat×Bool×Nat) (x:Operand):AV→Option AuR
 |.agg l=>bif Nat.ble (q.1+q.2.2) l.length&&(q.2.1||Nat.beq q.2.2 1) then some ([x],[],ldA q.2.1 q.2.2 q.1 l,[]) else none
 |_=>none
def au (T:Tab) (op:Op) (v:Operand→AV) (own:List Slot):Option AuR:=match op with
 |.move x=>some ([x],[],v x,[])
 |.assign x=>some ([x],[],v x,[])
 |.pick c x y=>Q87 c x y (v x) (v y) (v c)
 |.binOp op _ x y _=>Q9a op x y (v x) (v y)
 |.unOp .not _ x=>Q88 x (v x)
 |.unOp .neg _ x=>Q89 x (v x)
 |.extract x i=>Qs3 x i (v x)
 |.field t x f=>match (T.get t).bind (·.fl[f]?) with |some q=>Quk q x (v x) |none=>none
 |.fieldAddr t x f=>match (T.get t).bind (·.fl[f]?) with |some q=>bif Nat.beq q.2.2 0 then none else Qro q own x (v x) |none=>none
 |.load t x=>match T.get t with |some ty=>Qvn ty own x (v x) |none=>none
 |.store t x y=>match T.get t with |some ty=>Quj ty own x y (v y) (v x) |none=>none
 |.alloc t=>match (T.get t).bind (·.z) with |some zs=>some ([],[own.length],.ref own.length zs.length 0 0,[(own.length,.own zs.length [zs.map AV.lit])]) |none=>none
 |.box _ x=>bif (stA (v x)).all AV.one then some ([x],[own.length],.ref own.length (stA (v x)).length 0 0,[(own.length,.own (stA (v x)).length [stA (v x)])]) else none
 |.nilCheck x=>bif Qy4 (v x) then some ([x],[],v x,[]) else none
 |_=>none
section
variable {P : Program} {T : Tab} {o : Oper} {v : Operand → AV} {own : List Slot} {q : AuR}
abbrev AuOK (P:Program) (o:Oper) (v:Operand→AV) (own:List Slot) (q:AuR):Prop:=Qdw P o (q.1.map fun x=>(x,v x)) (q.2.1.map fun n=>(n,own.getD n .unused)) q.2.2.1 q.2.2.2
theorem Q1e {a b:Bool}(h:(a&&b)=true):a=true∧b=true:=by simpa using h
theorem or_g {g:Bool}{n:Nat}(h:(g||Nat.beq n 1)=true):g=false→n=1:=fun e=>by subst e;exact Nat.eq_of_beq_eq_true h
theorem Q05 {t:TypeId}{ty:Ty}{x:Operand}(ho:o.op=.load t x) (ht:TI P t ty.g ty.sz) (h:Qvn ty own x (v x)=some q):AuOK P o v own q:=by
 cases hv:v x with
 |ref n m j i=>
  rw[hv] at h
  unfold Qvn Q34 at h
  dsimp only at h
  cases hs:own.getD n .unused with
  |own m' xs=>
   rw[hs] at h
   dsimp only at h
   cases hm:Nat.beq m' m with
   |false=>rw[hm] at h;cases h
   |true=>
    rw[hm,cond_true] at h
    have hm':=Nat.eq_of_beq_eq_true hm
    subst hm'
    cases hc:xs[j]? with
    |none=>rw[hc] at h;cases h
    |some c=>
     rw[hc] at h
     dsimp only at h
     cases hb:Nat.ble (i+ty.sz) c.length&&(ty.g||Nat.beq ty.sz 1) with
     |false=>rw[hb] at h;cases h
     |true=>
      rw[hb] at h
      cases h
      obtain⟨h1,h2⟩:=Q1e hb
      have:=Qqf (P:=P) (n:=n) (m:=m') ho ht (or_g h2) hc (Nat.le_of_ble_eq_true h1) rfl
      simpa only [AuOK,List.map_cons,List.map_nil,hv,hs] using this
  |_=>rw[hs] at h;cases h
 |dptr c i=>
  rw[hv] at h
  unfold Qvn at h
  dsimp only at h
  cases hb:Nat.ble (i+ty.sz) c.length&&(ty.g||Nat.beq ty.sz 1) with
  |false=>rw[hb] at h;cases h
  |true=>
   rw[hb] at h
   cases h
   obtain⟨h1,h2⟩:=Q1e hb
   have:=Qpc (P:=P) ho ht (or_g h2) (Nat.le_of_ble_eq_true h1) rfl
   simpa only [AuOK,List.map_cons,List.map_nil,hv] using this
 |_=>rw[hv] at h;cases h
theorem Qwp {t:TypeId}{ty:Ty}{x y:Operand}(ho:o.op=.store t x y) (ht:TI P t ty.g ty.sz) (h:Quj ty own x y (v y) (v x)=some q):AuOK P o v own q:=by
 cases hv:v x with
 |ref n m j i=>
  rw[hv] at h
  unfold Quj at h
  dsimp only at h
  cases hs:own.getD n .unused with
  |own m' xs=>
   rw[hs] at h
   dsimp only at h
   cases hm:Nat.beq m' m with
   |false=>rw[hm] at h;cases h
   |true=>
    rw[hm,cond_true] at h
    have hm':=Nat.eq_of_beq_eq_true hm
    subst hm'
    cases hc:xs[j]? with
    |none=>rw[hc] at h;cases h
    |some c=>
     rw[hc] at h
     dsimp only at h
     cases hb:Nat.beq ty.sz (stA (v y)).length&&((stA (v y)).all AV.one&&Nat.ble (i+(stA (v y)).length) c.length) with
     |false=>rw[hb] at h;cases h
     |true=>
      rw[hb] at h
      cases h
      obtain⟨h1,h2⟩:=Q1e hb
      obtain⟨h2,h3⟩:=Q1e h2
      have h1':=Nat.eq_of_beq_eq_true h1
      rw[h1'] at ht
      have:=Qpa (P:=P) (n:=n) (m:=m') ho ht h2 hc (Nat.le_of_ble_eq_true h3) rfl
      simpa only [AuOK,List.map_cons,List.map_nil,hv,hs] using this
  |_=>rw[hs] at h;cases h
 |_=>rw[hv] at h;cases h
theorem Q8w (hT:T.ok P) {t:TypeId}{f:Nat}{a:Nat×Bool×Nat}(h:(T.get t).bind (·.fl[f]?)=some a):∃fs:Array Field,P.underlying t=some (.struct fs)∧∃fl,fs[f]? = some fl∧fl.offset=a.1∧TI P fl.type a.2.1 a.2.2:=by
 cases hg:T.get t with
 |none=>rw[hg] at h;cases h
 |some ty=>
  rw[hg] at h
  have h':ty.fl[f]? = some a:=h
  rcases(Tab.ok.get hT hg).fl with e |⟨fs,h1,h2⟩
  ·rw[e] at h';simp at h'
  ·obtain⟨fl,h3,h4⟩:=h2.get f h'
   exact⟨fs,h1,fl,by simpa using h3,h4⟩
theorem Qwr (hT:T.ok P) {t:TypeId}{f:Nat}{a:Nat×Bool×Nat}{x:Operand}(ho:o.op=.fieldAddr t x f) (hq:(T.get t).bind (·.fl[f]?)=some a) (h0:Nat.beq a.2.2 0=false) (h:Qro a own x (v x)=some q):AuOK P o v own q:=by
 obtain⟨fs,h1,fl,h2,h3,h4⟩:=Q8w hT hq
 have hn:a.2.2≠0:=fun e=>by rw[e] at h0;cases h0
 cases hv:v x with
 |ref n m j i=>
  rw[hv] at h
  unfold Qro at h
  dsimp only at h
  cases hs:own.getD n .unused with
  |own m' xs=>
   rw[hs] at h
   dsimp only at h
   cases hm:Nat.beq m' m with
   |false=>rw[hm] at h;cases h
   |true=>
    rw[hm,cond_true] at h
    have hm':=Nat.eq_of_beq_eq_true hm
    subst hm'
    cases h
    have:=Qpe (P:=P) (n:=n) (m:=m') (j:=j) (i:=i) (xs:=xs) ho h1 h2 rfl h4 hn rfl
    rw[h3] at this
    simpa only [AuOK,List.map_cons,List.map_nil,hv,hs] using this
  |_=>rw[hs] at h;cases h
 |dptr c i=>
  rw[hv] at h
  unfold Qro at h
  cases h
  have:=Qnx (P:=P) (c:=c) (i:=i) ho h1 h2 rfl h4 hn rfl
  rw[h3] at this
  simpa only [AuOK,List.map_cons,List.map_nil,hv] using this
 |_=>rw[hv] at h;cases h
theorem Qwq (hT:T.ok P) {t:TypeId}{f:Nat}{a:Nat×Bool×Nat}{x:Operand}(ho:o.op=.field t x f) (hq:(T.get t).bind (·.fl[f]?)=some a) (h:Quk a x (v x)=some q):AuOK P o v own q:=by
 obtain⟨fs,h1,fl,h2,h3,h4⟩:=Q8w hT hq
 cases hv:v x with
 |agg l=>
  rw[hv] at h
  unfold Quk at h
  dsimp only at h
  cases hb:Nat.ble (a.1+a.2.2) l.length&&(a.2.1||Nat.beq a.2.2 1) with
  |false=>rw[hb] at h;cases h
  |true=>
   rw[hb] at h
   cases h
   obtain⟨b1,b2⟩:=Q1e hb
   have:=Qun (P:=P) (l:=l) ho h1 h2 rfl h4 (by rw[h3];exact Nat.le_of_ble_eq_true b1) (or_g b2) rfl
   rw[h3] at this
   simpa only [AuOK,List.map_cons,List.map_nil,hv,ldA] using this
 |_=>rw[hv] at h;cases h
theorem Qyz (own:List Slot):own.getD own.length .unused=.unused:=by simp
theorem Q99 (hT:T.ok P) (h:au T o.op v own=some q):AuOK P o v own q:=by
 cases ho:o.op with
 |move x=>rw[ho] at h;cases h;exact Qqe ho
 |assign x=>rw[ho] at h;cases h;exact Qny ho
 |pick c x y=>
  rw[ho] at h
  unfold au at h
  dsimp only at h
  cases hc:v c with
  |lit u=>
   rw[hc] at h
   cases u with
   |bool b=>cases h;simpa only [AuOK,List.map_cons,List.map_nil,hc] using Qqc (P:=P) (u:=v x) (v:=v y) ho rfl
   |_=>cases h
  |_=>rw[hc] at h;cases h
 |binOp op t x y t'=>
  rw[ho] at h
  unfold au Q9a at h
  dsimp only at h
  split at h
  ·next k a k' b hx hy=>
   split at h
   ·next e=>
    subst e
    split at h
    ·next u hu=>
     cases h
     simpa only [AuOK,List.map_cons,List.map_nil,hx,hy] using Qs7 (P:=P) ho hu
    ·cases h
   ·cases h
  ·cases h
 |unOp op t x=>
  rw[ho] at h
  cases op with
  |not=>
   unfold au Q88 at h
   dsimp only at h
   split at h
   ·next b hx=>cases h;simpa only [AuOK,List.map_cons,List.map_nil,hx] using Q07 (P:=P) ho
   ·cases h
  |neg=>
   unfold au Q89 at h
   dsimp only at h
   split at h
   ·next k a hx=>cases h;simpa only [AuOK,List.map_cons,List.map_nil,hx] using Q08 (P:=P) ho
   ·cases h
  |_=>cases h
 |extract x i=>
  rw[ho] at h
  unfold au Qs3 at h
  dsimp only at h
  split at h
  ·next l hx=>
   split at h
   ·next r hr=>cases h;simpa only [AuOK,List.map_cons,List.map_nil,hx] using Qrp (P:=P) ho hr
   ·cases h
  ·cases h
 |field t x f=>
  rw[ho] at h
  unfold au at h
  dsimp only at h
  split at h
  ·next a hq=>exact Qwq hT ho hq h
  ·cases h
 |fieldAddr t x f=>
  rw[ho] at h
  unfold au at h
  dsimp only at h
  split at h
  ·next a hq=>
   cases h0:Nat.beq a.2.2 0 with
   |true=>rw[h0] at h;cases h
   |false=>rw[h0] at h;exact Qwr hT ho hq h0 h
  ·cases h
 |load t x=>
  rw[ho] at h
  unfold au at h
  dsimp only at h
  split at h
  ·next ty hq=>exact Q05 ho (Tab.ok.get hT hq).ti h
  ·cases h
 |store t x y=>
  rw[ho] at h
  unfold au at h
  dsimp only at h
  split at h
  ·next ty hq=>exact Qwp ho (Tab.ok.get hT hq).ti h
  ·cases h
 |alloc t=>
  rw[ho] at h
  unfold au at h
  dsimp only at h
  split at h
  ·next zs hq=>
   cases h
   cases hg:T.get t with
   |none=>rw[hg] at hq;cases hq
   |some ty=>
    rw[hg] at hq
    have hz:=(Tab.ok.get hT hg).z
    have hq':ty.z=some zs:=hq
    rw[hq'] at hz
    simpa only [AuOK,List.map_cons,List.map_nil,Qyz] using Qup (P:=P) (n:=own.length) ho hz rfl
  ·cases h
 |box t x=>
  rw[ho] at h
  unfold au at h
  dsimp only at h
  cases hb:(stA (v x)).all AV.one with
  |false=>rw[hb] at h;cases h
  |true=>
   rw[hb] at h
   cases h
   simpa only [AuOK,List.map_cons,List.map_nil,Qyz] using Q1a (P:=P) (n:=own.length) ho hb rfl rfl
 |nilCheck x=>
  rw[ho] at h
  unfold au at h
  dsimp only at h
  cases hb:Qy4 (v x) with
  |false=>rw[hb] at h;cases h
  |true=>
   rw[hb] at h
   cases h
   exact Qqd ho hb
 |_=>rw[ho] at h;cases h
end
def badR:Rec:=⟨[],[],.any,[],true⟩
def toR (g:List (Operand×AV)) (v:Operand→AV) (own:List Slot):Option AuR→Rec
 |some q=>⟨g++q.1.map fun x=>(x,v x),q.2.1.map fun n=>(n,own.getD n .unused),q.2.2.1,q.2.2.2,false⟩
 |none=>badR
def Qj4 (T:Tab) (ops:Array Oper) (o:Oper) (regs:List AV) (own:List Slot):Rec:=match o.guard with
 |none=>toR [] (opd regs) own (au T o.op (opd regs) own)
 |some (j,want)=>match (ops[j]?).bind (·.dst) with
  |some d=>match opd regs (.tmp d) with
   |.lit v=>bif Qo6 v==some want then toR [(.tmp d,.lit v)] (opd regs) own (au T o.op (opd regs) own) else⟨[(.tmp d,.lit v)],[],.lit undef,[],true⟩
   |_=>badR
  |none=>badR
def Qou:List (Nat×Rec)→Nat→Rec→Rec
 |(k,c)::_,i,d=>bif Nat.beq k i then c else d
 |[],_,d=>d
def Qqx:List (Nat×Rec)→Nat→List (Nat×Rec)
 |(k,c)::H,i=>bif Nat.beq k i then H else(k,c)::H
 |[],_=>[]
def atH:List (Nat×Rec)→Nat→Bool
 |(k,_)::_,i=>Nat.beq k i
 |[],_=>false
def comp (T:Tab) (ops:Array Oper):List Oper→Nat→List (Nat×Rec)→List AV→List Slot→List Rec
 |[],_,_,_,_=>[]
 |o::l,i,H,regs,own=>match Qou H i (Qj4 T ops o regs own) with
  |⟨rd,bl,r,eff,s⟩=>⟨rd,bl,r,eff,s⟩::comp T ops l (i+1) (Qqx H i) (putA regs o.dst r) (setE own eff)
def exec (T:Tab) (ops:Array Oper):List Oper→Nat→List (Nat×Rec)→List AV→List Slot→AS
 |[],_,_,regs,own=>⟨regs,own⟩
 |o::l,i,H,regs,own=>match Qou H i (Qj4 T ops o regs own) with
  |⟨_,_,r,eff,_⟩=>exec T ops l (i+1) (Qqx H i) (putA regs o.dst r) (setE own eff)
def Qzf (T:Tab) (ops:Array Oper):List Oper→Nat→List (Nat×Rec)→List AV→List Slot→List (List AV×List Slot)
 |[],_,_,_,_=>[]
 |o::l,i,H,regs,own=>match Qou H i (Qj4 T ops o regs own) with
  |⟨rd,bl,r,eff,_⟩=>bif atH H i
   then(rd.map (fun p=>opd regs p.1),bl.map (fun p=>own.getD p.1 .unused))::Qzf T ops l (i+1) (Qqx H i) (putA regs o.dst r) (setE own eff)
   else Qzf T ops l (i+1) (Qqx H i) (putA regs o.dst r) (setE own eff)
def good (T:Tab) (ops:Array Oper) (n:Nat):List Oper→Nat→List (Nat×Rec)→List AV→List Slot→Bool
 |[],_,H,_,_=>H.isEmpty
 |o::l,i,H,regs,own=>match Qou H i (Qj4 T ops o regs own) with
  |⟨rd,bl,r,eff,s⟩=>(Qq5 ops o ⟨rd,bl,r,eff,s⟩&&(match o.dst with |some d=>decide (d<n) |none=>true)&&(eff.all fun q=>bl.any fun r=>q.1==r.1))&&good T ops n l (i+1) (Qqx H i) (putA regs o.dst r) (setE own eff)
def opAt (ops:Array Oper) (k:Nat):Oper:=(ops[k]?).getD default
def HOk (P:Program) (ops:Array Oper):List (Nat×Rec)→Prop
 |[]=>True
 |p::H=>OkR P (opAt ops p.1,p.2)∧HOk P ops H
section
variable {P : Program} {T : Tab} {ops : Array Oper}
theorem Qvi:∀(l:List Oper) (i:Nat) (H:List (Nat×Rec)) (regs:List AV) (own:List Slot),(comp T ops l i H regs own).length=l.length
 |[],_,_,_,_=>rfl
 |o::l,i,H,regs,own=>by
  rw[comp]
  cases Qou H i (Qj4 T ops o regs own) with
  |mk rd bl r eff s=>rw[List.length_cons,List.length_cons,Qvi l]
theorem Qvg:∀(l:List Oper) (i:Nat) (H:List (Nat×Rec)) (regs:List AV) (own:List Slot),exec T ops l i H regs own=⟨(runL (l.zip (comp T ops l i H regs own)) regs own).2.1,(runL (l.zip (comp T ops l i H regs own)) regs own).2.2⟩
 |[],_,_,_,_=>rfl
 |o::l,i,H,regs,own=>by
  rw[exec,comp]
  cases Qou H i (Qj4 T ops o regs own) with
  |mk rd bl r eff s=>exact Qvg l (i+1) _ _ _
theorem Q04 (o:Oper) (regs:List AV) (own:List Slot):(Qj4 T ops o regs own).rd.map (fun p=>opd regs p.1)=(Qj4 T ops o regs own).rd.map (·.2)∧(Qj4 T ops o regs own).bl.map (fun p=>own.getD p.1 .unused)=(Qj4 T ops o regs own).bl.map (·.2):=by
 have key:∀(g:List (Operand×AV)) (q:Option AuR),(∀p∈g,opd regs p.1=p.2)→(toR g (opd regs) own q).rd.map (fun p=>opd regs p.1)=(toR g (opd regs) own q).rd.map (·.2)∧(toR g (opd regs) own q).bl.map (fun p=>own.getD p.1 .unused)=(toR g (opd regs) own q).bl.map (·.2):=by
  intro g q hg
  cases q with
  |none=>exact⟨rfl,rfl⟩
  |some q=>
   refine⟨?_,by simp[toR,Function.comp_def]⟩
   simp only[toR,List.map_append,List.map_map]
   rw[List.map_congr_left (f:=fun p:Operand×AV=>opd regs p.1) (g:=fun p:Operand×AV=>p.2) hg]
   rfl
 unfold Qj4
 split
 ·exact key [] _ (fun _ h=>by cases h)
 ·split
  ·next d hd=>
   split
   ·next v hv=>
    cases Qo6 v==some _ with
    |true=>exact key _ _ (fun p hp=>by rw[List.mem_singleton] at hp;subst hp;exact hv)
    |false=>exact⟨by simp[hv],rfl⟩
   ·exact⟨rfl,rfl⟩
  ·exact⟨rfl,rfl⟩
theorem Qvm (hT:T.ok P) (o:Oper) (regs:List AV) (own:List Slot):OkR P (o,Qj4 T ops o regs own):=by
 have key:∀(g:List (Operand×AV)),g.length≤1→OkR P (o,toR g (opd regs) own (au T o.op (opd regs) own)):=by
  intro g hg
  cases h:au T o.op (opd regs) own with
  |none=>exact trivial
  |some q=>
   have:=Q99 hT h
   unfold OkR toR
   dsimp only
   cases g with
   |nil=>exact this
   |cons a g=>cases g with
    |nil=>exact Qpd this
    |cons _ _=>simp at hg
 unfold Qj4
 split
 ·exact key [] (Nat.zero_le _)
 ·split
  ·split
   ·next v _=>
    cases Qo6 v==some _ with
    |true=>exact key _ (Nat.le_refl _)
    |false=>exact trivial
   ·exact trivial
  ·exact trivial
theorem HOk.rest {H:List (Nat×Rec)}(h:HOk P ops H) (i:Nat):HOk P ops (Qqx H i):=by
 cases H with
 |nil=>exact trivial
 |cons p H=>
  obtain⟨k,c⟩:=p
  show HOk P ops (bif Nat.beq k i then H else(k,c)::H)
  cases Nat.beq k i with
  |true=>exact h.2
  |false=>exact h
theorem Q5o {H:List (Nat×Rec)}(hT:T.ok P) (h:HOk P ops H) {i:Nat}{o:Oper}(ho:ops[i]? = some o) (regs:List AV) (own:List Slot):OkR P (o,Qou H i (Qj4 T ops o regs own)):=by
 cases H with
 |nil=>exact Qvm hT _ _ _
 |cons p H=>
  obtain⟨k,c⟩:=p
  show OkR P (o,bif Nat.beq k i then c else Qj4 T ops o regs own)
  cases e:Nat.beq k i with
  |true=>
   have:=h.1
   unfold opAt at this
   rw[Nat.eq_of_beq_eq_true e,ho] at this
   exact this
  |false=>exact Qvm hT _ _ _
theorem Q0m (hT:T.ok P):∀(l:List Oper) (i:Nat) (H:List (Nat×Rec)) (regs:List AV) (own:List Slot),HOk P ops H→(∀k o,l[k]? = some o→ops[i+k]? = some o)→AllOk P (l.zip (comp T ops l i H regs own))
 |[],_,_,_,_,_,_=>trivial
 |o::l,i,H,regs,own,hH,hl=>by
  have h1:=Q5o hT hH (hl 0 o rfl) regs own
  have h2:=fun regs' own'=>Q0m hT l (i+1) (Qqx H i) regs' own' (hH.rest i) fun k o' h=>by
   have:=hl (k+1) o' (by simpa using h)
   rwa [show i+(k+1)=i+1+k from by omega] at this
  rw[comp]
  cases hp:Qou H i (Qj4 T ops o regs own) with
  |mk rd bl r eff s=>
   rw[Nat.add_zero,hp] at h1
   rw[List.zip_cons_cons,AllOk]
   exact⟨h1,h2 _ _⟩
theorem Qrj:∀(l:List Oper) (i:Nat) (H:List (Nat×Rec)) (regs:List AV) (own:List Slot) (n:Nat),good T ops n l i H regs own=true→Qzf T ops l i H regs own=H.map (fun p=>(p.2.rd.map (·.2),p.2.bl.map (·.2))) →
  (runL (l.zip (comp T ops l i H regs own)) regs own).1=(comp T ops l i H regs own).map (fun c=>(c.rd.map (·.2),c.bl.map (·.2)))
 |[],_,_,_,_,_,_,_=>rfl
 |o::l,i,H,regs,own,n,hg,hm=>by
  have h:=Q04 (T:=T) (ops:=ops) o regs own
  rw[comp]
  rw[good] at hg
  rw[Qzf] at hm
  have hh:(∃k c H',H=(k,c)::H'∧Nat.beq k i=true)∨(Qou H i (Qj4 T ops o regs own)=Qj4 T ops o regs own∧Qqx H i=H∧atH H i=false):=by
   cases H with
   |nil=>exact Or.inr ⟨rfl,rfl,rfl⟩
   |cons p H=>
    obtain⟨k,c⟩:=p
    cases e:Nat.beq k i with
    |true=>exact Or.inl ⟨k,c,H,rfl,e⟩
    |false=>exact Or.inr ⟨by show(bif Nat.beq k i then c else _)=_;rw[e];rfl,by show(bif Nat.beq k i then _ else _)=_;rw[e];rfl,e⟩
  rcases hh with ⟨k,c,H',rfl,e⟩ |⟨e1,e2,e3⟩
  ·have e1:Qou ((k,c)::H') i (Qj4 T ops o regs own)=c:=by show(bif Nat.beq k i then c else _)=_;rw[e];rfl
   have e2:Qqx ((k,c)::H') i=H':=by show(bif Nat.beq k i then _ else _)=_;rw[e];rfl
   rw[e1,e2] at hg hm ⊢
   obtain⟨rd,bl,r,eff,sk⟩:=c
   dsimp only at hg hm ⊢
   rw[Bool.and_eq_true] at hg
   rw[show atH ((k,⟨rd,bl,r,eff,sk⟩)::H') i=true from e,cond_true,List.map_cons,List.cons.injEq] at hm
   exact congr (congrArg List.cons hm.1) (Qrj l (i+1) _ _ _ n hg.2 hm.2)
  ·rw[e1,e2] at hg hm ⊢
   rw[e3] at hm
   clear e1
   revert hg hm h
   generalize Qj4 T ops o regs own=R
   intro hg hm h
   obtain⟨rd,bl,r,eff,sk⟩:=R
   dsimp only at hg hm h ⊢
   rw[Bool.and_eq_true] at hg
   exact congr (congrArg List.cons (Prod.ext h.1 h.2)) (Qrj l (i+1) _ _ _ n hg.2 hm)
theorem Qsz:∀(l:List Oper) (i:Nat) (H:List (Nat×Rec)) (regs:List AV) (own:List Slot) (n:Nat),good T ops n l i H regs own=true→Qvb ops (l.zip (comp T ops l i H regs own)) n=true
 |[],_,_,_,_,_,_=>rfl
 |o::l,i,H,regs,own,n,hg=>by
  rw[good] at hg
  rw[comp]
  cases hp:Qou H i (Qj4 T ops o regs own) with
  |mk rd bl r eff s=>
   rw[hp] at hg
   dsimp only at hg ⊢
   rw[Bool.and_eq_true] at hg
   have ih:=Qsz l (i+1) _ _ _ n hg.2
   rw[List.zip_cons_cons]
   unfold Qvb at ih ⊢
   rw[List.all_cons,ih,Bool.and_true]
   exact hg.1
variable {X : Nat → Nat → Prop} {φ0 : Nat → FSlot} {w0 : World} {ro : Option Nat} {Q : Exit → AS → Prop} {s : AS} {c : Code}
def Qtz (T:Tab) (ops:Array Oper) (H:List (Nat×Rec)) (s:AS):List Rec:=comp T ops ops.toList 0 H s.regs s.own
def Qnz (T:Tab) (ops:Array Oper) (H:List (Nat×Rec)) (s:AS):AS:=exec T ops ops.toList 0 H s.regs s.own
def MetX (T:Tab) (ops:Array Oper) (H:List (Nat×Rec)) (s:AS):Prop:=Qzf T ops ops.toList 0 H s.regs s.own=H.map (fun p=>(p.2.rd.map (·.2),p.2.bl.map (·.2)))∧good T ops s.regs.length ops.toList 0 H s.regs s.own=true
theorem Qm5 (H:List (Nat×Rec)):after ops (Qtz T ops H s) s=Qnz T ops H s:=(Qvg (T:=T) ops.toList 0 H s.regs s.own).symm
theorem Qq9 (hT:T.ok P) {H:List (Nat×Rec)}(hH:HOk P ops H) (hm:MetX T ops H s):AllOk P (ops.toList.zip (Qtz T ops H s))∧Met ops (Qtz T ops H s) s:=by
 refine⟨Q0m hT _ 0 _ _ _ hH fun k o h=>by simpa using h,Qrj _ 0 _ _ _ _ hm.2 hm.1,?_⟩
 rw[Bool.and_eq_true]
 exact⟨by simp[Qtz,Qvi],Qsz _ 0 _ _ _ _ hm.2⟩
theorem Qox {s s':AS}(own:List Slot) (h:Mor X φ0 w0 ⟨s.regs,own⟩ s') (ho:s.own=own:=by kernel_rfl):Mor X φ0 w0 s s':=by
 subst ho
 exact h
theorem Q86 {id:Nat}{y:Code}(hT:T.ok P) (H:List (Nat×Rec)) (hH:HOk P ops H) (h:AWp P X φ0 w0 ro y Q (Qnz T ops H s)) (hm:MetX T ops H s:=by exact⟨by kernel_rfl,by kernel_rfl⟩):AWp P X φ0 w0 ro (.seq (.region id ops false) y) Q s:=
 have f:=Qq9 hT hH hm
 Q60 _ f.1 (Qm5 H▸h) f.2
theorem Q36 {id:Nat}(hT:T.ok P) (H:List (Nat×Rec)) (hH:HOk P ops H) (h:Q .normal (Qnz T ops H s)) (hm:MetX T ops H s:=by exact⟨by kernel_rfl,by kernel_rfl⟩):AWp P X φ0 w0 ro (.region id ops false) Q s:=
 have f:=Qq9 hT hH hm
 Q22 _ f.1 (Qm5 H▸h) f.2
theorem Q35 {id:Nat}{y:Code}(hT:T.ok P) (H:List (Nat×Rec)) (hH:HOk P ops H) (h:AWp P X φ0 w0 ro y Q (Qnz T ops H s)) (hf:P.follows .mixedOrders=true:=by kernel_rfl) (hm:MetX T ops H s:=by exact⟨by kernel_rfl,by kernel_rfl⟩) (ho:Qgv (ops.toList.zip (Qtz T ops H s)) [] []=true:=by kernel_rfl):AWp P X φ0 w0 ro (.seq (.region id ops true) y) Q s:=
 have f:=Qq9 hT hH hm
 Q21 _ f.1 (Qm5 H▸h) hf f.2 ho
theorem Q6z {id:Nat}(hT:T.ok P) (H:List (Nat×Rec)) (hH:HOk P ops H) (h:Q .normal (Qnz T ops H s)) (hf:P.follows .mixedOrders=true:=by kernel_rfl) (hm:MetX T ops H s:=by exact⟨by kernel_rfl,by kernel_rfl⟩) (ho:Qgv (ops.toList.zip (Qtz T ops H s)) [] []=true:=by kernel_rfl):AWp P X φ0 w0 ro (.region id ops true) Q s:=
 have f:=Qq9 hT hH hm
 Q01 _ f.1 (Qm5 H▸h) hf f.2 ho
end
theorem fend {P:Program}{fn:Func}{res:AV}{s:AS}(h1:∃vs,ResL P s fn.results.toList vs∧res=Qpm vs) (h2:NLt 0 res):Fin P fn 0 res [] s:=⟨h1,h2,Nat.le_refl _,fun n hn=>absurd hn (Nat.not_lt_zero n)⟩
abbrev wx := @Q86
abbrev wx1 := @Q36
abbrev wxd := @Q35
abbrev wy1 := @Q6z
def hcat (A B:List (Nat×Rec)):List (Nat×Rec):=A++B
theorem hap {P:Program}{ops:Array Oper}:∀{A B:List (Nat×Rec)},HOk P ops A→HOk P ops B→HOk P ops (hcat A B)
 |[],_,_,hB=>hB
 |_::_,_,hA,hB=>⟨hA.1,hap hA.2 hB⟩
section
variable {P : Program} {X : Nat → Nat → Prop} {φ0 : Nat → FSlot} {w0 : World} {ro : Option Nat} {Q : Exit → AS → Prop} {s : AS} {A : List (Nat × Rec)} {id : Nat} {ops : Array Oper} {d : Bool} {y : Code}
theorem hpre (hA:HOk P ops A) (h:HOk P ops A→AWp P X φ0 w0 ro (.seq (.region id ops d) y) Q s):AWp P X φ0 w0 ro (.seq (.region id ops d) y) Q s:=h hA
theorem Q5v (hA:HOk P ops A) (h:HOk P ops A→AWp P X φ0 w0 ro (.region id ops d) Q s):AWp P X φ0 w0 ro (.region id ops d) Q s:=h hA
end
theorem tv:True:=trivial
theorem prr {ρ:List Nat}{t n n' m j i:Nat}{l k:List (Nat×AV)}(h':PPw (RW fun n n'=>ρ[n']? = some n) l k) (h:(ρ[n']? == some n)=true:=by rfl):PPw (RW fun n n'=>ρ[n']? = some n) ((t,.ref n m j i)::l) ((t,.ref n' m j i)::k):=pc (.rn (Qyu h)) h'
theorem pw {M:Nat→Nat→Prop}{t:Nat}{u:Value}{l k:List (Nat×AV)}(h:PPw (RW M) l k):PPw (RW M) ((t,.lit u)::l) ((t,.lit u)::k):=pc rwl h
theorem qb {R:AV→AV→Prop}{m:Nat}{x x':List AV}{l k:List Slot}(h:LPw R x x') (h':QPw R l k):QPw R (.own m [x]::l) (.own m [x']::k):=qc (Qys h) h'
theorem frb {P:Program}{fn:Func}{s:AS}{b r:Bool}(h:some b=some r) (hr:ResL P s fn.results.toList [B b]:=by exact⟨rot,trivial⟩):Fin P fn 0 (B r) [] s:=by
 cases osi h
 exact fend ⟨[B b],hr,rfl⟩ nll
theorem apv {P:Program}{o:Oper}{rd:List (Operand×AV)}{f:Operand}{xs:Array Operand}{ts:Array TypeId}{g:FuncId}{vs:List AV}{res:AV}(hcall:∀vals w,(callFunc g vals).run P w=.ok (.enter g vals) w) (spec:Spec P g vs [] res [])
  (hn:∀a∈vs,NLt 0 a) (hres:NLt 0 res) (h:o.op=.call { callee:=.value f,args:=xs,argTypes:=ts }:=by exact rfl) (hvl:vs.length=xs.size:=by exact rfl) (hrd:(f,.fn (.func g) [] [])::xs.toList.zip vs=rd:=by exact rfl):Qdw P o rd [] res []:=
 Qum (first:=[]) (cap:=[]) h hcall spec hvl (List.append_nil vs) hn hres hrd
end
section
def kv (p:List Int):Value:=.agg (p.map (Value.int .i64)).toArray
section
variable {P : Program}
end
section
variable {X : Nat → Nat → Prop} {φ : Nat → FSlot} {w : World} {P : Program} {o : Oper}
end
section
variable {P : Program} {o : Oper}
end
section
variable {P : Program} {X : Nat → Nat → Prop} {φ0 : Nat → FSlot} {w0 : World} {ro : Option Nat} {Q : Exit → AS → Prop} {s : AS}
theorem SImp.less {s s':Slot}(hsp:SPw Less s s'):SImp s s':=fun X φ w n hok=>by
 have hR:∀a a' v,Less a a'→RelV X φ w a v→RelV X φ w a' v:=fun a a' v h hv=>h _ _ _ _ hv
 cases hsp with
 |unused=>exact hok
 |dead=>exact hok
 |tok=>exact hok
 |own m xs xs' hl' hp=>obtain⟨b,hb,hown⟩:=hok;exact⟨b,hb,hown.pw hR hl' hp⟩
 |gro m xs xs' hl' hp=>
  rcases hok with ⟨h1,h2⟩ |⟨b,hb,hown⟩
  ·exact .inl ⟨List.eq_nil_of_length_eq_zero (by rw[←hl',h1];rfl),h2⟩
  ·exact .inr ⟨b,hb,hown.pw hR hl' hp⟩
 |far J=>exact hok
 |mat m rows hp=>exact hok
 |mp es clock=>exact hok
theorem SImp.box {m:Nat}{l l':List AV}(h:LPw Less l l'):SImp (.own m [l]) (.own m [l']):=.less (.own m _ _ rfl fun j x x' h1 h2=>by
 cases j with
 |zero=>simp at h1 h2;subst h1;subst h2;exact h
 |succ j=>simp at h1)
def EffAll (n:Nat) (s':Slot):List (Nat×Slot)→Prop
 |[]=>True
 |e::l=>(match Nat.beq e.1 n with |true=>SImp e.2 s' |false=>True)∧EffAll n s' l
def SAll (n:Nat) (s':Slot):List (Oper×Rec)→Prop
 |[]=>True
 |p::l=>EffAll n s' p.2.eff∧SAll n s' l
theorem EffAll.imp {n:Nat}{s':Slot}:∀{l:List (Nat×Slot)}{s:Slot},EffAll n s' l→SImp s s'→SImp (Qkp n l s) s'
 |[],_,_,hs=>hs
 |e::l,s,h,hs=>by
  unfold Qkp
  refine EffAll.imp h.2 ?_
  have h1:=h.1
  split
  ·rename_i he
   rw[he,Nat.beq_refl] at h1
   exact h1
  ·exact hs
theorem SAll.imp {n:Nat}{s':Slot}{S:Nat→Bool}:∀{l:List (Oper×Rec)}{i:Nat}{s:Slot},SAll n s' l→SImp s s'→SImp (Qjr l i S s n) s'
 |[],_,_,_,hs=>hs
 |p::l,i,s,h,hs=>by
  unfold Qjr
  refine SAll.imp h.2 ?_
  split
  ·exact h.1.imp hs
  ·exact hs
theorem StepAt.soft {l:List (Oper×Rec)}{own:List Slot}{o:Oper}{c:Rec}(n:Nat) (s':Slot) (h:Qdw P o c.rd (c.bl++[(n,s')]) c.r c.eff) (hs:SImp (own.getD n .unused) s') (ha:SAll n s' l):StepAt P l own o c:=
 ⟨[(n,s')],h,fun p hp S=>by
  rw[List.mem_singleton.1 hp]
  exact ha.imp hs⟩
def AllOkS (P:Program) (L:List (Oper×Rec)) (own:List Slot):List (Oper×Rec)→Prop
 |[]=>True
 |p::l=>(p.2.skip=false→StepAt P L own p.1 p.2)∧AllOkS P L own l
theorem AllOkS.get {L:List (Oper×Rec)}{own:List Slot}:∀{l:List (Oper×Rec)},AllOkS P L own l→∀(i:Nat) (o:Oper) (c:Rec),l[i]? = some (o,c)→c.skip=false→StepAt P L own o c
 |_::_,h,0,o,c,hi=>by simp at hi;subst hi;exact h.1
 |_::_,h,i+1,o,c,hi=>fun hs=>AllOkS.get h.2 i o c (by simpa using hi) hs
 |[],_,_,_,_,hi=>by simp at hi
theorem Qzx {ops:Array Oper}{recs:List Rec}(hall:AllOkS P (ops.toList.zip recs) s.own (ops.toList.zip recs)) (hm:Met ops recs s):Facts none P ops (ops.toList.zip recs) s.regs s.own (after ops recs s).regs (after ops recs s).own:=by
 obtain⟨h1,h2⟩:=hm
 rw[Bool.and_eq_true] at h2
 obtain⟨h2,h3⟩:=h2
 have hl:ops.toList.length=recs.length:=by simpa using h2
 refine⟨by rw[List.map_fst_zip (by omega)],fun i o c hi hs _=>hall.get i o c hi hs,?_,h3⟩
 have e:(ops.toList.zip recs).map (fun p=>(p.2.rd.map (·.2),p.2.bl.map (·.2)))=recs.map (fun c=>(c.rd.map (·.2),c.bl.map (·.2))):=by
  have:(fun p:Oper×Rec=>(p.2.rd.map (·.2),p.2.bl.map (·.2)))=(fun c:Rec=>(c.rd.map (·.2),c.bl.map (·.2))) ∘ Prod.snd:=rfl
  rw[this,←List.map_map,List.map_snd_zip (by omega)]
 rw[e,←h1]
 rfl
theorem Q00 {id:Nat}{ops:Array Oper}(recs:List Rec) (hall:AllOkS P (ops.toList.zip recs) s.own (ops.toList.zip recs)) (h:Q .normal (after ops recs s)) (hf:P.follows .mixedOrders=true:=by kernel_rfl) (hm:Met ops recs s:=by exact⟨by kernel_rfl,by kernel_rfl⟩) (ho:Qgv (ops.toList.zip recs) [] []=true:=by kernel_rfl):AWp P X φ0 w0 ro (.region id ops true) Q s:=Qo8 hf _ (Qzx hall hm) ho h
def AllOkT (P:Program) (n:Nat) (U:Slot):List (Oper×Rec)→Prop
 |[]=>True
 |p::l=>(p.2.skip=false→Qdw P p.1 p.2.rd p.2.bl p.2.r p.2.eff∨Qdw P p.1 p.2.rd (p.2.bl++[(n,U)]) p.2.r p.2.eff)∧AllOkT P n U l
theorem AllOkT.to {n:Nat}{U:Slot}{L:List (Oper×Rec)}{own:List Slot}(hs:SImp (own.getD n .unused) U) (ha:SAll n U L):∀{l:List (Oper×Rec)},AllOkT P n U l→AllOkS P L own l
 |[],_=>trivial
 |_::_,h=>⟨fun k=>(h.1 k).elim .hard fun q=>.soft n U q hs ha,AllOkT.to hs ha h.2⟩
theorem Q5j {own:List Slot}{n:Nat}{V U:Slot}(hv:own.getD n .unused=V) (h:SImp V U):SImp (own.getD n .unused) U:=by rw[hv];exact h
theorem hr_ {b:Bool}{A B:Prop}(h:A):b=false→A∨B:=fun _=>.inl h
theorem sf_ {b:Bool}{A B:Prop}(h:B):b=false→A∨B:=fun _=>.inr h
theorem Q0z {id:Nat}{ops:Array Oper}(n:Nat) (U:Slot) (recs:List Rec) (hs:SImp (s.own.getD n .unused) U) (ha:SAll n U (ops.toList.zip recs)) (hall:AllOkT P n U (ops.toList.zip recs)) (h:Q .normal (after ops recs s)) (hf:P.follows .mixedOrders=true:=by kernel_rfl) (hm:Met ops recs s:=by exact⟨by kernel_rfl,by kernel_rfl⟩) (ho:Qgv (ops.toList.zip recs) [] []=true:=by kernel_rfl):AWp P X φ0 w0 ro (.region id ops true) Q s:=Q00 recs (hall.to hs ha) h hf hm ho
end
end
section
theorem Qpw:∀(m k:Nat) (xs ys:List Int),xs.length=k+m→ys.length=k+m→((List.range' k m).all fun i=>xs.getD i 0==ys.getD i 0)=(xs.drop k==ys.drop k)
 |0,k,xs,ys,hx,hy=>by
  rw[List.drop_of_length_le (by omega),List.drop_of_length_le (by omega)]
  rfl
 |m+1,k,xs,ys,hx,hy=>by
  rw[List.range'_succ,List.all_cons,Qpw m (k+1) xs ys (by omega) (by omega)]
  rw[List.drop_eq_getElem_cons (show k<xs.length by omega),List.drop_eq_getElem_cons (show k<ys.length by omega),List.cons_beq_cons]
  simp[List.getD,List.getElem?_eq_getElem (show k<xs.length by omega),List.getElem?_eq_getElem (show k<ys.length by omega)]
theorem Q2u {P:Program}(d:Nat) {t e:TypeId}{n:Nat}{kd:IntKind}(ht:P.underlying t=some (.array n e)) (he:P.underlying e=some (.int kd)) (hT:TI P e false 1):EqT P (d+2) t n:=fun w xs ys hx hy=>by
 rw[show(xs==ys)=(xs.drop 0==ys.drop 0) from rfl,←Qpw n 0 xs ys (by omega) (by omega),Op.equalIn]
 simp only[Sem.run_bind,run_underlying ht,Result.andThen_ok,hT.size,Std.Legacy.Range.forIn_eq_forIn_range',Std.Legacy.Range.size,Nat.sub_zero,Nat.add_sub_cancel,Nat.div_one]
 have hl:∀i∈List.range' 0 n 1,i<n:=fun i hi=>by simpa using(List.mem_range'_1.1 hi).2
 generalize List.range' 0 n 1=l at hl ⊢
 induction l with
 |nil=>simp
 |cons i l ih=>
  have hi:i<n:=hl i (by simp)
  have px:(part e (xs.map (Value.int .i64)).toArray (i*1)).run P w=.ok (.int .i64 (xs.getD i 0)) w:=by
   simp[part,isAgg,run_underlying he,List.getD,List.getElem?_eq_getElem (show i<xs.length by omega)]
  have py:(part e (ys.map (Value.int .i64)).toArray (i*1)).run P w=.ok (.int .i64 (ys.getD i 0)) w:=by
   simp[part,isAgg,run_underlying he,List.getD,List.getElem?_eq_getElem (show i<ys.length by omega)]
  have pe:(Op.equalIn (d+1) e (.int .i64 (xs.getD i 0)) (.int .i64 (ys.getD i 0))).run P w=.ok (xs.getD i 0==ys.getD i 0) w:=run_equalIn_int w d e .i64 kd _ _ he
  simp only[List.forIn_cons,Sem.run_bind,px,py,pe,Result.andThen_ok,List.all_cons]
  cases hb:(xs.getD i 0==ys.getD i 0)
  ·simp
  ·simp only[Bool.not_true,Bool.false_eq_true,if_false,Sem.run_pure,Result.andThen_ok,Bool.true_and]
   exact ih fun j hj=>hl j (by simp[hj])
theorem Qpv (m:Nat):∀(c k:Nat) (xs ys:List Int),xs.length=(k+c)*m→ys.length=(k+c)*m→((List.range' k c).all fun i=>(xs.drop (i*m)).take m==(ys.drop (i*m)).take m)=(xs.drop (k*m)==ys.drop (k*m))
 |0,k,xs,ys,hx,hy=>by
  rw[List.drop_of_length_le (by rw[hx];exact Nat.le_refl _),List.drop_of_length_le (by rw[hy];exact Nat.le_refl _)]
  rfl
 |c+1,k,xs,ys,hx,hy=>by
  rw[List.range'_succ,List.all_cons,Qpv m c (k+1) xs ys (by rw[hx];congr 1;omega) (by rw[hy];congr 1;omega)]
  have e:(k+1)*m=k*m+m:=Nat.succ_mul k m
  have e2:(k+(c+1))*m=k*m+m+c*m:=by rw[Nat.add_mul,Nat.succ_mul];omega
  rw[e,←List.drop_drop,←List.drop_drop]
  have hl:((xs.drop (k*m)).take m).length=((ys.drop (k*m)).take m).length:=by simp;omega
  rw[Bool.eq_iff_iff,Bool.and_eq_true,beq_iff_eq,beq_iff_eq,beq_iff_eq]
  refine⟨fun h=>?_,fun h=>by rw[h];exact⟨rfl,rfl⟩⟩
  rw[←List.take_append_drop m (xs.drop (k*m)),←List.take_append_drop m (ys.drop (k*m)),h.1,h.2]
theorem Q5z {P:Program}(d:Nat) {t e:TypeId}{n m:Nat}(ht:P.underlying t=some (.array n e)) (hT:TI P e true m) (he:EqT P (d+1) e m):EqT P (d+2) t (n*m):=fun w xs ys hx hy=>by
 rw[show(xs==ys)=(xs.drop (0*m)==ys.drop (0*m)) by rw[Nat.zero_mul];rfl,←Qpv m n 0 xs ys (by rw[Nat.zero_add];exact hx) (by rw[Nat.zero_add];exact hy),Op.equalIn]
 simp only[Sem.run_bind,run_underlying ht,Result.andThen_ok,hT.size,Std.Legacy.Range.forIn_eq_forIn_range',Std.Legacy.Range.size,Nat.sub_zero,Nat.add_sub_cancel,Nat.div_one]
 have hl:∀i∈List.range' 0 n 1,i<n:=fun i hi=>by simpa using(List.mem_range'_1.1 hi).2
 generalize List.range' 0 n 1=l at hl ⊢
 induction l with
 |nil=>simp
 |cons i l ih=>
  have hi:i<n:=hl i (by simp)
  have hb:(i+1)*m≤n*m:=Nat.mul_le_mul_right m hi
  rw[Nat.succ_mul] at hb
  have hp:∀(q:List Int),q.length=n*m→(part e (q.map (Value.int .i64)).toArray (i*m)).run P w=.ok (.agg (((q.drop (i*m)).take m).map (Value.int .i64)).toArray) w:=fun q hq=>by
   have e:(q.map (Value.int .i64)).toArray.extract (i*m) (i*m+m)=(((q.drop (i*m)).take m).map (Value.int .i64)).toArray:=by
    simp[List.extract_eq_take_drop]
   simp only[part,Sem.run_bind,hT.isAgg,hT.size,Result.andThen_ok,if_true,e]
   rfl
  simp only[List.forIn_cons,Sem.run_bind,hp xs hx,hp ys hy,he w _ _ (show((xs.drop (i*m)).take m).length=m by simp;omega) (show((ys.drop (i*m)).take m).length=m by simp;omega),Result.andThen_ok,List.all_cons]
  cases hb:((xs.drop (i*m)).take m==(ys.drop (i*m)).take m)
  ·simp
  ·simp only[Bool.not_true,Bool.false_eq_true,if_false,Sem.run_pure,Result.andThen_ok,Bool.true_and]
   exact ih fun j hj=>hl j (by simp[hj])
section
variable {P : Program} {o : Oper}
end
section
variable {P : Program} {X : Nat → Nat → Prop} {φ0 : Nat → FSlot} {w0 : World} {ro : Option Nat} {Q : Exit → AS → Prop} {s : AS}
end
end
section
section
variable {P : Program} {o : Oper}
theorem aiq {α:Type}{x y:Operand}{t e:TypeId}{gg:Bool}{m:Nat}{l:List α}{i:Int}{z:α}(ht:P.underlying t=some (.slice e)) (he:TI P e gg m) (c:α→List AV) (h0:0≤i) (hj:l[i.toNat]? = some z) (h:o.op=.indexAddr t x y:=by exact rfl) :
  Qdw P o [(x,.dat m (l.map c)),(y,I i)] [] (.dptr (c z) 0) []:=Qwv h ht he rfl rfl h0 (Qzg c hj) rfl
theorem alq {α:Type}{x:Operand}{t e:TypeId}(m:Nat) (c:α→List AV) (l:List α) (ht:P.underlying t=some (.slice e)) (h:o.op=.call { callee:=.builtin .len,args := #[x],argTypes := #[t] }:=by exact rfl) :
  Qdw P o [(x,.dat m (l.map c))] [] (I (l.length:Int)) []:=Qwt (c:=c) (l:=l) (Qs5 h ht rfl)
end
end
section
class NLc {α:Type}(c:α→List AV):Prop where out:∀x,∀a∈c x,NLt 0 a
class Blt (n k:Nat):Prop where out:n<k
class NLi (k:Nat) (a:AV):Prop where out:NLt k a
class NLs (k:Nat) (l:List AV):Prop where out:∀a∈l,NLt k a
class SNi (k:Nat) (s:Slot):Prop where out:SNLt k s
class SNs (k:Nat) (l:List Slot):Prop where out:∀s∈l,SNLt k s
instance {k:Nat}:Blt 0 (k+1):=⟨Nat.succ_pos k⟩
instance {n k:Nat} [h:Blt n k]:Blt (n+1) (k+1):=⟨Nat.succ_lt_succ h.out⟩
section
variable {k n m : Nat}
instance:NLi k .any:=⟨.any⟩
instance {v:Value}:NLi k (.lit v):=⟨.lit v⟩
instance {l:List AV} [h:NLs k l]:NLi k (.agg l):=⟨.agg l h.out⟩
instance {l:List AV} [h:NLs k l]:NLi k (.tup l):=⟨.tup l h.out⟩
instance {f:Fn}{l c:List AV} [h:NLs k l] [h':NLs k c]:NLi k (.fn f l c):=⟨.fn f l c h.out h'.out⟩
instance {α:Type}{c:α→List AV}{xs:List α} [h:NLc c]:NLi k (.dat m (xs.map c)):=⟨(Qmw h.out xs).of0⟩
instance {l:List AV}{i:Nat} [h:NLs k l]:NLi k (.dptr l i):=⟨.dptr l i h.out⟩
instance {j i:Nat} [h:Blt n k]:NLi k (.ref n m j i):=⟨.ref n m j i h.out⟩
instance {j len:Nat} [h:Blt n k]:NLi k (.own n m j len):=⟨.own n m j len h.out⟩
instance {len:Nat}{ty:TypeId} [h:Blt n k]:NLi k (.gro n ty m len):=⟨.gro n ty m len h.out⟩
instance {q j len:Nat} [h:Blt n k]:NLi k (.row n q m j len):=⟨.row n q m j len h.out⟩
instance [h:Blt n k]:NLi k (.mp n):=⟨.mp n h.out⟩
instance {α:Type}{c:α→List AV}{xs:List α}{ty:TypeId} [h:Blt n k] [h':NLc c]:NLi k (.acc n ty m (xs.map c)):=⟨.acc n ty m _ h.out (Qq0 h'.out xs)⟩
instance:NLs k []:=⟨Qmv⟩
instance {a:AV}{l:List AV} [h:NLi k a] [h':NLs k l]:NLs k (a::l):=⟨Qjh h.out h'.out⟩
instance {α:Type} [AVo α] {f:Nat→α}:NLs k (arrF n f):=⟨Qb2⟩
instance {l l':List AV} [h:NLs k l] [h':NLs k l']:NLs k (l++l'):=⟨Qdb h.out h'.out⟩
instance {α:Type}{c:α→List AV}{x:α} [h:NLc c]:NLs k (c x):=⟨fun a ha=>(h.out x a ha).of0⟩
instance:SNi k .unused:=⟨.unused⟩
instance:SNi k .dead:=⟨.dead⟩
instance:SNi k .tok:=⟨.tok⟩
instance {l:List AV} [h:NLs k l]:SNi k (.own m [l]):=⟨Qtv h.out⟩
instance {α:Type}{c:α→List AV}{xs:List α} [h:NLc c]:SNi k (.own m (xs.map c)):=⟨Q5i h.out xs⟩
instance {α:Type}{c:α→List AV}{xs:List α} [h:NLc c]:SNi k (.gro m (xs.map c)):=⟨Q2b h.out xs⟩
instance:SNs k []:=⟨Qld⟩
instance {s:Slot}{l:List Slot} [h:SNi k s] [h':SNs k l]:SNs k (s::l):=⟨Qqt h.out h'.out⟩
end
section
variable {P : Program} {fn : Func} {k : Nat} {res : AV} {σ' : List Slot} {regs : List AV} (vs : List AV)
theorem fio (hr:ResL P ⟨regs,σ'⟩ fn.results.toList vs) [hn:NLi k res] [hs:SNs k σ'] (hres:res=Qpm vs:=by exact rfl) (hk:σ'.length=k:=by kernel_rfl):Fin P fn k res σ' ⟨regs,σ'⟩:=Q8x hr hres hn.out hk hs.out
theorem fie {s:AS}(h1:ResL P s fn.results.toList vs) [hn:NLi 0 res] (hres:res=Qpm vs:=by exact rfl):Fin P fn 0 res [] s:=fend ⟨vs,h1,hres⟩ hn.out
end
theorem sA {P:Program}{f:FuncId}{fn:Func}{c:Code}(hf:P.funcs[f]? = some fn) {args:List AV}{σ:List Slot}{res:AV}{σ':List Slot}(k:Nat)
  (h:∀X φ0 w0,(∀n,σ.length≤n→φ0 n=.unused)→w0.drawn≠1→AWp P X φ0 w0 none c (finA P fn k res σ') ⟨args++List.replicate (fn.ntmps-args.length) .any,σ⟩) (hb:fn.body=some c:=by exact rfl) (hσ:σ.length≤k:=by exact nle rfl):Spec P f args σ res σ':=Qon hf hb k hσ h
theorem sF {P:Program}{f:FuncId}{fn:Func}{c:Code}(hf:P.funcs[f]? = some fn) {args:List AV}{σ:List Slot}{res:AV}{σ':List Slot}(k:Nat)
  (h:∀X φ0 w0,(∀n,σ.length≤n→φ0 n=.unused)→w0.drawn≠1→AWp P X φ0 w0 none c (finM P X φ0 w0 fn k res σ') ⟨args++List.replicate (fn.ntmps-args.length) .any,σ⟩) (hb:fn.body=some c:=by exact rfl) (hσ:σ.length≤k:=by exact nle rfl):Spec P f args σ res σ':=Qon hf hb k hσ fun X φ0 w0 h1 h2=>Q25 (h X φ0 w0 h1 h2)
theorem apw {P:Program}{o:Oper}{rd:List (Operand×AV)}{f:Operand}{xs:Array Operand}{ts:Array TypeId}{g:FuncId}{vs:List AV}{res:AV}(hcall:∀vals w,(callFunc g vals).run P w=.ok (.enter g vals) w) (spec:Spec P g vs [] res [])
  [hn:NLs 0 vs] [hres:NLi 0 res] (h:o.op=.call { callee:=.value f,args:=xs,argTypes:=ts }:=by exact rfl) (hvl:vs.length=xs.size:=by exact rfl) (hrd:(f,.fn (.func g) [] [])::xs.toList.zip vs=rd:=by exact rfl):Qdw P o rd [] res []:=apv hcall spec hn.out hres.out h hvl hrd
theorem acq {P:Program}{o:Oper}{f:Operand}{xs:Array Operand}{ts:Array TypeId}{g:FuncId}{args:List AV}{σ σ':List Slot}{res:AV}(vs:List AV) (σr σr':List Slot) (res':AV) (ρ:List Nat) (hcall:∀vals w,(callFunc g vals).run P w=.ok (.enter g vals) w) (spec:Spec P g args σ res σ')
  (hargs:Rn (fun n n'=>ρ[n]? = some n'∧n<σ.length) (.agg args) (.agg vs)) (hσ:SLw (fun n n'=>ρ[n]? = some n'∧n<σ.length) σ σr) (hσ':SLw (fun n n'=>ρ[n]? = some n') σ' σr') (hres:Rn (fun n n'=>ρ[n]? = some n') res res')
  {bl eff:List (Nat×Slot)}{rd:List (Operand×AV)}(h:o.op=.call { callee:=.value f,args:=xs,argTypes:=ts }:=by exact rfl) (hdec:(decide ρ.Nodup&&(vs.length==xs.size)&&(σ'.length==ρ.length)&&Nat.ble σ.length ρ.length&&σ.all Slot.alive)=true:=by exact rfl)
  (hbl:(ρ.take σ.length).zip σr++(ρ.drop σ.length).map (fun n=>(n,Slot.unused))=bl:=by exact rfl) (heff:ρ.zip σr'=eff:=by exact rfl) (hrd:(f,.fn (.func g) [] [])::xs.toList.zip vs=rd:=by exact rfl):Qdw P o rd bl res' eff:=
 Qei (first:=[]) (cap:=[]) ρ h hcall spec hdec (by simpa using hargs) hσ hσ' hres hbl heff hrd
end
section
def Qco (g:FuncId):Prop:=∀vals w,(callFunc g vals).run prog w=.ok (.enter g vals) w
theorem entr {g : FuncId} {fn : Func} {c : Code} (h : prog.funcs[g]? = some fn) (h1 : (fn.name == "runtime.NumGoroutine") = false := by kernel_rfl) (h2 : fn.body = some c := by rfl) : Qco g := fun vals w => MuLone.run_callFunc_enter h h1 h2 vals w
def Qah (x:Int):List AV:=[K .i64 x]
theorem Qal:∀x,∀a∈Qah x,NLt 0 a:=fun _=>Qjh (.lit _) Qmv
instance:NLc Qah:=⟨Qal⟩
theorem Qt1:∀x,(Qah x).all AV.one=true:=fun _=>rfl
structure Qgr where
  Lo:Int
  Hi:Int
  deriving DecidableEq
def Qoc (x:Qgr):List AV:=Qah x.Lo++Qah x.Hi
theorem Qse:∀x,∀a∈Qoc x,NLt 0 a:=fun _=>(Qdb (Qal _) (Qal _))
instance:NLc Qoc:=⟨Qse⟩
structure Qcc where
  From:Int
  To:Int
  Seen:Qgr
  deriving DecidableEq
def Qbf (x:Qcc):List AV:=Qah x.From++Qah x.To++Qoc x.Seen
theorem Qad:∀x,∀a∈Qbf x,NLt 0 a:=fun _=>(Qdb (Qdb (Qal _) (Qal _)) (Qse _))
instance:NLc Qbf:=⟨Qad⟩
def Qob (x:List Qcc):List AV:=[.dat 4 (x.map Qbf)]
theorem Qsd:∀x,∀a∈Qob x,NLt 0 a:=fun _=>Qjh (Qmw Qad _) Qmv
instance:NLc Qob:=⟨Qsd⟩
structure Qat where
  Sites:Int
  Tests:List Qcc
  deriving DecidableEq
def Qf9 (x:Qat):List AV:=Qah x.Sites++Qob x.Tests
theorem Qy6:∀x,∀a∈Qf9 x,NLt 0 a:=fun _=>(Qdb (Qal _) (Qsd _))
instance:NLc Qf9:=⟨Qy6⟩
def Qp9 (x:List Int):List AV:=[.dat 1 (x.map Qah)]
theorem Qq1:∀x,∀a∈Qp9 x,NLt 0 a:=fun _=>Qjh (Qmw Qal _) Qmv
instance:NLc Qp9:=⟨Qq1⟩
structure Qm6 where
  Test:Int
  Before:List Int
  Behind:List Int
  deriving DecidableEq
def Qrk (x:Qm6):List AV:=Qah x.Test++Qp9 x.Before++Qp9 x.Behind
theorem Qy7:∀x,∀a∈Qrk x,NLt 0 a:=fun _=>(Qdb (Qdb (Qal _) (Qq1 _)) (Qq1 _))
instance:NLc Qrk:=⟨Qy7⟩
structure Qap where
  Amount:Int
  Price:Int
  deriving DecidableEq
def Qaz (x:Qap):List AV:=Qah x.Amount++Qah x.Price
theorem Qaw:∀x,∀a∈Qaz x,NLt 0 a:=fun _=>(Qdb (Qal _) (Qal _))
instance:NLc Qaz:=⟨Qaw⟩
def Qm3 (x:List Qap):List AV:=[.dat 2 (x.map Qaz)]
theorem Qpy:∀x,∀a∈Qm3 x,NLt 0 a:=fun _=>Qjh (Qmw Qaw _) Qmv
instance:NLc Qm3:=⟨Qpy⟩
structure Qba where
  Site:Int
  Stairs:List Qap
  deriving DecidableEq
def Qa1 (x:Qba):List AV:=Qah x.Site++Qm3 x.Stairs
theorem Qam:∀x,∀a∈Qa1 x,NLt 0 a:=fun _=>(Qdb (Qal _) (Qpy _))
instance:NLc Qa1:=⟨Qam⟩
def Qm4 (x:List Qba):List AV:=[.dat 2 (x.map Qa1)]
theorem Qpz:∀x,∀a∈Qm4 x,NLt 0 a:=fun _=>Qjh (Qmw Qam _) Qmv
instance:NLc Qm4:=⟨Qpz⟩
structure Qa7 where
  Inlets:List Qba
  Feeds:List Int
  Factor:Int
  Horizon:Int
  deriving DecidableEq
def Qhm (x:Qa7):List AV:=Qm4 x.Inlets++Qp9 x.Feeds++Qah x.Factor++Qah x.Horizon
theorem Qy8:∀x,∀a∈Qhm x,NLt 0 a:=fun _=>(Qdb (Qdb (Qdb (Qpz _) (Qq1 _)) (Qal _)) (Qal _))
instance:NLc Qhm:=⟨Qy8⟩
structure Qaa where
  Stair:Qap
  inlet:Int
  deriving DecidableEq
def Qac (x:Qaa):List AV:=Qaz x.Stair++Qah x.inlet
theorem Qab:∀x,∀a∈Qac x,NLt 0 a:=fun _=>(Qdb (Qaw _) (Qal _))
instance:NLc Qac:=⟨Qab⟩
def c_u8 (x:Int):List AV:=[K .u8 x]
theorem Qig:∀x,∀a∈c_u8 x,NLt 0 a:=fun _=>Qjh (.lit _) Qmv
instance:NLc c_u8:=⟨Qig⟩
theorem Q3y:∀x,(c_u8 x).all AV.one=true:=fun _=>rfl
structure Qe8 where
  a0:Int
  a1:Int
  a2:Int
  deriving DecidableEq
def Qlq (x:Qe8):List AV:=Qah x.a0++Qah x.a1++Qah x.a2
theorem Qy9:∀x,∀a∈Qlq x,NLt 0 a:=fun _=>(Qdb (Qdb (Qal _) (Qal _)) (Qal _))
instance:NLc Qlq:=⟨Qy9⟩
def Q6v (x:List Int):List AV:=[.dat 1 (x.map c_u8)]
theorem Q8s:∀x,∀a∈Q6v x,NLt 0 a:=fun _=>Qjh (Qmw Qig _) Qmv
instance:NLc Q6v:=⟨Q8s⟩
theorem ti59:TI prog 59 true 2:=⟨⟨_,underlying59,rfl⟩,Qfc (by kernel_rfl)⟩
theorem Qom:TI prog 104 true 144:=⟨⟨_,underlying104,rfl⟩,Qfc (by kernel_rfl)⟩
theorem Qlc:TI prog 102 true 12:=⟨⟨_,underlying102,rfl⟩,Qfc (by kernel_rfl)⟩
theorem ti3:TI prog 3 false 1:=⟨⟨_,underlying3,rfl⟩,Qfc (by kernel_rfl)⟩
theorem ti57:TI prog 57 false 1:=⟨⟨_,underlying57,rfl⟩,Qfc (by kernel_rfl)⟩
theorem ti56:TI prog 56 true 4:=⟨⟨_,underlying56,rfl⟩,Qfc (by kernel_rfl)⟩
theorem ti54:TI prog 54 true 2:=⟨⟨_,underlying54,rfl⟩,Qfc (by kernel_rfl)⟩
theorem ti76:TI prog 76 false 1:=⟨⟨_,underlying76,rfl⟩,Qfc (by kernel_rfl)⟩
theorem ti26:TI prog 26 false 1:=⟨⟨_,underlying26,rfl⟩,Qfc (by kernel_rfl)⟩
theorem ti50:TI prog 50 true 3:=⟨⟨_,underlying50,rfl⟩,Qfc (by kernel_rfl)⟩
theorem ti67:TI prog 67 false 1:=⟨⟨_,underlying67,rfl⟩,Qfc (by kernel_rfl)⟩
theorem ti90:TI prog 90 true 2:=⟨⟨_,underlying90,rfl⟩,Qfc (by kernel_rfl)⟩
theorem ti4:TI prog 4 false 1:=⟨⟨_,underlying4,rfl⟩,Qfc (by kernel_rfl)⟩
theorem ti88:TI prog 88 false 1:=⟨⟨_,underlying88,rfl⟩,Qfc (by kernel_rfl)⟩
theorem ti91:TI prog 91 true 2:=⟨⟨_,underlying91,rfl⟩,Qfc (by kernel_rfl)⟩
theorem ti69:TI prog 69 true 4:=⟨⟨_,underlying69,rfl⟩,Qfc (by kernel_rfl)⟩
theorem ti24:TI prog 24 true 2:=⟨⟨_,underlying24,rfl⟩,Qfc (by kernel_rfl)⟩
theorem ti22:TI prog 22 false 1:=⟨⟨_,underlying22,rfl⟩,Qfc (by kernel_rfl)⟩
theorem ti75:TI prog 75 true 4:=⟨⟨_,underlying75,rfl⟩,Qfc (by kernel_rfl)⟩
theorem ti73:TI prog 73 true 2:=⟨⟨_,underlying73,rfl⟩,Qfc (by kernel_rfl)⟩
theorem ti28:TI prog 28 true 4:=⟨⟨_,underlying28,rfl⟩,Qfc (by kernel_rfl)⟩
theorem ti25:TI prog 25 false 1:=⟨⟨_,underlying25,rfl⟩,Qfc (by kernel_rfl)⟩
theorem ti45:TI prog 45 true 2:=⟨⟨_,underlying45,rfl⟩,Qfc (by kernel_rfl)⟩
theorem ti43:TI prog 43 false 1:=⟨⟨_,underlying43,rfl⟩,Qfc (by kernel_rfl)⟩
theorem ti48:TI prog 48 true 2:=⟨⟨_,underlying48,rfl⟩,Qfc (by kernel_rfl)⟩
theorem ti94:TI prog 94 true 3:=⟨⟨_,underlying94,rfl⟩,Qfc (by kernel_rfl)⟩
theorem ti97:TI prog 97 false 1:=⟨⟨_,underlying97,rfl⟩,Qfc (by kernel_rfl)⟩
theorem ti60:TI prog 60 false 1:=⟨⟨_,underlying60,rfl⟩,Qfc (by kernel_rfl)⟩
theorem ti5:TI prog 5 false 1:=⟨⟨_,underlying5,rfl⟩,Qfc (by kernel_rfl)⟩
theorem ti63:TI prog 63 false 1:=⟨⟨_,underlying63,rfl⟩,Qfc (by kernel_rfl)⟩
theorem ti30:TI prog 30 true 3:=⟨⟨_,underlying30,rfl⟩,Qfc (by kernel_rfl)⟩
theorem Q9p:TI prog 106 true 290:=⟨⟨_,underlying106,rfl⟩,Qfc (by kernel_rfl)⟩
theorem Q9o:TI prog 111 true 12:=⟨⟨_,underlying111,rfl⟩,Qfc (by kernel_rfl)⟩
theorem Q9n:TS prog 106 [(0,2),(2,144),(146,144)]:=⟨_,underlying106,⟨rfl,⟨_,ti59⟩,rfl,⟨_,Qom⟩,rfl,⟨_,Qom⟩,trivial⟩⟩
theorem ts54:TS prog 54 [(0,1),(1,1)]:=⟨_,underlying54,⟨rfl,⟨_,ti3⟩,rfl,⟨_,ti3⟩,trivial⟩⟩
theorem ts56:TS prog 56 [(0,1),(1,1),(2,2)]:=⟨_,underlying56,⟨rfl,⟨_,ti3⟩,rfl,⟨_,ti3⟩,rfl,⟨_,ti54⟩,trivial⟩⟩
theorem ts59:TS prog 59 [(0,1),(1,1)]:=⟨_,underlying59,⟨rfl,⟨_,ti3⟩,rfl,⟨_,ti57⟩,trivial⟩⟩
theorem ts50:TS prog 50 [(0,1),(1,1),(2,1)]:=⟨_,underlying50,⟨rfl,⟨_,ti3⟩,rfl,⟨_,ti26⟩,rfl,⟨_,ti26⟩,trivial⟩⟩
theorem ts69:TS prog 69 [(0,1),(1,1),(2,1),(3,1)]:=⟨_,underlying69,⟨rfl,⟨_,ti67⟩,rfl,⟨_,ti26⟩,rfl,⟨_,ti3⟩,rfl,⟨_,ti3⟩,trivial⟩⟩
theorem ts90:TS prog 90 [(0,1),(1,1)]:=⟨_,underlying90,⟨rfl,⟨_,ti3⟩,rfl,⟨_,ti88⟩,trivial⟩⟩
theorem ts91:TS prog 91 [(0,1),(1,1)]:=⟨_,underlying91,⟨rfl,⟨_,ti3⟩,rfl,⟨_,ti3⟩,trivial⟩⟩
theorem ts94:TS prog 94 [(0,2),(2,1)]:=⟨_,underlying94,⟨rfl,⟨_,ti91⟩,rfl,⟨_,ti3⟩,trivial⟩⟩
theorem Q8j:TZ prog 106 [.int .i64 0,.slice none 0 0,.int .i64 0,.int .i64 0,.int .i64 0,.int .i64 0,.int .i64 0,.int .i64 0,.int .i64 0,.int .i64 0,.int .i64 0,.int .i64 0,.int .i64 0,.int .i64 0,.int .i64 0,.int .i64 0,.int .i64 0,.int .i64 0,.int .i64 0,.int .i64 0,.int .i64 0,.int .i64 0,.int .i64 0,.int .i64 0,.int .i64 0,.int .i64 0,.int .i64 0,.int .i64 0,.int .i64 0,.int .i64 0,.int .i64 0,.int .i64 0,.int .i64 0,.int .i64 0,.int .i64 0,.int .i64 0,.int .i64 0,.int .i64 0,.int .i64 0,.int .i64 0,.int .i64 0,.int .i64 0,.int .i64 0,.int .i64 0,.int .i64 0,.int .i64 0,.int .i64 0,.int .i64 0,.int .i64 0,.int .i64 0,.int .i64 0,.int .i64 0,.int .i64 0,.int .i64 0,.int .i64 0,.int .i64 0,.int .i64 0,.int .i64 0,.int .i64 0,.int .i64 0,.int .i64 0,.int .i64 0,.int .i64 0,.int .i64 0,.int .i64 0,.int .i64 0,.int .i64 0,.int .i64 0,.int .i64 0,.int .i64 0,.int .i64 0,.int .i64 0,.int .i64 0,.int .i64 0,.int .i64 0,.int .i64 0,.int .i64 0,.int .i64 0,.int .i64 0,.int .i64 0,.int .i64 0,.int .i64 0,.int .i64 0,.int .i64 0,.int .i64 0,.int .i64 0,.int .i64 0,.int .i64 0,.int .i64 0,.int .i64 0,.int .i64 0,.int .i64 0,.int .i64 0,.int .i64 0,.int .i64 0,.int .i64 0,.int .i64 0,.int .i64 0,.int .i64 0,.int .i64 0,.int .i64 0,.int .i64 0,.int .i64 0,.int .i64 0,.int .i64 0,.int .i64 0,.int .i64 0,.int .i64 0,.int .i64 0,.int .i64 0,.int .i64 0,.int .i64 0,.int .i64 0,.int .i64 0,.int .i64 0,.int .i64 0,.int .i64 0,.int .i64 0,.int .i64 0,.int .i64 0,.int .i64 0,.int .i64 0,.int .i64 0,.int .i64 0,.int .i64 0,.int .i64 0,.int .i64 0,.int .i64 0,.int .i64 0,.int .i64 0,.int .i64 0,.int .i64 0,.int .i64 0,.int .i64 0,.int .i64 0,.int .i64 0,.int .i64 0,.int .i64 0,.int .i64 0,.int .i64 0,.int .i64 0,.int .i64 0,.int .i64 0,.int .i64 0,.int .i64 0,.int .i64 0,.int .i64 0,.int .i64 0,.int .i64 0,.int .i64 0,.int .i64 0,.int .i64 0,.int .i64 0,.int .i64 0,.int .i64 0,.int .i64 0,.int .i64 0,.int .i64 0,.int .i64 0,.int .i64 0,.int .i64 0,.int .i64 0,.int .i64 0,.int .i64 0,.int .i64 0,.int .i64 0,.int .i64 0,.int .i64 0,.int .i64 0,.int .i64 0,.int .i64 0,.int .i64 0,.int .i64 0,.int .i64 0,.int .i64 0,.int .i64 0,.int .i64 0,.int .i64 0,.int .i64 0,.int .i64 0,.int .i64 0,.int .i64 0,.int .i64 0,.int .i64 0,.int .i64 0,.int .i64 0,.int .i64 0,.int .i64 0,.int .i64 0,.int .i64 0,.int .i64 0,.int .i64 0,.int .i64 0,.int .i64 0,.int .i64 0,.int .i64 0,.int .i64 0,.int .i64 0,.int .i64 0,.int .i64 0,.int .i64 0,.int .i64 0,.int .i64 0,.int .i64 0,.int .i64 0,.int .i64 0,.int .i64 0,.int .i64 0,.int .i64 0,.int .i64 0,.int .i64 0,.int .i64 0,.int .i64 0,.int .i64 0,.int .i64 0,.int .i64 0,.int .i64 0,.int .i64 0,.int .i64 0,.int .i64 0,.int .i64 0,.int .i64 0,.int .i64 0,.int .i64 0,.int .i64 0,.int .i64 0,.int .i64 0,.int .i64 0,.int .i64 0,.int .i64 0,.int .i64 0,.int .i64 0,.int .i64 0,.int .i64 0,.int .i64 0,.int .i64 0,.int .i64 0,.int .i64 0,.int .i64 0,.int .i64 0,.int .i64 0,.int .i64 0,.int .i64 0,.int .i64 0,.int .i64 0,.int .i64 0,.int .i64 0,.int .i64 0,.int .i64 0,.int .i64 0,.int .i64 0,.int .i64 0,.int .i64 0,.int .i64 0,.int .i64 0,.int .i64 0,.int .i64 0,.int .i64 0,.int .i64 0,.int .i64 0,.int .i64 0,.int .i64 0,.int .i64 0,.int .i64 0,.int .i64 0,.int .i64 0,.int .i64 0,.int .i64 0,.int .i64 0,.int .i64 0,.int .i64 0,.int .i64 0,.int .i64 0,.int .i64 0,.int .i64 0,.int .i64 0,.int .i64 0,.int .i64 0,.int .i64 0,.int .i64 0,.int .i64 0,.int .i64 0,.int .i64 0,.int .i64 0,.int .i64 0,.int .i64 0,.int .i64 0,.int .i64 0,.int .i64 0,.int .i64 0]:=Qkv (by kernel_rfl)
theorem Q9m:TZ prog 104 [.int .i64 0,.int .i64 0,.int .i64 0,.int .i64 0,.int .i64 0,.int .i64 0,.int .i64 0,.int .i64 0,.int .i64 0,.int .i64 0,.int .i64 0,.int .i64 0,.int .i64 0,.int .i64 0,.int .i64 0,.int .i64 0,.int .i64 0,.int .i64 0,.int .i64 0,.int .i64 0,.int .i64 0,.int .i64 0,.int .i64 0,.int .i64 0,.int .i64 0,.int .i64 0,.int .i64 0,.int .i64 0,.int .i64 0,.int .i64 0,.int .i64 0,.int .i64 0,.int .i64 0,.int .i64 0,.int .i64 0,.int .i64 0,.int .i64 0,.int .i64 0,.int .i64 0,.int .i64 0,.int .i64 0,.int .i64 0,.int .i64 0,.int .i64 0,.int .i64 0,.int .i64 0,.int .i64 0,.int .i64 0,.int .i64 0,.int .i64 0,.int .i64 0,.int .i64 0,.int .i64 0,.int .i64 0,.int .i64 0,.int .i64 0,.int .i64 0,.int .i64 0,.int .i64 0,.int .i64 0,.int .i64 0,.int .i64 0,.int .i64 0,.int .i64 0,.int .i64 0,.int .i64 0,.int .i64 0,.int .i64 0,.int .i64 0,.int .i64 0,.int .i64 0,.int .i64 0,.int .i64 0,.int .i64 0,.int .i64 0,.int .i64 0,.int .i64 0,.int .i64 0,.int .i64 0,.int .i64 0,.int .i64 0,.int .i64 0,.int .i64 0,.int .i64 0,.int .i64 0,.int .i64 0,.int .i64 0,.int .i64 0,.int .i64 0,.int .i64 0,.int .i64 0,.int .i64 0,.int .i64 0,.int .i64 0,.int .i64 0,.int .i64 0,.int .i64 0,.int .i64 0,.int .i64 0,.int .i64 0,.int .i64 0,.int .i64 0,.int .i64 0,.int .i64 0,.int .i64 0,.int .i64 0,.int .i64 0,.int .i64 0,.int .i64 0,.int .i64 0,.int .i64 0,.int .i64 0,.int .i64 0,.int .i64 0,.int .i64 0,.int .i64 0,.int .i64 0,.int .i64 0,.int .i64 0,.int .i64 0,.int .i64 0,.int .i64 0,.int .i64 0,.int .i64 0,.int .i64 0,.int .i64 0,.int .i64 0,.int .i64 0,.int .i64 0,.int .i64 0,.int .i64 0,.int .i64 0,.int .i64 0,.int .i64 0,.int .i64 0,.int .i64 0,.int .i64 0,.int .i64 0,.int .i64 0,.int .i64 0,.int .i64 0,.int .i64 0,.int .i64 0,.int .i64 0]:=Qkv (by kernel_rfl)
theorem tz56:TZ prog 56 [.int .i64 0,.int .i64 0,.int .i64 0,.int .i64 0]:=Qkv (by kernel_rfl)
theorem Q59:Qco 52:=entr func52
theorem Q52:Qco 64:=entr func64
theorem Q53:Qco 63:=entr func63
theorem Q58:Qco 53:=entr func53
theorem tz54:TZ prog 54 [.int .i64 0,.int .i64 0]:=Qkv (by kernel_rfl)
theorem tz59:TZ prog 59 [.int .i64 0,.slice none 0 0]:=Qkv (by kernel_rfl)
theorem tz50:TZ prog 50 [.int .i64 0,.slice none 0 0,.slice none 0 0]:=Qkv (by kernel_rfl)
theorem Qjn:Qco 34:=entr func34
theorem Qnh:Qco 43:=entr func43
theorem Qz9:Qco 42:=entr func42
theorem Qre:Qco 35:=entr func35
theorem Q0d:Qco 25:=entr func25
theorem Qrh:Qco 26:=entr func26
theorem Qrf:Qco 28:=entr func28
theorem tz3:TZ prog 3 [.int .i64 0]:=Qkv (by kernel_rfl)
theorem te3:TE prog 3 1 8:=Qv8 (by kernel_rfl) (by decide)
theorem Qz7:Qco 46:=entr func46
theorem Qz8:Qco 45:=entr func45
theorem Qrg:Qco 27:=entr func27
theorem Q6d:Qco 44:=entr func44
theorem Q6p:Qco 15:=entr func15
theorem Qz6:Qco 50:=entr func50
theorem Q6b:Qco 49:=entr func49
theorem Q9l:TZ prog 111 [.bool false,.bool false,.bool false,.bool false,.bool false,.bool false,.bool false,.bool false,.bool false,.bool false,.bool false,.bool false]:=Qkv (by kernel_rfl)
theorem tz90:TZ prog 90 [.int .i64 0,.slice none 0 0]:=Qkv (by kernel_rfl)
theorem Qz2:Qco 60:=entr func60
theorem Q56:Qco 59:=entr func59
theorem Q54:Qco 62:=entr func62
theorem Q51:Qco 66:=entr func66
theorem Q55:Qco 61:=entr func61
theorem Q6a:Qco 51:=entr func51
theorem Q0c:Qco 33:=entr func33
theorem tz91:TZ prog 91 [.int .i64 0,.int .i64 0]:=Qkv (by kernel_rfl)
theorem Q57:Qco 58:=entr func58
theorem Q6f:Qco 40:=entr func40
theorem Q6e:Qco 41:=entr func41
theorem tz75:TZ prog 75 [.int .i64 0,.int .i64 0,.int .i64 0,.int .i64 0]:=Qkv (by kernel_rfl)
theorem te56:TE prog 56 4 32:=Qv8 (by kernel_rfl) (by decide)
theorem Q0f:Qco 22:=entr func22
theorem tz69:TZ prog 69 [.slice none 0 0,.slice none 0 0,.int .i64 0,.int .i64 0]:=Qkv (by kernel_rfl)
theorem tz48:TZ prog 48 [.int .i64 0,.int .i64 0]:=Qkv (by kernel_rfl)
theorem te91:TE prog 91 2 16:=Qv8 (by kernel_rfl) (by decide)
theorem te90:TE prog 90 2 32:=Qv8 (by kernel_rfl) (by decide)
theorem Q0e:Qco 23:=entr func23
theorem tz26:TZ prog 26 [.slice none 0 0]:=Qkv (by kernel_rfl)
theorem Qz4:Qco 55:=entr func55
theorem Qz5:Qco 54:=entr func54
theorem Qub:Qco 47:=entr func47
theorem Quc:Qco 29:=entr func29
theorem Q0b:Qco 36:=entr func36
theorem tz94:TZ prog 94 [.int .i64 0,.int .i64 0,.int .i64 0]:=Qkv (by kernel_rfl)
theorem te94:TE prog 94 3 24:=Qv8 (by kernel_rfl) (by decide)
theorem Qra:Qco 67:=entr func67
theorem Qng:Qco 70:=entr func70
theorem Qz0:Qco 69:=entr func69
theorem Qlk:Qco 68:=entr func68
theorem Qz1:Qco 65:=entr func65
theorem Qz3:Qco 56:=entr func56
theorem Qrc:Qco 38:=entr func38
theorem Qrd:Qco 37:=entr func37
theorem Q0a:Qco 39:=entr func39
theorem Qrb:Qco 57:=entr func57
theorem Q6k:Qco 21:=entr func21
theorem Q6j:Qco 24:=entr func24
theorem Q6o:Qco 17:=entr func17
theorem Q0g:Qco 16:=entr func16
theorem Q6i:Qco 30:=entr func30
theorem Q6n:Qco 18:=entr func18
theorem Q6l:Qco 20:=entr func20
theorem Q6g:Qco 32:=entr func32
theorem Q6c:Qco 48:=entr func48
theorem Q6h:Qco 31:=entr func31
theorem Q6m:Qco 19:=entr func19
theorem tz5:TZ prog 5 [.int .u8 0]:=Qkv (by kernel_rfl)
theorem tz30:TZ prog 30 [.int .i64 0,.int .i64 0,.int .i64 0]:=Qkv (by kernel_rfl)
theorem Qzz:Qco 9:=entr func9
theorem Qj3:Qco 12:=entr func12
theorem Qri:Qco 13:=entr func13
theorem Q6q:Qco 11:=entr func11
theorem tz45:TZ prog 45 [.int .i64 0,.slice none 0 0]:=Qkv (by kernel_rfl)
theorem Q0h:Qco 14:=entr func14
theorem Q83:Qco 4:=entr func4
theorem Qja:Qco 7:=entr func7
theorem Qnv:Qco 8:=entr func8
theorem Q82:Qco 5:=entr func5
theorem Q81:Qco 6:=entr func6
theorem te5:TE prog 5 1 1:=Qv8 (by kernel_rfl) (by decide)
theorem Qud:Qco 10:=entr func10
theorem Qua:EqT prog 9999 102 12:=Q2u 9997 underlying102 underlying3 ti3
theorem Q80:EqT prog 10000 104 144:=Q5z 9998 underlying104 Qlc Qua
def tyT:Tab:=.node 59 ⟨true,2,(some [.int .i64 0,.slice none 0 0]),[(0,false,1),(1,false,1)]⟩ (.node 30 ⟨true,3,(some [.int .i64 0,.int .i64 0,.int .i64 0]),[]⟩ (.node 24 ⟨true,2,none,[(0,false,1),(1,false,1)]⟩ (.node 5 ⟨false,1,(some [.int .u8 0]),[]⟩ (.node 4 ⟨false,1,none,[]⟩ (.node 3 ⟨false,1,(some [.int .i64 0]),[]⟩ .nil .nil) .nil) (.node 22 ⟨false,1,none,[]⟩ .nil .nil)) (.node 26 ⟨false,1,(some [.slice none 0 0]),[]⟩ (.node 25 ⟨false,1,none,[]⟩ .nil .nil) (.node 28 ⟨true,4,none,[(0,false,1),(1,false,1),(2,false,1),(3,false,1)]⟩ .nil .nil))) (.node 50 ⟨true,3,(some [.int .i64 0,.slice none 0 0,.slice none 0 0]),[(0,false,1),(1,false,1),(2,false,1)]⟩ (.node 45 ⟨true,2,(some [.int .i64 0,.slice none 0 0]),[(0,false,1),(1,false,1)]⟩ (.node 43 ⟨false,1,none,[]⟩ .nil .nil) (.node 48 ⟨true,2,(some [.int .i64 0,.int .i64 0]),[(0,false,1),(1,false,1)]⟩ .nil .nil)) (.node 56 ⟨true,4,(some [.int .i64 0,.int .i64 0,.int .i64 0,.int .i64 0]),[(0,false,1),(1,false,1),(2,true,2)]⟩ (.node 54 ⟨true,2,(some [.int .i64 0,.int .i64 0]),[(0,false,1),(1,false,1)]⟩ .nil .nil) (.node 57 ⟨false,1,none,[]⟩ .nil .nil)))) (.node 90 ⟨true,2,(some [.int .i64 0,.slice none 0 0]),[(0,false,1),(1,false,1)]⟩ (.node 73 ⟨true,2,none,[(0,false,1),(1,false,1)]⟩ (.node 67 ⟨false,1,none,[]⟩ (.node 63 ⟨false,1,none,[]⟩ (.node 60 ⟨false,1,none,[]⟩ .nil .nil) .nil) (.node 69 ⟨true,4,(some [.slice none 0 0,.slice none 0 0,.int .i64 0,.int .i64 0]),[(0,false,1),(1,false,1),(2,false,1),(3,false,1)]⟩ .nil .nil)) (.node 76 ⟨false,1,none,[]⟩ (.node 75 ⟨true,4,(some [.int .i64 0,.int .i64 0,.int .i64 0,.int .i64 0]),[(0,false,1),(1,false,1),(2,true,2)]⟩ .nil .nil) (.node 88 ⟨false,1,none,[]⟩ .nil .nil))) (.node 102 ⟨true,12,none,[]⟩ (.node 94 ⟨true,3,(some [.int .i64 0,.int .i64 0,.int .i64 0]),[(0,true,2),(2,false,1)]⟩ (.node 91 ⟨true,2,(some [.int .i64 0,.int .i64 0]),[(0,false,1),(1,false,1)]⟩ .nil .nil) (.node 97 ⟨false,1,none,[]⟩ .nil .nil)) (.node 106 ⟨true,290,(some [.int .i64 0,.slice none 0 0,.int .i64 0,.int .i64 0,.int .i64 0,.int .i64 0,.int .i64 0,.int .i64 0,.int .i64 0,.int .i64 0,.int .i64 0,.int .i64 0,.int .i64 0,.int .i64 0,.int .i64 0,.int .i64 0,.int .i64 0,.int .i64 0,.int .i64 0,.int .i64 0,.int .i64 0,.int .i64 0,.int .i64 0,.int .i64 0,.int .i64 0,.int .i64 0,.int .i64 0,.int .i64 0,.int .i64 0,.int .i64 0,.int .i64 0,.int .i64 0,.int .i64 0,.int .i64 0,.int .i64 0,.int .i64 0,.int .i64 0,.int .i64 0,.int .i64 0,.int .i64 0,.int .i64 0,.int .i64 0,.int .i64 0,.int .i64 0,.int .i64 0,.int .i64 0,.int .i64 0,.int .i64 0,.int .i64 0,.int .i64 0,.int .i64 0,.int .i64 0,.int .i64 0,.int .i64 0,.int .i64 0,.int .i64 0,.int .i64 0,.int .i64 0,.int .i64 0,.int .i64 0,.int .i64 0,.int .i64 0,.int .i64 0,.int .i64 0,.int .i64 0,.int .i64 0,.int .i64 0,.int .i64 0,.int .i64 0,.int .i64 0,.int .i64 0,.int .i64 0,.int .i64 0,.int .i64 0,.int .i64 0,.int .i64 0,.int .i64 0,.int .i64 0,.int .i64 0,.int .i64 0,.int .i64 0,.int .i64 0,.int .i64 0,.int .i64 0,.int .i64 0,.int .i64 0,.int .i64 0,.int .i64 0,.int .i64 0,.int .i64 0,.int .i64 0,.int .i64 0,.int .i64 0,.int .i64 0,.int .i64 0,.int .i64 0,.int .i64 0,.int .i64 0,.int .i64 0,.int .i64 0,.int .i64 0,.int .i64 0,.int .i64 0,.int .i64 0,.int .i64 0,.int .i64 0,.int .i64 0,.int .i64 0,.int .i64 0,.int .i64 0,.int .i64 0,.int .i64 0,.int .i64 0,.int .i64 0,.int .i64 0,.int .i64 0,.int .i64 0,.int .i64 0,.int .i64 0,.int .i64 0,.int .i64 0,.int .i64 0,.int .i64 0,.int .i64 0,.int .i64 0,.int .i64 0,.int .i64 0,.int .i64 0,.int .i64 0,.int .i64 0,.int .i64 0,.int .i64 0,.int .i64 0,.int .i64 0,.int .i64 0,.int .i64 0,.int .i64 0,.int .i64 0,.int .i64 0,.int .i64 0,.int .i64 0,.int .i64 0,.int .i64 0,.int .i64 0,.int .i64 0,.int .i64 0,.int .i64 0,.int .i64 0,.int .i64 0,.int .i64 0,.int .i64 0,.int .i64 0,.int .i64 0,.int .i64 0,.int .i64 0,.int .i64 0,.int .i64 0,.int .i64 0,.int .i64 0,.int .i64 0,.int .i64 0,.int .i64 0,.int .i64 0,.int .i64 0,.int .i64 0,.int .i64 0,.int .i64 0,.int .i64 0,.int .i64 0,.int .i64 0,.int .i64 0,.int .i64 0,.int .i64 0,.int .i64 0,.int .i64 0,.int .i64 0,.int .i64 0,.int .i64 0,.int .i64 0,.int .i64 0,.int .i64 0,.int .i64 0,.int .i64 0,.int .i64 0,.int .i64 0,.int .i64 0,.int .i64 0,.int .i64 0,.int .i64 0,.int .i64 0,.int .i64 0,.int .i64 0,.int .i64 0,.int .i64 0,.int .i64 0,.int .i64 0,.int .i64 0,.int .i64 0,.int .i64 0,.int .i64 0,.int .i64 0,.int .i64 0,.int .i64 0,.int .i64 0,.int .i64 0,.int .i64 0,.int .i64 0,.int .i64 0,.int .i64 0,.int .i64 0,.int .i64 0,.int .i64 0,.int .i64 0,.int .i64 0,.int .i64 0,.int .i64 0,.int .i64 0,.int .i64 0,.int .i64 0,.int .i64 0,.int .i64 0,.int .i64 0,.int .i64 0,.int .i64 0,.int .i64 0,.int .i64 0,.int .i64 0,.int .i64 0,.int .i64 0,.int .i64 0,.int .i64 0,.int .i64 0,.int .i64 0,.int .i64 0,.int .i64 0,.int .i64 0,.int .i64 0,.int .i64 0,.int .i64 0,.int .i64 0,.int .i64 0,.int .i64 0,.int .i64 0,.int .i64 0,.int .i64 0,.int .i64 0,.int .i64 0,.int .i64 0,.int .i64 0,.int .i64 0,.int .i64 0,.int .i64 0,.int .i64 0,.int .i64 0,.int .i64 0,.int .i64 0,.int .i64 0,.int .i64 0,.int .i64 0,.int .i64 0,.int .i64 0,.int .i64 0,.int .i64 0,.int .i64 0,.int .i64 0,.int .i64 0,.int .i64 0,.int .i64 0,.int .i64 0,.int .i64 0,.int .i64 0,.int .i64 0,.int .i64 0,.int .i64 0,.int .i64 0,.int .i64 0,.int .i64 0,.int .i64 0,.int .i64 0,.int .i64 0,.int .i64 0,.int .i64 0,.int .i64 0,.int .i64 0,.int .i64 0,.int .i64 0,.int .i64 0,.int .i64 0,.int .i64 0,.int .i64 0]),[(0,true,2),(2,true,144),(146,true,144)]⟩ (.node 104 ⟨true,144,(some [.int .i64 0,.int .i64 0,.int .i64 0,.int .i64 0,.int .i64 0,.int .i64 0,.int .i64 0,.int .i64 0,.int .i64 0,.int .i64 0,.int .i64 0,.int .i64 0,.int .i64 0,.int .i64 0,.int .i64 0,.int .i64 0,.int .i64 0,.int .i64 0,.int .i64 0,.int .i64 0,.int .i64 0,.int .i64 0,.int .i64 0,.int .i64 0,.int .i64 0,.int .i64 0,.int .i64 0,.int .i64 0,.int .i64 0,.int .i64 0,.int .i64 0,.int .i64 0,.int .i64 0,.int .i64 0,.int .i64 0,.int .i64 0,.int .i64 0,.int .i64 0,.int .i64 0,.int .i64 0,.int .i64 0,.int .i64 0,.int .i64 0,.int .i64 0,.int .i64 0,.int .i64 0,.int .i64 0,.int .i64 0,.int .i64 0,.int .i64 0,.int .i64 0,.int .i64 0,.int .i64 0,.int .i64 0,.int .i64 0,.int .i64 0,.int .i64 0,.int .i64 0,.int .i64 0,.int .i64 0,.int .i64 0,.int .i64 0,.int .i64 0,.int .i64 0,.int .i64 0,.int .i64 0,.int .i64 0,.int .i64 0,.int .i64 0,.int .i64 0,.int .i64 0,.int .i64 0,.int .i64 0,.int .i64 0,.int .i64 0,.int .i64 0,.int .i64 0,.int .i64 0,.int .i64 0,.int .i64 0,.int .i64 0,.int .i64 0,.int .i64 0,.int .i64 0,.int .i64 0,.int .i64 0,.int .i64 0,.int .i64 0,.int .i64 0,.int .i64 0,.int .i64 0,.int .i64 0,.int .i64 0,.int .i64 0,.int .i64 0,.int .i64 0,.int .i64 0,.int .i64 0,.int .i64 0,.int .i64 0,.int .i64 0,.int .i64 0,.int .i64 0,.int .i64 0,.int .i64 0,.int .i64 0,.int .i64 0,.int .i64 0,.int .i64 0,.int .i64 0,.int .i64 0,.int .i64 0,.int .i64 0,.int .i64 0,.int .i64 0,.int .i64 0,.int .i64 0,.int .i64 0,.int .i64 0,.int .i64 0,.int .i64 0,.int .i64 0,.int .i64 0,.int .i64 0,.int .i64 0,.int .i64 0,.int .i64 0,.int .i64 0,.int .i64 0,.int .i64 0,.int .i64 0,.int .i64 0,.int .i64 0,.int .i64 0,.int .i64 0,.int .i64 0,.int .i64 0,.int .i64 0,.int .i64 0,.int .i64 0,.int .i64 0,.int .i64 0,.int .i64 0,.int .i64 0]),[]⟩ .nil .nil) (.node 111 ⟨true,12,(some [.bool false,.bool false,.bool false,.bool false,.bool false,.bool false,.bool false,.bool false,.bool false,.bool false,.bool false,.bool false]),[]⟩ .nil .nil))))
theorem tbk:tyT.ok prog:=⟨⟨ti59,tz59,.inr ⟨_,underlying59,rfl,ti3,rfl,ti57,trivial⟩⟩,⟨⟨ti30,tz30,.inl rfl⟩,⟨⟨ti24,trivial,.inr ⟨_,underlying24,rfl,ti3,rfl,ti22,trivial⟩⟩,⟨⟨ti5,tz5,.inl rfl⟩,⟨⟨ti4,trivial,.inl rfl⟩,⟨⟨ti3,tz3,.inl rfl⟩,trivial,trivial⟩,trivial⟩,⟨⟨ti22,trivial,.inl rfl⟩,trivial,trivial⟩⟩,⟨⟨ti26,tz26,.inl rfl⟩,⟨⟨ti25,trivial,.inl rfl⟩,trivial,trivial⟩,⟨⟨ti28,trivial,.inr ⟨_,underlying28,rfl,ti25,rfl,ti26,rfl,ti3,rfl,ti3,trivial⟩⟩,trivial,trivial⟩⟩⟩,⟨⟨ti50,tz50,.inr ⟨_,underlying50,rfl,ti3,rfl,ti26,rfl,ti26,trivial⟩⟩,⟨⟨ti45,tz45,.inr ⟨_,underlying45,rfl,ti3,rfl,ti43,trivial⟩⟩,⟨⟨ti43,trivial,.inl rfl⟩,trivial,trivial⟩,⟨⟨ti48,tz48,.inr ⟨_,underlying48,rfl,ti3,rfl,ti3,trivial⟩⟩,trivial,trivial⟩⟩,⟨⟨ti56,tz56,.inr ⟨_,underlying56,rfl,ti3,rfl,ti3,rfl,ti54,trivial⟩⟩,⟨⟨ti54,tz54,.inr ⟨_,underlying54,rfl,ti3,rfl,ti3,trivial⟩⟩,trivial,trivial⟩,⟨⟨ti57,trivial,.inl rfl⟩,trivial,trivial⟩⟩⟩⟩,⟨⟨ti90,tz90,.inr ⟨_,underlying90,rfl,ti3,rfl,ti88,trivial⟩⟩,⟨⟨ti73,trivial,.inr ⟨_,underlying73,rfl,ti3,rfl,ti3,trivial⟩⟩,⟨⟨ti67,trivial,.inl rfl⟩,⟨⟨ti63,trivial,.inl rfl⟩,⟨⟨ti60,trivial,.inl rfl⟩,trivial,trivial⟩,trivial⟩,⟨⟨ti69,tz69,.inr ⟨_,underlying69,rfl,ti67,rfl,ti26,rfl,ti3,rfl,ti3,trivial⟩⟩,trivial,trivial⟩⟩,⟨⟨ti76,trivial,.inl rfl⟩,⟨⟨ti75,tz75,.inr ⟨_,underlying75,rfl,ti3,rfl,ti3,rfl,ti73,trivial⟩⟩,trivial,trivial⟩,⟨⟨ti88,trivial,.inl rfl⟩,trivial,trivial⟩⟩⟩,⟨⟨Qlc,trivial,.inl rfl⟩,⟨⟨ti94,tz94,.inr ⟨_,underlying94,rfl,ti91,rfl,ti3,trivial⟩⟩,⟨⟨ti91,tz91,.inr ⟨_,underlying91,rfl,ti3,rfl,ti3,trivial⟩⟩,trivial,trivial⟩,⟨⟨ti97,trivial,.inl rfl⟩,trivial,trivial⟩⟩,⟨⟨Q9p,Q8j,.inr ⟨_,underlying106,rfl,ti59,rfl,Qom,rfl,Qom,trivial⟩⟩,⟨⟨Qom,Q9m,.inl rfl⟩,trivial,trivial⟩,⟨⟨Q9o,Q9l,.inl rfl⟩,trivial,trivial⟩⟩⟩⟩⟩
section
variable {ops : Array Oper} {X : Nat → Nat → Prop} {φ0 : Nat → FSlot} {w0 : World} {ro : Option Nat} {Q : Exit → AS → Prop} {s : AS} {id : Nat} {y : Code}
theorem wxz (h:AWp prog X φ0 w0 ro y Q (Qnz tyT ops [] s)) (hm:MetX tyT ops [] s:=by exact⟨by kernel_rfl,by kernel_rfl⟩):AWp prog X φ0 w0 ro (.seq (.region id ops false) y) Q s:=Q86 tbk [] trivial h hm
theorem wxz1 (h:Q .normal (Qnz tyT ops [] s)) (hm:MetX tyT ops [] s:=by exact⟨by kernel_rfl,by kernel_rfl⟩):AWp prog X φ0 w0 ro (.region id ops false) Q s:=Q36 tbk [] trivial h hm
theorem wxe (h:AWp prog X φ0 w0 ro y Q (Qnz tyT ops [] s)) (hf:prog.follows .mixedOrders=true:=by kernel_rfl) (hm:MetX tyT ops [] s:=by exact⟨by kernel_rfl,by kernel_rfl⟩) (ho:Qgv (ops.toList.zip (Qtz tyT ops [] s)) [] []=true:=by kernel_rfl):AWp prog X φ0 w0 ro (.seq (.region id ops true) y) Q s:=Q35 tbk [] trivial h hf hm ho
end
end
section
open Go.ChangeShapes Go.WideShapes Go.ChangeAt Go.RowKit Go.Deep Go.Joins
theorem Try.own:ownKnob prog.godebug=none:=by kernel_rfl
theorem Try.laidOut:laidOutB prog=true:=by kernel_rfl
def noX:Nat→Nat→Prop:=fun _ _=>False
def noφ:Nat→FSlot:=fun _=>.unused
def RelL (w:World):List AV→List Value→Prop
 |[],[]=>True
 |a::l,v::k=>RelV noX noφ w a v∧RelL w l k
 |_,_=>False
theorem RelL.get {w:World}:∀{l:List AV}{k:List Value},RelL w l k→k.length=l.length∧∀i a,l[i]? = some a→RelV noX noφ w a (k.getD i undef)
 |[],[],_=>⟨rfl,by simp⟩
 |_::_,_::_,h=>by
  obtain⟨h1,h2⟩:=RelL.get h.2
  refine⟨by simp[h1],fun i a hi=>?_⟩
  cases i with
  |zero=>simp at hi;subst hi;exact h.1
  |succ i=>simpa using h2 i a (by simpa using hi)
theorem RelL.app {w:World}:∀{l l':List AV}{k k':List Value},RelL w l k→RelL w l' k'→RelL w (l++l') (k++k')
 |[],_,[],_,_,h=>h
 |_::_,_,_::_,_,h,h'=>⟨h.1,RelL.app h.2 h'⟩
theorem Qzk {P:Program}{f:FuncId}{args:List AV}(h:Spec P f args [] (B true) []) {w:World}{vals:Array Value}(hr:RelL w args vals.toList):Calls P f vals w fun e w'=>e=.returned (.bool true)∧Below w.heap.size w w':=by
 obtain⟨h1,h2⟩:=hr.get
 refine(h.calls (X:=noX) (φ:=noφ) (by simpa using h1) (fun i a hi=>?_) (fun _=>rfl) (fun _ _ h=>h.elim)).mono ?_
 ·have:=h2 i a hi
  simpa [Array.getD_eq_getD_getElem?,List.getD_eq_getElem?_getD] using this
 ·rintro e w' ⟨v,φ',rfl,hv,hb⟩
  rw[Qd6 hv]
  exact⟨rfl,hb⟩
def Opn (P:Program) (t:TypeId) (n:Nat) {T:Type}(c:T→List AV) (G:T→Prop):Prop:=
 P.cellsOf t=n∧(∀x,(c x).length=n)∧∀(H:Type) (enc:TypeId×Value→H) (w:World) (base:Nat) (spare:Nat→Bool) (held:Bool) (fuel:Nat) (cs:List Value) (x:DataW H×List MemPlace),
  DataW.trod enc P w base spare held fuel t cs=some x→(∀q∈x.1.weights P t,q≤reachBytes)→∃v:T,G v∧RelL w (c v) cs
theorem Qt0 {P:Program}{t:TypeId}{k:IntKind}(ht:P.underlying t=some (.int k)) (hc:P.cellsOf t=1):Opn P t 1 (fun x:Int=>[K k x]) (fun x=>(Lit.int k x).wf=true):=
 ⟨hc,fun _=>rfl,fun _ _ _ _ _ _ _ _ _ h _=>by
  obtain⟨n,rfl,_,hw⟩:=DataW.trod_int ht h
  exact⟨n,hw,.lit _,trivial⟩⟩
theorem Q5f {w:World}{a:Addr}{v:Value}(h:w.cell? a=some v):a.spot=none∧a.block<w.heap.size:=by
 unfold World.cell? at h
 split at h
 ·rename_i hb
  split at h
  ·cases h
  ·rename_i hs
   exact⟨by simpa using hs,(Array.getElem?_eq_some_iff.1 hb).1⟩
 ·cases h
theorem Qlr (b o i:Nat):(⟨b,o,none⟩:Addr).add i=⟨b,o+i,none⟩:=by
 unfold Addr.add
 split
 ·rename_i h
  subst h
  rfl
 ·rfl
theorem Qsb {T:Type}{p:Nat→T→Prop}:∀(n:Nat),(∀i,i<n→∃x,p i x)→∃l:List T,l.length=n∧∀i x,l[i]? = some x→p i x
 |0,_=>⟨[],rfl,by simp⟩
 |n+1,h=>by
  obtain⟨l,h1,h2⟩:=Qsb n fun i hi=>h i (Nat.lt_succ_of_lt hi)
  obtain⟨x,hx⟩:=h n (Nat.lt_succ_self n)
  refine⟨l++[x],by simp[h1],fun i y hi=>?_⟩
  rcases Nat.lt_or_ge i n with hlt |hge
  ·rw[List.getElem?_append_left (by omega)] at hi
   exact h2 i y hi
  ·rw[List.getElem?_append_right (by omega)] at hi
   have:i=n:=by
    have:=(List.getElem?_eq_some_iff.1 hi).1
    simp at this
    omega
   subst this
   simp[h1] at hi
   exact hi▸hx
theorem Ql3 {H:Type}{P:Program}{e:TypeId}:∀{l:List (DataW H)}{d:DataW H},d∈l→∀q∈d.weights P e,q∈DataW.weightsAll P e l
 |[],_,h,_,_=>by cases h
 |x::l,d,h,q,hq=>by
  rw[DataW.weightsAll]
  rcases List.mem_cons.1 h with rfl |h
  ·exact List.mem_append_left _ hq
  ·exact List.mem_append_right _ (Ql3 h q hq)
theorem Qlg {P:Program}{t e:TypeId}{n bb:Nat}{T:Type}{c:T→List AV}{G:T→Prop}(ht:P.underlying t=some (.slice e)) (hc:P.cellsOf t=1) (he:Opn P e n c G) (hn:0<n) (hbb:P.bytesOf e=bb) :
  Opn P t 1 (fun l:List T=>[.dat n (l.map c)]) (fun l=>l.length≤maxLen∧(∀x∈l,G x)∧l.length*bb≤140737488351232):=
 ⟨hc,fun _=>rfl,fun H enc w base spare held fuel cs x h hwt=>by
  obtain⟨hce,hcl,hop⟩:=he
  rcases open_slice ht h with ⟨rfl,_⟩ |⟨a,len,cap,m,fu,D,Pl,rfl,hb,hl,hm,hmm,rfl,hi⟩
  ·exact⟨[],⟨Nat.zero_le _,by simp,by simp⟩,.dat n [] none 0 0 (fun _ _=>undef) (DatOK.nil n none 0 _ (Nat.zero_le _)) (by simp),trivial⟩
  ·have hlm:len≤m:=by rw[hmm];split<;>omega
   obtain⟨l,hll,hlp⟩:=Qsb (p:=fun i (v:T)=>G v∧∃cs',cs'.length=n∧(∀j,j<n→w.cell? ((a.add (i*n)).add j)=cs'[j]?)∧RelL w (c v) cs') len fun i hil=>by
    obtain⟨cs',h1,h2⟩:=hi i (by omega)
    obtain⟨v,hG,hr⟩:=hop _ _ _ _ _ _ _ _ _ h2 fun q hq=>hwt q (by
     simp only[DataW.weights,ht]
     exact List.mem_cons_of_mem _ (List.mem_append_left _ (Ql3 (List.mem_map.2 ⟨i,List.mem_range.2 hil,rfl⟩) q hq)))
    rw[hce] at h1
    obtain⟨_,h3,h4⟩:=World.cells?_some h1
    exact⟨v,hG,cs',h3,h4,hr⟩
   refine⟨l,⟨by omega,fun x hx=>?_,?_⟩,?_,trivial⟩
   ·obtain⟨i,hi'⟩:=List.getElem?_of_mem hx
    exact(hlp i x hi').1
   ·have:=hwt ((((List.range len).map D).length+((List.range (m-len)).map fun j=>D (len+j)).length)*P.bytesOf e) (by
     simp only[DataW.weights,ht]
     exact List.mem_cons_self ..)
    rw[hbb,List.length_map,List.length_range,Nat.add_mul] at this
    rw[hll]
    exact Nat.le_trans (Nat.le_add_right _ _) this
   ·have elt:∀(i:Nat) y,(l.map c)[i]? = some y→∃v cs',l[i]? = some v∧y=c v∧cs'.length=n∧(∀j,j<n→w.cell? ((a.add (i*n)).add j)=cs'[j]?)∧RelL w (c v) cs':=fun i y hy=>by
     rw[List.getElem?_map] at hy
     cases hv:l[i]? with
     |none=>rw[hv] at hy;cases hy
     |some v=>
      rw[hv] at hy
      cases hy
      obtain⟨_,cs',h1,h2,h3⟩:=hlp i v hv
      exact⟨v,cs',rfl,rfl,h1,h2,h3⟩
    have key:∀(i:Nat) y,(l.map c)[i]? = some y→∀j,j<n→∃u,w.cell? ((a.add (i*n)).add j)=some u∧∀q,y[j]? = some q→RelV noX noφ w q u:=fun i y hy j hj=>by
     obtain⟨v,cs',hv,rfl,h1,h2,h3⟩:=elt i y hy
     obtain⟨u,hu⟩:∃u,cs'[j]? = some u:=⟨_,List.getElem?_eq_getElem (by omega)⟩
     refine⟨u,(h2 j hj).trans hu,fun q hq=>?_⟩
     have:=(h3.get).2 j q hq
     rwa [List.getD_eq_getElem?_getD,hu] at this
    rw[←hll]
    refine .dat n _ (some a) l.length cap (fun i j=>(w.cell? ((a.add (i*n)).add j)).getD undef) ⟨by simp,by omega,hm,fun y hy=>?_,fun hne=>?_⟩ fun i y hy j q hq=>?_
    ·obtain⟨v,_,rfl⟩:=List.mem_map.1 hy
     exact hcl v
    ·obtain⟨y0,hy0⟩:∃y0,(l.map c)[0]? = some y0:=by
      cases l with
      |nil=>exact absurd rfl hne
      |cons v l=>exact⟨c v,rfl⟩
     obtain⟨u,hu,_⟩:=key 0 y0 hy0 0 hn
     have ha0:(a.add (0*n)).add 0=a:=by simp[Addr.add]
     rw[ha0] at hu
     obtain⟨hs,hlt⟩:=Q5f hu
     obtain⟨b,o,sp⟩:=a
     dsimp only at hs
     subst hs
     refine⟨b,o,rfl,fun i y hy j hj=>⟨⟨hlt,fun h=>h,(fun q h=>by cases h),(fun q L h=>by cases h),(fun q Y h=>by cases h),(fun q bs k h=>by cases h)⟩,?_⟩⟩
     obtain⟨u,hu,_⟩:=key i y hy j hj
     rw[Qlr,Qlr] at hu
     rw[hu,Qlr,Qlr,hu]
     rfl
    ·have hj:j<n:=by
      have h1:=(List.getElem?_eq_some_iff.1 hq).1
      obtain⟨v,_,rfl⟩:=List.mem_map.1 (List.mem_of_getElem? hy)
      rwa [hcl v] at h1
     obtain⟨u,hu,hr⟩:=key i y hy j hj
     rw[hu]
     exact hr q hq⟩
theorem Qfs {H:Type}{enc:TypeId×Value→H}{P:Program}{w:World}{base:Nat}{spare:Nat→Bool}{held:Bool}{fuel:Nat}{cs:List Value}{fs:Array Field}{xs:List (DataW H×List MemPlace)}(hf:∀(i:Nat) (f:Field),fs[i]? = some f→DataW.trod enc P w base spare held fuel f.type ((cs.drop f.offset).take (P.cellsOf f.type))=xs[i]?)
  (hxl:xs.length=fs.size) (hwt:∀q∈DataW.weightsEach P (fs.toList.map (·.type)) (xs.map (·.1)),q≤reachBytes) {n:Nat}{T:Type}{c:T→List AV}{G:T→Prop}(j:Nat) (f:Field) (hj:fs[j]? = some f) (hop:Opn P f.type n c G):∃v:T,G v∧RelL w (c v) ((cs.drop f.offset).take n):=by
 have hjl:j<xs.length:=by rw[hxl];exact(Array.getElem?_eq_some_iff.1 hj).1
 have h1:=hf j f hj
 rw[List.getElem?_eq_getElem hjl,hop.1] at h1
 exact hop.2.2 _ _ _ _ _ _ _ _ _ h1 fun q hq=>hwt q (DataW.weights_mem_each (j:=j) (by simp[hj]) (by rw[List.getElem?_map,List.getElem?_eq_getElem hjl];rfl) q hq)
theorem Qij {H:Type}{P:Program}{t:TypeId}{fs:Array Field}{xs:List (DataW H×List MemPlace)}{pl:List MemPlace}(ht:P.underlying t=some (.struct fs)) (h:∀q∈(DataW.agg (xs.map (·.1)),pl).1.weights P t,q≤reachBytes):∀q∈DataW.weightsEach P (fs.toList.map (·.type)) (xs.map (·.1)),q≤reachBytes:=
 fun q hq=>h q (by simp only[DataW.weights,ht];exact hq)
theorem Qqz {H:Type}{enc:TypeId×Value→H}{P:Program}{w:World}{base:Nat}{spare:Nat→Bool}{held:Bool}{fuel:Nat}{cs:List Value}{len:Nat}{e:TypeId}{xs:List (DataW H×List MemPlace)}(hf:∀(i:Nat),i<len→DataW.trod enc P w base spare held fuel e ((cs.drop (i*P.cellsOf e)).take (P.cellsOf e))=xs[i]?)
  (hxl:xs.length=len) (hwt:∀q∈DataW.weightsAll P e (xs.map (·.1)),q≤reachBytes) {n:Nat}{T:Type}{c:T→List AV}{G:T→Prop}(j:Nat) (hj:j<len) (hop:Opn P e n c G):∃v:T,G v∧RelL w (c v) ((cs.drop (j*n)).take n):=by
 have hjl:j<xs.length:=by rw[hxl];exact hj
 have h1:=hf j hj
 rw[List.getElem?_eq_getElem hjl,hop.1] at h1
 exact hop.2.2 _ _ _ _ _ _ _ _ _ h1 fun q hq=>hwt q (Ql3 (List.mem_map.2 ⟨_,List.getElem_mem hjl,rfl⟩) q hq)
theorem Qts {H:Type}{P:Program}{t e:TypeId}{n:Nat}{xs:List (DataW H×List MemPlace)}{pl:List MemPlace}(ht:P.underlying t=some (.array n e)) (h:∀q∈(DataW.agg (xs.map (·.1)),pl).1.weights P t,q≤reachBytes):∀q∈DataW.weightsAll P e (xs.map (·.1)),q≤reachBytes:=
 fun q hq=>h q (by simp only[DataW.weights,ht];exact hq)
theorem Qol {H:Type}{P:Program}{ts:List TypeId}{ds:List (DataW H)}(h:(DataW.weightsEach P ts ds).all (· ≤ reachBytes)=true) (j:Nat) {t:TypeId}{d:DataW H}(ht:ts[j]? = some t) (hd:ds[j]? = some d):∀q∈d.weights P t,q≤reachBytes:=
 fun q hq=>by simpa using List.all_eq_true.1 h q (DataW.weights_mem_each ht hd q hq)
theorem Qib {w:World}{A B':List AV}{cs:List Value}{k n k':Nat}(h:RelL w A (cs.take k)) (h':RelL w B' ((cs.drop k).take n)) (hk:k+n=k'):RelL w (A++B') (cs.take k'):=by
 subst hk
 rw[List.take_add]
 exact h.app h'
theorem Qjg {w:World}{A:List AV}{cs:List Value}{n:Nat}(h:RelL w A ((cs.drop 0).take n)):RelL w A (cs.take n):=h
theorem Ql7 {w:World}{A:List AV}{cs:List Value}{n:Nat}(h:RelL w A (cs.take n)) (hn:cs.length=n):RelL w A cs:=by
 subst hn
 rwa [List.take_length] at h
section
variable {H : Type} {enc : TypeId × Value → H} {P : Program} {w : World} {base : Nat} {spare : Nat → Bool} {held : Bool} {r : Reach} {b0 : Nat} {v : Value} {d : DataW H} {p : List MemPlace} {t : TypeId} {n : Nat} {T : Type} {c : T → List AV} {G : T → Prop}
theorem Qy0 (ho:Opn P t 1 c G) (a:T→AV) (ha:∀x,c x=[a x]) (h1:v.cells = #[v]) (h:DataW.Trod enc P w base spare held t v d p) (hwt:∀q∈d.weights P t,q≤reachBytes):∃x:T,G x∧RelV noX noφ w (a x) v:=by
 obtain⟨fuel,hf⟩:=h
 obtain⟨x,hG,hr⟩:=ho.2.2 _ _ _ _ _ _ _ _ _ hf hwt
 rw[ha,h1] at hr
 exact⟨x,hG,hr.1⟩
theorem Qy1 {k:IntKind}(ht:P.underlying t=some (.int k)) (hc:P.cellsOf t=1) (hv:Value.okWide P w r b0 t v) (h:DataW.Trod enc P w base spare held t v d p) (hwt:∀q∈d.weights P t,q≤reachBytes):∃x:Int,(Lit.int k x).wf=true∧RelV noX noφ w (K k x) v:=by
 obtain⟨n,rfl⟩:=okWide_int ht hv
 exact Qy0 (Qt0 ht hc) _ (fun _=>rfl) rfl h hwt
theorem Qsc {e:TypeId}(ht:P.underlying t=some (.slice e)) (ho:Opn P t 1 c G) (a:T→AV) (ha:∀x,c x=[a x]) (hv:Value.okWide P w r b0 t v) (h:DataW.Trod enc P w base spare held t v d p) (hwt:∀q∈d.weights P t,q≤reachBytes):∃x:T,G x∧RelV noX noφ w (a x) v:=by
 obtain⟨A,len,cap,rfl⟩:=okWide_slice ht hv
 exact Qy0 ho a ha rfl h hwt
theorem Qpx {fs:Array Field}(ht:P.underlying t=some (.struct fs)) (ho:Opn P t n c G) (hv:Value.okWide P w r b0 t v) (h:DataW.Trod enc P w base spare held t v d p) (hwt:∀q∈d.weights P t,q≤reachBytes):∃x:T,G x∧RelV noX noφ w (.agg (c x)) v:=by
 obtain⟨cs,rfl,hsz⟩:=okWide_struct ht hv
 obtain⟨fuel,hf⟩:=h
 obtain⟨x,hG,hr⟩:=ho.2.2 _ _ _ _ _ _ _ _ _ hf hwt
 obtain⟨h1,h2⟩:=hr.get
 refine⟨x,hG,.agg _ cs (by simpa [Value.cells] using h1) fun i a hi=>?_⟩
 have:=h2 i a hi
 simpa [Value.cells,Array.getD_eq_getD_getElem?,List.getD_eq_getElem?_getD] using this
theorem Qwf {n:Nat}{e:TypeId}(ht:P.underlying t=some (.array n e)) (h:Value.okWide P w r b0 t v):∃cs,v=.agg cs∧cs.size=P.cellsOf t:=by
 unfold Value.okWide at h
 rw[ht] at h
 cases v<;>simp_all
theorem Q5p {k:Nat}{e:TypeId}(ht:P.underlying t=some (.array k e)) (ho:Opn P t n c G) (hv:Value.okWide P w r b0 t v) (h:DataW.Trod enc P w base spare held t v d p) (hwt:∀q∈d.weights P t,q≤reachBytes):∃x:T,G x∧RelV noX noφ w (.agg (c x)) v:=by
 obtain⟨cs,rfl,hsz⟩:=Qwf ht hv
 obtain⟨fuel,hf⟩:=h
 obtain⟨x,hG,hr⟩:=ho.2.2 _ _ _ _ _ _ _ _ _ hf hwt
 obtain⟨h1,h2⟩:=hr.get
 refine⟨x,hG,.agg _ cs (by simpa [Value.cells] using h1) fun i a hi=>?_⟩
 have:=h2 i a hi
 simpa [Value.cells,Array.getD_eq_getD_getElem?,List.getD_eq_getElem?_getD] using this
end
section
variable {H : Type} {enc : TypeId × Value → H} {P : Program}
theorem Qms (hl:laidOutB P=true) {W W':World}(hb:Below W.heap.size W W') {sp:Nat→Bool}:∀(ts:List TypeId) (vs:List Value) (ds:List (DataW H)) (ps:List MemPlace),
  ts.all (fun t=>P.readableRec t&&decide (t<P.types.size))=true→DataW.TrodAll enc P W 0 (fun _=>true) true ts vs ds ps→(∀x∈ps,x.block<W.heap.size)→(∀x∈ps,sp x.block=true) →
  DataW.TrodAll enc P W' 0 sp true ts vs ds ps
 |[],[],[],_,_,h,_,_=>h
 |[],_::_,_,_,_,h,_,_=>by simp[DataW.TrodAll] at h
 |[],[],_::_,_,_,h,_,_=>by simp[DataW.TrodAll] at h
 |_::_,[],_,_,_,h,_,_=>by simp[DataW.TrodAll] at h
 |_::_,_::_,[],_,_,h,_,_=>by simp[DataW.TrodAll] at h
 |t::ts,v::vs,d::ds,ps,hr,h,hlt,hsp=>by
  obtain⟨p,q,h1,h2,rfl⟩:=h
  rw[List.all_cons,Bool.and_eq_true,Bool.and_eq_true,decide_eq_true_eq] at hr
  refine⟨p,q,?_,Qms hl hb ts vs ds q hr.2 h2 (fun x hx=>hlt x (List.mem_append_right _ hx)) (fun x hx=>hsp x (List.mem_append_right _ hx)),rfl⟩
  exact WideElems.Trod_stays hl hr.1.1 hr.1.2 h1 (fun x hx=>hb.same (hlt x (List.mem_append_left _ hx))) (fun x hx=>hsp x (List.mem_append_left _ hx))
theorem Q2q {f:Func}{s:ChangeSpec}{W W':World}{args:Array Value}{ds:List (DataW H)}{before:List MemPlace}(tb:TypeId)
  (hW:DataW.Whole enc P f.params.toList s.vars false W args.toList ds [] before) (hl:laidOutB P=true) (hp:f.params.toList.all (fun t=>P.readableRec t&&decide (t<P.types.size))=true)
  (hrt:f.resultTypes = #[tb]) (htb:P.underlying tb=some .bool) (hv:s.vars=[]) (hs1:(s.fn H (ds++[])).results=[.lit (.bool true)]) (hs2:(s.fn H (ds++[])).args=ds) (hs3:(s.fn H (ds++[])).vars=[])
  (hb:Below W.heap.size W W'):s.post enc P f false true false false W args (.bool true) W':=by
 have hlt:∀p∈before,p.block<W.heap.size:=fun p hp=>hW.lt p hp
 have hold:∀p∈before,(fun b=>decide (b<W.heap.size)) p.block=true:=fun p hp=>by simpa using hlt p hp
 obtain⟨pa,pv,hA,hV,he,hz,hn⟩:=hW
 rw[hv] at hV
 have hpv:pv=[]:=hV
 subst hpv
 rw[List.append_nil] at he
 subst he
 have hargs:∀sp:Nat→Bool,(∀p∈before,sp p.block=true)→DataW.TrodAll enc P W' 0 sp true f.params.toList args.toList (s.fn H (ds++[])).args before:=fun sp hsp=>by
  rw[hs2]
  exact Qms hl hb _ _ _ _ hp hA hlt hsp
 have hvars:∀sp:Nat→Bool,DataW.TrodVars enc P W' sp s.vars (s.fn H (ds++[])).vars []:=fun sp=>by
  rw[hv,hs3]
  exact rfl
 have hres:∀(b:Nat) (sp:Nat→Bool) (hd:Bool),DataW.TrodAll enc P W' b sp hd f.resultTypes.toList ((Value.bool true).resultList f.resultTypes.size) (s.fn H (ds++[])).results []:=fun b sp hd=>by
  rw[hs1,hrt]
  exact trodAll_mk1 (shut_bool htb _)
 have hok:=ok_one (P:=P) (W':=W') (f:=f) (v:=.bool true) hrt rfl (okWide_bool_mk htb _)
 refine⟨ds,[],before,[],before,[],⟨before,[],hA,by rw[hv];exact rfl,by simp,hz,fun h=>by cases h⟩,hres _ _ _,hargs _ hold,hvars _,World.keptBut_mono (fun p hp=>⟨hp,Or.inr (Or.inl hp)⟩) (hb.frame (· ∈ before)),fun _=>?_⟩
 refine⟨hok,_,_,([]++before)++[],⟨[]++before,[],trodAll_append (hargs _ (fun _ _=>rfl)) (hres _ _ _),hvars _,rfl,?_,?_⟩,?_⟩
 ·intro b off hp
  have hin:MemPlace.cell b off∈before:=by simpa using hp
  rw[hb.frozen (hlt _ hin)]
  exact hz b off hin
 ·intro ha
  cases ha
 ·intro p hp _
  simpa using hp
end
end
section
open Go.ChangeShapes Go.WideShapes Go.ChangeAt Go.RowKit Go.Deep Go.Joins
def Qi9 (x:Int):Prop:=(Lit.int .i64 x).wf=true
def Qsq (x:Qgr):Prop:=Qi9 x.Lo∧Qi9 x.Hi
def Qvf (x:Qcc):Prop:=Qi9 x.From∧Qi9 x.To∧Qsq x.Seen
def Qsn (x:List Qcc):Prop:=x.length≤maxLen∧(∀y∈x,Qvf y)∧x.length*32≤140737488351232
def Qso (x:Qat):Prop:=Qi9 x.Sites∧Qsn x.Tests
theorem opn3:Opn prog 3 1 Qah Qi9:=Qt0 underlying3 (by kernel_rfl)
theorem Q9u:Opn prog 73 2 Qoc Qsq:=⟨by kernel_rfl,fun _=>rfl,fun _ _ _ _ _ _ _ _ _ h hw=>by
  obtain⟨xs,n,_,rfl,hl,hx,hf⟩:=DataW.trod_struct underlying73 h
  have hz:=Qij underlying73 hw
  obtain⟨v0,g0,r0⟩:=Qfs hf hx hz 0 _ rfl opn3
  obtain⟨v1,g1,r1⟩:=Qfs hf hx hz 1 _ rfl opn3
  exact⟨⟨v0,v1⟩,⟨g0,g1⟩,Ql7 (Qib (Qjg r0) r1 rfl) (hl.trans (by kernel_rfl))⟩⟩
theorem Q9t:Opn prog 75 4 Qbf Qvf:=⟨by kernel_rfl,fun _=>rfl,fun _ _ _ _ _ _ _ _ _ h hw=>by
  obtain⟨xs,n,_,rfl,hl,hx,hf⟩:=DataW.trod_struct underlying75 h
  have hz:=Qij underlying75 hw
  obtain⟨v0,g0,r0⟩:=Qfs hf hx hz 0 _ rfl opn3
  obtain⟨v1,g1,r1⟩:=Qfs hf hx hz 1 _ rfl opn3
  obtain⟨v2,g2,r2⟩:=Qfs hf hx hz 2 _ rfl Q9u
  exact⟨⟨v0,v1,v2⟩,⟨g0,g1,g2⟩,Ql7 (Qib (Qib (Qjg r0) r1 rfl) r2 rfl) (hl.trans (by kernel_rfl))⟩⟩
theorem Q93:Opn prog 22 1 Qob Qsn:=Qlg underlying22 (by kernel_rfl) Q9t (by decide) (by kernel_rfl)
theorem Q92:Opn prog 24 2 Qf9 Qso:=⟨by kernel_rfl,fun _=>rfl,fun _ _ _ _ _ _ _ _ _ h hw=>by
  obtain⟨xs,n,_,rfl,hl,hx,hf⟩:=DataW.trod_struct underlying24 h
  have hz:=Qij underlying24 hw
  obtain⟨v0,g0,r0⟩:=Qfs hf hx hz 0 _ rfl opn3
  obtain⟨v1,g1,r1⟩:=Qfs hf hx hz 1 _ rfl Q93
  exact⟨⟨v0,v1⟩,⟨g0,g1⟩,Ql7 (Qib (Qjg r0) r1 rfl) (hl.trans (by kernel_rfl))⟩⟩
def Qsp (x:Qap):Prop:=Qi9 x.Amount∧Qi9 x.Price
def Qp3 (x:List Qap):Prop:=x.length≤maxLen∧(∀y∈x,Qsp y)∧x.length*16≤140737488351232
def Qsr (x:Qba):Prop:=Qi9 x.Site∧Qp3 x.Stairs
def Qp4 (x:List Qba):Prop:=x.length≤maxLen∧(∀y∈x,Qsr y)∧x.length*32≤140737488351232
def Qt7 (x:List Int):Prop:=x.length≤maxLen∧(∀y∈x,Qi9 y)∧x.length*8≤140737488351232
def Qss (x:Qa7):Prop:=Qp4 x.Inlets∧Qt7 x.Feeds∧Qi9 x.Factor∧Qi9 x.Horizon
theorem Q9v:Opn prog 48 2 Qaz Qsp:=⟨by kernel_rfl,fun _=>rfl,fun _ _ _ _ _ _ _ _ _ h hw=>by
  obtain⟨xs,n,_,rfl,hl,hx,hf⟩:=DataW.trod_struct underlying48 h
  have hz:=Qij underlying48 hw
  obtain⟨v0,g0,r0⟩:=Qfs hf hx hz 0 _ rfl opn3
  obtain⟨v1,g1,r1⟩:=Qfs hf hx hz 1 _ rfl opn3
  exact⟨⟨v0,v1⟩,⟨g0,g1⟩,Ql7 (Qib (Qjg r0) r1 rfl) (hl.trans (by kernel_rfl))⟩⟩
theorem Q9x:Opn prog 43 1 Qm3 Qp3:=Qlg underlying43 (by kernel_rfl) Q9v (by decide) (by kernel_rfl)
theorem Q9w:Opn prog 45 2 Qa1 Qsr:=⟨by kernel_rfl,fun _=>rfl,fun _ _ _ _ _ _ _ _ _ h hw=>by
  obtain⟨xs,n,_,rfl,hl,hx,hf⟩:=DataW.trod_struct underlying45 h
  have hz:=Qij underlying45 hw
  obtain⟨v0,g0,r0⟩:=Qfs hf hx hz 0 _ rfl opn3
  obtain⟨v1,g1,r1⟩:=Qfs hf hx hz 1 _ rfl Q9x
  exact⟨⟨v0,v1⟩,⟨g0,g1⟩,Ql7 (Qib (Qjg r0) r1 rfl) (hl.trans (by kernel_rfl))⟩⟩
theorem Q91:Opn prog 25 1 Qm4 Qp4:=Qlg underlying25 (by kernel_rfl) Q9w (by decide) (by kernel_rfl)
theorem Q8q:Opn prog 26 1 Qp9 Qt7:=Qlg underlying26 (by kernel_rfl) opn3 (by decide) (by kernel_rfl)
theorem Q90:Opn prog 28 4 Qhm Qss:=⟨by kernel_rfl,fun _=>rfl,fun _ _ _ _ _ _ _ _ _ h hw=>by
  obtain⟨xs,n,_,rfl,hl,hx,hf⟩:=DataW.trod_struct underlying28 h
  have hz:=Qij underlying28 hw
  obtain⟨v0,g0,r0⟩:=Qfs hf hx hz 0 _ rfl Q91
  obtain⟨v1,g1,r1⟩:=Qfs hf hx hz 1 _ rfl Q8q
  obtain⟨v2,g2,r2⟩:=Qfs hf hx hz 2 _ rfl opn3
  obtain⟨v3,g3,r3⟩:=Qfs hf hx hz 3 _ rfl opn3
  exact⟨⟨v0,v1,v2,v3⟩,⟨g0,g1,g2,g3⟩,Ql7 (Qib (Qib (Qib (Qjg r0) r1 rfl) r2 rfl) r3 rfl) (hl.trans (by kernel_rfl))⟩⟩
def Q5x (x:Int):Prop:=(Lit.int .u8 x).wf=true
def Q33 (x:List Int):Prop:=x.length≤maxLen∧(∀y∈x,Q5x y)∧x.length*1≤140737488351232
theorem opn5:Opn prog 5 1 c_u8 Q5x:=Qt0 underlying5 (by kernel_rfl)
theorem Q9z:Opn prog 29 1 Q6v Q33:=Qlg underlying29 (by kernel_rfl) opn5 (by decide) (by kernel_rfl)
def Qst (x:Qe8):Prop:=Qi9 x.a0∧Qi9 x.a1∧Qi9 x.a2
theorem Q9y:Opn prog 30 3 Qlq Qst:=⟨by kernel_rfl,fun _=>rfl,fun _ _ _ _ _ _ _ _ _ h hw=>by
  obtain⟨xs,n,_,rfl,hl,hx,hf⟩:=DataW.trod_array underlying30 h
  have hz:=Qts underlying30 hw
  obtain⟨v0,g0,r0⟩:=Qqz hf hx hz 0 (by decide) opn3
  obtain⟨v1,g1,r1⟩:=Qqz hf hx hz 1 (by decide) opn3
  obtain⟨v2,g2,r2⟩:=Qqz hf hx hz 2 (by decide) opn3
  exact⟨⟨v0,v1,v2⟩,⟨g0,g1,g2⟩,Ql7 (Qib (Qib (Qjg r0) r1 rfl) r2 rfl) (hl.trans (by kernel_rfl))⟩⟩
end
section
def Qb9 (N:Nat) (p0:Qat) (y18:Int) (k28:(Nat→Int)×(Nat→Int)→Option ((Nat→Int)×(Nat→Int))) (x29:Qcc):Nat→Int→(Nat→Int)→(Nat→Int)→Option ((Nat→Int)×(Nat→Int))
  |0,_,_,_=>none
  |n39+1,y33,y34,y35=>
    bif (decide (y33<p0.Sites)) then
     chk (decide (0≤x29.To)&&decide (x29.To.toNat<12))<|
     chk (decide (0≤y33)&&decide (y33.toNat<12))<|
     (some (w64 (x29.Seen.Hi+(y34 (x29.To.toNat*12+y33.toNat))))).bind fun x43=>
     chk (decide (0≤x29.From)&&decide (x29.From.toNat<12))<|
     chk (decide (0≤y33)&&decide (y33.toNat<12))<|
     bif (decide (x43<(y34 (x29.From.toNat*12+y33.toNat)))) then
      chk (decide (0≤x29.From)&&decide (x29.From.toNat<12))<|
      chk (decide (0≤y33)&&decide (y33.toNat<12))<|
      chk (decide (0≤x29.From)&&decide (x29.From.toNat<12))<|
      chk (decide (0≤y33)&&decide (y33.toNat<12))<|
      Qb9 N p0 y18 k28 x29 n39 (w64 (y33+1)) (setF y34 (x29.From.toNat*12+y33.toNat) x43) (setF y35 (x29.From.toNat*12+y33.toNat) y18)
     else
      Qb9 N p0 y18 k28 x29 n39 (w64 (y33+1)) y34 y35
    else
     k28 (y34,y35)
def Qbo (N:Nat) (p0:Qat) (k16:(Nat→Int)×(Nat→Int)→Option ((Nat→Int)×(Nat→Int))):Nat→Int→(Nat→Int)→(Nat→Int)→Option ((Nat→Int)×(Nat→Int))
  |0,_,_,_=>none
  |n24+1,y18,y19,y20=>
    bif (decide (y18<(p0.Tests.length:Int))) then
     Qcy (fun ⟨y26,y27⟩=>
       Qbo N p0 k16 n24 (w64 (y18+1)) y26 y27) fun k28:(Nat→Int)×(Nat→Int)→Option ((Nat→Int)×(Nat→Int))=>
     (getI p0.Tests y18).bind fun x29=>
     Qb9 N p0 y18 k28 x29 N 0 y19 y20
    else
     k16 (y19,y20)
def Qa8 (N:Nat) (p0:Qat) (k8:(Nat→Int)×(Nat→Int)→Option ((Nat→Int)×(Nat→Int))):Nat→(Nat→Int)→(Nat→Int)→Option ((Nat→Int)×(Nat→Int))
  |0,_,_=>none
  |n13+1,y9,y10=>
    Qcy (fun ⟨y14,y15⟩=>
      bif (arrI 144 y14==arrI 144 y9) then
       k8 (y14,y15)
      else
       Qa8 N p0 k8 n13 y14 y15) fun k16:(Nat→Int)×(Nat→Int)→Option ((Nat→Int)×(Nat→Int))=>
    Qbo N p0 k16 N 0 y9 y10
def Qb8 (N:Nat) (y52:Int) (k62:(Nat→Int)×(Nat→Int)→Option ((Nat→Int)×(Nat→Int))):Nat→Int→(Nat→Int)→(Nat→Int)→Option ((Nat→Int)×(Nat→Int))
  |0,_,_,_=>none
  |n69+1,y63,y64,y65=>
    bif (decide (y63<12)) then
     chk (decide (0≤y52)&&decide (y52.toNat<12))<|
     chk (decide (0≤y63)&&decide (y63.toNat<12))<|
     bif (y52 != y63) then
      chk (decide (0≤y52)&&decide (y52.toNat<12))<|
      chk (decide (0≤y63)&&decide (y63.toNat<12))<|
      Qb8 N y52 k62 n69 (w64 (y63+1)) (setF y64 (y52.toNat*12+y63.toNat) 1000000) (setF y65 (y52.toNat*12+y63.toNat) (-1))
     else
      Qb8 N y52 k62 n69 (w64 (y63+1)) y64 (setF y65 (y52.toNat*12+y63.toNat) (-1))
    else
     k62 (y64,y65)
def Qb0 (N:Nat) (k5:(Nat→Int)×(Nat→Int)→Option ((Nat→Int)×(Nat→Int))):Nat→Int→(Nat→Int)→(Nat→Int)→Option ((Nat→Int)×(Nat→Int))
  |0,_,_,_=>none
  |n58+1,y52,y53,y54=>
    bif (decide (y52<12)) then
     Qcy (fun ⟨y60,y61⟩=>
       Qb0 N k5 n58 (w64 (y52+1)) y60 y61) fun k62:(Nat→Int)×(Nat→Int)→Option ((Nat→Int)×(Nat→Int))=>
     Qb8 N y52 k62 N 0 y53 y54
    else
     k5 (y53,y54)
def Qet (N:Nat) (p0:Qat):Option ((Nat→Int)×(Nat→Int)):=
  Qcy (fun ⟨y3,y4⟩=>
    Qcy (fun ⟨y6,y7⟩=>
      some (y6,y7)) fun k8:(Nat→Int)×(Nat→Int)→Option ((Nat→Int)×(Nat→Int))=>
    Qa8 N p0 k8 N y3 y4) fun k5:(Nat→Int)×(Nat→Int)→Option ((Nat→Int)×(Nat→Int))=>
  Qb0 N k5 N 0 (fun _=>(0:Int)) (fun _=>(0:Int))
abbrev z2_0 (p0:Qat):AV:=.dat 4 (p0.Tests.map Qbf)
abbrev z2_2 (p0:Qat):AV:=.agg [(I p0.Sites),(z2_0 p0)]
def z2_1 (p0:Qat):Slot:=.own 2 [[(I p0.Sites),(z2_0 p0)]]
def Qye (p0:Qat) (y3 y4:(Nat→Int)):Slot:=.own 290 [((I p0.Sites)::(z2_0 p0)::(arrF 144 y3++arrF 144 y4))]
def Q4x (p0:Qat) (y6 y7:(Nat→Int)):Slot:=.own 290 [((I p0.Sites)::(z2_0 p0)::(arrF 144 y6++arrF 144 y7))]
def Q13 (p0:Qat) (y9 y10:(Nat→Int)):Slot:=.own 290 [((I p0.Sites)::(z2_0 p0)::(arrF 144 y9++arrF 144 y10))]
def Q12 (p0:Qat) (y14 y15:(Nat→Int)):Slot:=.own 290 [((I p0.Sites)::(z2_0 p0)::(arrF 144 y14++arrF 144 y15))]
def Qu0 (p0:Qat) (y19 y20:(Nat→Int)):Slot:=.own 290 [((I p0.Sites)::(z2_0 p0)::(arrF 144 y19++arrF 144 y20))]
def Qmq (x29:Qcc):Slot:=.own 4 [[(I x29.From),(I x29.To),(I x29.Seen.Lo),(I x29.Seen.Hi)]]
def Qku (p0:Qat) (y34 y35:(Nat→Int)):Slot:=.own 290 [((I p0.Sites)::(z2_0 p0)::(arrF 144 y34++arrF 144 y35))]
def z2_4 (p0:Qat):Slot:=.own 290 [((I p0.Sites)::(z2_0 p0)::(arrF 144 (fun _=>(0:Int))++arrF 144 (fun _=>(0:Int))))]
def Quz (p0:Qat) (y53 y54:(Nat→Int)):Slot:=.own 290 [((I p0.Sites)::(z2_0 p0)::(arrF 144 y53++arrF 144 y54))]
def Qpp (p0:Qat) (y64 y65:(Nat→Int)):Slot:=.own 290 [((I p0.Sites)::(z2_0 p0)::(arrF 144 y64++arrF 144 y65))]
def Qpo (p0:Qat) (y64 y65:(Nat→Int)) (y52 y63:Int):Slot:=.own 290 [((I p0.Sites)::(z2_0 p0)::(arrF 144 y64++arrF 144 (setF y65 (y52.toNat*12+y63.toNat) (-1))))]
def Q3q (p0:Qat) (y64:(Nat→Int)) (y52 y63:Int) (y65:(Nat→Int)):Slot:=.own 290 [((I p0.Sites)::(z2_0 p0)::(arrF 144 (setF y64 (y52.toNat*12+y63.toNat) 1000000)++arrF 144 (setF y65 (y52.toNat*12+y63.toNat) (-1))))]
theorem Qju (N:Nat) (p0:Qat) (r:((Nat→Int)×(Nat→Int))) (h:Qet N p0=some r):Spec prog 52 [(z2_2 p0)] [] (.ref 0 290 (0) 0) [(.own 290 [((I p0.Sites)::(z2_0 p0)::(arrF 144 r.1++arrF 144 r.2))])]:=by
  refine sF func52 1 fun _ _ _ hq hd0=>?_
  unfold Qet at h
  refine wxz<|Q0x ?_
  refine wx tbk [(1,rp _ _)] ⟨Qdz (vs:=[(z2_2 p0)]) rfl Q9n Q8j rfl (by rfl) rfl,tv⟩ ?_
  obtain⟨k5,hk_k5,h⟩:=jko h
  refine wjn (τ:=(Nat→Int)×(Nat→Int)) (fun t=>k5 t=some r) (fun ⟨y3,y4⟩=>⟨mk 107 [(1,.ref 0 2 0 0),(3,.ref 1 290 0 0)],[(z2_1 p0),(Qye p0 y3 y4)]⟩) (fun t h=>?_) ?_
  ·subst hk_k5
   obtain⟨y3,y4⟩:=t
   refine wsq<|Q03<|thn ?_
   obtain⟨k8,hk_k8,h⟩:=jko h
   refine wjn (τ:=(Nat→Int)×(Nat→Int)) (fun t=>k8 t=some r) (fun ⟨y6,y7⟩=>⟨mk 107 [(3,.ref 0 290 0 0)],[(Q4x p0 y6 y7)]⟩) (fun t h=>?_) ?_
   ·subst hk_k8
    obtain⟨y6,y7⟩:=t
    refine wxz<|wmr (mto (n:=107) (l':=[(2,.ref 0 290 0 0)]) (own':=[(Q4x p0 y6 y7)]) [(2,.ref 0 290 0 0)] [0] [(Q4x p0 y6 y7)] hq (prr pn) (qb (lc rwl (lc (rnd Qad) (Qdd (Qa6 fun _=>rwl) (Qa6 fun _=>rwl)))) qn))<|Qag<|Q2f ?_
    obtain rfl:=osi h
    exact⟨_,Mor.rfl,fio [.ref 0 290 0 0] ⟨rot,tv⟩⟩
   ·skip
    refine Qaf<|wmr (mto (n:=107) (l':=[(1,.ref 0 2 0 0),(3,.ref 1 290 0 0)]) (own':=[(z2_1 p0),(Qye p0 y3 y4)]) [(1,.ref 0 2 0 0),(3,.ref 1 290 0 0)] [0,1] [(z2_1 p0),(Qye p0 y3 y4)] hq (prr (prr pn)) (qb (lc rwl (lc (rnd Qad) ln)) (qb (lc rwl (lc (rnd Qad) (Qdd (Qa6 fun _=>rwl) (Qa6 fun _=>rwl)))) qn))) ?_
    refine Qbx (τ:=(Nat→Int)×(Nat→Int)) (fun n t=>Qa8 N p0 k8 n t.1 t.2=some r) (fun ⟨y9,y10⟩=>⟨mk 107 [(1,.ref 0 2 0 0),(3,.ref 1 290 0 0)],[(z2_1 p0),(Q13 p0 y9 y10)]⟩) (fun t h=>by rw[Qa8] at h;cases h) (fun n13 ih t h=>?_) N (y3,y4) h
    obtain⟨y9,y10⟩:=t
    rw[Qa8] at h
    skip
    refine Qaf<|wx tbk [(1,rb [(.tmp 39,.ref 1 290 0 0)] [(1,(Q13 p0 y9 y10))] (.ref 1 290 0 0))] ⟨Qgt rfl,tv⟩ ?_
    obtain⟨k16,hk_k16,h⟩:=jko h
    refine wjn (τ:=(Nat→Int)×(Nat→Int)) (fun t=>k16 t=some r) (fun ⟨y14,y15⟩=>⟨mk 107 [(1,.ref 0 2 0 0),(3,.ref 1 290 0 0),(6,.ref 2 144 0 0)],[(z2_1 p0),(Q12 p0 y14 y15),(.own 144 [arrF 144 y9])]⟩) (fun t h=>?_) ?_
    ·subst hk_k16
     obtain⟨y14,y15⟩:=t
     refine wxd tbk [(1,rb [(.tmp 100,.ref 1 290 0 0)] [(1,(Q12 p0 y14 y15))] (.ref 1 290 0 0)),(5,rp [(.tmp 103,(.agg (arrF 144 y14))),(.tmp 104,(.agg (arrF 144 y9)))] (B ((arrI 144 y14==arrI 144 y9))))] ⟨Qgt rfl,Quo (n:=144) (f:=y14) (g:=y9) rfl rfl Q80 (by kernel_rfl),tv⟩ ?_
     refine bfe h (fun hc17 h=>?_) fun hc17 h=>?_
     ·exact wft hc17<|Qa3<|Q2x (by decide)<|Qan<|Qa2 rfl<|thn<|⟨(y14,y15),h,(mto (n:=107) [(3,.ref 1 290 0 0)] [1] [(Q12 p0 y14 y15)] hq (prr pn) (qb (lc rwl (lc (rnd Qad) (Qdd (Qa6 fun _=>rwl) (Qa6 fun _=>rwl)))) qn))⟩
     ·exact wfn hc17<|Qai<|bln<|thn<|arm (mto (n:=107) [(1,.ref 0 2 0 0),(3,.ref 1 290 0 0)] [0,1] [(z2_1 p0),(Q12 p0 y14 y15)] hq (prr (prr pn)) (qb (lc rwl (lc (rnd Qad) ln)) (qb (lc rwl (lc (rnd Qad) (Qdd (Qa6 fun _=>rwl) (Qa6 fun _=>rwl)))) qn))) (ih (y14,y15) h)
    ·skip
     refine wx tbk [(2,rp _ _)] ⟨alq 4 Qbf p0.Tests underlying57,tv⟩<|Qaf ?_
     refine wmr (mto (n:=107) (l':=[(1,.ref 0 2 0 0),(3,.ref 1 290 0 0),(6,.ref 2 144 0 0),(44,(z2_0 p0)),(45,(I ((p0.Tests.length:Int)))),(46,I 0)]) (own':=[(z2_1 p0),(Q13 p0 y9 y10),(.own 144 [arrF 144 y9])]) [(1,.ref 0 2 0 0),(3,.ref 1 290 0 0),(6,.ref 2 144 0 0),(44,(z2_0 p0)),(45,(I ((p0.Tests.length:Int)))),(46,I 0)] [0,1,2] [(z2_1 p0),(Q13 p0 y9 y10),(.own 144 [arrF 144 y9])] hq (prr (prr (prr (pc (rnd Qad) (pw (pw pn)))))) (qb (lc rwl (lc (rnd Qad) ln)) (qb (lc rwl (lc (rnd Qad) (Qdd (Qa6 fun _=>rwl) (Qa6 fun _=>rwl)))) (qb (Qa6 fun _=>rwl) qn)))) ?_
     refine Qbx (τ:=Int×(Nat→Int)×(Nat→Int)) (fun n t=>Qbo N p0 k16 n t.1 t.2.1 t.2.2=some r) (fun ⟨y18,y19,y20⟩=>⟨mk 107 [(1,.ref 0 2 0 0),(3,.ref 1 290 0 0),(6,.ref 2 144 0 0),(44,(z2_0 p0)),(45,(I ((p0.Tests.length:Int)))),(46,I y18)],[(z2_1 p0),(Qu0 p0 y19 y20),(.own 144 [arrF 144 y9])]⟩) (fun t h=>by rw[Qbo] at h;cases h) (fun n24 ih t h=>?_) N (0,y9,y10) h
     obtain⟨y18,y19,y20⟩:=t
     rw[Qbo] at h
     skip
     refine wxz<|wsq ?_
     refine bfe h (fun hc25 h=>?_) fun hc25 h=>?_
     ·refine wft hc25<|Qai<|thn ?_
      obtain⟨k28,hk_k28,h⟩:=jko h
      refine wjn (τ:=(Nat→Int)×(Nat→Int)) (fun t=>k28 t=some r) (fun ⟨y26,y27⟩=>⟨mk 107 [(1,.ref 0 2 0 0),(3,.ref 1 290 0 0),(6,.ref 2 144 0 0),(44,(z2_0 p0)),(45,(I ((p0.Tests.length:Int)))),(46,I y18)],[(z2_1 p0),(.own 290 [((I p0.Sites)::(z2_0 p0)::(arrF 144 y26++arrF 144 y27))]),(.own 144 [arrF 144 y9])]⟩) (fun t h=>?_) ?_
      ·subst hk_k28
       obtain⟨y26,y27⟩:=t
       exact wxz1<|thn<|arm (mto (n:=107) [(1,.ref 0 2 0 0),(3,.ref 1 290 0 0),(6,.ref 2 144 0 0),(44,(z2_0 p0)),(45,(I ((p0.Tests.length:Int)))),(46,(I (w64 (y18+1))))] [0,1,2] [(z2_1 p0),(.own 290 [((I p0.Sites)::(z2_0 p0)::(arrF 144 y26++arrF 144 y27))]),(.own 144 [arrF 144 y9])] hq (prr (prr (prr (pc (rnd Qad) (pw (pw pn)))))) (qb (lc rwl (lc (rnd Qad) ln)) (qb (lc rwl (lc (rnd Qad) (Qdd (Qa6 fun _=>rwl) (Qa6 fun _=>rwl)))) (qb (Qa6 fun _=>rwl) qn)))) (ih (w64 (y18+1),y26,y27) h)
      ·skip
       refine Qaf ?_
       obtain⟨x29,hg30,h⟩:=bno h
       obtain⟨hi31,hj32⟩:=gsm hg30
       refine wx tbk [(1,rp _ _)] ⟨aiq underlying57 ti56 Qbf hi31 hj32,tv⟩<|wxz<|Qaf ?_
       refine wmr (mto (n:=107) (l':=[(1,.ref 0 2 0 0),(3,.ref 1 290 0 0),(6,.ref 2 144 0 0),(7,I y18),(8,.ref 3 4 0 0),(44,(z2_0 p0)),(45,(I ((p0.Tests.length:Int)))),(46,I y18),(52,I p0.Sites),(53,I 0)]) (own':=[(z2_1 p0),(Qu0 p0 y19 y20),(.own 144 [arrF 144 y9]),(Qmq x29)]) [(1,.ref 0 2 0 0),(3,.ref 1 290 0 0),(6,.ref 2 144 0 0),(7,I y18),(8,.ref 3 4 0 0),(44,(z2_0 p0)),(45,(I ((p0.Tests.length:Int)))),(46,I y18),(52,I p0.Sites),(53,I 0)] [0,1,2,3] [(z2_1 p0),(Qu0 p0 y19 y20),(.own 144 [arrF 144 y9]),(Qmq x29)] hq (prr (prr (prr (pw (prr (pc (rnd Qad) (pw (pw (pw (pw pn)))))))))) (qb (lc rwl (lc (rnd Qad) ln)) (qb (lc rwl (lc (rnd Qad) (Qdd (Qa6 fun _=>rwl) (Qa6 fun _=>rwl)))) (qb (Qa6 fun _=>rwl) (qb (lcc (lcc ln)) qn))))) ?_
       refine Qbx (τ:=Int×(Nat→Int)×(Nat→Int)) (fun n t=>Qb9 N p0 y18 k28 x29 n t.1 t.2.1 t.2.2=some r) (fun ⟨y33,y34,y35⟩=>⟨mk 107 [(1,.ref 0 2 0 0),(3,.ref 1 290 0 0),(6,.ref 2 144 0 0),(7,I y18),(8,.ref 3 4 0 0),(44,(z2_0 p0)),(45,(I ((p0.Tests.length:Int)))),(46,I y18),(52,I p0.Sites),(53,I y33)],[(z2_1 p0),(Qku p0 y34 y35),(.own 144 [arrF 144 y9]),(Qmq x29)]⟩) (fun t h=>by rw[Qb9] at h;cases h) (fun n39 ih t h=>?_) N (0,y19,y20) h
       obtain⟨y33,y34,y35⟩:=t
       rw[Qb9] at h
       skip
       refine wxz<|wsq ?_
       refine bfe h (fun hc40 h=>?_) fun hc40 h=>?_
       ·refine wft hc40<|Qai<|thn<|wsq<|Qaf<|wxz ?_
        obtain⟨hi41,h⟩:=cko h
        obtain⟨hi41a,hi41b⟩:=Qbp hi41
        obtain⟨hi42,h⟩:=cko h
        obtain⟨hi42a,hi42b⟩:=Qbp hi42
        obtain⟨x43,hl44,h⟩:=bno h
        refine wxd tbk [(7,rb [(.tmp 59,.ref 1 290 0 0)] [(1,(Qku p0 y34 y35))] (.ref 1 290 0 0)),(9,rb [(.tmp 64,.ref 1 290 0 2),(.tmp 61,I x29.To)] [(1,(Qku p0 y34 y35))] (.ref 1 290 0 (2+x29.To.toNat*12))),(10,rb [(.tmp 65,(.ref 1 290 0 (2+x29.To.toNat*12))),(.tmp 62,I y33)] [(1,(Qku p0 y34 y35))] (.ref 1 290 0 ((2+x29.To.toNat*12)+y33.toNat*1))),(11,rb [(.tmp 66,(.ref 1 290 0 ((2+x29.To.toNat*12)+y33.toNat*1)))] [(1,(Qku p0 y34 y35))] (I (y34 (x29.To.toNat*12+y33.toNat)))),(13,rp [(.tmp 68,(I (w64 (x29.Seen.Hi+(y34 (x29.To.toNat*12+y33.toNat))))))] (I x43))] ⟨Qgt rfl,Qcb rfl underlying104 Qlc (odt hi41a) (odt hi41b) rfl,Qcb rfl underlying102 ti3 (odt hi42a) (odt hi42b) rfl,ald rfl ti3 (by decide) rfl (Qhp (n:=144) (off:=2) (k:=x29.To.toNat*12+y33.toNat) (lt2 (odt hi41b) (odt hi42b) rfl) (by omega) (nle rfl)) (Qjj (pre:=[I p0.Sites,(z2_0 p0)]) (post:=arrF 144 y35) (n:=144) (off:=2) (k:=x29.To.toNat*12+y33.toNat) (f:=y34) (by kernel_rfl) rfl (lt2 (odt hi41b) (odt hi42b) rfl) (by omega)),Qfh hl44 (aas rfl),tv⟩ ?_
        obtain⟨hi45,h⟩:=cko h
        obtain⟨hi45a,hi45b⟩:=Qbp hi45
        obtain⟨hi46,h⟩:=cko h
        obtain⟨hi46a,hi46b⟩:=Qbp hi46
        refine wxd tbk [(5,rb [(.tmp 70,.ref 1 290 0 0)] [(1,(Qku p0 y34 y35))] (.ref 1 290 0 0)),(7,rb [(.tmp 75,.ref 1 290 0 2),(.tmp 72,I x29.From)] [(1,(Qku p0 y34 y35))] (.ref 1 290 0 (2+x29.From.toNat*12))),(8,rb [(.tmp 76,(.ref 1 290 0 (2+x29.From.toNat*12))),(.tmp 73,I y33)] [(1,(Qku p0 y34 y35))] (.ref 1 290 0 ((2+x29.From.toNat*12)+y33.toNat*1))),(9,rb [(.tmp 77,(.ref 1 290 0 ((2+x29.From.toNat*12)+y33.toNat*1)))] [(1,(Qku p0 y34 y35))] (I (y34 (x29.From.toNat*12+y33.toNat))))] ⟨Qgt rfl,Qcb rfl underlying104 Qlc (odt hi45a) (odt hi45b) rfl,Qcb rfl underlying102 ti3 (odt hi46a) (odt hi46b) rfl,ald rfl ti3 (by decide) rfl (Qhp (n:=144) (off:=2) (k:=x29.From.toNat*12+y33.toNat) (lt2 (odt hi45b) (odt hi46b) rfl) (by omega) (nle rfl)) (Qjj (pre:=[I p0.Sites,(z2_0 p0)]) (post:=arrF 144 y35) (n:=144) (off:=2) (k:=x29.From.toNat*12+y33.toNat) (f:=y34) (by kernel_rfl) rfl (lt2 (odt hi45b) (odt hi46b) rfl) (by omega)),tv⟩ ?_
        refine bfe h (fun hc47 h=>?_) fun hc47 h=>?_
        ·refine wft hc47 ?_
         obtain⟨hi48,h⟩:=cko h
         obtain⟨hi48a,hi48b⟩:=Qbp hi48
         obtain⟨hi49,h⟩:=cko h
         obtain⟨hi49a,hi49b⟩:=Qbp hi49
         obtain⟨hi50,h⟩:=cko h
         obtain⟨hi50a,hi50b⟩:=Qbp hi50
         obtain⟨hi51,h⟩:=cko h
         obtain⟨hi51a,hi51b⟩:=Qbp hi51
         refine Q0z 1 (.own 290 [((I p0.Sites)::((z2_0 p0)::((List.replicate 144 .any)++(List.replicate 144 .any))))]) [mv 3 (.ref 1 290 0 0),rb [(.tmp 8,.ref 3 4 0 0)] [(3,(Qmq x29))] (.ref 3 4 0 0),rb [(.tmp 81,.ref 3 4 0 0)] [(3,(Qmq x29))] (I x29.From),mv 9 (I y33),mv 3 (.ref 1 290 0 0),rb [(.tmp 8,.ref 3 4 0 0)] [(3,(Qmq x29))] (.ref 3 4 0 0),rb [(.tmp 85,.ref 3 4 0 0)] [(3,(Qmq x29))] (I x29.From),mv 9 (I y33),mv 10 (I x43),mv 7 (I y18),rp [(.tmp 80,.ref 1 290 0 0)] (.ref 1 290 0 0),rp [(.tmp 90,.ref 1 290 0 0)] (.ref 1 290 0 2),rp [(.tmp 91,.ref 1 290 0 2),(.tmp 82,I x29.From)] (.ref 1 290 0 (2+x29.From.toNat*12)),rp [(.tmp 92,(.ref 1 290 0 (2+x29.From.toNat*12))),(.tmp 83,I y33)] (.ref 1 290 0 ((2+x29.From.toNat*12)+y33.toNat*1)),⟨[(.tmp 93,(.ref 1 290 0 ((2+x29.From.toNat*12)+y33.toNat*1))),(.tmp 88,I x43)],[(1,(Qku p0 y34 y35))],.any,[(1,(.own 290 [((I p0.Sites)::(z2_0 p0)::(arrF 144 (setF y34 (x29.From.toNat*12+y33.toNat) x43)++arrF 144 y35))]))],false⟩,rp [(.tmp 84,.ref 1 290 0 0)] (.ref 1 290 0 0),rp [(.tmp 94,.ref 1 290 0 0)] (.ref 1 290 0 146),rp [(.tmp 95,.ref 1 290 0 146),(.tmp 86,I x29.From)] (.ref 1 290 0 (146+x29.From.toNat*12)),rp [(.tmp 96,(.ref 1 290 0 (146+x29.From.toNat*12))),(.tmp 87,I y33)] (.ref 1 290 0 ((146+x29.From.toNat*12)+y33.toNat*1)),⟨[(.tmp 97,(.ref 1 290 0 ((146+x29.From.toNat*12)+y33.toNat*1))),(.tmp 89,I y18)],[(1,(.own 290 [((I p0.Sites)::(z2_0 p0)::(arrF 144 (setF y34 (x29.From.toNat*12+y33.toNat) x43)++arrF 144 y35))]))],.any,[(1,(.own 290 [((I p0.Sites)::(z2_0 p0)::(arrF 144 (setF y34 (x29.From.toNat*12+y33.toNat) x43)++arrF 144 (setF y35 (x29.From.toNat*12+y33.toNat) y18)))]))],false⟩] (Q5j (V:=(.own 290 [((I p0.Sites)::(z2_0 p0)::(arrF 144 y34++arrF 144 y35))])) (by kernel_rfl) (SImp.box (lc lrf (lc lrf (Qdd Qnf Qnf))))) ⟨tv,tv,tv,tv,tv,tv,tv,tv,tv,tv,tv,tv,tv,tv,⟨(SImp.box (lc lrf (lc lrf (Qdd Qnf Qnf)))),tv⟩,tv,tv,tv,tv,⟨(SImp.box (lc lrf (lc lrf (Qdd Qnf Qnf)))),tv⟩,tv⟩ ?_ ?_
         ·exact⟨hr_ (amv rfl),hr_ (afa rfl underlying56 rfl rfl ti3 (by decide) rfl),hr_ (ald rfl ti3 (by decide) rfl (nle rfl) rfl),hr_ (amv rfl),hr_ (amv rfl),hr_ (afa rfl underlying56 rfl rfl ti3 (by decide) rfl),hr_ (ald rfl ti3 (by decide) rfl (nle rfl) rfl),hr_ (amv rfl),hr_ (amv rfl),hr_ (amv rfl),sf_ (Qgt rfl),sf_ (afa rfl underlying106 rfl rfl Qom (by decide) rfl),sf_ (Qcb rfl underlying104 Qlc (odt hi48a) (odt hi48b) rfl),sf_ (Qcb rfl underlying102 ti3 (odt hi49a) (odt hi49b) rfl),hr_ (ast rfl ti3 (by rfl) rfl (Qhp (n:=144) (off:=2) (k:=x29.From.toNat*12+y33.toNat) (lt2 (odt hi48b) (odt hi49b) rfl) (by omega) (nle rfl)) (Qqr (pre:=[I p0.Sites,(z2_0 p0)]) (post:=arrF 144 y35) (n:=144) (off:=2) (k:=x29.From.toNat*12+y33.toNat) (f:=y34) (x:=x43) (by kernel_rfl) rfl (by kernel_rfl) (lt2 (odt hi48b) (odt hi49b) rfl) (by omega))),sf_ (Qgt rfl),sf_ (afa rfl underlying106 rfl rfl Qom (by decide) rfl),sf_ (Qcb rfl underlying104 Qlc (odt hi50a) (odt hi50b) rfl),sf_ (Qcb rfl underlying102 ti3 (odt hi51a) (odt hi51b) rfl),hr_ (ast rfl ti3 (by rfl) rfl (Qhp (n:=144) (off:=146) (k:=x29.From.toNat*12+y33.toNat) (lt2 (odt hi50b) (odt hi51b) rfl) (by omega) (nle rfl)) (Qqr (pre:=((I p0.Sites)::(z2_0 p0)::arrF 144 (setF y34 (x29.From.toNat*12+y33.toNat) x43))) (post:=[]) (n:=144) (off:=146) (k:=x29.From.toNat*12+y33.toNat) (f:=y35) (x:=y18) (by kernel_rfl) rfl (by kernel_rfl) (lt2 (odt hi50b) (odt hi51b) rfl) (by omega))),tv⟩
         exact bln<|thn<|wxz1<|thn<|arm (mto (n:=107) [(1,.ref 0 2 0 0),(3,.ref 1 290 0 0),(6,.ref 2 144 0 0),(7,I y18),(8,.ref 3 4 0 0),(44,(z2_0 p0)),(45,(I ((p0.Tests.length:Int)))),(46,I y18),(52,I p0.Sites),(53,(I (w64 (y33+1))))] [0,1,2,3] [(z2_1 p0),(.own 290 [((I p0.Sites)::(z2_0 p0)::(arrF 144 (setF y34 (x29.From.toNat*12+y33.toNat) x43)++arrF 144 (setF y35 (x29.From.toNat*12+y33.toNat) y18)))]),(.own 144 [arrF 144 y9]),(Qmq x29)] hq (prr (prr (prr (pw (prr (pc (rnd Qad) (pw (pw (pw (pw pn)))))))))) (qb (lc rwl (lc (rnd Qad) ln)) (qb (lc rwl (lc (rnd Qad) (Qdd (Qa6 fun _=>rwl) (Qa6 fun _=>rwl)))) (qb (Qa6 fun _=>rwl) (qb (lcc (lcc ln)) qn))))) (ih (w64 (y33+1),setF y34 (x29.From.toNat*12+y33.toNat) x43,setF y35 (x29.From.toNat*12+y33.toNat) y18) h)
        ·exact wfn hc47<|Qai<|bln<|thn<|wxz1<|thn<|arm (mto (n:=107) [(1,.ref 0 2 0 0),(3,.ref 1 290 0 0),(6,.ref 2 144 0 0),(7,I y18),(8,.ref 3 4 0 0),(44,(z2_0 p0)),(45,(I ((p0.Tests.length:Int)))),(46,I y18),(52,I p0.Sites),(53,(I (w64 (y33+1))))] [0,1,2,3] [(z2_1 p0),(Qku p0 y34 y35),(.own 144 [arrF 144 y9]),(Qmq x29)] hq (prr (prr (prr (pw (prr (pc (rnd Qad) (pw (pw (pw (pw pn)))))))))) (qb (lc rwl (lc (rnd Qad) ln)) (qb (lc rwl (lc (rnd Qad) (Qdd (Qa6 fun _=>rwl) (Qa6 fun _=>rwl)))) (qb (Qa6 fun _=>rwl) (qb (lcc (lcc ln)) qn))))) (ih (w64 (y33+1),y34,y35) h)
       ·exact wfn hc40<|Qa3<|Qan<|Qan<|Qa2 rfl<|bln<|thn<|⟨(y34,y35),h,(mto (n:=107) [(1,.ref 0 2 0 0),(3,.ref 1 290 0 0),(6,.ref 2 144 0 0),(44,(z2_0 p0)),(45,(I ((p0.Tests.length:Int)))),(46,I y18)] [0,1,2] [(z2_1 p0),(Qku p0 y34 y35),(.own 144 [arrF 144 y9])] hq (prr (prr (prr (pc (rnd Qad) (pw (pw pn)))))) (qb (lc rwl (lc (rnd Qad) ln)) (qb (lc rwl (lc (rnd Qad) (Qdd (Qa6 fun _=>rwl) (Qa6 fun _=>rwl)))) (qb (Qa6 fun _=>rwl) qn))))⟩
     ·exact wfn hc25<|Qa3<|Qan<|Qan<|Qa2 rfl<|thn<|⟨(y19,y20),h,(mto (n:=107) [(1,.ref 0 2 0 0),(3,.ref 1 290 0 0),(6,.ref 2 144 0 0)] [0,1,2] [(z2_1 p0),(Qu0 p0 y19 y20),(.own 144 [arrF 144 y9])] hq (prr (prr (prr pn))) (qb (lc rwl (lc (rnd Qad) ln)) (qb (lc rwl (lc (rnd Qad) (Qdd (Qa6 fun _=>rwl) (Qa6 fun _=>rwl)))) (qb (Qa6 fun _=>rwl) qn))))⟩
  ·skip
   refine wxz<|Qaf ?_
   refine wmr (mto (n:=107) (l':=[(1,.ref 0 2 0 0),(3,.ref 1 290 0 0),(14,I 0)]) (own':=[(z2_1 p0),(z2_4 p0)]) [(1,.ref 0 2 0 0),(3,.ref 1 290 0 0),(14,I 0)] [0,1] [(z2_1 p0),(z2_4 p0)] hq (prr (prr (pw pn))) (qb (lc rwl (lc (rnd Qad) ln)) (qb (lc rwl (lc (rnd Qad) (Qdd (Qa6 fun _=>rwl) (Qa6 fun _=>rwl)))) qn))) ?_
   refine Qbx (τ:=Int×(Nat→Int)×(Nat→Int)) (fun n t=>Qb0 N k5 n t.1 t.2.1 t.2.2=some r) (fun ⟨y52,y53,y54⟩=>⟨mk 107 [(1,.ref 0 2 0 0),(3,.ref 1 290 0 0),(14,I y52)],[(z2_1 p0),(Quz p0 y53 y54)]⟩) (fun t h=>by rw[Qb0] at h;cases h) (fun n58 ih t h=>?_) N (0,fun _=>(0:Int),fun _=>(0:Int)) h
   obtain⟨y52,y53,y54⟩:=t
   rw[Qb0] at h
   skip
   refine wxz<|wsq ?_
   refine bfe h (fun hc59 h=>?_) fun hc59 h=>?_
   ·refine wft hc59<|Qai<|thn ?_
    obtain⟨k62,hk_k62,h⟩:=jko h
    refine wjn (τ:=(Nat→Int)×(Nat→Int)) (fun t=>k62 t=some r) (fun ⟨y60,y61⟩=>⟨mk 107 [(1,.ref 0 2 0 0),(3,.ref 1 290 0 0),(14,I y52)],[(z2_1 p0),(.own 290 [((I p0.Sites)::(z2_0 p0)::(arrF 144 y60++arrF 144 y61))])]⟩) (fun t h=>?_) ?_
    ·subst hk_k62
     obtain⟨y60,y61⟩:=t
     exact wxz1<|thn<|arm (mto (n:=107) [(1,.ref 0 2 0 0),(3,.ref 1 290 0 0),(14,(I (w64 (y52+1))))] [0,1] [(z2_1 p0),(.own 290 [((I p0.Sites)::(z2_0 p0)::(arrF 144 y60++arrF 144 y61))])] hq (prr (prr (pw pn))) (qb (lc rwl (lc (rnd Qad) ln)) (qb (lc rwl (lc (rnd Qad) (Qdd (Qa6 fun _=>rwl) (Qa6 fun _=>rwl)))) qn))) (ih (w64 (y52+1),y60,y61) h)
    ·skip
     refine Qaf<|wxz<|wxz<|Qaf ?_
     refine wmr (mto (n:=107) (l':=[(1,.ref 0 2 0 0),(3,.ref 1 290 0 0),(4,I y52),(14,I y52),(17,I 0)]) (own':=[(z2_1 p0),(Quz p0 y53 y54)]) [(1,.ref 0 2 0 0),(3,.ref 1 290 0 0),(4,I y52),(14,I y52),(17,I 0)] [0,1] [(z2_1 p0),(Quz p0 y53 y54)] hq (prr (prr (pw (pw (pw pn))))) (qb (lc rwl (lc (rnd Qad) ln)) (qb (lc rwl (lc (rnd Qad) (Qdd (Qa6 fun _=>rwl) (Qa6 fun _=>rwl)))) qn))) ?_
     refine Qbx (τ:=Int×(Nat→Int)×(Nat→Int)) (fun n t=>Qb8 N y52 k62 n t.1 t.2.1 t.2.2=some r) (fun ⟨y63,y64,y65⟩=>⟨mk 107 [(1,.ref 0 2 0 0),(3,.ref 1 290 0 0),(4,I y52),(14,I y52),(17,I y63)],[(z2_1 p0),(Qpp p0 y64 y65)]⟩) (fun t h=>by rw[Qb8] at h;cases h) (fun n69 ih t h=>?_) N (0,y53,y54) h
     obtain⟨y63,y64,y65⟩:=t
     rw[Qb8] at h
     skip
     refine wxz<|wsq ?_
     refine bfe h (fun hc70 h=>?_) fun hc70 h=>?_
     ·refine wft hc70<|Qai<|thn<|wsq<|Qaf<|wxz ?_
      obtain⟨hi71,h⟩:=cko h
      obtain⟨hi71a,hi71b⟩:=Qbp hi71
      obtain⟨hi72,h⟩:=cko h
      obtain⟨hi72a,hi72b⟩:=Qbp hi72
      refine wx tbk [(3,rb [(.tmp 20,.ref 1 290 0 0)] [(1,(Qpp p0 y64 y65))] (.ref 1 290 0 0)),(5,rb [(.tmp 24,.ref 1 290 0 146),(.tmp 21,I y52)] [(1,(Qpp p0 y64 y65))] (.ref 1 290 0 (146+y52.toNat*12))),(6,rb [(.tmp 25,(.ref 1 290 0 (146+y52.toNat*12))),(.tmp 22,I y63)] [(1,(Qpp p0 y64 y65))] (.ref 1 290 0 ((146+y52.toNat*12)+y63.toNat*1))),(7,⟨[(.tmp 26,(.ref 1 290 0 ((146+y52.toNat*12)+y63.toNat*1))),ci (-1)],[(1,(Qpp p0 y64 y65))],.any,[(1,(Qpo p0 y64 y65 y52 y63))],false⟩)] ⟨Qgt rfl,Qcb rfl underlying104 Qlc (odt hi71a) (odt hi71b) rfl,Qcb rfl underlying102 ti3 (odt hi72a) (odt hi72b) rfl,ast rfl ti3 (by rfl) rfl (Qhp (n:=144) (off:=146) (k:=y52.toNat*12+y63.toNat) (lt2 (odt hi71b) (odt hi72b) rfl) (by omega) (nle rfl)) (Qqr (pre:=((I p0.Sites)::(z2_0 p0)::arrF 144 y64)) (post:=[]) (n:=144) (off:=146) (k:=y52.toNat*12+y63.toNat) (f:=y65) (x:=(-1)) (by kernel_rfl) rfl (by kernel_rfl) (lt2 (odt hi71b) (odt hi72b) rfl) (by omega)),tv⟩<|wxz ?_
      refine bfe h (fun hc73 h=>?_) fun hc73 h=>?_
      ·refine wft hc73 ?_
       obtain⟨hi74,h⟩:=cko h
       obtain⟨hi74a,hi74b⟩:=Qbp hi74
       obtain⟨hi75,h⟩:=cko h
       obtain⟨hi75a,hi75b⟩:=Qbp hi75
       refine wx1 tbk [(3,rb [(.tmp 30,.ref 1 290 0 0)] [(1,(Qpo p0 y64 y65 y52 y63))] (.ref 1 290 0 0)),(5,rb [(.tmp 34,.ref 1 290 0 2),(.tmp 31,I y52)] [(1,(Qpo p0 y64 y65 y52 y63))] (.ref 1 290 0 (2+y52.toNat*12))),(6,rb [(.tmp 35,(.ref 1 290 0 (2+y52.toNat*12))),(.tmp 32,I y63)] [(1,(Qpo p0 y64 y65 y52 y63))] (.ref 1 290 0 ((2+y52.toNat*12)+y63.toNat*1))),(7,⟨[(.tmp 36,(.ref 1 290 0 ((2+y52.toNat*12)+y63.toNat*1))),ci 1000000],[(1,(Qpo p0 y64 y65 y52 y63))],.any,[(1,(Q3q p0 y64 y52 y63 y65))],false⟩)] ⟨Qgt rfl,Qcb rfl underlying104 Qlc (odt hi74a) (odt hi74b) rfl,Qcb rfl underlying102 ti3 (odt hi75a) (odt hi75b) rfl,ast rfl ti3 (by rfl) rfl (Qhp (n:=144) (off:=2) (k:=y52.toNat*12+y63.toNat) (lt2 (odt hi74b) (odt hi75b) rfl) (by omega) (nle rfl)) (Qqr (pre:=[I p0.Sites,(z2_0 p0)]) (post:=arrF 144 (setF y65 (y52.toNat*12+y63.toNat) (-1))) (n:=144) (off:=2) (k:=y52.toNat*12+y63.toNat) (f:=y64) (x:=1000000) (by kernel_rfl) rfl (by kernel_rfl) (lt2 (odt hi74b) (odt hi75b) rfl) (by omega)),tv⟩<|bln<|thn<|wxz1<|thn ?_
       exact arm (mto (n:=107) [(1,.ref 0 2 0 0),(3,.ref 1 290 0 0),(4,I y52),(14,I y52),(17,(I (w64 (y63+1))))] [0,1] [(z2_1 p0),(Q3q p0 y64 y52 y63 y65)] hq (prr (prr (pw (pw (pw pn))))) (qb (lc rwl (lc (rnd Qad) ln)) (qb (lc rwl (lc (rnd Qad) (Qdd (Qa6 fun _=>rwl) (Qa6 fun _=>rwl)))) qn))) (ih (w64 (y63+1),setF y64 (y52.toNat*12+y63.toNat) 1000000,setF y65 (y52.toNat*12+y63.toNat) (-1)) h)
      ·exact wfn hc73<|Qai<|bln<|thn<|wxz1<|thn<|arm (mto (n:=107) [(1,.ref 0 2 0 0),(3,.ref 1 290 0 0),(4,I y52),(14,I y52),(17,(I (w64 (y63+1))))] [0,1] [(z2_1 p0),(Qpo p0 y64 y65 y52 y63)] hq (prr (prr (pw (pw (pw pn))))) (qb (lc rwl (lc (rnd Qad) ln)) (qb (lc rwl (lc (rnd Qad) (Qdd (Qa6 fun _=>rwl) (Qa6 fun _=>rwl)))) qn))) (ih (w64 (y63+1),y64,setF y65 (y52.toNat*12+y63.toNat) (-1)) h)
     ·exact wfn hc70<|Qa3<|Qan<|Qan<|Qa2 rfl<|bln<|thn<|⟨(y64,y65),h,(mto (n:=107) [(1,.ref 0 2 0 0),(3,.ref 1 290 0 0),(14,I y52)] [0,1] [(z2_1 p0),(Qpp p0 y64 y65)] hq (prr (prr (pw pn))) (qb (lc rwl (lc (rnd Qad) ln)) (qb (lc rwl (lc (rnd Qad) (Qdd (Qa6 fun _=>rwl) (Qa6 fun _=>rwl)))) qn)))⟩
   ·exact wfn hc59<|Qa3<|Qan<|Qan<|Qa2 rfl<|thn<|⟨(y53,y54),h,(mto (n:=107) [(1,.ref 0 2 0 0),(3,.ref 1 290 0 0)] [0,1] [(z2_1 p0),(Quz p0 y53 y54)] hq (prr (prr pn)) (qb (lc rwl (lc (rnd Qad) ln)) (qb (lc rwl (lc (rnd Qad) (Qdd (Qa6 fun _=>rwl) (Qa6 fun _=>rwl)))) qn)))⟩
def Qes (_N:Nat) (p0:Qcc) (_p1:Int) (_p2:List Qcc) (p3 _p4:(Nat→Int)):Option Bool:=
  chk (decide (0≤p0.From)&&decide (p0.From.toNat<12))<|
  chk (decide (0≤p0.To)&&decide (p0.To.toNat<12))<|
  some (decide (p0.Seen.Lo>(p3 (p0.From.toNat*12+p0.To.toNat))))
abbrev z5_2:Slot:=.own 1 [[(.ref 1 290 (0) 0)]]
abbrev z5_4 (p1:Int) (p2:List Qcc) (p3 p4:(Nat→Int)):Slot:=.own 290 [((I p1)::(.dat 4 (p2.map Qbf))::(arrF 144 p3++arrF 144 p4))]
theorem Qjs (N:Nat) (p0:Qcc) (p1:Int) (p2:List Qcc) (p3 p4:(Nat→Int)) (r:Bool) (h:Qes N p0 p1 p2 p3 p4=some r):Spec prog 64 [(.agg [(I p0.From),(I p0.To),(I p0.Seen.Lo),(I p0.Seen.Hi)]),(.ref 0 1 (0) 0)] [z5_2,(z5_4 p1 p2 p3 p4)] (B r) [z5_2,(z5_4 p1 p2 p3 p4)]:=by
  refine sF func64 2 fun _ _ _ hq hd0=>?_
  unfold Qes at h
  refine wxz ?_
  obtain⟨hi2,h⟩:=cko h
  obtain⟨hi2a,hi2b⟩:=Qbp hi2
  obtain⟨hi3,h⟩:=cko h
  obtain⟨hi3a,hi3b⟩:=Qbp hi3
  refine wxd tbk [(8,rb [(.tmp 7,.ref 1 290 0 0)] [(1,(z5_4 p1 p2 p3 p4))] (.ref 1 290 0 0)),(10,rb [(.tmp 13,.ref 1 290 0 2),(.tmp 9,I p0.From)] [(1,(z5_4 p1 p2 p3 p4))] (.ref 1 290 0 (2+p0.From.toNat*12))),(11,rb [(.tmp 14,(.ref 1 290 0 (2+p0.From.toNat*12))),(.tmp 11,I p0.To)] [(1,(z5_4 p1 p2 p3 p4))] (.ref 1 290 0 ((2+p0.From.toNat*12)+p0.To.toNat*1))),(12,rb [(.tmp 15,(.ref 1 290 0 ((2+p0.From.toNat*12)+p0.To.toNat*1)))] [(1,(z5_4 p1 p2 p3 p4))] (I (p3 (p0.From.toNat*12+p0.To.toNat))))] ⟨Qgt rfl,Qcb rfl underlying104 Qlc (odt hi2a) (odt hi2b) rfl,Qcb rfl underlying102 ti3 (odt hi3a) (odt hi3b) rfl,ald rfl ti3 (by decide) rfl (Qhp (n:=144) (off:=2) (k:=p0.From.toNat*12+p0.To.toNat) (lt2 (odt hi2b) (odt hi3b) rfl) (by omega) (nle rfl)) (Qjj (pre:=[I p1,(.dat 4 (p2.map Qbf))]) (post:=arrF 144 p4) (n:=144) (off:=2) (k:=p0.From.toNat*12+p0.To.toNat) (f:=p3) (by kernel_rfl) rfl (lt2 (odt hi2b) (odt hi3b) rfl) (by omega)),tv⟩ ?_
  refine wmr (mto (n:=18) (l':=[(3,(B ((decide (p0.Seen.Lo>(p3 (p0.From.toNat*12+p0.To.toNat)))))))]) (own':=[z5_2,(z5_4 p1 p2 p3 p4)]) [(3,(B ((decide (p0.Seen.Lo>(p3 (p0.From.toNat*12+p0.To.toNat)))))))] [0,1] [z5_2,(z5_4 p1 p2 p3 p4)] hq (pw pn) (qb (lc (.rn (rqr rfl)) ln) (qb (lc rwl (lc (rnd Qad) (Qdd (Qa6 fun _=>rwl) (Qa6 fun _=>rwl)))) qn)))<|Qag ?_
  obtain rfl:=osi h
  exact⟨_,Mor.rfl,fio [(B ((decide (p0.Seen.Lo>(p3 (p0.From.toNat*12+p0.To.toNat))))))] ⟨rot,tv⟩⟩
def Qav (N:Nat) (p0:List Qcc) (p1:Int) (k2:Unit→Option Int) (p2:List Qcc) (p3 p4:(Nat→Int)):Nat→Int→Option Int
  |0,_=>none
  |n5+1,y3=>
    bif (decide (y3<(p0.length:Int))) then
     (getI p0 y3).bind fun x7=>
     (Qes N (⟨x7.From,x7.To,(⟨x7.Seen.Lo,x7.Seen.Hi⟩:Qgr)⟩:Qcc) p1 p2 p3 p4).bind fun x12=>
     bif x12 then
      some y3
     else
      Qav N p0 p1 k2 p2 p3 p4 n5 (w64 (y3+1))
    else
     k2 ()
def Qcv (N:Nat) (p0:List Qcc) (p1:Int) (p2:List Qcc) (p3 p4:(Nat→Int)):Option Int:=
  Qcy (fun _=>
    some (-1)) fun k2:Unit→Option Int=>
  Qav N p0 p1 k2 p2 p3 p4 N 0
abbrev z4_0 (p0:List Qcc):AV:=.dat 4 (p0.map Qbf)
abbrev z4_1:AV:=.fn (.func 64) [] [(.ref 0 1 (0) 0)]
abbrev z4_4:Slot:=.own 1 [[(.ref 1 290 (0) 0)]]
abbrev z4_6 (p1:Int) (p2:List Qcc) (p3 p4:(Nat→Int)):Slot:=.own 290 [((I p1)::(.dat 4 (p2.map Qbf))::(arrF 144 p3++arrF 144 p4))]
theorem Qgd (N:Nat) (p0:List Qcc) (p1:Int) (p2:List Qcc) (p3 p4:(Nat→Int)) (r:Int) (h:Qcv N p0 p1 p2 p3 p4=some r):Spec prog 63 [(z4_0 p0),z4_1] [z4_4,(z4_6 p1 p2 p3 p4)] (I r) [z4_4,(z4_6 p1 p2 p3 p4)]:=by
  refine sF func63 2 fun _ _ _ hq hd0=>?_
  unfold Qcv at h
  refine wxz ?_
  obtain⟨k2,hk_k2,h⟩:=jko h
  refine wjn (τ:=Unit) (fun t=>k2 t=some r) (fun _=>⟨mk 19 [],[z4_4,(z4_6 p1 p2 p3 p4)]⟩) (fun t h=>?_) ?_
  ·subst hk_k2
   refine wxz<|wmr (mto (n:=19) (l':=[(4,(I ((-1))))]) (own':=[z4_4,(z4_6 p1 p2 p3 p4)]) [(4,(I ((-1))))] [0,1] [z4_4,(z4_6 p1 p2 p3 p4)] hq (pw pn) (qb (lc (.rn (rqr rfl)) ln) (qb (lc rwl (lc (rnd Qad) (Qdd (Qa6 fun _=>rwl) (Qa6 fun _=>rwl)))) qn)))<|Qag ?_
   obtain rfl:=osi h
   exact⟨_,Mor.rfl,fio [(I ((-1)))] ⟨rot,tv⟩⟩
  ·skip
   refine wx tbk [(1,rp _ _)] ⟨alq 4 Qbf p0 underlying57,tv⟩<|Qaf ?_
   refine wmr (mto (n:=19) (l':=[(0,(z4_0 p0)),(1,z4_1),(7,(I ((p0.length:Int)))),(8,I 0)]) (own':=[z4_4,(z4_6 p1 p2 p3 p4)]) [(0,(z4_0 p0)),(1,z4_1),(7,(I ((p0.length:Int)))),(8,I 0)] [0,1] [z4_4,(z4_6 p1 p2 p3 p4)] hq (pc (rnd Qad) (pc (.rn (Qao rn0 (rnc (rqr rfl) rn0))) (pw (pw pn)))) (qb (lc (.rn (rqr rfl)) ln) (qb (lc rwl (lc (rnd Qad) (Qdd (Qa6 fun _=>rwl) (Qa6 fun _=>rwl)))) qn))) ?_
   refine Qbx (τ:=Int) (fun n t=>Qav N p0 p1 k2 p2 p3 p4 n t=some r) (fun y3=>⟨mk 19 [(0,(z4_0 p0)),(1,z4_1),(7,(I ((p0.length:Int)))),(8,I y3)],[z4_4,(z4_6 p1 p2 p3 p4)]⟩) (fun t h=>by rw[Qav] at h;cases h) (fun n5 ih y3 h=>?_) N (0) h
   rw[Qav] at h
   skip
   refine wxz<|wsq ?_
   refine bfe h (fun hc6 h=>?_) fun hc6 h=>?_
   ·refine wft hc6<|Qai<|thn<|wsq<|Qaf<|wxz ?_
    obtain⟨x7,hg8,h⟩:=bno h
    obtain⟨hi9,hj10⟩:=gsm hg8
    obtain⟨x12,hf11,h⟩:=bno h
    refine wx tbk [(3,rp _ _),(5,⟨_,_,_,_,false⟩)] ⟨aiq underlying57 ti56 Qbf hi9 hj10,Qei (first:=[]) (cap:=[.ref 0 1 0 0]) (vs:=[(.agg [(I ((⟨x7.From,x7.To,(⟨x7.Seen.Lo,x7.Seen.Hi⟩:Qgr)⟩:Qcc).From)),(I ((⟨x7.From,x7.To,(⟨x7.Seen.Lo,x7.Seen.Hi⟩:Qgr)⟩:Qcc).To)),(I ((⟨x7.From,x7.To,(⟨x7.Seen.Lo,x7.Seen.Hi⟩:Qgr)⟩:Qcc).Seen.Lo)),(I ((⟨x7.From,x7.To,(⟨x7.Seen.Lo,x7.Seen.Hi⟩:Qgr)⟩:Qcc).Seen.Hi))])]) (σr:=[z4_4,(z4_6 p1 p2 p3 p4)]) (σr':=[z4_4,(z4_6 p1 p2 p3 p4)]) (res':=(B x12)) [0,1] rfl Q52 (Qjs N (⟨x7.From,x7.To,(⟨x7.Seen.Lo,x7.Seen.Hi⟩:Qgr)⟩:Qcc) p1 p2 p3 p4 _ hf11) rfl (Qb1 (rnc (.plain _ (NLt.agg _ (nlcc (nlcc nl0)))) (rnc (Qa4 rfl) rn0))) (slc (Qaj (rnc (Qa4 rfl) rn0)) (slc (Qaj (rnc (.plain _ nll) (rnc (pld Qad) (Qdd (Qa6 fun _=>(.plain _ nll)) (Qa6 fun _=>(.plain _ nll)))))) Qak)) (slc (Qaj (rnc (Qfg rfl) rn0)) (slc (Qaj (rnc (.plain _ nll) (rnc (pld Qad) (Qdd (Qa6 fun _=>(.plain _ nll)) (Qa6 fun _=>(.plain _ nll)))))) Qak)) (.plain _ nll) rfl rfl rfl,tv⟩ ?_
    refine bfe h (fun hc13 h=>?_) fun hc13 h=>?_
    ·refine wft hc13<|wxz ?_
     refine wmr (mto (n:=19) (l':=[(4,I y3)]) (own':=[z4_4,(z4_6 p1 p2 p3 p4)]) [(4,I y3)] [0,1] [z4_4,(z4_6 p1 p2 p3 p4)] hq (pw pn) (qb (lc (.rn (rqr rfl)) ln) (qb (lc rwl (lc (rnd Qad) (Qdd (Qa6 fun _=>rwl) (Qa6 fun _=>rwl)))) qn)))<|Qag<|Qaq<|Qae<|Qae<|Qaq<|Qae ?_
     obtain rfl:=osi h
     exact⟨_,Mor.rfl,fio [I y3] ⟨rot,tv⟩⟩
    ·exact wfn hc13<|Qai<|bln<|thn<|wxz1<|thn<|arm (mto (n:=19) [(0,(z4_0 p0)),(1,z4_1),(7,(I ((p0.length:Int)))),(8,(I (w64 (y3+1))))] [0,1] [z4_4,(z4_6 p1 p2 p3 p4)] hq (pc (rnd Qad) (pc (.rn (Qao rn0 (rnc (rqr rfl) rn0))) (pw (pw pn)))) (qb (lc (.rn (rqr rfl)) ln) (qb (lc rwl (lc (rnd Qad) (Qdd (Qa6 fun _=>rwl) (Qa6 fun _=>rwl)))) qn))) (ih (w64 (y3+1)) h)
   ·exact wfn hc6<|Qa3<|Qan<|Qan<|Qa2 rfl<|thn<|⟨(),h,(mto (n:=19) [] [0,1] [z4_4,(z4_6 p1 p2 p3 p4)] hq pn (qb (lc (.rn (rqr rfl)) ln) (qb (lc rwl (lc (rnd Qad) (Qdd (Qa6 fun _=>rwl) (Qa6 fun _=>rwl)))) qn)))⟩
def Qf5 (N:Nat) (p0:Int) (p1:List Qcc) (p2 p3:(Nat→Int)):Option Int:=
  (Qcv N p1 p0 p1 p2 p3).bind fun x3=>
  some x3
abbrev z3_2 (p0:Int) (p1:List Qcc) (p2 p3:(Nat→Int)):Slot:=.own 290 [((I p0)::(.dat 4 (p1.map Qbf))::(arrF 144 p2++arrF 144 p3))]
def z3_3:AV:=.fn (.func 64) [] [(.ref 1 1 (0) 0)]
def z3_0:Slot:=.own 1 [[(.ref 0 290 (0) 0)]]
theorem Qka (N:Nat) (p0:Int) (p1:List Qcc) (p2 p3:(Nat→Int)) (r:Int) (h:Qf5 N p0 p1 p2 p3=some r):Spec prog 53 [(.ref 0 290 (0) 0)] [(z3_2 p0 p1 p2 p3)] (I r) [(z3_2 p0 p1 p2 p3)]:=by
  refine sF func53 1 fun _ _ _ hq hd0=>?_
  unfold Qf5 at h
  refine wxz ?_
  obtain⟨x3,hf2,h⟩:=bno h
  refine wx tbk [(1,rb [(.tmp 3,.ref 0 290 0 0)] [(0,(z3_2 p0 p1 p2 p3))] (.ref 0 290 0 0)),(5,rp [(.tmp 1,.ref 1 1 0 0)] z3_3),(6,⟨_,_,_,_,false⟩)] ⟨Qgt rfl,Qfm (fs:=[]) (cs:=[.ref 1 1 0 0]) rfl rfl rfl rfl,acq [(.dat 4 (p1.map Qbf)),z3_3] [z3_0,(z3_2 p0 p1 p2 p3)] [z3_0,(z3_2 p0 p1 p2 p3)] (I x3) [1,0] Q53 (Qgd N p1 p0 p1 p2 p3 _ hf2) (Qb1 (rnc (pld Qad) (rnc (Qao rn0 (rnc (Qa4 rfl) rn0)) rn0))) (slc (Qaj (rnc (Qa4 rfl) rn0)) (slc (Qaj (rnc (.plain _ nll) (rnc (pld Qad) (Qdd (Qa6 fun _=>(.plain _ nll)) (Qa6 fun _=>(.plain _ nll)))))) Qak)) (slc (Qaj (rnc (Qfg rfl) rn0)) (slc (Qaj (rnc (.plain _ nll) (rnc (pld Qad) (Qdd (Qa6 fun _=>(.plain _ nll)) (Qa6 fun _=>(.plain _ nll)))))) Qak)) (.plain _ nll),tv⟩ ?_
  refine wmr (mto (n:=10) (l':=[(2,I x3)]) (own':=[(z3_2 p0 p1 p2 p3)]) [(2,I x3)] [0] [(z3_2 p0 p1 p2 p3)] hq (pw pn) (qb (lc rwl (lc (rnd Qad) (Qdd (Qa6 fun _=>rwl) (Qa6 fun _=>rwl)))) qn))<|Qag ?_
  obtain rfl:=osi h
  exact⟨_,Mor.rfl,fio [I x3] ⟨rot,tv⟩⟩
end
end Go.Proofs.Ytcoojdacfknboac
