/-
  The texts EngR, EngS, EngT, EngU, EngV, EngW, EngX, EngY, EngN, EngG, EngA, EngJ, Xt, EngZ, Xo, X1 of the proof, one behind the other. No conditions.
-/
import Derived.Test.YtcoojdacfknboaaG1
import Derived.RangeFuncNested
import Derived.Lib.SliceRun
import Derived.Scope
import Derived.RecoverIn
import Derived.Conc.MuLone
import Derived.Test.YtcoojdacfknboaaRows
import Derived.ProofKit
import Derived.Deep.Slices
import Derived.Deep.Fields
import Derived.ChangeSame
import Derived.Lib.SmallJoins
import Derived.SizedLaws
namespace Go.Proofs.Ytcoojdacfknboaa
open _root_.Go.Proofs.Try
open Go.RowKit
set_option maxRecDepth 100000
set_option maxHeartbeats 4000000
set_option synthInstance.maxSize 4000
set_option synthInstance.maxHeartbeats 400000
section
structure Evo1 (X:Nat→Nat→Prop) (φ:Nat→FSlot) (w:World) (X':Nat→Nat→Prop) (φ':Nat→FSlot) (w':World):Prop where
 dat:∀b off,DataAt X φ w b off→DataAt X' φ' w' b off∧w'.cell? ⟨b,off,none⟩=w.cell? ⟨b,off,none⟩
 unus:∀n,φ n≠.unused→φ' n≠.unused
 own:∀n b,φ n≠.unused→φ' n=.own b→φ n=.own b
 tok:∀n t,φ n≠.unused→φ' n=.tok t→φ n=.tok t∧∀b L,t=some (b,L)→w'.heap[b]? = w.heap[b]?
 shape:∀n b,φ n=.own b→φ' n=.own b→Shape w w' b
 mat:∀n bs',φ n≠.unused→φ' n=.mat bs'→∃bs,φ n=.mat bs∧MatLe bs bs'
section
variable {X X' : Nat → Nat → Prop} {φ φ' : Nat → FSlot} {w w' : World}
theorem DatOK.evo1 {m:Nat}{xs:List (List AV)}{A:Option Addr}{len cap:Nat}{g:Nat→Nat→Value}(h:DatOK X φ w m xs A len cap g) (e:Evo1 X φ w X' φ' w'):DatOK X' φ' w' m xs A len cap g:=
 ⟨h.hlen,h.hcap,h.hmost,h.hsize,fun hx=>by
  obtain⟨b,o,hA,hc⟩:=h.hcells hx
  exact⟨b,o,hA,fun j x hj i hi=>by
   obtain⟨h1,h2⟩:=hc j x hj i hi
   obtain⟨e1,e2⟩:=e.dat _ _ h1
   exact⟨e1,e2.trans h2⟩⟩⟩
theorem RelV.evo1 {a:AV}{v:Value}(h:RelV X φ w a v) (e:Evo1 X φ w X' φ' w'):RelV X' φ' w' a v:=by
 induction h with
 |any v=>exact .any v
 |lit v=>exact .lit v
 |agg l vs hs _ ih=>exact .agg l vs hs ih
 |tup l vs hs _ ih=>exact .tup l vs hs ih
 |fn f first cap us vs hu hv _ _ ih1 ih2=>exact .fn f first cap us vs hu hv ih1 ih2
 |dat m xs A len cap g ok _ ih=>exact .dat m xs A len cap g (ok.evo1 e) ih
 |dptr cs i b o g hc _ ih=>
  refine .dptr cs i b o g (fun k hk=>?_) ih
  obtain⟨h1,h2⟩:=hc k hk
  obtain⟨e1,e2⟩:=e.dat _ _ h1
  exact⟨e1,e2.trans h2⟩
 |ref n m j i A hn h=>exact .ref n m j i A (e.unus n hn) (fun b hb=>h b (e.own n b hn hb))
 |own n m j len A cap hc hm hn h=>exact .own n m j len A cap hc hm (e.unus n hn) (fun b hb=>h b (e.own n b hn hb))
 |acc n ty m xs A len cap g ok _ hn ht ih=>
  refine .acc n ty m xs A len cap g (ok.evo1 e) ih (e.unus n hn) (fun t hb=>?_)
  obtain⟨h1,h2⟩:=e.tok n t hn hb
  have:=ht t h1
  unfold Tip at this ⊢
  cases t with
  |none=>exact this
  |some p=>
   obtain⟨b,L⟩:=p
   obtain⟨k1,k2,cur,k3,k4⟩:=this
   exact⟨k1,k2,cur,(h2 b L rfl).trans k3,k4⟩
 |gro n ty m len A cap hc hm hn hv h=>
  refine .gro n ty m len A cap hc hm (e.unus n hn) (fun hb=>hv (e.tok n none hn hb).1) (fun b hb=>?_)
  obtain⟨h1,cur,h2,h3⟩:=h b (e.own n b hn hb)
  obtain⟨cur',h4,h5⟩:=e.shape n b (e.own n b hn hb) hb cur ty _ h2
  exact⟨h1,cur',h4,h5.trans h3⟩
 |row n k m j len A cap hc hm hn h=>
  refine .row n k m j len A cap hc hm (e.unus n hn) fun h0 bs' hb=>?_
  obtain⟨bs,h1,h2⟩:=e.mat n bs' hn hb
  exact⟨Nat.lt_of_lt_of_le (h h0 bs h1).1 h2.1,fun b hk=>(h h0 bs h1).2 b (h2.2 k b (h h0 bs h1).1 hk)⟩
 |rowp n k m j i A hn h=>
  refine .rowp n k m j i A (e.unus n hn) fun bs' hb=>?_
  obtain⟨bs,h1,h2⟩:=e.mat n bs' hn hb
  exact⟨Nat.lt_of_lt_of_le (h bs h1).1 h2.1,fun b hk=>(h bs h1).2 b (h2.2 k b (h bs h1).1 hk)⟩
 |mp n A hn h=>exact .mp n A (e.unus n hn) (fun b hb=>h b (e.own n b hn hb))
def Slot.isFar:Slot→Bool
 |.far _=>true
 |_=>false
theorem SlotOK.evo1 {n:Nat}{s:Slot}(h:SlotOK X φ w n s) (hf:s.isFar=false) (e:Evo1 X φ w X' φ' w') (hn:φ' n=φ n) (hb:∀b,(φ n).lies b→w'.heap[b]? = w.heap[b]? ∧ ∀off,¬X' b off):SlotOK X' φ' w' n s:=by
 cases s with
 |unused=>exact hn.trans h
 |dead=>exact hn.trans h
 |own m xs=>
  obtain⟨b,h1,⟨cur,ty,h2,h3,h4,h5⟩,h6⟩:=h
  exact⟨b,hn.trans h1,⟨cur,ty,(hb b (.inl h1)).1.trans h2,h3,h4,fun j x hj i a hi=>(h5 j x hj i a hi).evo1 e⟩,(hb b (.inl h1)).2⟩
 |tok=>
  obtain⟨t,h1,h2⟩:=h
  exact⟨t,hn.trans h1,fun b L hbl=>⟨by rw[(hb b (.tok (L:=L) (by rw[h1,hbl]))).1];exact(h2 b L hbl).1,(hb b (.tok (L:=L) (by rw[h1,hbl]))).2⟩⟩
 |gro m xs=>
  rcases h with ⟨h1,h2⟩ |⟨b,h1,⟨cur,ty,h2,h3,h4,h5⟩,h6⟩
  ·exact .inl ⟨h1,hn.trans h2⟩
  ·exact .inr ⟨b,hn.trans h1,⟨cur,ty,(hb b (.inl h1)).1.trans h2,h3,h4,fun j x hj i a hi=>(h5 j x hj i a hi).evo1 e⟩,(hb b (.inl h1)).2⟩
 |far J=>cases hf
 |mat m rows=>
  obtain⟨bs,h1,h2,h3,h4⟩:=h
  refine⟨bs,hn.trans h1,h2,h3,fun k xs hx=>?_⟩
  rcases h4 k xs hx with h5 |⟨b,hk,⟨cur,ty,c2,c3,c4,c5⟩,c6⟩
  ·exact .inl h5
  ·exact .inr ⟨b,hk,⟨cur,ty,(hb b (.mat h1 hk)).1.trans c2,c3,c4,fun j x hj i a hi=>(c5 j x hj i a hi).evo1 e⟩,(hb b (.mat h1 hk)).2⟩
 |mp es clock=>
  obtain⟨b,h1,h2,h3⟩:=h
  exact⟨b,hn.trans h1,(hb b (.inl h1)).1.trans h2,(hb b (.inl h1)).2⟩
end
def farL (l:Nat) (o:Obj):(Nat→Nat→Prop)→(Nat→Nat→Prop)→World→Prop:=fun Y _ B=>Y=(fun b _=>b=l)∧B.heap[l]? = some o
def Yof (φ:Nat→FSlot) (D0:Nat):Nat→Nat→Prop:=fun b off=>(∃n,φ n=.own b)∨(∃n L,φ n=.tok (some (b,L))∧L≤off)∨(∃n Y,φ n=.far Y∧Y b off)∨(∃(n:Nat) (bs:List (Option Nat)) (k:Nat),φ n=.mat bs∧bs[k]? = some (some b))∨b=D0
def XH (Y D:Nat→Nat→Prop) (B:World):Nat→Nat→Prop:=fun b off=>b<B.heap.size∧¬D b off∧∀off',¬Y b off'
structure EvoN (kb:Nat) (φ:Nat→FSlot) (w:World) (φ':Nat→FSlot) (w':World):Prop where
 dead:∀n,n<kb→φ n=.dead→φ' n=.dead
 own:∀n b,n<kb→φ n=.own b→φ' n=.own b∨φ' n=.dead
 tok:∀n t,n<kb→φ n=.tok t→φ' n=.dead∨(φ' n=.tok t∧∀b L,t=some (b,L)→w'.heap[b]? = w.heap[b]?)
 far:∀n Y,n<kb→φ n=.far Y→φ' n=.dead∨∃Y',φ' n=.far Y'
 shape:∀n b,n<kb→φ n=.own b→φ' n=.own b→Shape w w' b
 mat:∀n bs,n<kb→φ n=.mat bs→φ' n=.dead∨∃bs',φ' n=.mat bs'∧MatLe bs bs'
theorem Qhk {φ:Nat→FSlot}{D0 n b:Nat}(h:(φ n).lies b):∃off,Yof φ D0 b off:=by
 rcases h with h |⟨L,h⟩ |⟨Y,h,off,hy⟩ |⟨bs,h,k,hk⟩
 ·exact⟨0,.inl ⟨n,h⟩⟩
 ·exact⟨L,.inr (.inl ⟨n,L,h,Nat.le_refl _⟩)⟩
 ·exact⟨off,.inr (.inr (.inl ⟨n,Y,h,hy⟩))⟩
 ·exact⟨0,.inr (.inr (.inr (.inl ⟨n,bs,k,h,hk⟩)))⟩
theorem Qrj {φ:Nat→FSlot}{D0 b off:Nat}(h:Yof φ D0 b off):Qhj φ b∨b=D0:=by
 rcases h with ⟨n,h⟩ |⟨n,L,h,_⟩ |⟨n,Y,h,hy⟩ |⟨n,bs,k,h,hk⟩ |h
 ·exact .inl ⟨n,.inl h⟩
 ·exact .inl ⟨n,.tok h⟩
 ·exact .inl ⟨n,.far h hy⟩
 ·exact .inl ⟨n,.mat h hk⟩
 ·exact .inr h
theorem Qdw {w:World}{l b:Nat}{o:Obj}(h:b≠l):(w.putObj l o).heap[b]? = w.heap[b]? := World.putObj_heap_other h
theorem Qjw {w:World}{l:Nat}{o:Obj}(h:l<w.heap.size):(w.putObj l o).heap[l]? = some o:=World.putObj_heap_same h
theorem Qh0 {w:World}{l:Nat}{o:Obj}:(w.putObj l o).heap.size=w.heap.size:=by simp
theorem Qnn {w:World}{l:Nat}{o o':Obj}(h:w.heap[l]? = some o) (ho:o.isCells=false) (ho':o'.isCells=false) (b off:Nat):(w.putObj l o').cell? ⟨b,off,none⟩=w.cell? ⟨b,off,none⟩:=by
 unfold World.cell?
 dsimp only
 by_cases e:b=l
 ·subst e
  rw[Qjw (Array.getElem?_eq_some_iff.1 h).1,h]
  cases o<;>cases o'<;>first |rfl |(cases ho;done) |(cases ho';done)
 ·rw[Qdw e]
section
variable {P : Program} {X : Nat → Nat → Prop} {φ0 φ φ' : Nat → FSlot} {w0 w w' : World} {ro : Option Nat} {Q : Exit → AS → Prop} {s : AS}
theorem EvoN.refl {kb:Nat}:EvoN kb φ w φ w:=⟨fun _ _ h=>h,fun _ _ _ h=>.inl h,fun _ _ _ h=>.inr ⟨h,fun _ _ _=>rfl⟩,fun _ Y _ h=>.inr ⟨Y,h⟩,fun _ _ _ _ _=>.same rfl,fun _ bs _ h=>.inr ⟨bs,h,.refl bs⟩⟩
theorem EvoN.trans {kb:Nat}{φ'':Nat→FSlot}{w'':World}(h:EvoN kb φ w φ' w') (k:EvoN kb φ' w' φ'' w''):EvoN kb φ w φ'' w'':=by
 refine⟨fun n hk hn=>k.dead n hk (h.dead n hk hn),fun n b hk hn=>?_,fun n t hk hn=>?_,fun n Y hk hn=>?_,fun n b hk hn hn2=>?_,fun n bs hk hn=>?_⟩
 ·rcases h.own n b hk hn with h1 |h1
  ·exact k.own n b hk h1
  ·exact .inr (k.dead n hk h1)
 ·rcases h.tok n t hk hn with h1 |⟨h1,h2⟩
  ·exact .inl (k.dead n hk h1)
  ·rcases k.tok n t hk h1 with k1 |⟨k1,k2⟩
   ·exact .inl k1
   ·exact .inr ⟨k1,fun b L e=>(k2 b L e).trans (h2 b L e)⟩
 ·rcases h.far n Y hk hn with h1 |⟨Y',h1⟩
  ·exact .inl (k.dead n hk h1)
  ·exact k.far n Y' hk h1
 ·rcases h.own n b hk hn with h1 |h1
  ·exact(h.shape n b hk hn h1).trans (k.shape n b hk h1 hn2)
  ·rw[k.dead n hk h1] at hn2;cases hn2
 ·rcases h.mat n bs hk hn with h1 |⟨bs',h1,hl⟩
  ·exact .inl (k.dead n hk h1)
  ·rcases k.mat n bs' hk h1 with k1 |⟨bs'',k1,kl⟩
   ·exact .inl k1
   ·exact .inr ⟨bs'',k1,hl.trans kl⟩
theorem Evo.toN {kb:Nat}(h:Evo X φ w φ' w'):EvoN kb φ w φ' w':=⟨fun n _=>h.dead n,fun n b _=>h.own n b,fun n t _=>h.tok n t,fun n Y _=>h.far n Y,fun n b _=>h.shape n b,fun n bs _=>h.mat n bs⟩
theorem Qss {kb:Nat}(h:∀n b,(φ n).lies b→w'.heap[b]? = w.heap[b]?):EvoN kb φ w φ w':=⟨fun _ _ h=>h,fun _ _ _ h=>.inl h,fun n t _ ht=>.inr ⟨ht,fun b L e=>h n b (.tok (L:=L) (by rw[ht,e]))⟩,fun _ Y _ h=>.inr ⟨Y,h⟩,fun n b _ hn _=>.same (h n b (.own hn)),fun _ bs _ h=>.inr ⟨bs,h,.refl bs⟩⟩
theorem Qu0 {kb:Nat}(h:∀n,n<kb→φ' n=φ n):EvoN kb φ w φ' w:=⟨fun n hk hn=>(h n hk).trans hn,fun n _ hk hn=>.inl ((h n hk).trans hn),fun n _ hk hn=>.inr ⟨(h n hk).trans hn,fun _ _ _=>rfl⟩,fun n Y hk hn=>.inr ⟨Y,(h n hk).trans hn⟩,fun _ _ _ _ _=>.same rfl,fun n bs hk hn=>.inr ⟨bs,(h n hk).trans hn,.refl bs⟩⟩
def Ren (kb:Nat) (own own':List Slot):Prop:=∀(X:Nat→Nat→Prop) (φ:Nat→FSlot) (w:World),Qhu X φ w (fun n=>own.getD n .unused)→∃φ',Qhu X φ' w (fun n=>own'.getD n .unused)∧(∀n,n<kb→φ' n=φ n)∧(∀b,Qhj φ' b→Qhj φ b)∧∀b off,DataAt X φ w b off→DataAt X φ' w b off
structure Mid (kb:Nat) (s:AS) (a:Act) (l D0:Nat) (φ1:Nat→FSlot) (W1:World) (own1:List Slot) (o:Obj) (φ:Nat→FSlot) (Y D:Nat→Nat→Prop) (B:World):Prop where
 hY:Y=Yof φ D0
 regs:∀i v,s.regs[i]? = some v→RelV (XH Y D B) φ B v (a.tmps.getD i undef)
 slot:∀n,SlotOK (XH Y D B) φ B n ((own1++[Slot.far (farL l o)]).getD n .unused)
 distinct:Qco φ
 mark:B.heap[D0]? = some (.deferred (some []))
 free:¬Qhj φ D0
 names:EvoN kb φ1 W1 φ B
theorem Qig {own1:List Slot}{x:Slot}:(own1++[x]).getD own1.length .unused=x:=by simp
theorem Qo3 {own1:List Slot}{x:Slot}{n:Nat}(h:n<own1.length):(own1++[x]).getD n .unused=own1.getD n .unused:=by simp[List.getElem?_append_left h]
theorem Qmn {own1:List Slot}{x:Slot}{n:Nat}(h:own1.length<n):(own1++[x]).getD n .unused=.unused:=by
 have:(own1++[x])[n]? = none:=List.getElem?_eq_none (by simp;omega)
 simp[List.getD_eq_getElem?_getD,this]
section
variable {kb : Nat} {a : Act} {l D0 : Nat} {φ1 : Nat → FSlot} {W1 : World} {own1 : List Slot} {o : Obj} {Y D : Nat → Nat → Prop} {B : World}
theorem Mid.far (m:Mid kb s a l D0 φ1 W1 own1 o φ Y D B):φ own1.length=.far (fun b _=>b=l)∧B.heap[l]? = some o∧l<B.heap.size:=by
 have:=m.slot own1.length
 rw[Qig] at this
 obtain⟨Y0,D',B',h1,⟨rfl,h2⟩,h3⟩:=this
 exact⟨h1,(h3.own l 0 rfl).2.1.trans h2,(h3.own l 0 rfl).1⟩
theorem Mid.shift (m:Mid kb s a l D0 φ1 W1 own1 o φ Y D B) {Xi:Nat→Nat→Prop}{φi:Nat→FSlot}(hF:Qve Xi φi w Y D B):Evo1 (XH Y D B) φ B (XH Y D w) φ w:=by
 have hb:∀n b,(φ n).lies b→w.heap[b]? = B.heap[b]? := fun n b h=>by
  obtain⟨off,hy⟩:=Qhk (D0:=D0) h
  exact(hF.own b off (by rw[m.hY];exact hy)).2.1
 refine⟨fun b off hd=>⟨⟨Nat.lt_of_lt_of_le hd.lt hF.size,fun hx=>hd.hid ⟨hd.lt,hx.2⟩,hd.own,hd.tok,hd.far,hd.mat⟩,?_⟩,fun _ h=>h,fun _ _ _ h=>h,fun n t _ h=>⟨h,fun b L e=>hb n b (.tok (L:=L) (by rw[h,e]))⟩,fun n b h _=>.same (hb n b (.own h)),fun _ bs _ h=>⟨bs,h,.refl bs⟩⟩
 by_cases hy:∃off',Y b off'
 ·obtain⟨off',hy⟩:=hy
  exact World.cell?_of_block (hF.own b off' hy).2.1
 ·have hD:D b off:=Classical.byContradiction fun hD=>hd.hid ⟨hd.lt,hD,fun off' h=>hy ⟨off',h⟩⟩
  exact(hF.dat b off hD fun h=>hy ⟨off,h⟩).2
theorem Mid.sim (m:Mid kb s a l D0 φ1 W1 own1 o φ Y D B) (hnf:∀st∈own1,st.isFar=false) {Xi:Nat→Nat→Prop}{φi:Nat→FSlot}(hF:Qve Xi φi w Y D B) :
  (∀i v,s.regs[i]? = some v→RelV (XH Y D w) φ w v (a.tmps.getD i undef))∧Qhu (XH Y D w) φ w (fun n=>(own1++[Slot.far (farL l o)]).getD n .unused)∧w.heap[l]? = some o:=by
 have e:=m.shift hF
 have hlie:∀n b,(φ n).lies b→w.heap[b]? = B.heap[b]? ∧ ∀off,¬XH Y D w b off:=fun n b h=>by
  obtain⟨off,hy⟩:=Qhk (D0:=D0) h
  exact⟨(hF.own b off (by rw[m.hY];exact hy)).2.1,fun off' hx=>hx.2.2 off (by rw[m.hY];exact hy)⟩
 obtain⟨f1,f2,f3⟩:=m.far
 have hl:w.heap[l]? = some o:=(hlie _ l (.far (off:=0) f1 rfl)).1.trans f2
 refine⟨fun i v hv=>(m.regs i v hv).evo1 e,⟨fun n=>?_,m.distinct,fun b off hx=>hx.1⟩,hl⟩
 have hn:=m.slot n
 show SlotOK _ _ _ n ((own1++[Slot.far (farL l o)]).getD n .unused)
 rcases Nat.lt_trichotomy n own1.length with h |rfl |h
 ·rw[Qo3 h] at hn ⊢
  exact hn.evo1 (hnf _ (by simp[h])) e rfl fun b hb=>hlie n b hb
 ·rw[Qig]
  exact⟨_,fun _ _=>False,w,f1,⟨rfl,hl⟩,⟨fun b off hb=>⟨by have hb':b=l:=hb;subst hb';exact(Array.getElem?_eq_some_iff.1 hl).1,rfl,fun off'=>by have hb':b=l:=hb;subst hb';exact(hlie _ b (.far (off:=0) f1 rfl)).2 off'⟩,fun b off hf=>hf.elim,rfl,rfl,rfl,Nat.le_refl _⟩⟩
 ·rw[Qmn h] at hn ⊢
  exact hn
theorem Mid.back {own2 own3:List Slot}{o' o'':Obj}{regs3:List AV}{a2:Act}{w2:World}{Xi:Nat→Nat→Prop}{φi φ3:Nat→FSlot}(m:Mid kb s a l D0 φ1 W1 own1 o φ Y D B) (hnf:∀st∈own1,st.isFar=false) (hF:Qve Xi φi w Y D B) (hreg:∀v∈s.regs,NLt kb v)
  (hnf2:∀st∈own2,st.isFar=false) (hlen:own2.length=own1.length) (hs:Sim (XH Y D w) φ { w with drawn:=0 } φ3 ⟨regs3,own3⟩ a2 w2) (hren:Ren kb own3 (own2++[Slot.far (farL l o')])) (ho':o'.isCells=false) (ho'':o''.isCells=false) :
  ∃φ2,w2.heap[l]? = some o'∧Kept Y (Yof φ2 D0) w (w2.putObj l o'')∧(∀b off,Yof φ2 D0 b off→b<(w2.putObj l o'').heap.size)∧Mid kb s a l D0 φ1 W1 own2 o'' φ2 (Yof φ2 D0) (grow D Y w (w2.putObj l o'')) (w2.putObj l o''):=by
 obtain⟨hregs,henv,hl⟩:=m.sim hnf hF
 obtain⟨f1,_,_⟩:=m.far
 have E:=hs.evo.of_at
 obtain⟨φ2,henv2,hlow2,hsub,hfwd⟩:=hren _ φ3 w2 hs.env
 refine⟨φ2,?_⟩
 have hk2:φ2 own1.length=.far (fun b _=>b=l)∧w2.heap[l]? = some o':=by
  have:=henv2.slot own1.length
  have e:(own2++[Slot.far (farL l o')]).getD own1.length .unused=.far (farL l o'):=by rw[←hlen];exact Qig
  (try dsimp only at this)
  rw[e] at this
  obtain⟨Y0,D',B',h1,⟨rfl,h2⟩,h3⟩:=this
  exact⟨h1,(h3.own l 0 rfl).2.1.trans h2⟩
 obtain⟨k1,k2⟩:=hk2
 have hlt2:l<w2.heap.size:=(Array.getElem?_eq_some_iff.1 k2).1
 have hcell:=Qnn k2 ho' ho''
 have hYl:∀off,Y l off:=fun off=>by rw[m.hY];exact .inr (.inr (.inl ⟨_,_,f1,rfl⟩))
 have hYD:∀off,Y D0 off:=fun off=>by rw[m.hY];exact .inr (.inr (.inr (.inr rfl)))
 have hlD:D0≠l:=fun e=>m.free ⟨own1.length,.far (off:=0) f1 e⟩
 have hD0:D0<w.heap.size:=(hF.own D0 0 (hYD 0)).1
 have noY:∀b,(∀off,¬Y b off)→¬Qhj φ b:=fun b h ⟨n,hn⟩=>by
  obtain⟨off,hy⟩:=Qhk (D0:=D0) hn
  exact h off (by rw[m.hY];exact hy)
 have hne:∀n b,n≠own1.length→(φ2 n).lies b→b≠l:=fun n b hn hb e=>hn (henv2.distinct n _ b hb (.far (off:=0) k1 e))
 have hbl:∀b,b<w.heap.size→(∀off,¬Y b off)→(w2.putObj l o'').heap[b]? = w.heap[b]? := fun b hb h=>(Qdw fun e=>h 0 (by subst e;exact hYl 0)).trans (E.blk b hb (noY b h))
 have hdat:∀b off,b<w.heap.size→¬Y b off→(∃off',Y b off')→DataAt (XH Y D w) φ w b off:=fun b off hb hy ⟨off',hy'⟩=>by
  rw[m.hY] at hy
  refine⟨hb,fun hx=>hx.2.2 off' hy',fun n hn=>hy (.inl ⟨n,hn⟩),fun n L hn=>?_,fun n Y0 hn hy0=>hy (.inr (.inr (.inl ⟨n,Y0,hn,hy0⟩))),fun n bs z hn hz=>hy (.inr (.inr (.inr (.inl ⟨n,bs,z,hn,hz⟩))))⟩
  rcases Nat.lt_or_ge off L with h |h
  ·exact h
  ·exact absurd (.inr (.inl ⟨n,L,hn,h⟩)) hy
 have hnew:∀b off,Yof φ2 D0 b off→(∃off,Y b off)∨w.heap.size≤b:=fun b off hy=>by
  rcases Qrj hy with hh |rfl
  ·rcases E.new b (hsub b hh) with ⟨n,hn⟩ |h1
   ·obtain⟨off',h2⟩:=Qhk (D0:=D0) hn
    exact .inl ⟨off',by rw[m.hY];exact h2⟩
   ·exact .inr h1
  ·exact .inl ⟨0,hYD 0⟩
 have e2:Evo1 (XH Y D w) φ2 w2 (XH (Yof φ2 D0) (grow D Y w (w2.putObj l o'')) (w2.putObj l o'')) φ2 (w2.putObj l o''):=by
  refine⟨fun b off hd=>⟨⟨by simpa using hd.lt,fun hx=>?_,hd.own,hd.tok,hd.far,hd.mat⟩,hcell b off⟩,fun _ h=>h,fun _ _ _ h=>h,fun n t _ h=>⟨h,fun b L e=>Qdw (hne n b (fun en=>by subst en;rw[k1] at h;cases h) (.tok (L:=L) (by rw[h,e])))⟩,fun n b h _=>.same (Qdw (hne n b (fun en=>by subst en;rw[k1] at h;cases h) (.own h))),fun _ bs _ h=>⟨bs,h,.refl bs⟩⟩
  obtain⟨h1,h2,h3⟩:=hx
  have hlt:b<w.heap.size:=Classical.byContradiction fun h=>h2 (.inr (.inr ⟨Nat.le_of_not_lt h,h1⟩))
  exact hd.hid ⟨hlt,fun h=>h2 (.inl h),fun off' h=>h2 (.inr (.inl ⟨off',h⟩))⟩
 have hbound:∀b off,Yof φ2 D0 b off→b<(w2.putObj l o'').heap.size:=fun b off hy=>by
  rw[Qh0]
  rcases Qrj hy with ⟨n,hn⟩ |rfl
  ·exact(henv2.slot n).lt hn
  ·exact Nat.lt_of_lt_of_le hD0 E.size
 have hlie2:∀n b,(φ2 n).lies b→∀off,¬XH (Yof φ2 D0) (grow D Y w (w2.putObj l o'')) (w2.putObj l o'') b off:=fun n b h off hx=>by
  obtain⟨off',hy⟩:=Qhk (D0:=D0) h
  exact hx.2.2 off' hy
 refine⟨k2,⟨E.os,E.tape,E.output,by rw[Qh0];exact E.size,hbl,fun b off hb hy=>?_,hnew⟩,hbound,⟨rfl,fun i v hv=>(((hregs i v hv).evo E).env (k:=kb) hlow2 hfwd (hreg v (List.mem_of_getElem? hv))).evo1 e2,fun n=>?_,henv2.distinct,?_,?_,?_⟩⟩
 ·by_cases hyy:∃off',Y b off'
  ·obtain⟨d1,d2⟩:=E.dat b off (hdat b off hb hy hyy)
   have d1:=hfwd b off d1
   refine⟨fun hy'=>?_,(hcell b off).trans d2⟩
   rcases hy' with ⟨n,h⟩ |⟨n,L,h,hL⟩ |⟨n,Y0,h,h0⟩ |⟨n,bs,z,h,hz⟩ |rfl
   ·exact d1.own n h
   ·have:=d1.tok n L h;omega
   ·exact d1.far n Y0 h h0
   ·exact d1.mat n bs z h hz
   ·exact hy (hYD off)
  ·have hno:∀off',¬Y b off':=fun off' h=>hyy ⟨off',h⟩
   refine⟨fun hy'=>?_,World.cell?_of_block (hbl b hb hno)⟩
   rcases hnew b off hy' with ⟨off',h⟩ |h
   ·exact hno off' h
   ·omega
 ·have hn:=henv2.slot n
  (try dsimp only at hn)
  show SlotOK _ _ _ n ((own2++[Slot.far (farL l o'')]).getD n .unused)
  rcases Nat.lt_trichotomy n own2.length with h |rfl |h
  ·rw[Qo3 h] at hn ⊢
   exact hn.evo1 (hnf2 _ (by simp[h])) e2 rfl fun b hb=>⟨Qdw (hne n b (by omega) hb),hlie2 n b hb⟩
  ·rw[Qig]
   exact⟨_,fun _ _=>False,w2.putObj l o'',by rw[hlen];exact k1,⟨rfl,Qjw hlt2⟩,⟨fun b off hb=>⟨by have hb':b=l:=hb;subst hb';rw[Qh0];exact hlt2,rfl,fun off'=>by have hb':b=l:=hb;subst hb';exact hlie2 _ b (.far (off:=0) k1 rfl) off'⟩,fun b off hf=>hf.elim,rfl,rfl,rfl,Nat.le_refl _⟩⟩
  ·rw[Qmn h] at hn ⊢
   exact hn
 ·rw[Qdw hlD,E.blk D0 hD0 m.free,(hF.own D0 0 (hYD 0)).2.1]
  exact m.mark
 ·intro hh
  rcases E.new D0 (hsub D0 hh) with h |h
  ·exact m.free h
  ·omega
 ·have n1:EvoN kb φ B φ w:=Qss fun n b h=>by
   obtain⟨off,hy⟩:=Qhk (D0:=D0) h
   exact(hF.own b off (by rw[m.hY];exact hy)).2.1
  refine m.names.trans (n1.trans (E.toN.trans ((Qu0 hlow2).trans ?_)))
  exact⟨fun _ _ h=>h,fun _ _ _ h=>.inl h,fun n t _ ht=>.inr ⟨ht,fun b L e=>Qdw (hne n b (fun en=>by subst en;rw[k1] at ht;cases ht) (.tok (L:=L) (by rw[ht,e])))⟩,fun _ Y _ h=>.inr ⟨Y,h⟩,fun n b _ h _=>.same (Qdw (hne n b (fun en=>by subst en;rw[k1] at h;cases h) (.own h))),fun _ bs _ h=>.inr ⟨bs,h,.refl bs⟩⟩
end
section
variable {P : Program} {X : Nat → Nat → Prop} {φ0 φ : Nat → FSlot} {w0 w : World} {Q : Exit → AS → Prop} {s : AS}
end
end
end
section
theorem Qfa {P:Program}{s:AS}{rv:ResultVar}{v v':AV}(h:Qqn P s rv v) (hl:Less v v'):Qqn P s rv v':=fun X φ0 w0 φ a w hs=>by
 obtain⟨u,h1,h2⟩:=h X φ0 w0 φ a w hs
 exact⟨u,h1,hl _ _ _ _ h2⟩
section
variable {P : Program} {X : Nat → Nat → Prop} {φ0 : Nat → FSlot} {w0 : World} {Q : Exit → AS → Prop} {s : AS}
end
end
section
section
variable {P : Program} {o : Oper} {X : Nat → Nat → Prop} {φ φ' : Nat → FSlot} {w w' : World}
theorem Qj1 {α β:Type}{l:List α}{c:α→β}(h:(!l.isEmpty)=true):l.map c≠[]:=by
 cases l<;>simp_all
end
end
section
section
variable {P : Program} {o : Oper} {X : Nat → Nat → Prop} {φ0 : Nat → FSlot} {w0 : World} {s : AS}
inductive OpG (n:Nat) (ty:TypeId) (m:Nat):AV→AV→Prop where
 |same (a:AV):OpG n ty m a a
 |nil:OpG n ty m (.lit (.slice none 0 0)) (.gro n ty m 0)
theorem Qsa (n:Nat) (ty:TypeId) (m:Nat) (hs:s.slot n=.unused) {regs':List AV}{own':List Slot}(hr:LPw (OpG n ty m) s.regs regs') (hd:own'.getD n .unused=.gro m []) (ho:∀k,k≠n→SPw (OpG n ty m) (s.slot k) (own'.getD k .unused)):Mor X φ0 w0 s ⟨regs',own'⟩:=
 Qj2 (R:=OpG n ty m) (fun φ w henv=>by
  have hn:φ n=.unused:=by
   have:=henv.slot n
   rw[hs] at this
   exact this
  have ne:∀q,φ q≠.unused→q≠n:=fun q hq e=>hq (e▸hn)
  have evo:Evo X φ w (upd φ n (.tok none)) w:=by
   refine⟨rfl,rfl,rfl,Nat.le_refl _,fun _ _ _=>rfl,fun b' ⟨q,hq⟩=>?_,fun b' off hdat=>⟨⟨hdat.lt,hdat.hid,fun q hq=>?_,fun q L hq=>?_,fun q Y hq=>?_,fun q bs z hq=>?_⟩,rfl⟩,fun q hq=>?_,fun q b' hq=>?_,fun q t hq=>?_,fun q Y hq=>?_,fun q bs hq=>?_,fun _ _ _ _=>.same rfl⟩
   ·unfold upd at hq
    split at hq
    ·first |exact(Qa4 hq).elim |exact(Qcy hq).elim
    ·exact .inl ⟨q,hq⟩
   ·unfold upd at hq
    split at hq
    ·cases hq
    ·exact hdat.own q hq
   ·unfold upd at hq
    split at hq
    ·cases hq
    ·exact hdat.tok q L hq
   ·unfold upd at hq
    split at hq
    ·cases hq
    ·exact hdat.far q Y hq
   ·unfold upd at hq
    split at hq
    ·cases hq
    ·exact hdat.mat q bs z hq
   ·unfold upd;rw[if_neg (ne q (by rw[hq];simp))];exact hq
   ·unfold upd;rw[if_neg (ne q (by rw[hq];simp))];exact .inl hq
   ·unfold upd;rw[if_neg (ne q (by rw[hq];simp))];exact .inr ⟨hq,fun _ _ _=>rfl⟩
   ·unfold upd;rw[if_neg (ne q (by rw[hq];simp))];exact .inr ⟨Y,hq⟩
   ·unfold upd;rw[if_neg (ne q (by rw[hq];simp))];exact .inr ⟨bs,hq,.refl bs⟩
  have hR:∀a a' v,OpG n ty m a a'→RelV X φ w a v→RelV X (upd φ n (.tok none)) w a' v:=fun a a' v hf hv=>by
   cases hf with
   |same=>exact hv.evo evo
   |nil=>
    have:=Qci hv
    subst this
    exact .gro n ty m 0 none 0 (Nat.le_refl _) (Nat.zero_le _) (by simp[upd]) (fun _=>⟨rfl,rfl⟩) (fun b hb=>by simp[upd] at hb)
  refine⟨upd φ n (.tok none),evo,fun q q' b' h1 h2=>?_,fun q=>?_,hR⟩
  ·unfold upd at h1 h2
   split at h1
   ·first |exact(Qa4 h1).elim |exact(Qcy h1).elim
   ·split at h2
    ·first |exact(Qa4 h2).elim |exact(Qcy h2).elim
    ·exact henv.distinct q q' b' h1 h2
  ·by_cases e:q=n
   ·subst e
    rw[hd]
    exact .inl ⟨rfl,by simp[upd]⟩
   ·have hsp:=ho q e
    have hok:=henv.slot q
    have eq:upd φ n (.tok none) q=φ q:=by simp[upd,e]
    generalize s.slot q=s1 at hsp hok
    generalize own'.getD q .unused=s2 at hsp
    cases hsp with
    |unused=>exact eq.trans hok
    |dead=>exact eq.trans hok
    |tok=>obtain⟨t,ht,ht'⟩:=hok;exact⟨t,eq.trans ht,ht'⟩
    |own m xs xs' hl' hp=>obtain⟨b,hb,hown⟩:=hok;exact⟨b,eq.trans hb,hown.pw hR hl' hp⟩
    |gro m xs xs' hl' hp=>
     rcases hok with ⟨h1,h2⟩ |⟨b,hb,hown⟩
     ·exact .inl ⟨List.eq_nil_of_length_eq_zero (by rw[←hl',h1];rfl),eq.trans h2⟩
     ·exact .inr ⟨b,eq.trans hb,hown.pw hR hl' hp⟩
    |far J=>
     obtain⟨Y,D,B,f1,f2,f3⟩:=hok
     exact⟨Y,D,B,eq.trans f1,f2,f3.own,fun b off hx hy=>⟨(evo.dat b off (f3.dat b off hx hy).1).1,(f3.dat b off hx hy).2⟩,f3.os,f3.tape,f3.output,f3.size⟩
    |mat m rows hp=>
     obtain⟨bs,m1,m2,m3,m4⟩:=hok
     refine⟨bs,eq.trans m1,m2,m3,fun k xs hk=>?_⟩
     rcases m4 k xs hk with m5 |⟨b,m5,m6⟩
     ·exact .inl m5
     ·exact .inr ⟨b,m5,m6.pw hR rfl fun j x x' h1 h2=>by rw[h1] at h2;cases h2;exact hp xs (List.mem_of_getElem? hk) x (List.mem_of_getElem? h1)⟩
    |mp es clock=>obtain⟨b,hb,hown⟩:=hok;exact⟨b,eq.trans hb,hown⟩) hr
end
section
variable {P : Program} {o : Oper} {X : Nat → Nat → Prop} {φ : Nat → FSlot} {w : World}
theorem Qvc {n0 n b':Nat}{e:TypeId}{cur':Array Value}{w':World}(hd:Qco φ) (hlt:∀n b,(φ n).lies b→b<w.heap.size) (hn:φ n=.unused)
  (h0:φ n0=.tok none∨∃b,φ n0=.own b) (hc:(∃(cur:Array Value),φ n0=.own b'∧w.heap[b']? = some (.cells cur e (0,0))∧w'=w.setRow b' cur')∨(b'=w.heap.size∧w'=w.drew.alloc (.cells cur' e))) :
  Evo X φ w (fun k=>if k=n then .own b' else if k=n0 then .dead else φ k) w'∧Qco (fun k=>if k=n then FSlot.own b' else if k=n0 then .dead else φ k):=by
 have ne:∀k,φ k≠.unused→k≠n:=fun k hk e=>hk (e▸hn)
 have only:∀k,(φ k).lies b'→k=n0∨k=n:=fun k hk=>by
  rcases hc with ⟨cur,h1,_⟩ |⟨rfl,_⟩
  ·exact .inl (hd k n0 b' hk (.own h1))
  ·exact absurd (hlt k _ hk) (Nat.lt_irrefl _)
 have dead0:∀k,k=n0→φ k=.tok none∨∃b,φ k=.own b:=fun k hk=>by subst hk;exact h0
 have hother:∀b,b≠b'→b<w.heap.size→w'.heap[b]? = w.heap[b]? := fun b hb hbl=>by
  rcases hc with ⟨_,_,_,rfl⟩ |⟨_,rfl⟩
  ·exact setRow_other w b' b cur' hb
  ·exact heap_alloc_old w.drew _ hbl
 have hsize:w.heap.size≤w'.heap.size:=by
  rcases hc with ⟨_,_,_,rfl⟩ |⟨_,rfl⟩<;>simp
 refine⟨⟨?_,?_,?_,hsize,fun b hb hnb=>?_,fun b ⟨k,hk⟩=>?_,fun b off hdat=>?_,fun k hk=>?_,fun k b hk=>?_,fun k t hk=>?_,fun k Y hk=>?_,fun k bs hk=>?_,fun k b hk hk2=>?_⟩,fun k k' b hk hk'=>?_⟩
 ·rcases hc with ⟨_,_,_,rfl⟩ |⟨_,rfl⟩<;>rfl
 ·rcases hc with ⟨_,_,_,rfl⟩ |⟨_,rfl⟩<;>rfl
 ·rcases hc with ⟨_,_,_,rfl⟩ |⟨_,rfl⟩<;>rfl
 ·refine hother b (fun e=>?_) hb
  rcases hc with ⟨cur,h1,_⟩ |⟨h1,_⟩
  ·exact hnb ⟨n0,.own (by rw[h1,e])⟩
  ·omega
 ·dsimp only at hk
  split at hk
  ·obtain rfl:=Qek hk
   rcases hc with ⟨cur,h1,_⟩ |⟨h1,_⟩
   ·exact .inl ⟨n0,.own h1⟩
   ·exact .inr (by omega)
  ·split at hk
   ·exact(Qa4 hk).elim
   ·exact .inl ⟨k,hk⟩
 ·have hbb:b≠b':=fun e=>by
   subst e
   rcases hc with ⟨cur,h1,_⟩ |⟨h1,_⟩
   ·exact hdat.own n0 h1
   ·have:=hdat.lt;omega
  refine⟨⟨Nat.lt_of_lt_of_le hdat.lt hsize,hdat.hid,fun k hk=>?_,fun k L hk=>?_,fun k Y hk=>?_,fun k bs q hk=>?_⟩,World.cell?_of_block (hother b hbb hdat.lt)⟩
  ·split at hk
   ·cases hk;exact hbb rfl
   ·split at hk
    ·cases hk
    ·exact hdat.own k hk
  ·split at hk
   ·cases hk
   ·split at hk
    ·cases hk
    ·exact hdat.tok k L hk
  ·split at hk
   ·cases hk
   ·split at hk
    ·cases hk
    ·exact hdat.far k Y hk
  ·split at hk
   ·cases hk
   ·split at hk
    ·cases hk
    ·exact hdat.mat k bs q hk
 ·rw[if_neg (ne k (by rw[hk];simp)),if_neg (fun e=>by rcases dead0 k e with ht |⟨b,ht⟩<;>rw[hk] at ht<;>cases ht)]
  exact hk
 ·rw[if_neg (ne k (by rw[hk];simp))]
  by_cases e:k=n0
  ·rw[if_pos e];exact .inr rfl
  ·rw[if_neg e];exact .inl hk
 ·rw[if_neg (ne k (by rw[hk];simp))]
  by_cases e:k=n0
  ·rw[if_pos e];exact .inl rfl
  ·rw[if_neg e]
   refine .inr ⟨hk,fun b L ht=>?_⟩
   subst ht
   have hl:(φ k).lies b:=.tok hk
   refine hother b (fun e'=>?_) (hlt k b hl)
   subst e'
   rcases only k hl with h |h
   ·exact e h
   ·exact ne k (by rw[hk];simp) h
 ·rw[if_neg (ne k (by rw[hk];simp)),if_neg (fun e=>by rcases dead0 k e with ht |⟨b,ht⟩<;>rw[hk] at ht<;>cases ht)]
  exact .inr ⟨Y,hk⟩
 ·rw[if_neg (ne k (by rw[hk];simp)),if_neg (fun e=>by rcases dead0 k e with ht |⟨b,ht⟩<;>rw[hk] at ht<;>cases ht)]
  exact .inr ⟨bs,hk,.refl bs⟩
 ·have hl:(φ k).lies b:=.own hk
  refine .same (hother b (fun e'=>?_) (hlt k b hl))
  subst e'
  rcases only k hl with h |h
  ·rw[if_neg (ne k (by rw[hk];simp)),if_pos h] at hk2;cases hk2
  ·exact ne k (by rw[hk];simp) h
 ·dsimp only at hk hk'
  split at hk<;>split at hk'
  ·simp_all
  ·obtain rfl:=Qek hk
   split at hk'
   ·exact(Qa4 hk').elim
   ·rcases only k' hk' with h |h<;>contradiction
  ·obtain rfl:=Qek hk'
   split at hk
   ·exact(Qa4 hk).elim
   ·rcases only k hk with h |h<;>contradiction
  ·split at hk
   ·exact(Qa4 hk).elim
   ·split at hk'
    ·exact(Qa4 hk').elim
    ·exact hd k k' b hk hk'
theorem Qqi {x y:Operand}{t e:TypeId}{m m' bytes:Nat}{u:AV}{xs ys:List (List AV)}{n0 n len:Nat}(h:o.op=.call { callee:=.builtin .append,args := #[x,y],argTypes := #[t,t] }) (ht:P.underlying t=some (.slice e)) (he:TE P e m bytes)
  (hlen:xs.length=len) (hu:Qnb u=some (m',ys)) (hm':m'=m) (hne:ys≠[]) (h1:(ys.all fun y=>y.all AV.one)=true) (hb:(xs.length+ys.length)*bytes≤140737488355328) (h63:xs.length+ys.length≤maxLen) {L:Nat}(hL:len+ys.length=L) :
  Qb3 P o [(x,.gro n0 e m len),(y,u)] [(n0,.gro m xs),(n,.unused)] (.gro n e m L) [(n0,.dead),(n,.gro m (xs++ys))]:=by
 subst hm' hlen hL
 intro X φ a w hrd hbl hd hX hlt next Q k
 have hn:φ n=.unused:=hbl (n,.unused) (by simp)
 have hpos:=he.pos
 obtain⟨A,len,cap,g,hy,ok,hr⟩:=Qjs (hrd (y,u) (by simp)) hu
 dsimp only at hy
 obtain⟨ad,news,rfl,hnl,hnc,hn1,hng⟩:=Qmr ok hr hpos hne h1
 have elen:=ok.hlen
 subst elen
 have hx:=hrd (x,.gro n0 e m' xs.length) (by simp)
 dsimp only at hx
 have hs0:=hbl (n0,.gro m' xs) (by simp)
 obtain⟨A1,cap1,hxe,hc1,hcm,hv,ho⟩:∃A1 cap1,a.eval x=.slice A1 xs.length cap1∧xs.length≤cap1∧cap1≤maxLen∧(φ n0=.tok none→xs.length=0∧cap1=0)∧(∀b,φ n0=.own b→A1=some ⟨b,0,none⟩∧∃cur,w.heap[b]? = some (.cells cur e (0,0))∧cur.size=cap1*m'):=by
  cases hxe:a.eval x with
  |slice A l c=>
   rw[hxe] at hx
   cases hx with
   |gro _ _ _ _ _ _ q1 q2 q3 q4 q5=>exact⟨A,c,rfl,q1,q2,q4,q5⟩
  |_=>rw[hxe] at hx;cases hx
 have h0:φ n0=.tok none∨∃b,φ n0=.own b:=by
  rcases hs0 with ⟨_,h⟩ |⟨b,h,_⟩
  ·exact .inl h
  ·exact .inr ⟨b,h⟩
 obtain⟨olds,hol,hsv,hog⟩:∃olds:List Value,olds.length=xs.length*m'∧(((∃A,a.eval x=.slice A 0 0)∧xs.length=0)∨∃g cap cur,a.eval x=.slice (some ⟨g,0,none⟩) xs.length cap∧w.heap[g]? = some (.cells cur e (0,0))∧cur.size=cap*m'∧xs.length≤cap∧cap≤maxLen∧cur.toList.take (xs.length*m')=olds) ∧
   (∀j z,xs[j]? = some z→z.length=m'∧∀i c,z[i]? = some c→∃v,olds[j*m'+i]? = some v∧RelV X φ w c v):=by
  rcases hs0 with ⟨rfl,h⟩ |⟨b,h,hown⟩
  ·obtain⟨q1,q2⟩:=hv h
   subst q2
   exact⟨[],by simp,.inl ⟨⟨A1,hxe⟩,rfl⟩,by simp⟩
  ·obtain⟨rfl,cur,q3,q4⟩:=ho b h
   obtain⟨⟨cur2,ty2,r1,r2,r3,r4⟩,_⟩:=hown
   rw[q3] at r1
   cases r1
   refine⟨cur.toList.take (xs.length*m'),by simp;omega,.inr ⟨b,cap1,cur,hxe,q3,q4,hc1,hcm,rfl⟩,fun j z hj=>⟨r3 z (List.mem_of_getElem? hj),fun i c hi=>?_⟩⟩
   have hjl:=(List.getElem?_eq_some_iff.1 hj).1
   have him:i<m':=by
    have:=r3 z (List.mem_of_getElem? hj)
    have:=(List.getElem?_eq_some_iff.1 hi).1
    omega
   have hoff:=Qcz hjl him
   have:=r4 j z hj i c hi
   have hlt2:j*m'+i<cur.size:=by omega
   refine⟨cur.getD (j*m'+i) undef,?_,this⟩
   rw[List.getElem?_take,if_pos hoff,Array.getElem?_toList,Array.getD_eq_getD_getElem?,Array.getElem?_eq_getElem hlt2]
   rfl
 obtain⟨b',cap',cur',w',hrun,c1,c2,c3,c4,c5⟩:=Qk2 (P:=P) (ty:=o.type) ht he (a.eval x) xs.length olds hol hsv ad ys.length cap news hnl hnc hn1 (List.length_pos_iff.2 hne) hb h63
 have hexec:(execOp a.eval o).run P w=.ok (.value (.slice (some ⟨b',0,none⟩) (xs.length+ys.length) cap')) w':=by
  simp only[execOp,h,resolve,invoke,builtin,Sem.run_bind,Sem.run_pure,Result.andThen_ok,List.map_toArray,List.map_cons,List.map_nil,hy,hrun]
 have hcase:(∃(cur:Array Value),φ n0=.own b'∧w.heap[b']? = some (.cells cur e (0,0))∧w'=w.setRow b' cur')∨(b'=w.heap.size∧w'=w.drew.alloc (.cells cur' e)):=by
  rcases c5 with ⟨capx,h3,hroom,h4⟩ |h3
  ·rcases hs0 with ⟨_,h⟩ |⟨b,h,_⟩
   ·obtain⟨q1,q2⟩:=hv h
    rw[hxe] at h3
    have hc:=(Value.slice.inj h3).2.2
    have:=List.length_pos_iff.2 hne
    omega
   ·obtain⟨q1,cur,q3,_⟩:=ho b h
    rw[hxe,q1] at h3
    have hb2:=(Value.slice.inj h3).1
    cases hb2
    exact .inl ⟨cur,h,q3,h4⟩
  ·exact .inr h3
 have cget:∀off,off<(xs.length+ys.length)*m'→cur'[off]? = (olds++news)[off]? := fun off ho=>by
  rw[←c4,List.getElem?_take,if_pos ho,Array.getElem?_toList]
 have hheap:w'.heap[b']? = some (.cells cur' e (0,0)):=by
  rcases hcase with ⟨cur,_,h3,rfl⟩ |⟨rfl,rfl⟩
  ·exact setRow_heap w b' cur cur' _ _ h3
  ·exact heap_alloc_new w.drew _
 have hXb:∀off,¬X b' off:=fun off hx'=>by
  rcases hcase with ⟨cur,h6,_⟩ |⟨h6,_⟩
  ·rcases hs0 with ⟨_,h⟩ |⟨b,h,hown⟩
   ·rw[h] at h6;cases h6
   ·rw[h] at h6;cases h6;exact hown.hid off hx'
  ·have:=hX _ _ hx';omega
 obtain⟨evo,hd'⟩:=Qvc (X:=X) hd hlt hn h0 hcase
 have hnn:n0≠n:=fun e=>by
  subst e
  rcases h0 with h |⟨b,h⟩<;>rw[hn] at h<;>cases h
 refine Qf1 hexec ?_
 refine k _ _ w' (.gro _ _ _ _ _ _ c2 c3 (by simp) (fun h=>by simp at h) fun b hb'=>?_) (fun p hp=>?_) hd' (fun q hq=>?_) (fun b hb hfr=>?_) evo
 ·simp at hb'
  subst hb'
  exact⟨rfl,cur',hheap,c1⟩
 ·simp only[List.mem_cons,List.not_mem_nil,or_false] at hp
  rcases hp with rfl |rfl
  ·show(if n0=n then _ else _)=_
   rw[if_neg hnn,if_pos rfl]
  ·refine .inr ⟨b',by simp,⟨cur',e,hheap,?_,fun z hz=>?_,fun j z hj i c hi=>?_⟩,hXb⟩
   ·rw[c1,List.length_append];exact Nat.mul_le_mul_right _ c2
   ·rcases List.mem_append.1 hz with hz |hz
    ·obtain⟨j,hj,rfl⟩:=List.getElem_of_mem hz
     exact(hog j _ (List.getElem?_eq_getElem hj)).1
    ·exact ok.hsize z hz
   ·have hjl:j<xs.length+ys.length:=by simpa using(List.getElem?_eq_some_iff.1 hj).1
    rw[Array.getD_eq_getD_getElem?]
    by_cases hjx:j<xs.length
    ·rw[List.getElem?_append_left hjx] at hj
     obtain⟨hz,hzr⟩:=hog j z hj
     have him:i<m':=by
      have:=(List.getElem?_eq_some_iff.1 hi).1
      omega
     obtain⟨v,hv1,hv2⟩:=hzr i c hi
     rw[cget _ (Qcz hjl him),List.getElem?_append_left (by rw[hol];exact Qcz hjx him),hv1]
     exact hv2.evo evo
    ·rw[List.getElem?_append_right (by omega)] at hj
     have him:i<m':=by
      have:=ok.hsize z (List.mem_of_getElem? hj)
      have:=(List.getElem?_eq_some_iff.1 hi).1
      omega
     have e1:j*m'+i-olds.length=(j-xs.length)*m'+i:=by
      rw[hol,Nat.sub_mul]
      have:=Nat.mul_le_mul_right m' (show xs.length≤j by omega)
      omega
     rw[cget _ (Qcz hjl him),List.getElem?_append_right (by rw[hol];have:=Nat.mul_le_mul_right m' (show xs.length≤j by omega);omega),e1,hng (j-xs.length) i (by omega) him]
     exact(hr (j-xs.length) z hj i c hi).evo evo
 ·have hqn:q≠n:=fun e=>hq (by simp[e])
  have hq0:q≠n0:=fun e=>hq (by simp[e])
  simp[hqn,hq0]
 ·rcases hcase with ⟨cur,h6,h8,rfl⟩ |⟨rfl,rfl⟩
  ·refine setRow_other w b' b cur' (fun e=>?_)
   subst e
   exact hfr (n0,.dead) (by simp) (.own h6)
  ·exact heap_alloc_old w.drew _ hb
inductive OpU (n:Nat):AV→AV→Prop where
 |same (a:AV):OpU n a a
 |own (ty m len:Nat):OpU n (.gro n ty m len) (.own n m 0 len)
end
end
section
theorem Less.gro {n:Nat}{ty:TypeId}{m len:Nat}:Less (.gro n ty m len) (.own n m 0 len):=fun _ _ _ _ h=>by
 cases h with
 |gro _ _ _ _ A cap hc hm hn hv h=>exact .own n m 0 len A cap hc hm hn fun b hb=>by rw[(h b hb).1];simp
def SLess (s t:Slot):Prop:=∀(X:Nat→Nat→Prop) (φ:Nat→FSlot) (w:World) (n:Nat),SlotOK X φ w n s→SlotOK X φ w n t
theorem SLess.rfl {s:Slot}:SLess s s:=fun _ _ _ _ h=>h
theorem SLess.gro {m:Nat}{xs:List (List AV)}(hne:xs≠[]):SLess (.gro m xs) (.own m xs):=fun _ _ _ _ h=>by
 rcases h with ⟨h,_⟩ |h
 ·exact absurd h hne
 ·exact h
def BW:List (Nat×Slot)→List (Nat×Slot)→Prop
 |[],[]=>True
 |p::l,q::k=>p.1=q.1∧SLess p.2 q.2∧BW l k
 |_,_=>False
theorem BW.get:∀{l k:List (Nat×Slot)},BW l k→∀q∈k,∃p∈l,p.1=q.1∧SLess p.2 q.2
 |[],[],_,q,hq=>by cases hq
 |p::l,q'::k,h,q,hq=>by
  rcases List.mem_cons.1 hq with rfl |hq
  ·exact⟨p,by simp,h.1,h.2.1⟩
  ·obtain⟨p',hp',e⟩:=BW.get h.2.2 q hq
   exact⟨p',List.mem_cons_of_mem _ hp',e⟩
section
variable {P : Program} {o : Oper} {rd rd' : List (Operand × AV)} {bl bl' eff : List (Nat × Slot)} {r : AV}
theorem Qn6 (hw:BW bl bl') (h:Qb3 P o rd bl' r eff):Qb3 P o rd bl r eff:=fun X φ a w hr hb=>h X φ a w hr fun q hq=>by
 obtain⟨p,hp,e1,e2⟩:=hw.get q hq
 rw[←e1]
 exact e2 _ _ _ _ (hb p hp)
end
section
variable {P : Program} {X : Nat → Nat → Prop} {φ0 : Nat → FSlot} {w0 : World} {s : AS}
theorem Quv (n:Nat) (ty:TypeId) (m:Nat) (t:Nat) (h1:s.regs[t]? = some nilS) (h2:s.slot n=.unused):Mor X φ0 w0 s ⟨s.regs.set t (.gro n ty m 0),setL s.own n (.gro m [])⟩:=
 Qsa n ty m h2 (LPw.set (fun a=>.same a) _ t h1 .nil) (by rw[Qf4,if_pos rfl]) fun k hk=>by
  rw[Qf4,if_neg (fun e=>hk e.symm)]
  exact SPw.refl (fun a=>.same a) _
theorem Quw {n:Nat}(l:List (Nat×AV)) {l':List (Nat×AV)}(hn:(s.regs.length==n)=true) (hmask:Qnr s.regs (mk n l)=mk n l) (hr:PPw Less l l'):Mor X φ0 w0 s ⟨mk n l',s.own⟩:=by
 have hn':s.regs.length=n:=by simpa using hn
 refine Mor.trans (Qlk l hn' hmask) fun φ a w hs=>⟨φ,hs.less ?_⟩
 have key:∀{l k:List AV},LPw Less l k→LessL l k:=by
  intro l
  induction l with
  |nil=>intro k h;cases k with |nil=>trivial |cons=>exact h.elim
  |cons a l ih=>intro k h;cases k with |nil=>exact h.elim |cons b k=>exact⟨h.1,ih h.2⟩
 exact key (Qsi Less.rfl n hr)
end
theorem Qni {ρ:List Nat}{n n':Nat}{ty:TypeId}{m i:Nat}(h:(ρ[n']? == some n)=true):Rn (fun n n'=>ρ[n']? = some n) (.gro n ty m i) (.gro n' ty m i):=.gro (by simpa using h) _ _ _
theorem Qlb {M:Nat→Nat→Prop}{m:Nat}{α:Type}{c:α→List AV}{l:List α}(h:∀x,∀a∈c x,NLt 0 a):SPw (RW M) (.gro m (l.map c)) (.gro m (l.map c)):=.gro m _ _ rfl fun j y y' hj hj'=>by
 rw[hj] at hj'
 cases hj'
 have hy:=Qe2 h l y (List.mem_of_getElem? hj)
 clear hj
 induction y with
 |nil=>exact trivial
 |cons a y ih=>exact⟨.rn (.plain a (hy a (by simp))),ih fun b hb=>hy b (List.mem_cons_of_mem _ hb)⟩
theorem Qws {α:Type}(c:α→List AV) {a b:List α}{n:Nat}(h:decide ((a.length+b.length)*n≤140737488355328)=true):((a.map c).length+(b.map c).length)*n≤140737488355328:=by simpa using h
theorem Qob {P:Program}{o:Oper}{α:Type}{c:α→List AV}{a b:List α}{x y:Operand}{t e:TypeId}{m bytes:Nat}{u:AV}{n0 n:Nat}(h:o.op=.call { callee:=.builtin .append,args := #[x,y],argTypes := #[t,t] }) (ht:P.underlying t=some (.slice e)) (he:TE P e m bytes)
  (hu:Qnb u=some (m,b.map c)) (hne:b.map c≠[]) (h1:((b.map c).all fun y=>y.all AV.one)=true) (hb:decide ((a.length+b.length)*bytes≤140737488355328)=true) (hp:0<bytes) :
  Qb3 P o [(x,.gro n0 e m a.length),(y,u)] [(n0,.gro m (a.map c)),(n,.unused)] (.gro n e m (a++b).length) [(n0,.dead),(n,.gro m ((a++b).map c))]:=by
 have h2:=Qqi (o:=o) (n0:=n0) (n:=n) (xs:=a.map c) (len:=a.length) (L:=(a++b).length) h ht he (by simp) hu rfl hne h1 (Qws c hb) (by
  have h1:=of_decide_eq_true hb
  have h2:=Nat.le_mul_of_pos_right (a.length+b.length) hp
  simp only[List.length_map,maxLen]
  omega) (by simp)
 rwa [←List.map_append] at h2
theorem Qik {P:Program}{o:Oper}{t t':TypeId}{x y:Operand}{k yk:IntKind}{a b D:Int}(h:o.op=.binOp .shr t x y t') (h0:0≤b) (hD:D=2 ^ min b.toNat k.bits):Qb3 P o [(x,.lit (.int k a)),(y,.lit (.int yk b))] [] (.lit (.int k (a/D))) []:=Qbi fun X φ ac w hr _=>by
 have h1:ac.eval x=.int k a:=Qci (hr (x,.lit (.int k a)) (by simp))
 have h2:ac.eval y=.int yk b:=Qci (hr (y,.lit (.int yk b)) (by simp))
 have e:a.fdiv D=a/D:=Int.fdiv_eq_ediv_of_nonneg _ (by rw[hD];exact Int.pow_nonneg (by decide))
 subst hD
 exact⟨_,by simp[execOp,h,h1,h2,eqGuard,binOp,Op.shift,Int.not_lt.2 h0,e],.lit _⟩
def Qlz:Nat→Nat→(Nat→Int)→List AV
 |0,_,_=>[]
 |n+1,k,f=>I (f k)::Qlz n (k+1) f
def arrF (n:Nat) (f:Nat→Int):List AV:=Qlz n 0 f
theorem Qk0:∀(n k:Nat) (f:Nat→Int),Qlz n k f=(List.range n).map fun i=>I (f (k+i))
 |0,_,_=>rfl
 |n+1,k,f=>by
  rw[Qlz,Qk0 n,List.range_succ_eq_map]
  simp[Nat.add_assoc,Nat.add_comm 1,Function.comp_def]
theorem Qxu (n:Nat) (f:Nat→Int):arrF n f=(List.range n).map fun k=>I (f k):=by rw[arrF,Qk0];simp
theorem Qyr {k n:Nat}{f:Nat→Int}:∀a∈arrF n f,NLt k a:=fun a ha=>by
 rw[Qxu] at ha
 obtain⟨i,_,rfl⟩:=List.mem_map.1 ha
 exact .lit _
end
section
section
variable {F : Fence} {n : Nat} {P : Program} {Q : Exit → Act → World → Prop} {a : Act} {w : World}
end
section
variable {P : Program} {X : Nat → Nat → Prop} {φ0 : Nat → FSlot} {w0 : World} {ro : Option Nat} {Q : Exit → AS → Prop} {s : AS} {c : Code}
end
section
variable {P : Program} {o : Oper} {X : Nat → Nat → Prop} {φ φ' : Nat → FSlot} {w w' : World}
def kill (ns:List Nat) (φ:Nat→FSlot):Nat→FSlot:=fun k=>if ns.contains k then .dead else φ k
theorem Qsl {ns:List Nat}{k:Nat}(h:k∈ns):kill ns φ k=.dead:=by simp[kill,h]
theorem Qfe {ns:List Nat}{k:Nat}(h:k∉ns):kill ns φ k=φ k:=by simp[kill,h]
theorem Qe3 {ns:List Nat}{q c:Nat}(hq:(kill ns φ q).lies c):(φ q).lies c∧q∉ns:=by
 by_cases e:q∈ns
 ·rw[Qsl e] at hq;exact(Qa4 hq).elim
 ·rw[Qfe e] at hq;exact⟨hq,e⟩
theorem Quz (ns:List Nat):Evo X φ w (kill ns φ) w:=by
 have ho:∀{q s},kill ns φ q=s→s≠.dead→φ q=s:=fun {q s} h hs=>by
  by_cases e:q∈ns
  ·rw[Qsl e] at h;exact absurd h.symm hs
  ·rwa [Qfe e] at h
 refine⟨rfl,rfl,rfl,Nat.le_refl _,fun _ _ _=>rfl,fun b' ⟨q,hq⟩=>.inl ⟨q,(Qe3 hq).1⟩,fun b' off hdat=>⟨⟨hdat.lt,hdat.hid,fun q hq=>hdat.own q (ho hq (by simp)),fun q L hq=>hdat.tok q L (ho hq (by simp)),fun q Y hq=>hdat.far q Y (ho hq (by simp)),fun q bs z hq=>hdat.mat q bs z (ho hq (by simp))⟩,rfl⟩,fun q hq=>?_,fun q b' hq=>?_,fun q t hq=>?_,fun q Y hq=>?_,fun q bs hq=>?_,fun _ _ _ _=>.same rfl⟩
 ·unfold kill;split<;>simp[hq]
 ·unfold kill;split
  ·exact .inr rfl
  ·exact .inl hq
 ·unfold kill;split
  ·exact .inl rfl
  ·exact .inr ⟨hq,fun _ _ _=>rfl⟩
 ·unfold kill;split
  ·exact .inl rfl
  ·exact .inr ⟨Y,hq⟩
 ·unfold kill;split
  ·exact .inl rfl
  ·exact .inr ⟨bs,hq,.refl bs⟩
def wake (ns:List Nat) (φ0 φ:Nat→FSlot):Nat→FSlot:=fun k=>if ns.contains k then φ0 k else φ k
theorem Qfr {ns:List Nat}{φ0:Nat→FSlot}{k:Nat}(h:k∈ns):wake ns φ0 φ k=φ0 k:=by simp[wake,h]
theorem Qc2 {ns:List Nat}{φ0:Nat→FSlot}{k:Nat}(h:k∉ns):wake ns φ0 φ k=φ k:=by simp[wake,h]
inductive Fresh (ns:List Nat) (eff:List (Nat×Slot)):AV→Prop where
 |any:Fresh ns eff .any
 |lit (v:Value):Fresh ns eff (.lit v)
 |ref (n' m j i:Nat) (h:n'∉ns):Fresh ns eff (.ref n' m j i)
 |own (n' m j len:Nat) (h:n'∉ns):Fresh ns eff (.own n' m j len)
 |gro (n':Nat) (ty:TypeId) (m len:Nat) (h:n'∉ns):Fresh ns eff (.gro n' ty m len)
 |acc (n':Nat) (ty:TypeId) (m:Nat) (xs:List (List AV)) (h:n'∉ns) (ht:(n',Slot.tok)∈eff) (hx:∀x∈xs,∀a∈x,∃v,a=.lit v):Fresh ns eff (.acc n' ty m xs)
 |tup (l:List AV) (h:∀a∈l,Fresh ns eff a):Fresh ns eff (.tup l)
 |agg (l:List AV) (h:∀a∈l,Fresh ns eff a):Fresh ns eff (.agg l)
theorem Fresh.rel {ns:List Nat}{φ0:Nat→FSlot}{eff:List (Nat×Slot)}{a:AV}(h:Fresh ns eff a) (hd:Qco (wake ns φ0 φ)) (he:∀p∈eff,SlotOK X φ w p.1 p.2)
  (hX:∀b' off,DataAt X φ w b' off→(∀n∈ns,φ0 n≠.own b')→DataAt X (wake ns φ0 φ) w b' off):∀{v:Value},RelV X φ w a v→RelV X (wake ns φ0 φ) w a v:=by
 have ne:∀{n'},n'∉ns→wake ns φ0 φ n'=φ n':=fun h=>Qc2 h
 induction h with
 |any=>intro v _;exact .any v
 |lit u=>intro v hv;cases hv;exact .lit _
 |ref n' m j i h=>intro v hv;cases hv with |ref _ _ _ _ A hn hb=>exact .ref n' m j i A (by rw[ne h];exact hn) (by rw[ne h];exact hb)
 |own n' m j len h=>intro v hv;cases hv with |own _ _ _ _ A cap hc hm hn hb=>exact .own n' m j len A cap hc hm (by rw[ne h];exact hn) (by rw[ne h];exact hb)
 |gro n' ty m len h=>intro v hv;cases hv with |gro _ _ _ _ A cap hc hm hn hv hb=>exact .gro n' ty m len A cap hc hm (by rw[ne h];exact hn) (by rw[ne h];exact hv) (by rw[ne h];exact hb)
 |acc n' ty m xs h ht hx=>
  intro v hv
  cases hv with
  |acc _ _ _ _ A len cap g ok hr hn htip=>
   obtain⟨t,htok,_⟩:=he (n',.tok) ht
   dsimp only at htok
   have htip':=htip t htok
   refine .acc n' ty m xs A len cap g ⟨ok.hlen,ok.hcap,ok.hmost,ok.hsize,fun hne=>?_⟩ (fun j x hj i a hi=>?_) (by rw[ne h];exact hn) (by rw[ne h];exact htip)
   ·obtain⟨b0,o0,hA,hc⟩:=ok.hcells hne
    refine⟨b0,o0,hA,fun j x hj i hi=>⟨?_,(hc j x hj i hi).2⟩⟩
    have hb0:∀n∈ns,φ0 n≠.own b0:=by
     intro n hnn hb
     cases t with
     |none=>
      have:=htip'.1
      rw[ok.hlen] at this
      exact hne (List.eq_nil_of_length_eq_zero this)
     |some p=>
      obtain⟨b2,L⟩:=p
      have hA2:=htip'.1
      rw[hA] at hA2
      cases hA2
      have h1:(wake ns φ0 φ n').lies b0:=by rw[ne h];exact .tok htok
      have h2:(wake ns φ0 φ n).lies b0:=.own (by rw[Qfr hnn];exact hb)
      exact h (hd _ _ _ h1 h2▸hnn)
    exact hX _ _ (hc j x hj i hi).1 hb0
   ·obtain⟨u,rfl⟩:=hx x (List.mem_of_getElem? hj) a (List.mem_of_getElem? hi)
    have:=hr j x hj i _ hi
    rw[Qci this]
    exact .lit _
 |tup l h ih=>
  intro v hv
  cases hv with
  |tup _ vs hs hr=>exact .tup l vs hs fun i a hi=>ih a (List.mem_of_getElem? hi) (hr i a hi)
 |agg l h ih=>
  intro v hv
  cases hv with
  |agg _ vs hs hr=>exact .agg l vs hs fun i a hi=>ih a (List.mem_of_getElem? hi) (hr i a hi)
inductive Qkg (ns:List Nat) (eff:List (Nat×Slot)):Slot→Prop where
 |dead:Qkg ns eff .dead
 |tok:Qkg ns eff .tok
 |own (m:Nat) (xs:List (List AV)) (h:∀x∈xs,∀a∈x,Fresh ns eff a):Qkg ns eff (.own m xs)
 |gro (m:Nat) (xs:List (List AV)) (h:∀x∈xs,∀a∈x,Fresh ns eff a):Qkg ns eff (.gro m xs)
inductive Cv (B:List (Nat×Nat×List (List AV))):AV→AV→Prop where
 |same (a:AV):Cv B a a
 |dat (n m j len:Nat) (xs zs:List (List AV)) (h:(n,m,xs)∈B) (hl:j+len≤xs.length) (hz:zs.length=len) (hs:∀(i:Nat) y z,xs[j+i]? = some y→zs[i]? = some z→y.length=z.length) (hr:∀(i:Nat) y z,xs[j+i]? = some y→zs[i]? = some z→∀(q:Nat) a a',y[q]? = some a→z[q]? = some a'→Cv B a a'):Cv B (.own n m j len) (.dat m zs)
 |dptr (n m j i:Nat) (xs:List (List AV)) (c c':List AV) (h:(n,m,xs)∈B) (hj:xs[j]? = some c) (hl:c.length=c'.length) (hr:∀(q:Nat) a a',c[q]? = some a→c'[q]? = some a'→Cv B a a'):Cv B (.ref n m j i) (.dptr c' i)
 |agg (l l':List AV) (hl:l.length=l'.length) (hr:∀(q:Nat) a a',l[q]? = some a→l'[q]? = some a'→Cv B a a'):Cv B (.agg l) (.agg l')
 |fn (f:Fn) (l l' c c':List AV) (hl:l.length=l'.length) (hc:c.length=c'.length) (hr:∀(q:Nat) a a',l[q]? = some a→l'[q]? = some a'→Cv B a a') (hr':∀(q:Nat) a a',c[q]? = some a→c'[q]? = some a'→Cv B a a'):Cv B (.fn f l c) (.fn f l' c')
theorem Cv.rel {B:List (Nat×Nat×List (List AV))}{a a':AV}(h:Cv B a a') (hB:∀p∈B,∃b,φ p.1=.own b∧OwnOK X φ w b p.2.1 p.2.2) (ev:Evo X φ w φ' w) (hdat:∀p∈B,∀b off,φ p.1=.own b→DataAt X φ' w b off):∀{v:Value},RelV X φ w a v→RelV X φ' w a' v:=by
 have geti:∀{l l':List AV},l.length=l'.length→∀(q:Nat) a',l'[q]? = some a'→∃a,l[q]? = some a:=fun {l l'} hl q a' hq=>by
  have:=(List.getElem?_eq_some_iff.1 hq).1
  exact⟨_,List.getElem?_eq_getElem (by omega)⟩
 have cellat:∀{b m:Nat}{cur:Array Value}{ty:TypeId}{xs:List (List AV)}{j:Nat}{c:List AV}{q:Nat},w.heap[b]? = some (.cells cur ty (0,0))→xs.length*m≤cur.size→xs[j]? = some c→q<m→w.cell? ⟨b,j*m+q,none⟩=some (cur.getD (j*m+q) undef):=fun {b m cur ty xs j c q} hc hs hj hq=>by
  have hjl:j<xs.length:=(List.getElem?_eq_some_iff.1 hj).1
  have hpos:j*m+q<cur.size:=by
   have:(j+1)*m≤xs.length*m:=Nat.mul_le_mul_right m hjl
   rw[Nat.add_mul] at this
   omega
  rw[World.cell?]
  simp only[hc]
  simp[Array.getD_eq_getD_getElem?,hpos]
 induction h with
 |same a=>intro v hv;exact hv.evo ev
 |dat n m j len xs zs h hl hz hs hr ih=>
  intro v hv
  obtain⟨b,hn,hown⟩:=hB _ h
  dsimp only at hn hown
  obtain⟨cap,hc1,hc2,rfl⟩:=Qnl hv hn
  obtain⟨cur,ty,hcell,hsz,hlen,hrel⟩:=hown.blk
  have hx:∀(i:Nat) z,zs[i]? = some z→∃y,xs[j+i]? = some y:=fun i z hi=>by
   have:=(List.getElem?_eq_some_iff.1 hi).1
   exact⟨_,List.getElem?_eq_getElem (by omega)⟩
  refine .dat m zs _ len cap (fun i q=>cur.getD ((j+i)*m+q) undef) ⟨hz.symm,hc1,hc2,fun z hz'=>?_,fun _=>⟨b,j*m,rfl,fun i z hi q hq=>⟨hdat _ h b _ hn,?_⟩⟩⟩ fun i z hi q c hq=>?_
  ·obtain⟨i,hi⟩:=List.getElem?_of_mem hz'
   obtain⟨y,hy⟩:=hx i z hi
   rw[←hs i y z hy hi]
   exact hlen y (List.mem_of_getElem? hy)
  ·obtain⟨y,hy⟩:=hx i z hi
   rw[show j*m+i*m+q=(j+i)*m+q from by rw[Nat.add_mul]]
   exact cellat hcell hsz hy hq
  ·obtain⟨y,hy⟩:=hx i z hi
   obtain⟨u,hu⟩:=geti (hs i y z hy hi) q c hq
   exact ih i y z hy hi q u c hu hq (hrel (j+i) y hy q u hu)
 |dptr n m j i xs c c' h hj hl hr ih=>
  intro v hv
  obtain⟨b,hn,hown⟩:=hB _ h
  dsimp only at hn hown
  obtain rfl:=Qiv hv hn
  obtain⟨cur,ty,hcell,hsz,hlen,hrel⟩:=hown.blk
  refine .dptr c' i b (j*m) (fun k=>cur.getD (j*m+k) undef) (fun k hk=>⟨hdat _ h b _ hn,?_⟩) fun k u hk=>?_
  ·exact cellat hcell hsz hj (by rw[←hl,hlen c (List.mem_of_getElem? hj)] at hk;exact hk)
  ·obtain⟨u',hu'⟩:=geti hl k u hk
   exact ih k u' u hu' hk (hrel j c hj k u' hu')
 |agg l l' hl hr ih=>
  intro v hv
  cases hv with
  |agg _ vs hs h=>
   refine .agg l' vs (hs.trans hl) fun i a hi=>?_
   obtain⟨u,hu⟩:=geti hl i a hi
   exact ih i u a hu hi (h i u hu)
 |fn f l l' c c' hl hc hr hr' ih ih'=>
  intro v hv
  cases hv with
  |fn _ _ _ us vs hu hv h1 h2=>
   refine .fn f l' c' us vs (hu.trans hl) (hv.trans hc) (fun i a hi=>?_) fun i a hi=>?_
   ·obtain⟨u,hu⟩:=geti hl i a hi
    exact ih i u a hu hi (h1 i u hu)
   ·obtain⟨u,hu⟩:=geti hc i a hi
    exact ih' i u a hu hi (h2 i u hu)
theorem Qm8 {rd rd':List (Operand×AV)}{bl eff:List (Nat×Slot)}{r:AV}(B:List (Nat×Nat×List (List AV))) (hrd:∀q∈rd',∃p∈rd,p.1=q.1∧Cv B p.2 q.2)
  (hbl:∀n∈B.map (·.1),n∉bl.map (·.1)) (heff:∀n∈B.map (·.1),n∉eff.map (·.1)) (hr:Fresh (B.map (·.1)) eff r) (hs:∀p∈eff,Qkg (B.map (·.1)) eff p.2) (h:Qb3 P o rd' bl r eff):Qb3 P o rd (B.map (fun p=>(p.1,Slot.own p.2.1 p.2.2))++bl) r eff:=by
 intro X φ a w hrv hb hd hX hlt next Q k
 have hB:∀p∈B,∃b,φ p.1=.own b∧OwnOK X φ w b p.2.1 p.2.2:=fun p hp=>hb (p.1,.own p.2.1 p.2.2) (List.mem_append_left _ (List.mem_map.2 ⟨p,hp,rfl⟩))
 generalize hns:B.map (·.1)=ns at hbl heff hr hs
 have hown:∀n∈ns,∃b,φ n=.own b∧b<w.heap.size∧∀off,¬X b off:=fun n hn=>by
  rw[←hns] at hn
  obtain⟨p,hp,rfl⟩:=List.mem_map.1 hn
  obtain⟨b,h1,h2⟩:=hB p hp
  exact⟨b,h1,h2.lt,h2.hid⟩
 have hown':∀n∈ns,∃b,φ n=.own b:=fun n hn=>⟨_,(hown n hn).choose_spec.1⟩
 have ev:Evo X φ w (kill ns φ) w:=Quz ns
 have nhold:∀n∈ns,∀b,φ n=.own b→¬Qhj (kill ns φ) b:=fun n hn b hb ⟨q,hq⟩=>(Qe3 hq).2 (hd _ _ _ (Qe3 hq).1 (.own hb)▸hn)
 have datB:∀n∈ns,∀b off,φ n=.own b→DataAt X (kill ns φ) w b off:=fun n hn b off hb=>by
  obtain⟨b',h1,h2,h3⟩:=hown n hn
  rw[hb] at h1
  cases h1
  exact⟨h2,h3 off,fun q hq=>nhold n hn b hb ⟨q,.own hq⟩,fun q L hq=>(nhold n hn b hb ⟨q,.tok hq⟩).elim,fun q Y hq hy=>nhold n hn b hb ⟨q,.far hq hy⟩,fun q bs z hq hz=>nhold n hn b hb ⟨q,.mat hq hz⟩⟩
 refine h X (kill ns φ) a w (fun q hq=>?_) (fun p hp=>?_) (fun q q' c h1 h2=>hd _ _ _ (Qe3 h1).1 (Qe3 h2).1) hX (fun q c hq=>hlt q c (Qe3 hq).1) next Q ?_
 ·obtain⟨p,hp,e1,e2⟩:=hrd q hq
  rw[←e1]
  exact e2.rel hB ev (fun p hp b off hb=>datB p.1 (hns▸List.mem_map_of_mem hp) b off hb) (hrv p hp)
 ·have hpn:p.1∉ns:=fun e=>hbl _ e (List.mem_map_of_mem hp)
  exact(hb p (List.mem_append_right _ hp)).evo ev (Qfe hpn) fun _ _=>rfl
 ·intro v φ1 w' hv he hd1 hother hheap hev
  have nhold1:∀n∈ns,∀b,φ n=.own b→¬Qhj φ1 b:=fun n hn b hb hh=>by
   rcases hev.new b hh with h1 |h1
   ·exact nhold n hn b hb h1
   ·obtain⟨b',h2,h3,_⟩:=hown n hn
    rw[hb] at h2
    cases h2
    omega
  have hsame:∀n∈ns,∀b,φ n=.own b→w'.heap[b]? = w.heap[b]? := fun n hn b hb=>by
   obtain⟨b',h2,h3,_⟩:=hown n hn
   rw[hb] at h2
   cases h2
   exact hev.blk b h3 (nhold n hn b hb)
  have hd2:Qco (wake ns φ φ1):=fun q q' c h1 h2=>by
   by_cases e:q∈ns
   ·rw[Qfr e] at h1
    by_cases e':q'∈ns
    ·rw[Qfr e'] at h2
     exact hd _ _ _ h1 h2
    ·rw[Qc2 e'] at h2
     obtain⟨b,hb,_⟩:=hown q e
     rw[hb] at h1
     exact(nhold1 q e b hb ⟨q',Qek h1▸h2⟩).elim
   ·rw[Qc2 e] at h1
    by_cases e':q'∈ns
    ·rw[Qfr e'] at h2
     obtain⟨b,hb,_⟩:=hown q' e'
     rw[hb] at h2
     exact(nhold1 q' e' b hb ⟨q,Qek h2▸h1⟩).elim
    ·rw[Qc2 e'] at h2
     exact hd1 _ _ _ h1 h2
  have hdata:∀c off,DataAt X φ1 w' c off→(∀n∈ns,φ n≠.own c)→DataAt X (wake ns φ φ1) w' c off:=fun c off hc hcb=>⟨hc.lt,hc.hid,fun q hq=>by
    by_cases e:q∈ns
    ·rw[Qfr e] at hq;exact hcb q e hq
    ·rw[Qc2 e] at hq;exact hc.own q hq,
   fun q L hq=>by
    by_cases e:q∈ns
    ·rw[Qfr e] at hq;obtain⟨b,hb,_⟩:=hown q e;rw[hb] at hq;cases hq
    ·rw[Qc2 e] at hq;exact hc.tok q L hq,
   fun q Y hq=>by
    by_cases e:q∈ns
    ·rw[Qfr e] at hq;obtain⟨b,hb,_⟩:=hown q e;rw[hb] at hq;cases hq
    ·rw[Qc2 e] at hq;exact hc.far q Y hq,
   fun q bs z hq=>by
    by_cases e:q∈ns
    ·rw[Qfr e] at hq;obtain⟨b,hb,_⟩:=hown q e;rw[hb] at hq;cases hq
    ·rw[Qc2 e] at hq;exact hc.mat q bs z hq⟩
  have frel:∀{a:AV}{v:Value},Fresh ns eff a→RelV X φ1 w' a v→RelV X (wake ns φ φ1) w' a v:=fun hf hv=>hf.rel hd2 he hdata hv
  refine k v (wake ns φ φ1) w' (frel hr hv) (fun p hp=>?_) hd2 (fun q hq=>?_) (fun c hc hne=>hheap c hc fun p hp=>?_) ?_
  ·have hpn:p.1∉ns:=fun e=>heff _ e (List.mem_map_of_mem hp)
   have hok:=he p hp
   have hf:=hs p hp
   obtain⟨p1,p2⟩:=p
   dsimp only at hok hf hpn ⊢
   have own_:∀{c m' zs},OwnOK X φ1 w' c m' zs→(∀x∈zs,∀a∈x,Fresh ns eff a)→OwnOK X (wake ns φ φ1) w' c m' zs:=fun ho hz=>by
    obtain⟨⟨cur,ty,h1,h2,h3,h4⟩,h5⟩:=ho
    exact⟨⟨cur,ty,h1,h2,h3,fun j x hj i a hi=>frel (hz x (List.mem_of_getElem? hj) a (List.mem_of_getElem? hi)) (h4 j x hj i a hi)⟩,h5⟩
   cases hf with
   |dead=>exact(Qc2 hpn).trans hok
   |tok=>obtain⟨t,h1,h2⟩:=hok;exact⟨t,(Qc2 hpn).trans h1,h2⟩
   |own m' zs hz=>obtain⟨c,h1,h2⟩:=hok;exact⟨c,(Qc2 hpn).trans h1,own_ h2 hz⟩
   |gro m' zs hz=>
    rcases hok with ⟨h1,h2⟩ |⟨c,h1,h2⟩
    ·exact .inl ⟨h1,(Qc2 hpn).trans h2⟩
    ·exact .inr ⟨c,(Qc2 hpn).trans h1,own_ h2 hz⟩
  ·by_cases e:q∈ns
   ·rw[Qfr e]
   ·rw[Qc2 e,hother q hq,Qfe e]
  ·exact fun hl=>hne p hp (Qe3 hl).1
  ·refine⟨hev.os,hev.tape,hev.output,hev.size,fun c hc hnc=>hev.blk c hc fun ⟨q,hq⟩=>hnc ⟨q,(Qe3 hq).1⟩,fun c ⟨q,hq⟩=>?_,fun c off hc=>?_,fun q hq=>?_,fun q c hq=>?_,fun q t hq=>?_,fun q Y hq=>?_,fun q bs hq=>?_,fun q c hq hq'=>?_⟩
   ·by_cases e:q∈ns
    ·rw[Qfr e] at hq
     exact .inl ⟨q,hq⟩
    ·rw[Qc2 e] at hq
     rcases hev.new c ⟨q,hq⟩ with ⟨q',h1⟩ |h1
     ·exact .inl ⟨q',(Qe3 h1).1⟩
     ·exact .inr h1
   ·obtain⟨h1,h2⟩:=ev.dat c off hc
    obtain⟨h3,h4⟩:=hev.dat c off h1
    exact⟨hdata c off h3 fun n _ e=>hc.own n e,h4.trans h2⟩
   ·by_cases e:q∈ns
    ·rw[Qfr e];exact hq
    ·rw[Qc2 e];exact hev.dead q (by rw[Qfe e];exact hq)
   ·by_cases e:q∈ns
    ·rw[Qfr e];exact .inl hq
    ·rw[Qc2 e];exact hev.own q c (by rw[Qfe e];exact hq)
   ·by_cases e:q∈ns
    ·obtain⟨b,hb,_⟩:=hown q e;rw[hb] at hq;cases hq
    ·rw[Qc2 e];exact hev.tok q t (by rw[Qfe e];exact hq)
   ·by_cases e:q∈ns
    ·obtain⟨b,hb,_⟩:=hown q e;rw[hb] at hq;cases hq
    ·rw[Qc2 e];exact hev.far q Y (by rw[Qfe e];exact hq)
   ·by_cases e:q∈ns
    ·obtain⟨b,hb,_⟩:=hown q e;rw[hb] at hq;cases hq
    ·rw[Qc2 e];exact hev.mat q bs (by rw[Qfe e];exact hq)
   ·by_cases e:q∈ns
    ·exact .same (hsame q e c hq)
    ·rw[Qc2 e] at hq'
     exact hev.shape q c (by rw[Qfe e];exact hq) hq'
def isIn {α:Type}(l:List α) (x:α) (k:Nat):Prop:=l[k]? = some x
theorem isIn.mem {α:Type}{l:List α}{x:α}{k:Nat}(h:isIn l x k):x∈l:=List.mem_of_getElem? h
theorem Qns {R:AV→AV→Prop}{l k:List AV}(h:LPw R l k):∀(q:Nat) a a',l[q]? = some a→k[q]? = some a'→R a a':=fun q a a' h1 h2=>by
 obtain⟨b,hb,hr⟩:=h.get q a' h2
 rw[h1] at hb
 cases hb
 exact hr
theorem Qkr {B:List (Nat×Nat×List (List AV))}{n m i:Nat}{c c':List AV}(k:Nat) (hk:isIn B (n,m,[c]) k) (h:LPw (Cv B) c c'):Cv B (.ref n m 0 i) (.dptr c' i):=.dptr n m 0 i _ c c' hk.mem rfl h.length (Qns h)
theorem Qxm {B:List (Nat×Nat×List (List AV))}{f:Fn}{l l' c c':List AV}(h:LPw (Cv B) l l') (h':LPw (Cv B) c c'):Cv B (.fn f l c) (.fn f l' c'):=.fn f l l' c c' h.length h'.length (Qns h) (Qns h')
def BR (B:List (Nat×Nat×List (List AV))):List (Operand×AV)→List (Operand×AV)→Prop
 |[],[]=>True
 |p::l,q::k=>p.1=q.1∧Cv B p.2 q.2∧BR B l k
 |_,_=>False
theorem BR.get {B:List (Nat×Nat×List (List AV))}:∀{l k:List (Operand×AV)},BR B l k→∀q∈k,∃p∈l,p.1=q.1∧Cv B p.2 q.2
 |[],[],_,q,hq=>by cases hq
 |p::l,q'::k,h,q,hq=>by
  rcases List.mem_cons.1 hq with rfl |hq
  ·exact⟨p,by simp,h.1,h.2.1⟩
  ·obtain⟨p',hp',e⟩:=BR.get h.2.2 q hq
   exact⟨p',List.mem_cons_of_mem _ hp',e⟩
theorem Qnh {ns:List Nat}{eff:List (Nat×Slot)}:∀p∈([]:List (Nat×Slot)),Qkg ns eff p.2:=by simp
def Qtp (l k:List Nat):Bool:=l.all fun n=>!k.contains n
theorem Qkf {l k:List Nat}(h:Qtp l k=true):∀n∈l,n∉k:=fun n hn hk=>by
 have:=List.all_eq_true.1 h n hn
 simp[hk] at this
theorem Qg1 {rd rd':List (Operand×AV)}{bl eff:List (Nat×Slot)}{r:AV}(B:List (Nat×Nat×List (List AV))) (hrd:BR B rd rd') (hb:(Qtp (B.map (·.1)) (bl.map (·.1))&&Qtp (B.map (·.1)) (eff.map (·.1)))=true) (hr:Fresh (B.map (·.1)) eff r) (hs:∀p∈eff,Qkg (B.map (·.1)) eff p.2) (h:Qb3 P o rd' bl r eff):Qb3 P o rd (B.map (fun p=>(p.1,Slot.own p.2.1 p.2.2))++bl) r eff:=by
 rw[Bool.and_eq_true] at hb
 exact Qm8 B hrd.get (Qkf hb.1) (Qkf hb.2) hr hs h
end
abbrev amv := @Qkx
abbrev ag_ := @Qke
abbrev aas := @Qi7
abbrev nlc := @Qhd
abbrev abn := @Qm9
abbrev rnc := @Qld
abbrev ald := @Qky
abbrev rn0 := @Qwh
abbrev nld := @Qkm
abbrev nl0 := @Qkl
abbrev bno := @Qu3
abbrev asb := @Qxt
abbrev thn := @Qv9
abbrev cko := @Qxn
abbrev jko := @Qsm
abbrev acv := @Qqh
abbrev aln := @Qm5
abbrev mgt := @Qsg
abbrev gsm := @Qso
abbrev wmr := @Qxq
abbrev wjn := @Qu7
abbrev mto := @Qys
abbrev arm := @Qqj
abbrev bln := @Qu2
abbrev awk := @Qqc
abbrev anc := @Qkw
abbrev wsq := @Qn3
abbrev slc := @Qul
abbrev spr := @Qwa
abbrev rqr := @Qry
abbrev lrf := @Less.rfl
abbrev ast := @Qkc
abbrev aio := @Qqf
theorem bfe {β:Type}{c:Bool}{a b:Option β}{r:β}{G:Prop}(h:(bif c then a else b)=some r) (h1:c=true→a=some r→G) (h2:c=false→b=some r→G):G:=by
 cases c
 ·exact h2 rfl h
 ·exact h1 rfl h
section
variable {P : Program} {X : Nat → Nat → Prop} {φ0 : Nat → FSlot} {w0 : World} {ro : Option Nat} {Q : Exit → AS → Prop} {s : AS}
theorem wft {x y:Code}{o:Operand}{b:Bool}(hb:b=true) (h:AWp P X φ0 w0 ro x Q s) (hc:opd s.regs o=.lit (.bool b):=by kernel_rfl):AWp P X φ0 w0 ro (.cond o x y) Q s:=Qxr hb hc h
theorem wfn {x y:Code}{o:Operand}{b:Bool}(hb:b=false) (h:AWp P X φ0 w0 ro y Q s) (hc:opd s.regs o=.lit (.bool b):=by kernel_rfl):AWp P X φ0 w0 ro (.cond o x y) Q s:=Qxs hb hc h
theorem wtr {c:Operand}{x y:Code}(h:AWp P X φ0 w0 ro x Q s) (hc:opd s.regs c=.lit (.bool true):=by kernel_rfl):AWp P X φ0 w0 ro (.cond c x y) Q s:=Qo8 hc h
theorem wfa {c:Operand}{x y:Code}(h:AWp P X φ0 w0 ro y Q s) (hc:opd s.regs c=.lit (.bool false):=by kernel_rfl):AWp P X φ0 w0 ro (.cond c x y) Q s:=Qm1 hc h
theorem rot {t:Tmp}{v:AV}(h:s.regs.getD t .any=v:=by kernel_rfl):Qqn P s (.tmp t) v:=Qr1 h
end
theorem lcc {M:Nat→Nat→Prop}{u v:Value}{l k:List AV}(h:LPw (RW M) l k):LPw (RW M) (.lit u::.lit v::l) (.lit u::.lit v::k):=lc rwl (lc rwl h)
theorem nlcc {k:Nat}{u v:Value}{l:List AV}(h:∀a∈l,NLt k a):∀b∈AV.lit u::AV.lit v::l,NLt k b:=Qhd nll (Qhd nll h)
theorem rncc {M:Nat→Nat→Prop}{u v:Value}{l l':List AV}(h:LPw (Rn M) l l'):LPw (Rn M) (.lit u::.lit v::l) (.lit u::.lit v::l'):=Qld (.plain _ nll) (Qld (.plain _ nll) h)
theorem rnd {M:Nat→Nat→Prop}{m:Nat}{α:Type}{c:α→List AV}{l:List α}(h:∀x,∀a∈c x,NLt 0 a):RW M (.dat m (l.map c)) (.dat m (l.map c)):=.rn (.plain _ (Qkm h l))
theorem pld {M:Nat→Nat→Prop}{m:Nat}{α:Type}{c:α→List AV}{l:List α}(h:∀x,∀a∈c x,NLt 0 a):Rn M (.dat m (l.map c)) (.dat m (l.map c)):=.plain _ (Qkm h l)
end
section
section
variable {P : Program} {o : Oper} {X : Nat → Nat → Prop} {φ : Nat → FSlot} {w : World} {r : AV}
end
section
variable {P : Program} {X : Nat → Nat → Prop} {φ0 φ : Nat → FSlot} {w0 w : World} {s : AS}
end
section
variable {X : Nat → Nat → Prop} {φ0 : Nat → FSlot} {w0 : World} {s : AS}
end
section
variable {P : Program} {o : Oper}
end
end
section
section
variable {P : Program} {o : Oper} {X : Nat → Nat → Prop} {φ φ' : Nat → FSlot} {w : World}
end
section
variable {X : Nat → Nat → Prop} {φ0 : Nat → FSlot} {w0 : World} {s : AS}
inductive FzG (n m:Nat) (xs:List (List AV)):AV→AV→Prop where
 |same (a:AV):FzG n m xs a a
 |any (a:AV):FzG n m xs a .any
 |gro (ty:TypeId) (len:Nat) (h:len=xs.length):FzG n m xs (.gro n ty m len) (.dat m xs)
 |agg (l l':List AV) (hl:l.length=l'.length) (h:∀(i:Nat) a a',l[i]? = some a→l'[i]? = some a'→FzG n m xs a a'):FzG n m xs (.agg l) (.agg l')
end
section
variable {X : Nat → Nat → Prop} {φ0 : Nat → FSlot} {w0 : World} {s : AS}
end
section
variable {X : Nat → Nat → Prop} {φ0 : Nat → FSlot} {w0 : World} {s : AS}
end
theorem Less.tup {l k:List AV}(h:LessL l k):Less (.tup l) (.tup k):=fun X φ w v hv=>by
 cases hv with
 |tup _ vs hs hr=>
  refine .tup k vs (hs.trans h.length) fun i a hi=>?_
  obtain⟨b,hb,hl⟩:=h.get i a hi
  exact hl X φ w _ (hr i b hb)
theorem Quj {k m:Nat}{α:Type}{c:α→List AV}(h:∀x,∀a∈c x,NLt 0 a) (l:List α):SNLt k (.gro m (l.map c)):=.gro m _ (Qlj h l)
end
section
structure Ty where
 g:Bool
 sz:Nat
 z:Option (List Value)
 fl:List (Nat×Bool×Nat)
def FlOk (P:Program):List Field→List (Nat×Bool×Nat)→Prop
 |_,[]=>True
 |f::fs,q::l=>f.offset=q.1∧TI P f.type q.2.1 q.2.2∧FlOk P fs l
 |[],_::_=>False
structure Ty.ok (P:Program) (t:Nat) (v:Ty):Prop where
 ti:TI P t v.g v.sz
 z:match v.z with |some zs=>TZ P t zs |none=>True
 fl:v.fl=[]∨∃fs:Array Field,P.underlying t=some (.struct fs)∧FlOk P fs.toList v.fl
inductive Tab where
 |nil
 |node (k:Nat) (v:Ty) (l r:Tab)
def Tab.get:Tab→Nat→Option Ty
 |.nil,_=>none
 |.node k v l r,t=>bif Nat.beq t k then some v else bif Nat.blt t k then l.get t else r.get t
def Tab.ok (P:Program):Tab→Prop
 |.nil=>True
 |.node k v l r=>Ty.ok P k v∧l.ok P∧r.ok P
theorem Tab.ok.get {P:Program}:∀{T:Tab},T.ok P→∀{t:Nat}{v:Ty},T.get t=some v→Ty.ok P t v
 |.nil,_,_,_,h=>by cases h
 |.node k v l r,hT,t,u,h=>by
  rw[Tab.get] at h
  cases h1:Nat.beq t k with
  |true=>
   rw[h1] at h
   cases h
   rw[Nat.eq_of_beq_eq_true h1]
   exact hT.1
  |false=>
   rw[h1,cond_false] at h
   cases h2:Nat.blt t k with
   |true=>rw[h2] at h;exact Tab.ok.get hT.2.1 h
   |false=>rw[h2] at h;exact Tab.ok.get hT.2.2 h
theorem FlOk.get {P:Program}:∀{fs:List Field}{l:List (Nat×Bool×Nat)},FlOk P fs l→∀(f:Nat) {q:Nat×Bool×Nat},l[f]? = some q→∃fl,fs[f]? = some fl∧fl.offset=q.1∧TI P fl.type q.2.1 q.2.2
 |_,[],_,_,_,h=>by simp at h
 |f::fs,q0::l,hF,0,q,h=>by simp at h;subst h;exact⟨f,rfl,hF.1,hF.2.1⟩
 |f::fs,q0::l,hF,i+1,q,h=>by
  obtain⟨fl,h1,h2⟩:=FlOk.get hF.2.2 i (by simpa using h)
  exact⟨fl,by simpa using h1,h2⟩
 |[],_::_,hF,_,_,_=>hF.elim
abbrev AuR:Type:=List Operand×List Nat×AV×List (Nat×Slot)
def Qvr (own:List Slot) (n m j:Nat):Option (List AV):=match own.getD n .unused with
 |.own m' xs=>bif Nat.beq m' m then xs[j]? else none
 |_=>none
def Qpc (ty:Ty) (own:List Slot) (x:Operand):AV→Option AuR
 |.ref n m j i=>match Qvr own n m j with
  |some c=>bif Nat.ble (i+ty.sz) c.length&&(ty.g||Nat.beq ty.sz 1) then some ([x],[n],ldA ty.g ty.sz i c,[]) else none
  |none=>none
 |.dptr c i=>bif Nat.ble (i+ty.sz) c.length&&(ty.g||Nat.beq ty.sz 1) then some ([x],[],ldA ty.g ty.sz i c,[]) else none
 |_=>none
def Qn4 (ty:Ty) (own:List Slot) (x y:Operand) (v:AV):AV→Option AuR
 |.ref n m j i=>match own.getD n .unused with
  |.own m' xs=>bif Nat.beq m' m then(match xs[j]? with
   |some c=>bif Nat.beq ty.sz (stA v).length&&((stA v).all AV.one&&Nat.ble (i+(stA v).length) c.length) then some ([x,y],[n],.any,[(n,.own m (xs.set j (Qer c i (stA v))))]) else none
   |none=>none) else none
  |_=>none
 |_=>none
def Qlw (q:Nat×Bool×Nat) (own:List Slot) (x:Operand):AV→Option AuR
 |.ref n m j i=>match own.getD n .unused with
  |.own m' _=>bif Nat.beq m' m then some ([x],[n],.ref n m j (i+q.1),[]) else none
  |_=>none
 |.dptr c i=>some ([x],[],.dptr c (i+q.1),[])
 |_=>none
def Qy7 (op:BinOp) (x y:Operand):AV→AV→Option AuR
 |.lit (.int k a),.lit (.int k' b)=>if k=k' then(match binI op k a b with |some v=>some ([x,y],[],.lit v,[]) |none=>none) else none
 |_,_=>none
def Qy5 (x:Operand):AV→Option AuR
 |.lit (.bool b)=>some ([x],[],.lit (.bool !b),[])
 |_=>none
def Qy6 (x:Operand):AV→Option AuR
 |.lit (.int k a)=>some ([x],[],.lit (.int k (k.wrap (0-a))),[])
 |_=>none
def Qy4 (c x y:Operand) (u v:AV):AV→Option AuR
 |.lit (.bool b)=>some ([c,x,y],[],bif b then u else v,[])
 |_=>none
def Qm3 (x:Operand) (i:Nat):AV→Option AuR
 |.tup l=>match l[i]? with |some r=>some ([x],[],r,[]) |none=>none
 |_=>none
def Qn5 (q:Nat×Bool×Nat) (x:Operand):AV→Option AuR
 |.agg l=>bif Nat.ble (q.1+q.2.2) l.length&&(q.2.1||Nat.beq q.2.2 1) then some ([x],[],ldA q.2.1 q.2.2 q.1 l,[]) else none
 |_=>none
def au (T:Tab) (op:Op) (v:Operand→AV) (own:List Slot):Option AuR:=match op with
 |.move x=>some ([x],[],v x,[])
 |.assign x=>some ([x],[],v x,[])
 |.pick c x y=>Qy4 c x y (v x) (v y) (v c)
 |.binOp op _ x y _=>Qy7 op x y (v x) (v y)
 |.unOp .not _ x=>Qy5 x (v x)
 |.unOp .neg _ x=>Qy6 x (v x)
 |.extract x i=>Qm3 x i (v x)
 |.field t x f=>match (T.get t).bind (·.fl[f]?) with |some q=>Qn5 q x (v x) |none=>none
 |.fieldAddr t x f=>match (T.get t).bind (·.fl[f]?) with |some q=>bif Nat.beq q.2.2 0 then none else Qlw q own x (v x) |none=>none
 |.load t x=>match T.get t with |some ty=>Qpc ty own x (v x) |none=>none
 |.store t x y=>match T.get t with |some ty=>Qn4 ty own x y (v y) (v x) |none=>none
 |.alloc t=>match (T.get t).bind (·.z) with |some zs=>some ([],[own.length],.ref own.length zs.length 0 0,[(own.length,.own zs.length [zs.map AV.lit])]) |none=>none
 |.box _ x=>bif (stA (v x)).all AV.one then some ([x],[own.length],.ref own.length (stA (v x)).length 0 0,[(own.length,.own (stA (v x)).length [stA (v x)])]) else none
 |.nilCheck x=>bif Qr6 (v x) then some ([x],[],v x,[]) else none
 |_=>none
section
variable {P : Program} {T : Tab} {o : Oper} {v : Operand → AV} {own : List Slot} {q : AuR}
abbrev AuOK (P:Program) (o:Oper) (v:Operand→AV) (own:List Slot) (q:AuR):Prop:=Qb3 P o (q.1.map fun x=>(x,v x)) (q.2.1.map fun n=>(n,own.getD n .unused)) q.2.2.1 q.2.2.2
theorem Qtr {a b:Bool}(h:(a&&b)=true):a=true∧b=true:=by simpa using h
theorem or_g {g:Bool}{n:Nat}(h:(g||Nat.beq n 1)=true):g=false→n=1:=fun e=>by subst e;exact Nat.eq_of_beq_eq_true h
theorem Qtk {t:TypeId}{ty:Ty}{x:Operand}(ho:o.op=.load t x) (ht:TI P t ty.g ty.sz) (h:Qpc ty own x (v x)=some q):AuOK P o v own q:=by
 cases hv:v x with
 |ref n m j i=>
  rw[hv] at h
  unfold Qpc Qvr at h
  dsimp only at h
  cases hs:own.getD n .unused with
  |own m' xs=>
   rw[hs] at h
   dsimp only at h
   cases hm:Nat.beq m' m with
   |false=>rw[hm] at h;cases h
   |true=>
    rw[hm,cond_true] at h
    have hm':=Nat.eq_of_beq_eq_true hm
    subst hm'
    cases hc:xs[j]? with
    |none=>rw[hc] at h;cases h
    |some c=>
     rw[hc] at h
     dsimp only at h
     cases hb:Nat.ble (i+ty.sz) c.length&&(ty.g||Nat.beq ty.sz 1) with
     |false=>rw[hb] at h;cases h
     |true=>
      rw[hb] at h
      cases h
      obtain⟨h1,h2⟩:=Qtr hb
      have:=Qky (P:=P) (n:=n) (m:=m') ho ht (or_g h2) hc (Nat.le_of_ble_eq_true h1) rfl
      simpa only [AuOK,List.map_cons,List.map_nil,hv,hs] using this
  |_=>rw[hs] at h;cases h
 |dptr c i=>
  rw[hv] at h
  unfold Qpc at h
  dsimp only at h
  cases hb:Nat.ble (i+ty.sz) c.length&&(ty.g||Nat.beq ty.sz 1) with
  |false=>rw[hb] at h;cases h
  |true=>
   rw[hb] at h
   cases h
   obtain⟨h1,h2⟩:=Qtr hb
   have:=Qn8 (P:=P) ho ht (or_g h2) (Nat.le_of_ble_eq_true h1) rfl
   simpa only [AuOK,List.map_cons,List.map_nil,hv] using this
 |_=>rw[hv] at h;cases h
theorem Qp9 {t:TypeId}{ty:Ty}{x y:Operand}(ho:o.op=.store t x y) (ht:TI P t ty.g ty.sz) (h:Qn4 ty own x y (v y) (v x)=some q):AuOK P o v own q:=by
 cases hv:v x with
 |ref n m j i=>
  rw[hv] at h
  unfold Qn4 at h
  dsimp only at h
  cases hs:own.getD n .unused with
  |own m' xs=>
   rw[hs] at h
   dsimp only at h
   cases hm:Nat.beq m' m with
   |false=>rw[hm] at h;cases h
   |true=>
    rw[hm,cond_true] at h
    have hm':=Nat.eq_of_beq_eq_true hm
    subst hm'
    cases hc:xs[j]? with
    |none=>rw[hc] at h;cases h
    |some c=>
     rw[hc] at h
     dsimp only at h
     cases hb:Nat.beq ty.sz (stA (v y)).length&&((stA (v y)).all AV.one&&Nat.ble (i+(stA (v y)).length) c.length) with
     |false=>rw[hb] at h;cases h
     |true=>
      rw[hb] at h
      cases h
      obtain⟨h1,h2⟩:=Qtr hb
      obtain⟨h2,h3⟩:=Qtr h2
      have h1':=Nat.eq_of_beq_eq_true h1
      rw[h1'] at ht
      have:=Qkc (P:=P) (n:=n) (m:=m') ho ht h2 hc (Nat.le_of_ble_eq_true h3) rfl
      simpa only [AuOK,List.map_cons,List.map_nil,hv,hs] using this
  |_=>rw[hs] at h;cases h
 |_=>rw[hv] at h;cases h
theorem Qyv (hT:T.ok P) {t:TypeId}{f:Nat}{a:Nat×Bool×Nat}(h:(T.get t).bind (·.fl[f]?)=some a):∃fs:Array Field,P.underlying t=some (.struct fs)∧∃fl,fs[f]? = some fl∧fl.offset=a.1∧TI P fl.type a.2.1 a.2.2:=by
 cases hg:T.get t with
 |none=>rw[hg] at h;cases h
 |some ty=>
  rw[hg] at h
  have h':ty.fl[f]? = some a:=h
  rcases(Tab.ok.get hT hg).fl with e |⟨fs,h1,h2⟩
  ·rw[e] at h';simp at h'
  ·obtain⟨fl,h3,h4⟩:=h2.get f h'
   exact⟨fs,h1,fl,by simpa using h3,h4⟩
theorem Qqb (hT:T.ok P) {t:TypeId}{f:Nat}{a:Nat×Bool×Nat}{x:Operand}(ho:o.op=.fieldAddr t x f) (hq:(T.get t).bind (·.fl[f]?)=some a) (h0:Nat.beq a.2.2 0=false) (h:Qlw a own x (v x)=some q):AuOK P o v own q:=by
 obtain⟨fs,h1,fl,h2,h3,h4⟩:=Qyv hT hq
 have hn:a.2.2≠0:=fun e=>by rw[e] at h0;cases h0
 cases hv:v x with
 |ref n m j i=>
  rw[hv] at h
  unfold Qlw at h
  dsimp only at h
  cases hs:own.getD n .unused with
  |own m' xs=>
   rw[hs] at h
   dsimp only at h
   cases hm:Nat.beq m' m with
   |false=>rw[hm] at h;cases h
   |true=>
    rw[hm,cond_true] at h
    have hm':=Nat.eq_of_beq_eq_true hm
    subst hm'
    cases h
    have:=Qoa (P:=P) (n:=n) (m:=m') (j:=j) (i:=i) (xs:=xs) ho h1 h2 rfl h4 hn rfl
    rw[h3] at this
    simpa only [AuOK,List.map_cons,List.map_nil,hv,hs] using this
  |_=>rw[hs] at h;cases h
 |dptr c i=>
  rw[hv] at h
  unfold Qlw at h
  cases h
  have:=Qm6 (P:=P) (c:=c) (i:=i) ho h1 h2 rfl h4 hn rfl
  rw[h3] at this
  simpa only [AuOK,List.map_cons,List.map_nil,hv] using this
 |_=>rw[hv] at h;cases h
theorem Qqa (hT:T.ok P) {t:TypeId}{f:Nat}{a:Nat×Bool×Nat}{x:Operand}(ho:o.op=.field t x f) (hq:(T.get t).bind (·.fl[f]?)=some a) (h:Qn5 a x (v x)=some q):AuOK P o v own q:=by
 obtain⟨fs,h1,fl,h2,h3,h4⟩:=Qyv hT hq
 cases hv:v x with
 |agg l=>
  rw[hv] at h
  unfold Qn5 at h
  dsimp only at h
  cases hb:Nat.ble (a.1+a.2.2) l.length&&(a.2.1||Nat.beq a.2.2 1) with
  |false=>rw[hb] at h;cases h
  |true=>
   rw[hb] at h
   cases h
   obtain⟨b1,b2⟩:=Qtr hb
   have:=Qn9 (P:=P) (l:=l) ho h1 h2 rfl h4 (by rw[h3];exact Nat.le_of_ble_eq_true b1) (or_g b2) rfl
   rw[h3] at this
   simpa only [AuOK,List.map_cons,List.map_nil,hv,ldA] using this
 |_=>rw[hv] at h;cases h
theorem Qr4 (own:List Slot):own.getD own.length .unused=.unused:=by simp
theorem Qzs (hT:T.ok P) (h:au T o.op v own=some q):AuOK P o v own q:=by
 cases ho:o.op with
 |move x=>rw[ho] at h;cases h;exact Qkx ho
 |assign x=>rw[ho] at h;cases h;exact Qi7 ho
 |pick c x y=>
  rw[ho] at h
  unfold au at h
  dsimp only at h
  cases hc:v c with
  |lit u=>
   rw[hc] at h
   cases u with
   |bool b=>cases h;simpa only [AuOK,List.map_cons,List.map_nil,hc] using Qqd (P:=P) (u:=v x) (v:=v y) ho rfl
   |_=>cases h
  |_=>rw[hc] at h;cases h
 |binOp op t x y t'=>
  rw[ho] at h
  unfold au Qy7 at h
  dsimp only at h
  split at h
  ·next k a k' b hx hy=>
   split at h
   ·next e=>
    subst e
    split at h
    ·next u hu=>
     cases h
     simpa only [AuOK,List.map_cons,List.map_nil,hx,hy] using Qm9 (P:=P) ho hu
    ·cases h
   ·cases h
  ·cases h
 |unOp op t x=>
  rw[ho] at h
  cases op with
  |not=>
   unfold au Qy5 at h
   dsimp only at h
   split at h
   ·next b hx=>cases h;simpa only [AuOK,List.map_cons,List.map_nil,hx] using Qtl (P:=P) ho
   ·cases h
  |neg=>
   unfold au Qy6 at h
   dsimp only at h
   split at h
   ·next k a hx=>cases h;simpa only [AuOK,List.map_cons,List.map_nil,hx] using Qtm (P:=P) ho
   ·cases h
  |_=>cases h
 |extract x i=>
  rw[ho] at h
  unfold au Qm3 at h
  dsimp only at h
  split at h
  ·next l hx=>
   split at h
   ·next r hr=>cases h;simpa only [AuOK,List.map_cons,List.map_nil,hx] using Qlx (P:=P) ho hr
   ·cases h
  ·cases h
 |field t x f=>
  rw[ho] at h
  unfold au at h
  dsimp only at h
  split at h
  ·next a hq=>exact Qqa hT ho hq h
  ·cases h
 |fieldAddr t x f=>
  rw[ho] at h
  unfold au at h
  dsimp only at h
  split at h
  ·next a hq=>
   cases h0:Nat.beq a.2.2 0 with
   |true=>rw[h0] at h;cases h
   |false=>rw[h0] at h;exact Qqb hT ho hq h0 h
  ·cases h
 |load t x=>
  rw[ho] at h
  unfold au at h
  dsimp only at h
  split at h
  ·next ty hq=>exact Qtk ho (Tab.ok.get hT hq).ti h
  ·cases h
 |store t x y=>
  rw[ho] at h
  unfold au at h
  dsimp only at h
  split at h
  ·next ty hq=>exact Qp9 ho (Tab.ok.get hT hq).ti h
  ·cases h
 |alloc t=>
  rw[ho] at h
  unfold au at h
  dsimp only at h
  split at h
  ·next zs hq=>
   cases h
   cases hg:T.get t with
   |none=>rw[hg] at hq;cases hq
   |some ty=>
    rw[hg] at hq
    have hz:=(Tab.ok.get hT hg).z
    have hq':ty.z=some zs:=hq
    rw[hq'] at hz
    simpa only [AuOK,List.map_cons,List.map_nil,Qr4] using Qoc (P:=P) (n:=own.length) ho hz rfl
  ·cases h
 |box t x=>
  rw[ho] at h
  unfold au at h
  dsimp only at h
  cases hb:(stA (v x)).all AV.one with
  |false=>rw[hb] at h;cases h
  |true=>
   rw[hb] at h
   cases h
   simpa only [AuOK,List.map_cons,List.map_nil,Qr4] using Qto (P:=P) (n:=own.length) ho hb rfl rfl
 |nilCheck x=>
  rw[ho] at h
  unfold au at h
  dsimp only at h
  cases hb:Qr6 (v x) with
  |false=>rw[hb] at h;cases h
  |true=>
   rw[hb] at h
   cases h
   exact Qkw ho hb
 |_=>rw[ho] at h;cases h
end
def badR:Rec:=⟨[],[],.any,[],true⟩
def toR (g:List (Operand×AV)) (v:Operand→AV) (own:List Slot):Option AuR→Rec
 |some q=>⟨g++q.1.map fun x=>(x,v x),q.2.1.map fun n=>(n,own.getD n .unused),q.2.2.1,q.2.2.2,false⟩
 |none=>badR
def Qgo (T:Tab) (ops:Array Oper) (o:Oper) (regs:List AV) (own:List Slot):Rec:=match o.guard with
 |none=>toR [] (opd regs) own (au T o.op (opd regs) own)
 |some (j,want)=>match (ops[j]?).bind (·.dst) with
  |some d=>match opd regs (.tmp d) with
   |.lit v=>bif Qkb v==some want then toR [(.tmp d,.lit v)] (opd regs) own (au T o.op (opd regs) own) else⟨[(.tmp d,.lit v)],[],.lit undef,[],true⟩
   |_=>badR
  |none=>badR
def Qjy:List (Nat×Rec)→Nat→Rec→Rec
 |(k,c)::_,i,d=>bif Nat.beq k i then c else d
 |[],_,d=>d
def Qle:List (Nat×Rec)→Nat→List (Nat×Rec)
 |(k,c)::H,i=>bif Nat.beq k i then H else(k,c)::H
 |[],_=>[]
def atH:List (Nat×Rec)→Nat→Bool
 |(k,_)::_,i=>Nat.beq k i
 |[],_=>false
def comp (T:Tab) (ops:Array Oper):List Oper→Nat→List (Nat×Rec)→List AV→List Slot→List Rec
 |[],_,_,_,_=>[]
 |o::l,i,H,regs,own=>match Qjy H i (Qgo T ops o regs own) with
  |⟨rd,bl,r,eff,s⟩=>⟨rd,bl,r,eff,s⟩::comp T ops l (i+1) (Qle H i) (putA regs o.dst r) (setE own eff)
def exec (T:Tab) (ops:Array Oper):List Oper→Nat→List (Nat×Rec)→List AV→List Slot→AS
 |[],_,_,regs,own=>⟨regs,own⟩
 |o::l,i,H,regs,own=>match Qjy H i (Qgo T ops o regs own) with
  |⟨_,_,r,eff,_⟩=>exec T ops l (i+1) (Qle H i) (putA regs o.dst r) (setE own eff)
def Qse (T:Tab) (ops:Array Oper):List Oper→Nat→List (Nat×Rec)→List AV→List Slot→List (List AV×List Slot)
 |[],_,_,_,_=>[]
 |o::l,i,H,regs,own=>match Qjy H i (Qgo T ops o regs own) with
  |⟨rd,bl,r,eff,_⟩=>bif atH H i
   then(rd.map (fun p=>opd regs p.1),bl.map (fun p=>own.getD p.1 .unused))::Qse T ops l (i+1) (Qle H i) (putA regs o.dst r) (setE own eff)
   else Qse T ops l (i+1) (Qle H i) (putA regs o.dst r) (setE own eff)
def good (T:Tab) (ops:Array Oper) (n:Nat):List Oper→Nat→List (Nat×Rec)→List AV→List Slot→Bool
 |[],_,H,_,_=>H.isEmpty
 |o::l,i,H,regs,own=>match Qjy H i (Qgo T ops o regs own) with
  |⟨rd,bl,r,eff,s⟩=>(Qln ops o ⟨rd,bl,r,eff,s⟩&&(match o.dst with |some d=>decide (d<n) |none=>true)&&(eff.all fun q=>bl.any fun r=>q.1==r.1))&&good T ops n l (i+1) (Qle H i) (putA regs o.dst r) (setE own eff)
def opAt (ops:Array Oper) (k:Nat):Oper:=(ops[k]?).getD default
def HOk (P:Program) (ops:Array Oper):List (Nat×Rec)→Prop
 |[]=>True
 |p::H=>OkR P (opAt ops p.1,p.2)∧HOk P ops H
section
variable {P : Program} {T : Tab} {ops : Array Oper}
theorem Qo6:∀(l:List Oper) (i:Nat) (H:List (Nat×Rec)) (regs:List AV) (own:List Slot),(comp T ops l i H regs own).length=l.length
 |[],_,_,_,_=>rfl
 |o::l,i,H,regs,own=>by
  rw[comp]
  cases Qjy H i (Qgo T ops o regs own) with
  |mk rd bl r eff s=>rw[List.length_cons,List.length_cons,Qo6 l]
theorem Qo4:∀(l:List Oper) (i:Nat) (H:List (Nat×Rec)) (regs:List AV) (own:List Slot),exec T ops l i H regs own=⟨(runL (l.zip (comp T ops l i H regs own)) regs own).2.1,(runL (l.zip (comp T ops l i H regs own)) regs own).2.2⟩
 |[],_,_,_,_=>rfl
 |o::l,i,H,regs,own=>by
  rw[exec,comp]
  cases Qjy H i (Qgo T ops o regs own) with
  |mk rd bl r eff s=>exact Qo4 l (i+1) _ _ _
theorem Qtj (o:Oper) (regs:List AV) (own:List Slot):(Qgo T ops o regs own).rd.map (fun p=>opd regs p.1)=(Qgo T ops o regs own).rd.map (·.2)∧(Qgo T ops o regs own).bl.map (fun p=>own.getD p.1 .unused)=(Qgo T ops o regs own).bl.map (·.2):=by
 have key:∀(g:List (Operand×AV)) (q:Option AuR),(∀p∈g,opd regs p.1=p.2)→(toR g (opd regs) own q).rd.map (fun p=>opd regs p.1)=(toR g (opd regs) own q).rd.map (·.2)∧(toR g (opd regs) own q).bl.map (fun p=>own.getD p.1 .unused)=(toR g (opd regs) own q).bl.map (·.2):=by
  intro g q hg
  cases q with
  |none=>exact⟨rfl,rfl⟩
  |some q=>
   refine⟨?_,by simp[toR,Function.comp_def]⟩
   simp only[toR,List.map_append,List.map_map]
   rw[List.map_congr_left (f:=fun p:Operand×AV=>opd regs p.1) (g:=fun p:Operand×AV=>p.2) hg]
   rfl
 unfold Qgo
 split
 ·exact key [] _ (fun _ h=>by cases h)
 ·split
  ·next d hd=>
   split
   ·next v hv=>
    cases Qkb v==some _ with
    |true=>exact key _ _ (fun p hp=>by rw[List.mem_singleton] at hp;subst hp;exact hv)
    |false=>exact⟨by simp[hv],rfl⟩
   ·exact⟨rfl,rfl⟩
  ·exact⟨rfl,rfl⟩
theorem Qpb (hT:T.ok P) (o:Oper) (regs:List AV) (own:List Slot):OkR P (o,Qgo T ops o regs own):=by
 have key:∀(g:List (Operand×AV)),g.length≤1→OkR P (o,toR g (opd regs) own (au T o.op (opd regs) own)):=by
  intro g hg
  cases h:au T o.op (opd regs) own with
  |none=>exact trivial
  |some q=>
   have:=Qzs hT h
   unfold OkR toR
   dsimp only
   cases g with
   |nil=>exact this
   |cons a g=>cases g with
    |nil=>exact Qke this
    |cons _ _=>simp at hg
 unfold Qgo
 split
 ·exact key [] (Nat.zero_le _)
 ·split
  ·split
   ·next v _=>
    cases Qkb v==some _ with
    |true=>exact key _ (Nat.le_refl _)
    |false=>exact trivial
   ·exact trivial
  ·exact trivial
theorem HOk.rest {H:List (Nat×Rec)}(h:HOk P ops H) (i:Nat):HOk P ops (Qle H i):=by
 cases H with
 |nil=>exact trivial
 |cons p H=>
  obtain⟨k,c⟩:=p
  show HOk P ops (bif Nat.beq k i then H else(k,c)::H)
  cases Nat.beq k i with
  |true=>exact h.2
  |false=>exact h
theorem Qwk {H:List (Nat×Rec)}(hT:T.ok P) (h:HOk P ops H) {i:Nat}{o:Oper}(ho:ops[i]? = some o) (regs:List AV) (own:List Slot):OkR P (o,Qjy H i (Qgo T ops o regs own)):=by
 cases H with
 |nil=>exact Qpb hT _ _ _
 |cons p H=>
  obtain⟨k,c⟩:=p
  show OkR P (o,bif Nat.beq k i then c else Qgo T ops o regs own)
  cases e:Nat.beq k i with
  |true=>
   have:=h.1
   unfold opAt at this
   rw[Nat.eq_of_beq_eq_true e,ho] at this
   exact this
  |false=>exact Qpb hT _ _ _
theorem Qta (hT:T.ok P):∀(l:List Oper) (i:Nat) (H:List (Nat×Rec)) (regs:List AV) (own:List Slot),HOk P ops H→(∀k o,l[k]? = some o→ops[i+k]? = some o)→AllOk P (l.zip (comp T ops l i H regs own))
 |[],_,_,_,_,_,_=>trivial
 |o::l,i,H,regs,own,hH,hl=>by
  have h1:=Qwk hT hH (hl 0 o rfl) regs own
  have h2:=fun regs' own'=>Qta hT l (i+1) (Qle H i) regs' own' (hH.rest i) fun k o' h=>by
   have:=hl (k+1) o' (by simpa using h)
   rwa [show i+(k+1)=i+1+k from by omega] at this
  rw[comp]
  cases hp:Qjy H i (Qgo T ops o regs own) with
  |mk rd bl r eff s=>
   rw[Nat.add_zero,hp] at h1
   rw[List.zip_cons_cons,AllOk]
   exact⟨h1,h2 _ _⟩
theorem Qlr:∀(l:List Oper) (i:Nat) (H:List (Nat×Rec)) (regs:List AV) (own:List Slot) (n:Nat),good T ops n l i H regs own=true→Qse T ops l i H regs own=H.map (fun p=>(p.2.rd.map (·.2),p.2.bl.map (·.2))) →
  (runL (l.zip (comp T ops l i H regs own)) regs own).1=(comp T ops l i H regs own).map (fun c=>(c.rd.map (·.2),c.bl.map (·.2)))
 |[],_,_,_,_,_,_,_=>rfl
 |o::l,i,H,regs,own,n,hg,hm=>by
  have h:=Qtj (T:=T) (ops:=ops) o regs own
  rw[comp]
  rw[good] at hg
  rw[Qse] at hm
  have hh:(∃k c H',H=(k,c)::H'∧Nat.beq k i=true)∨(Qjy H i (Qgo T ops o regs own)=Qgo T ops o regs own∧Qle H i=H∧atH H i=false):=by
   cases H with
   |nil=>exact Or.inr ⟨rfl,rfl,rfl⟩
   |cons p H=>
    obtain⟨k,c⟩:=p
    cases e:Nat.beq k i with
    |true=>exact Or.inl ⟨k,c,H,rfl,e⟩
    |false=>exact Or.inr ⟨by show(bif Nat.beq k i then c else _)=_;rw[e];rfl,by show(bif Nat.beq k i then _ else _)=_;rw[e];rfl,e⟩
  rcases hh with ⟨k,c,H',rfl,e⟩ |⟨e1,e2,e3⟩
  ·have e1:Qjy ((k,c)::H') i (Qgo T ops o regs own)=c:=by show(bif Nat.beq k i then c else _)=_;rw[e];rfl
   have e2:Qle ((k,c)::H') i=H':=by show(bif Nat.beq k i then _ else _)=_;rw[e];rfl
   rw[e1,e2] at hg hm ⊢
   obtain⟨rd,bl,r,eff,sk⟩:=c
   dsimp only at hg hm ⊢
   rw[Bool.and_eq_true] at hg
   rw[show atH ((k,⟨rd,bl,r,eff,sk⟩)::H') i=true from e,cond_true,List.map_cons,List.cons.injEq] at hm
   exact congr (congrArg List.cons hm.1) (Qlr l (i+1) _ _ _ n hg.2 hm.2)
  ·rw[e1,e2] at hg hm ⊢
   rw[e3] at hm
   clear e1
   revert hg hm h
   generalize Qgo T ops o regs own=R
   intro hg hm h
   obtain⟨rd,bl,r,eff,sk⟩:=R
   dsimp only at hg hm h ⊢
   rw[Bool.and_eq_true] at hg
   exact congr (congrArg List.cons (Prod.ext h.1 h.2)) (Qlr l (i+1) _ _ _ n hg.2 hm)
theorem Qmu:∀(l:List Oper) (i:Nat) (H:List (Nat×Rec)) (regs:List AV) (own:List Slot) (n:Nat),good T ops n l i H regs own=true→Qo0 ops (l.zip (comp T ops l i H regs own)) n=true
 |[],_,_,_,_,_,_=>rfl
 |o::l,i,H,regs,own,n,hg=>by
  rw[good] at hg
  rw[comp]
  cases hp:Qjy H i (Qgo T ops o regs own) with
  |mk rd bl r eff s=>
   rw[hp] at hg
   dsimp only at hg ⊢
   rw[Bool.and_eq_true] at hg
   have ih:=Qmu l (i+1) _ _ _ n hg.2
   rw[List.zip_cons_cons]
   unfold Qo0 at ih ⊢
   rw[List.all_cons,ih,Bool.and_true]
   exact hg.1
variable {X : Nat → Nat → Prop} {φ0 : Nat → FSlot} {w0 : World} {ro : Option Nat} {Q : Exit → AS → Prop} {s : AS} {c : Code}
def Qnm (T:Tab) (ops:Array Oper) (H:List (Nat×Rec)) (s:AS):List Rec:=comp T ops ops.toList 0 H s.regs s.own
def Qi8 (T:Tab) (ops:Array Oper) (H:List (Nat×Rec)) (s:AS):AS:=exec T ops ops.toList 0 H s.regs s.own
def MetX (T:Tab) (ops:Array Oper) (H:List (Nat×Rec)) (s:AS):Prop:=Qse T ops ops.toList 0 H s.regs s.own=H.map (fun p=>(p.2.rd.map (·.2),p.2.bl.map (·.2)))∧good T ops s.regs.length ops.toList 0 H s.regs s.own=true
theorem Qio (H:List (Nat×Rec)):after ops (Qnm T ops H s) s=Qi8 T ops H s:=(Qo4 (T:=T) ops.toList 0 H s.regs s.own).symm
theorem Qlo (hT:T.ok P) {H:List (Nat×Rec)}(hH:HOk P ops H) (hm:MetX T ops H s):AllOk P (ops.toList.zip (Qnm T ops H s))∧Met ops (Qnm T ops H s) s:=by
 refine⟨Qta hT _ 0 _ _ _ hH fun k o h=>by simpa using h,Qlr _ 0 _ _ _ _ hm.2 hm.1,?_⟩
 rw[Bool.and_eq_true]
 exact⟨by simp[Qnm,Qo6],Qmu _ 0 _ _ _ _ hm.2⟩
theorem Qy3 {id:Nat}{y:Code}(hT:T.ok P) (H:List (Nat×Rec)) (hH:HOk P ops H) (h:AWp P X φ0 w0 ro y Q (Qi8 T ops H s)) (hm:MetX T ops H s:=by exact⟨by kernel_rfl,by kernel_rfl⟩):AWp P X φ0 w0 ro (.seq (.region id ops false) y) Q s:=
 have f:=Qlo hT hH hm
 Qxp _ f.1 (Qio H▸h) f.2
theorem Qvt {id:Nat}(hT:T.ok P) (H:List (Nat×Rec)) (hH:HOk P ops H) (h:Q .normal (Qi8 T ops H s)) (hm:MetX T ops H s:=by exact⟨by kernel_rfl,by kernel_rfl⟩):AWp P X φ0 w0 ro (.region id ops false) Q s:=
 have f:=Qlo hT hH hm
 Qu6 _ f.1 (Qio H▸h) f.2
theorem Qvs {id:Nat}{y:Code}(hT:T.ok P) (H:List (Nat×Rec)) (hH:HOk P ops H) (h:AWp P X φ0 w0 ro y Q (Qi8 T ops H s)) (hf:P.follows .mixedOrders=true:=by kernel_rfl) (hm:MetX T ops H s:=by exact⟨by kernel_rfl,by kernel_rfl⟩) (ho:Qgn (ops.toList.zip (Qnm T ops H s)) [] []=true:=by kernel_rfl):AWp P X φ0 w0 ro (.seq (.region id ops true) y) Q s:=
 have f:=Qlo hT hH hm
 Qu5 _ f.1 (Qio H▸h) hf f.2 ho
theorem Qxo {id:Nat}(hT:T.ok P) (H:List (Nat×Rec)) (hH:HOk P ops H) (h:Q .normal (Qi8 T ops H s)) (hf:P.follows .mixedOrders=true:=by kernel_rfl) (hm:MetX T ops H s:=by exact⟨by kernel_rfl,by kernel_rfl⟩) (ho:Qgn (ops.toList.zip (Qnm T ops H s)) [] []=true:=by kernel_rfl):AWp P X φ0 w0 ro (.region id ops true) Q s:=
 have f:=Qlo hT hH hm
 Qti _ f.1 (Qio H▸h) hf f.2 ho
end
theorem fend {P:Program}{fn:Func}{res:AV}{s:AS}(h1:∃vs,ResL P s fn.results.toList vs∧res=Qlf vs) (h2:NLt 0 res):Fin P fn 0 res [] s:=⟨h1,h2,Nat.le_refl _,fun n hn=>absurd hn (Nat.not_lt_zero n)⟩
abbrev wx := @Qy3
abbrev wx1 := @Qvt
abbrev wxd := @Qvs
abbrev wy1 := @Qxo
def hcat (A B:List (Nat×Rec)):List (Nat×Rec):=A++B
theorem hap {P:Program}{ops:Array Oper}:∀{A B:List (Nat×Rec)},HOk P ops A→HOk P ops B→HOk P ops (hcat A B)
 |[],_,_,hB=>hB
 |_::_,_,hA,hB=>⟨hA.1,hap hA.2 hB⟩
section
variable {P : Program} {X : Nat → Nat → Prop} {φ0 : Nat → FSlot} {w0 : World} {ro : Option Nat} {Q : Exit → AS → Prop} {s : AS} {A : List (Nat × Rec)} {id : Nat} {ops : Array Oper} {d : Bool} {y : Code}
theorem hpre (hA:HOk P ops A) (h:HOk P ops A→AWp P X φ0 w0 ro (.seq (.region id ops d) y) Q s):AWp P X φ0 w0 ro (.seq (.region id ops d) y) Q s:=h hA
end
theorem tv:True:=trivial
theorem prr {ρ:List Nat}{t n n' m j i:Nat}{l k:List (Nat×AV)}(h':PPw (RW fun n n'=>ρ[n']? = some n) l k) (h:(ρ[n']? == some n)=true:=by rfl):PPw (RW fun n n'=>ρ[n']? = some n) ((t,.ref n m j i)::l) ((t,.ref n' m j i)::k):=pc (.rn (Qry h)) h'
theorem pw {M:Nat→Nat→Prop}{t:Nat}{u:Value}{l k:List (Nat×AV)}(h:PPw (RW M) l k):PPw (RW M) ((t,.lit u)::l) ((t,.lit u)::k):=pc rwl h
theorem qb {R:AV→AV→Prop}{m:Nat}{x x':List AV}{l k:List Slot}(h:LPw R x x') (h':QPw R l k):QPw R (.own m [x]::l) (.own m [x']::k):=qc (Qwb h) h'
theorem frb {P:Program}{fn:Func}{s:AS}{b r:Bool}(h:some b=some r) (hr:ResL P s fn.results.toList [B b]:=by exact⟨rot,trivial⟩):Fin P fn 0 (B r) [] s:=by
 cases osi h
 exact fend ⟨[B b],hr,rfl⟩ nll
theorem apv {P:Program}{o:Oper}{rd:List (Operand×AV)}{f:Operand}{xs:Array Operand}{ts:Array TypeId}{g:FuncId}{vs:List AV}{res:AV}(hcall:∀vals w,(callFunc g vals).run P w=.ok (.enter g vals) w) (spec:Spec P g vs [] res [])
  (hn:∀a∈vs,NLt 0 a) (hres:NLt 0 res) (h:o.op=.call { callee:=.value f,args:=xs,argTypes:=ts }:=by exact rfl) (hvl:vs.length=xs.size:=by exact rfl) (hrd:(f,.fn (.func g) [] [])::xs.toList.zip vs=rd:=by exact rfl):Qb3 P o rd [] res []:=
 Qn7 (first:=[]) (cap:=[]) h hcall spec hvl (List.append_nil vs) hn hres hrd
end
section
section
variable {P : Program} {o : Oper}
theorem aiq {α:Type}{x y:Operand}{t e:TypeId}{gg:Bool}{m:Nat}{l:List α}{i:Int}{z:α}(ht:P.underlying t=some (.slice e)) (he:TI P e gg m) (c:α→List AV) (h0:0≤i) (hj:l[i.toNat]? = some z) (h:o.op=.indexAddr t x y:=by exact rfl) :
  Qb3 P o [(x,.dat m (l.map c)),(y,I i)] [] (.dptr (c z) 0) []:=Qqg h ht he rfl rfl h0 (Qsg c hj) rfl
theorem alq {α:Type}{x:Operand}{t e:TypeId}(m:Nat) (c:α→List AV) (l:List α) (ht:P.underlying t=some (.slice e)) (h:o.op=.call { callee:=.builtin .len,args := #[x],argTypes := #[t] }:=by exact rfl) :
  Qb3 P o [(x,.dat m (l.map c))] [] (I (l.length:Int)) []:=Qqe (c:=c) (l:=l) (Qm5 h ht rfl)
end
end
section
def PStep (P:Program) (o:Oper) (rd:List (Operand×AV)) (bl:List (Nat×Slot)) (pv:Value) (eff:List (Nat×Slot)):Prop:=
 ∀(X:Nat→Nat→Prop) (φ:Nat→FSlot) (a:Act) (w:World),(∀p∈rd,RelV X φ w p.2 (a.eval p.1))→(∀p∈bl,SlotOK X φ w p.1 p.2)→Qco φ→(∀b off,X b off→b<w.heap.size) →
  (∀n b,(φ n).lies b→b<w.heap.size) →
  ∀(next:Act→World→Prop) (Q:Exit→Act→World→Prop),
   (∀φ' w',(∀p∈eff,SlotOK X φ' w' p.1 p.2)→Qco φ'→(∀n,n∉eff.map (·.1)→φ' n=φ n) →
    (∀b,b<w.heap.size→(∀p∈eff,¬(φ p.1).lies b)→w'.heap[b]? = w.heap[b]?)→Evo X φ w φ' w'→Q (.panic [{ v:=pv,recovered:=false }]) a w')→Does P o a w next Q
theorem PStep.to {P:Program}{o:Oper}{rd rd2:List (Operand×AV)}{bl:List (Nat×Slot)}{v:Value}{eff:List (Nat×Slot)}(e:rd=rd2) (h:PStep P o rd bl v eff):PStep P o rd2 bl v eff:=e▸h
section
variable {X : Nat → Nat → Prop} {φ0 : Nat → FSlot} {w0 : World} {P : Program} {ex : Option Nat} {ops : Array Oper} {l : List (Oper × Rec)} {regs regs' : List AV} {own own' : List Slot}
end
section
variable {P : Program} {X : Nat → Nat → Prop} {φ0 : Nat → FSlot} {w0 : World} {ro : Option Nat} {Q : Exit → AS → Prop} {s : AS}
end
inductive Out where
 |ret (res:AV) (σ':List Slot)
 |pan (pv:Value)
section
variable {P : Program} {X : Nat → Nat → Prop} {φ0 : Nat → FSlot} {w0 : World} {fn : Func} {res : AV} {σ' : List Slot} {s : AS}
end
theorem Less.trans {a b c:AV}(h:Less a b) (k:Less b c):Less a c:=fun X φ w v hv=>k X φ w v (h X φ w v hv)
section
variable {P : Program} {X : Nat → Nat → Prop} {φ0 : Nat → FSlot} {w0 : World} {ro : Option Nat} {Q : Exit → AS → Prop} {s : AS}
end
end
section
class NLc {α:Type}(c:α→List AV):Prop where out:∀x,∀a∈c x,NLt 0 a
class Blt (n k:Nat):Prop where out:n<k
class NLi (k:Nat) (a:AV):Prop where out:NLt k a
class NLs (k:Nat) (l:List AV):Prop where out:∀a∈l,NLt k a
class SNi (k:Nat) (s:Slot):Prop where out:SNLt k s
class SNs (k:Nat) (l:List Slot):Prop where out:∀s∈l,SNLt k s
instance {k:Nat}:Blt 0 (k+1):=⟨Nat.succ_pos k⟩
instance {n k:Nat} [h:Blt n k]:Blt (n+1) (k+1):=⟨Nat.succ_lt_succ h.out⟩
section
variable {k n m : Nat}
instance:NLi k .any:=⟨.any⟩
instance {v:Value}:NLi k (.lit v):=⟨.lit v⟩
instance {l:List AV} [h:NLs k l]:NLi k (.agg l):=⟨.agg l h.out⟩
instance {l:List AV} [h:NLs k l]:NLi k (.tup l):=⟨.tup l h.out⟩
instance {f:Fn}{l c:List AV} [h:NLs k l] [h':NLs k c]:NLi k (.fn f l c):=⟨.fn f l c h.out h'.out⟩
instance {α:Type}{c:α→List AV}{xs:List α} [h:NLc c]:NLi k (.dat m (xs.map c)):=⟨(Qkm h.out xs).of0⟩
instance {l:List AV}{i:Nat} [h:NLs k l]:NLi k (.dptr l i):=⟨.dptr l i h.out⟩
instance {j i:Nat} [h:Blt n k]:NLi k (.ref n m j i):=⟨.ref n m j i h.out⟩
instance {j len:Nat} [h:Blt n k]:NLi k (.own n m j len):=⟨.own n m j len h.out⟩
instance {len:Nat}{ty:TypeId} [h:Blt n k]:NLi k (.gro n ty m len):=⟨.gro n ty m len h.out⟩
instance {q j len:Nat} [h:Blt n k]:NLi k (.row n q m j len):=⟨.row n q m j len h.out⟩
instance [h:Blt n k]:NLi k (.mp n):=⟨.mp n h.out⟩
instance {α:Type}{c:α→List AV}{xs:List α}{ty:TypeId} [h:Blt n k] [h':NLc c]:NLi k (.acc n ty m (xs.map c)):=⟨.acc n ty m _ h.out (Qlj h'.out xs)⟩
instance:NLs k []:=⟨Qkl⟩
instance {a:AV}{l:List AV} [h:NLi k a] [h':NLs k l]:NLs k (a::l):=⟨Qhd h.out h'.out⟩
instance {f:Nat→Int}:NLs k (arrF n f):=⟨Qyr⟩
instance {l l':List AV} [h:NLs k l] [h':NLs k l']:NLs k (l++l'):=⟨Qgh h.out h'.out⟩
instance {α:Type}{c:α→List AV}{x:α} [h:NLc c]:NLs k (c x):=⟨fun a ha=>(h.out x a ha).of0⟩
instance:SNi k .unused:=⟨.unused⟩
instance:SNi k .dead:=⟨.dead⟩
instance:SNi k .tok:=⟨.tok⟩
instance {l:List AV} [h:NLs k l]:SNi k (.own m [l]):=⟨Qwf h.out⟩
instance {α:Type}{c:α→List AV}{xs:List α} [h:NLc c]:SNi k (.own m (xs.map c)):=⟨Qwd h.out xs⟩
instance {α:Type}{c:α→List AV}{xs:List α} [h:NLc c]:SNi k (.gro m (xs.map c)):=⟨Quj h.out xs⟩
instance:SNs k []:=⟨Qwe⟩
instance {s:Slot}{l:List Slot} [h:SNi k s] [h':SNs k l]:SNs k (s::l):=⟨Quk h.out h'.out⟩
end
section
variable {P : Program} {fn : Func} {k : Nat} {res : AV} {σ' : List Slot} {regs : List AV} (vs : List AV)
theorem fio (hr:ResL P ⟨regs,σ'⟩ fn.results.toList vs) [hn:NLi k res] [hs:SNs k σ'] (hres:res=Qlf vs:=by exact rfl) (hk:σ'.length=k:=by kernel_rfl):Fin P fn k res σ' ⟨regs,σ'⟩:=Qyw hr hres hn.out hk hs.out
theorem fie {s:AS}(h1:ResL P s fn.results.toList vs) [hn:NLi 0 res] (hres:res=Qlf vs:=by exact rfl):Fin P fn 0 res [] s:=fend ⟨vs,h1,hres⟩ hn.out
end
theorem sA {P:Program}{f:FuncId}{fn:Func}{c:Code}(hf:P.funcs[f]? = some fn) {args:List AV}{σ:List Slot}{res:AV}{σ':List Slot}(k:Nat)
  (h:∀X φ0 w0,(∀n,σ.length≤n→φ0 n=.unused)→w0.drawn≠1→AWp P X φ0 w0 none c (finA P fn k res σ') ⟨args++List.replicate (fn.ntmps-args.length) .any,σ⟩) (hb:fn.body=some c:=by exact rfl) (hσ:σ.length≤k:=by exact nle rfl):Spec P f args σ res σ':=Qjp hf hb k hσ h
theorem sF {P:Program}{f:FuncId}{fn:Func}{c:Code}(hf:P.funcs[f]? = some fn) {args:List AV}{σ:List Slot}{res:AV}{σ':List Slot}(k:Nat)
  (h:∀X φ0 w0,(∀n,σ.length≤n→φ0 n=.unused)→w0.drawn≠1→AWp P X φ0 w0 none c (finM P X φ0 w0 fn k res σ') ⟨args++List.replicate (fn.ntmps-args.length) .any,σ⟩) (hb:fn.body=some c:=by exact rfl) (hσ:σ.length≤k:=by exact nle rfl):Spec P f args σ res σ':=Qjp hf hb k hσ fun X φ0 w0 h1 h2=>Qu8 (h X φ0 w0 h1 h2)
theorem apw {P:Program}{o:Oper}{rd:List (Operand×AV)}{f:Operand}{xs:Array Operand}{ts:Array TypeId}{g:FuncId}{vs:List AV}{res:AV}(hcall:∀vals w,(callFunc g vals).run P w=.ok (.enter g vals) w) (spec:Spec P g vs [] res [])
  [hn:NLs 0 vs] [hres:NLi 0 res] (h:o.op=.call { callee:=.value f,args:=xs,argTypes:=ts }:=by exact rfl) (hvl:vs.length=xs.size:=by exact rfl) (hrd:(f,.fn (.func g) [] [])::xs.toList.zip vs=rd:=by exact rfl):Qb3 P o rd [] res []:=apv hcall spec hn.out hres.out h hvl hrd
theorem acq {P:Program}{o:Oper}{f:Operand}{xs:Array Operand}{ts:Array TypeId}{g:FuncId}{args:List AV}{σ σ':List Slot}{res:AV}(vs:List AV) (σr σr':List Slot) (res':AV) (ρ:List Nat) (hcall:∀vals w,(callFunc g vals).run P w=.ok (.enter g vals) w) (spec:Spec P g args σ res σ')
  (hargs:Rn (fun n n'=>ρ[n]? = some n'∧n<σ.length) (.agg args) (.agg vs)) (hσ:SLw (fun n n'=>ρ[n]? = some n'∧n<σ.length) σ σr) (hσ':SLw (fun n n'=>ρ[n]? = some n') σ' σr') (hres:Rn (fun n n'=>ρ[n]? = some n') res res')
  {bl eff:List (Nat×Slot)}{rd:List (Operand×AV)}(h:o.op=.call { callee:=.value f,args:=xs,argTypes:=ts }:=by exact rfl) (hdec:(decide ρ.Nodup&&(vs.length==xs.size)&&(σ'.length==ρ.length)&&Nat.ble σ.length ρ.length&&σ.all Slot.alive)=true:=by exact rfl)
  (hbl:(ρ.take σ.length).zip σr++(ρ.drop σ.length).map (fun n=>(n,Slot.unused))=bl:=by exact rfl) (heff:ρ.zip σr'=eff:=by exact rfl) (hrd:(f,.fn (.func g) [] [])::xs.toList.zip vs=rd:=by exact rfl):Qb3 P o rd bl res' eff:=
 Qcb (first:=[]) (cap:=[]) ρ h hcall spec hdec (by simpa using hargs) hσ hσ' hres hbl heff hrd
end
section
def Qbj (g:FuncId):Prop:=∀vals w,(callFunc g vals).run prog w=.ok (.enter g vals) w
theorem entr {g : FuncId} {fn : Func} {c : Code} (h : prog.funcs[g]? = some fn) (h1 : (fn.name == "runtime.NumGoroutine") = false := by kernel_rfl) (h2 : fn.body = some c := by rfl) : Qbj g := fun vals w => MuLone.run_callFunc_enter h h1 h2 vals w
def Qab (x:Int):List AV:=[K .i64 x]
theorem Qac:∀x,∀a∈Qab x,NLt 0 a:=fun _=>Qhd (.lit _) Qkl
instance:NLc Qab:=⟨Qac⟩
theorem Qwn:∀x,(Qab x).all AV.one=true:=fun _=>rfl
structure Qaa where
  Mass:Int
  Heat:Int
  Silica:Int
  Gas:Int
  deriving DecidableEq
def Qae (x:Qaa):List AV:=Qab x.Mass++Qab x.Heat++Qab x.Silica++Qab x.Gas
theorem Qai:∀x,∀a∈Qae x,NLt 0 a:=fun _=>(Qgh (Qgh (Qgh (Qac _) (Qac _)) (Qac _)) (Qac _))
instance:NLc Qae:=⟨Qai⟩
structure Qdk where
  Heat:Int
  Silica:Int
  Gas:Int
  deriving DecidableEq
def Qlt (x:Qdk):List AV:=Qab x.Heat++Qab x.Silica++Qab x.Gas
theorem Qus:∀x,∀a∈Qlt x,NLt 0 a:=fun _=>(Qgh (Qgh (Qac _) (Qac _)) (Qac _))
instance:NLc Qlt:=⟨Qus⟩
def Qhf (x:Bool):List AV:=[B x]
theorem Qg0:∀x,∀a∈Qhf x,NLt 0 a:=fun _=>Qhd (.lit _) Qkl
instance:NLc Qhf:=⟨Qg0⟩
structure GRow where
  T:Int
  P:Int
  Liquid:Int
  Vapour:Int
  Silica:Int
  deriving DecidableEq
def Qbd (x:GRow):List AV:=Qab x.T++Qab x.P++Qab x.Liquid++Qab x.Vapour++Qab x.Silica
theorem Qb0:∀x,∀a∈Qbd x,NLt 0 a:=fun _=>(Qgh (Qgh (Qgh (Qgh (Qac _) (Qac _)) (Qac _)) (Qac _)) (Qac _))
instance:NLc Qbd:=⟨Qb0⟩
structure Qga where
  Row:GRow
  deriving DecidableEq
def Qii (x:Qga):List AV:=Qbd x.Row
theorem Qr9:∀x,∀a∈Qii x,NLt 0 a:=fun _=>(Qb0 _)
instance:NLc Qii:=⟨Qr9⟩
structure Qfx where
  Steam:Qaa
  Water:Qaa
  Rest:Int
  Scale:Int
  deriving DecidableEq
def Qjf (x:Qfx):List AV:=Qae x.Steam++Qae x.Water++Qab x.Rest++Qab x.Scale
theorem Qr8:∀x,∀a∈Qjf x,NLt 0 a:=fun _=>(Qgh (Qgh (Qgh (Qai _) (Qai _)) (Qac _)) (Qac _))
instance:NLc Qjf:=⟨Qr8⟩
structure Qk4 where
  N:Int
  D:Int
  deriving DecidableEq
def Qls (x:Qk4):List AV:=Qab x.N++Qab x.D
theorem Qr7:∀x,∀a∈Qls x,NLt 0 a:=fun _=>(Qgh (Qac _) (Qac _))
instance:NLc Qls:=⟨Qr7⟩
def Qi3 (x:List Qaa):List AV:=[.dat 4 (x.map Qae)]
theorem Qnp:∀x,∀a∈Qi3 x,NLt 0 a:=fun _=>Qhd (Qkm Qai _) Qkl
instance:NLc Qi3:=⟨Qnp⟩
def Qte (x:List Int):List AV:=[.dat 1 (x.map Qab)]
theorem Qwo:∀x,∀a∈Qte x,NLt 0 a:=fun _=>Qhd (Qkm Qac _) Qkl
instance:NLc Qte:=⟨Qwo⟩
theorem ti27:TI prog 27 true 4:=⟨⟨_,underlying27,rfl⟩,Qe6 (by kernel_rfl)⟩
theorem ti77:TI prog 77 false 1:=⟨⟨_,underlying77,rfl⟩,Qe6 (by kernel_rfl)⟩
theorem ti3:TI prog 3 false 1:=⟨⟨_,underlying3,rfl⟩,Qe6 (by kernel_rfl)⟩
theorem ti81:TI prog 81 false 1:=⟨⟨_,underlying81,rfl⟩,Qe6 (by kernel_rfl)⟩
theorem ti82:TI prog 82 true 4:=⟨⟨_,underlying82,rfl⟩,Qe6 (by kernel_rfl)⟩
theorem ti34:TI prog 34 true 3:=⟨⟨_,underlying34,rfl⟩,Qe6 (by kernel_rfl)⟩
theorem ti64:TI prog 64 false 1:=⟨⟨_,underlying64,rfl⟩,Qe6 (by kernel_rfl)⟩
theorem ti25:TI prog 25 false 1:=⟨⟨_,underlying25,rfl⟩,Qe6 (by kernel_rfl)⟩
theorem ti67:TI prog 67 false 1:=⟨⟨_,underlying67,rfl⟩,Qe6 (by kernel_rfl)⟩
theorem ti24:TI prog 24 true 4:=⟨⟨_,underlying24,rfl⟩,Qe6 (by kernel_rfl)⟩
theorem ti4:TI prog 4 false 1:=⟨⟨_,underlying4,rfl⟩,Qe6 (by kernel_rfl)⟩
theorem ti42:TI prog 42 true 3:=⟨⟨_,underlying42,rfl⟩,Qe6 (by kernel_rfl)⟩
theorem ti71:TI prog 71 true 5:=⟨⟨_,underlying71,rfl⟩,Qe6 (by kernel_rfl)⟩
theorem ti79:TI prog 79 false 1:=⟨⟨_,underlying79,rfl⟩,Qe6 (by kernel_rfl)⟩
theorem ti48:TI prog 48 true 10:=⟨⟨_,underlying48,rfl⟩,Qe6 (by kernel_rfl)⟩
theorem ti73:TI prog 73 true 5:=⟨⟨_,underlying73,rfl⟩,Qe6 (by kernel_rfl)⟩
theorem ti52:TI prog 52 false 1:=⟨⟨_,underlying52,rfl⟩,Qe6 (by kernel_rfl)⟩
theorem ti58:TI prog 58 true 2:=⟨⟨_,underlying58,rfl⟩,Qe6 (by kernel_rfl)⟩
theorem ts27:TS prog 27 [(0,1),(1,1),(2,1),(3,1)]:=⟨_,underlying27,⟨rfl,⟨_,ti3⟩,rfl,⟨_,ti3⟩,rfl,⟨_,ti3⟩,rfl,⟨_,ti3⟩,trivial⟩⟩
theorem ts34:TS prog 34 [(0,1),(1,1),(2,1)]:=⟨_,underlying34,⟨rfl,⟨_,ti3⟩,rfl,⟨_,ti3⟩,rfl,⟨_,ti3⟩,trivial⟩⟩
theorem ts24:TS prog 24 [(0,1),(1,1),(2,1),(3,1)]:=⟨_,underlying24,⟨rfl,⟨_,ti3⟩,rfl,⟨_,ti3⟩,rfl,⟨_,ti3⟩,rfl,⟨_,ti3⟩,trivial⟩⟩
theorem ts42:TS prog 42 [(0,1),(1,1),(2,1)]:=⟨_,underlying42,⟨rfl,⟨_,ti3⟩,rfl,⟨_,ti3⟩,rfl,⟨_,ti3⟩,trivial⟩⟩
theorem ts71:TS prog 71 [(0,1),(1,1),(2,1),(3,1),(4,1)]:=⟨_,underlying71,⟨rfl,⟨_,ti3⟩,rfl,⟨_,ti3⟩,rfl,⟨_,ti3⟩,rfl,⟨_,ti3⟩,rfl,⟨_,ti3⟩,trivial⟩⟩
theorem ts48:TS prog 48 [(0,4),(4,4),(8,1),(9,1)]:=⟨_,underlying48,⟨rfl,⟨_,ti27⟩,rfl,⟨_,ti27⟩,rfl,⟨_,ti3⟩,rfl,⟨_,ti3⟩,trivial⟩⟩
theorem ts73:TS prog 73 [(0,5)]:=⟨_,underlying73,⟨rfl,⟨_,ti71⟩,trivial⟩⟩
theorem ts58:TS prog 58 [(0,1),(1,1)]:=⟨_,underlying58,⟨rfl,⟨_,ti3⟩,rfl,⟨_,ti3⟩,trivial⟩⟩
theorem tz27:TZ prog 27 [.int .i64 0,.int .i64 0,.int .i64 0,.int .i64 0]:=Qjn (by kernel_rfl)
theorem Qfv:Qbj 23:=entr func23
theorem Qny:Qbj 24:=entr func24
theorem Qsx:Qbj 51:=entr func51
theorem Qsw:Qbj 56:=entr func56
theorem Qsy:Qbj 50:=entr func50
theorem Qs1:Qbj 36:=entr func36
theorem Qs6:Qbj 20:=entr func20
theorem tz82:TZ prog 82 [(.pointer none),(.pointer none),(.pointer none),(.pointer none)]:=Qjn (by kernel_rfl)
theorem Qj9:Qbj 42:=entr func42
theorem Qw6:Qbj 41:=entr func41
theorem Qs5:Qbj 21:=entr func21
theorem tz34:TZ prog 34 [.int .i64 0,.int .i64 0,.int .i64 0]:=Qjn (by kernel_rfl)
theorem Qxf:Qbj 22:=entr func22
theorem Qw5:Qbj 43:=entr func43
theorem Qs0:Qbj 44:=entr func44
theorem Qs4:Qbj 26:=entr func26
theorem Qxe:Qbj 25:=entr func25
theorem Qxd:Qbj 27:=entr func27
theorem tz3:TZ prog 3 [.int .i64 0]:=Qjn (by kernel_rfl)
theorem te3:TE prog 3 1 8:=Qug (by kernel_rfl) (by decide)
theorem Qsz:Qbj 46:=entr func46
theorem Qlq:Qbj 53:=entr func53
theorem Qsv:Qbj 59:=entr func59
theorem Qnu:Qbj 62:=entr func62
theorem Qwv:Qbj 61:=entr func61
theorem Qlp:Qbj 60:=entr func60
theorem Qwx:Qbj 57:=entr func57
theorem Qw0:Qbj 52:=entr func52
theorem Qw4:Qbj 45:=entr func45
theorem Qxc:Qbj 28:=entr func28
theorem Qnx:Qbj 29:=entr func29
theorem te27:TE prog 27 4 32:=Qug (by kernel_rfl) (by decide)
theorem Qka:Qbj 30:=entr func30
theorem Qs8:Qbj 11:=entr func11
theorem tz24:TZ prog 24 [.int .i64 0,.int .i64 0,.int .i64 0,.int .i64 0]:=Qjn (by kernel_rfl)
theorem tz42:TZ prog 42 [.int .i64 0,.int .i64 0,.int .i64 0]:=Qjn (by kernel_rfl)
theorem te4:TE prog 4 1 1:=Qug (by kernel_rfl) (by decide)
theorem tz4:TZ prog 4 [.bool false]:=Qjn (by kernel_rfl)
theorem Qnw:Qbj 31:=entr func31
theorem te24:TE prog 24 4 32:=Qug (by kernel_rfl) (by decide)
theorem Qo5:Qbj 8:=entr func8
theorem tz71:TZ prog 71 [.int .i64 0,.int .i64 0,.int .i64 0,.int .i64 0,.int .i64 0]:=Qjn (by kernel_rfl)
theorem Qnz:Qbj 16:=entr func16
theorem Qs7:Qbj 17:=entr func17
theorem tz48:TZ prog 48 [.int .i64 0,.int .i64 0,.int .i64 0,.int .i64 0,.int .i64 0,.int .i64 0,.int .i64 0,.int .i64 0,.int .i64 0,.int .i64 0]:=Qjn (by kernel_rfl)
theorem Qw2:Qbj 48:=entr func48
theorem Qwy:Qbj 55:=entr func55
theorem Qww:Qbj 58:=entr func58
theorem Qwz:Qbj 54:=entr func54
theorem Qw3:Qbj 47:=entr func47
theorem Qnv:Qbj 32:=entr func32
theorem Qxb:Qbj 33:=entr func33
theorem tz73:TZ prog 73 [.int .i64 0,.int .i64 0,.int .i64 0,.int .i64 0,.int .i64 0]:=Qjn (by kernel_rfl)
theorem Qs3:Qbj 34:=entr func34
theorem Qw1:Qbj 49:=entr func49
theorem Qs2:Qbj 35:=entr func35
theorem Qxi:Qbj 15:=entr func15
theorem Qvq:Qbj 7:=entr func7
theorem Qxa:Qbj 37:=entr func37
theorem Qxh:Qbj 18:=entr func18
theorem tz58:TZ prog 58 [.int .i64 0,.int .i64 0]:=Qjn (by kernel_rfl)
theorem Qw8:Qbj 39:=entr func39
theorem Qw9:Qbj 38:=entr func38
theorem Qw7:Qbj 40:=entr func40
theorem Qxg:Qbj 19:=entr func19
theorem Qmo:Qbj 4:=entr func4
theorem Qyy:Qbj 6:=entr func6
theorem Qyz:Qbj 5:=entr func5
theorem Qyx:Qbj 9:=entr func9
theorem Qn0:Qbj 10:=entr func10
theorem Qxl:Qbj 12:=entr func12
theorem Qxk:Qbj 13:=entr func13
theorem Qxj:Qbj 14:=entr func14
theorem Qkq:EqT prog 9999 27 4:=Qgv (d:=9997) underlying27 (by kernel_rfl) (.int _ (by decide) rfl underlying3 (.int _ (by decide) rfl underlying3 (.int _ (by decide) rfl underlying3 (.int _ (by decide) rfl underlying3 (.nil _)))))
theorem Qsu:EqT prog 10000 27 4:=Qgv (d:=9998) underlying27 (by kernel_rfl) (.int _ (by decide) rfl underlying3 (.int _ (by decide) rfl underlying3 (.int _ (by decide) rfl underlying3 (.int _ (by decide) rfl underlying3 (.nil _)))))
theorem Qzr:EqT prog 10000 48 10:=Qgv (d:=9998) underlying48 (by kernel_rfl) (.agg _ (by decide) rfl ti27 Qkq (.agg _ (by decide) rfl ti27 Qkq (.int _ (by decide) rfl underlying3 (.int _ (by decide) rfl underlying3 (.nil _)))))
theorem Qu1:EqT prog 10000 34 3:=Qgv (d:=9998) underlying34 (by kernel_rfl) (.int _ (by decide) rfl underlying3 (.int _ (by decide) rfl underlying3 (.int _ (by decide) rfl underlying3 (.nil _))))
theorem Qzq:EqT prog 10000 58 2:=Qgv (d:=9998) underlying58 (by kernel_rfl) (.int _ (by decide) rfl underlying3 (.int _ (by decide) rfl underlying3 (.nil _)))
def tyT:Tab:=.node 58 ⟨true,2,(some [.int .i64 0,.int .i64 0]),[(0,false,1),(1,false,1)]⟩ (.node 27 ⟨true,4,(some [.int .i64 0,.int .i64 0,.int .i64 0,.int .i64 0]),[(0,false,1),(1,false,1),(2,false,1),(3,false,1)]⟩ (.node 24 ⟨true,4,(some [.int .i64 0,.int .i64 0,.int .i64 0,.int .i64 0]),[(0,false,1),(1,false,1),(2,false,1),(3,false,1)]⟩ (.node 4 ⟨false,1,(some [.bool false]),[]⟩ (.node 3 ⟨false,1,(some [.int .i64 0]),[]⟩ .nil .nil) .nil) (.node 25 ⟨false,1,none,[]⟩ .nil .nil)) (.node 48 ⟨true,10,(some [.int .i64 0,.int .i64 0,.int .i64 0,.int .i64 0,.int .i64 0,.int .i64 0,.int .i64 0,.int .i64 0,.int .i64 0,.int .i64 0]),[(0,true,4),(4,true,4),(8,false,1),(9,false,1)]⟩ (.node 42 ⟨true,3,(some [.int .i64 0,.int .i64 0,.int .i64 0]),[(0,false,1),(1,false,1),(2,false,1)]⟩ (.node 34 ⟨true,3,(some [.int .i64 0,.int .i64 0,.int .i64 0]),[(0,false,1),(1,false,1),(2,false,1)]⟩ .nil .nil) .nil) (.node 52 ⟨false,1,none,[]⟩ .nil .nil))) (.node 77 ⟨false,1,none,[]⟩ (.node 71 ⟨true,5,(some [.int .i64 0,.int .i64 0,.int .i64 0,.int .i64 0,.int .i64 0]),[(0,false,1),(1,false,1),(2,false,1),(3,false,1),(4,false,1)]⟩ (.node 67 ⟨false,1,none,[]⟩ (.node 64 ⟨false,1,none,[]⟩ .nil .nil) .nil) (.node 73 ⟨true,5,(some [.int .i64 0,.int .i64 0,.int .i64 0,.int .i64 0,.int .i64 0]),[(0,true,5)]⟩ .nil .nil)) (.node 81 ⟨false,1,none,[]⟩ (.node 79 ⟨false,1,none,[]⟩ .nil .nil) (.node 82 ⟨true,4,(some [(.pointer none),(.pointer none),(.pointer none),(.pointer none)]),[]⟩ .nil .nil)))
theorem tbk:tyT.ok prog:=⟨⟨ti58,tz58,.inr ⟨_,underlying58,rfl,ti3,rfl,ti3,trivial⟩⟩,⟨⟨ti27,tz27,.inr ⟨_,underlying27,rfl,ti3,rfl,ti3,rfl,ti3,rfl,ti3,trivial⟩⟩,⟨⟨ti24,tz24,.inr ⟨_,underlying24,rfl,ti3,rfl,ti3,rfl,ti3,rfl,ti3,trivial⟩⟩,⟨⟨ti4,tz4,.inl rfl⟩,⟨⟨ti3,tz3,.inl rfl⟩,trivial,trivial⟩,trivial⟩,⟨⟨ti25,trivial,.inl rfl⟩,trivial,trivial⟩⟩,⟨⟨ti48,tz48,.inr ⟨_,underlying48,rfl,ti27,rfl,ti27,rfl,ti3,rfl,ti3,trivial⟩⟩,⟨⟨ti42,tz42,.inr ⟨_,underlying42,rfl,ti3,rfl,ti3,rfl,ti3,trivial⟩⟩,⟨⟨ti34,tz34,.inr ⟨_,underlying34,rfl,ti3,rfl,ti3,rfl,ti3,trivial⟩⟩,trivial,trivial⟩,trivial⟩,⟨⟨ti52,trivial,.inl rfl⟩,trivial,trivial⟩⟩⟩,⟨⟨ti77,trivial,.inl rfl⟩,⟨⟨ti71,tz71,.inr ⟨_,underlying71,rfl,ti3,rfl,ti3,rfl,ti3,rfl,ti3,rfl,ti3,trivial⟩⟩,⟨⟨ti67,trivial,.inl rfl⟩,⟨⟨ti64,trivial,.inl rfl⟩,trivial,trivial⟩,trivial⟩,⟨⟨ti73,tz73,.inr ⟨_,underlying73,rfl,ti71,trivial⟩⟩,trivial,trivial⟩⟩,⟨⟨ti81,trivial,.inl rfl⟩,⟨⟨ti79,trivial,.inl rfl⟩,trivial,trivial⟩,⟨⟨ti82,tz82,.inl rfl⟩,trivial,trivial⟩⟩⟩⟩
section
variable {ops : Array Oper} {X : Nat → Nat → Prop} {φ0 : Nat → FSlot} {w0 : World} {ro : Option Nat} {Q : Exit → AS → Prop} {s : AS} {id : Nat} {y : Code}
theorem wxz (h:AWp prog X φ0 w0 ro y Q (Qi8 tyT ops [] s)) (hm:MetX tyT ops [] s:=by exact⟨by kernel_rfl,by kernel_rfl⟩):AWp prog X φ0 w0 ro (.seq (.region id ops false) y) Q s:=Qy3 tbk [] trivial h hm
theorem wxz1 (h:Q .normal (Qi8 tyT ops [] s)) (hm:MetX tyT ops [] s:=by exact⟨by kernel_rfl,by kernel_rfl⟩):AWp prog X φ0 w0 ro (.region id ops false) Q s:=Qvt tbk [] trivial h hm
theorem wxe (h:AWp prog X φ0 w0 ro y Q (Qi8 tyT ops [] s)) (hf:prog.follows .mixedOrders=true:=by kernel_rfl) (hm:MetX tyT ops [] s:=by exact⟨by kernel_rfl,by kernel_rfl⟩) (ho:Qgn (ops.toList.zip (Qnm tyT ops [] s)) [] []=true:=by kernel_rfl):AWp prog X φ0 w0 ro (.seq (.region id ops true) y) Q s:=Qvs tbk [] trivial h hf hm ho
end
end
section
open Go.ChangeShapes Go.WideShapes Go.ChangeAt Go.RowKit Go.Deep Go.Joins
theorem Try.own:ownKnob prog.godebug=none:=by kernel_rfl
theorem Try.laidOut:laidOutB prog=true:=by kernel_rfl
def noX:Nat→Nat→Prop:=fun _ _=>False
def noφ:Nat→FSlot:=fun _=>.unused
def RelL (w:World):List AV→List Value→Prop
 |[],[]=>True
 |a::l,v::k=>RelV noX noφ w a v∧RelL w l k
 |_,_=>False
theorem RelL.get {w:World}:∀{l:List AV}{k:List Value},RelL w l k→k.length=l.length∧∀i a,l[i]? = some a→RelV noX noφ w a (k.getD i undef)
 |[],[],_=>⟨rfl,by simp⟩
 |_::_,_::_,h=>by
  obtain⟨h1,h2⟩:=RelL.get h.2
  refine⟨by simp[h1],fun i a hi=>?_⟩
  cases i with
  |zero=>simp at hi;subst hi;exact h.1
  |succ i=>simpa using h2 i a (by simpa using hi)
theorem RelL.app {w:World}:∀{l l':List AV}{k k':List Value},RelL w l k→RelL w l' k'→RelL w (l++l') (k++k')
 |[],_,[],_,_,h=>h
 |_::_,_,_::_,_,h,h'=>⟨h.1,RelL.app h.2 h'⟩
theorem Qsk {P:Program}{f:FuncId}{args:List AV}(h:Spec P f args [] (B true) []) {w:World}{vals:Array Value}(hr:RelL w args vals.toList):Calls P f vals w fun e w'=>e=.returned (.bool true)∧Below w.heap.size w w':=by
 obtain⟨h1,h2⟩:=hr.get
 refine(h.calls (X:=noX) (φ:=noφ) (by simpa using h1) (fun i a hi=>?_) (fun _=>rfl) (fun _ _ h=>h.elim)).mono ?_
 ·have:=h2 i a hi
  simpa [Array.getD_eq_getD_getElem?,List.getD_eq_getElem?_getD] using this
 ·rintro e w' ⟨v,φ',rfl,hv,hb⟩
  rw[Qci hv]
  exact⟨rfl,hb⟩
def Opn (P:Program) (t:TypeId) (n:Nat) {T:Type}(c:T→List AV) (G:T→Prop):Prop:=
 P.cellsOf t=n∧(∀x,(c x).length=n)∧∀(H:Type) (enc:TypeId×Value→H) (w:World) (base:Nat) (spare:Nat→Bool) (held:Bool) (fuel:Nat) (cs:List Value) (x:DataW H×List MemPlace),
  DataW.trod enc P w base spare held fuel t cs=some x→(∀q∈x.1.weights P t,q≤reachBytes)→∃v:T,G v∧RelL w (c v) cs
theorem Qwm {P:Program}{t:TypeId}{k:IntKind}(ht:P.underlying t=some (.int k)) (hc:P.cellsOf t=1):Opn P t 1 (fun x:Int=>[K k x]) (fun x=>(Lit.int k x).wf=true):=
 ⟨hc,fun _=>rfl,fun _ _ _ _ _ _ _ _ _ h _=>by
  obtain⟨n,rfl,_,hw⟩:=DataW.trod_int ht h
  exact⟨n,hw,.lit _,trivial⟩⟩
theorem Qwc {w:World}{a:Addr}{v:Value}(h:w.cell? a=some v):a.spot=none∧a.block<w.heap.size:=by
 unfold World.cell? at h
 split at h
 ·rename_i hb
  split at h
  ·cases h
  ·rename_i hs
   exact⟨by simpa using hs,(Array.getElem?_eq_some_iff.1 hb).1⟩
 ·cases h
theorem Qhq (b o i:Nat):(⟨b,o,none⟩:Addr).add i=⟨b,o+i,none⟩:=by
 unfold Addr.add
 split
 ·rename_i h
  subst h
  rfl
 ·rfl
theorem Qmh {T:Type}{p:Nat→T→Prop}:∀(n:Nat),(∀i,i<n→∃x,p i x)→∃l:List T,l.length=n∧∀i x,l[i]? = some x→p i x
 |0,_=>⟨[],rfl,by simp⟩
 |n+1,h=>by
  obtain⟨l,h1,h2⟩:=Qmh n fun i hi=>h i (Nat.lt_succ_of_lt hi)
  obtain⟨x,hx⟩:=h n (Nat.lt_succ_self n)
  refine⟨l++[x],by simp[h1],fun i y hi=>?_⟩
  rcases Nat.lt_or_ge i n with hlt |hge
  ·rw[List.getElem?_append_left (by omega)] at hi
   exact h2 i y hi
  ·rw[List.getElem?_append_right (by omega)] at hi
   have:i=n:=by
    have:=(List.getElem?_eq_some_iff.1 hi).1
    simp at this
    omega
   subst this
   simp[h1] at hi
   exact hi▸hx
theorem Qjm {H:Type}{P:Program}{e:TypeId}:∀{l:List (DataW H)}{d:DataW H},d∈l→∀q∈d.weights P e,q∈DataW.weightsAll P e l
 |[],_,h,_,_=>by cases h
 |x::l,d,h,q,hq=>by
  rw[DataW.weightsAll]
  rcases List.mem_cons.1 h with rfl |h
  ·exact List.mem_append_left _ hq
  ·exact List.mem_append_right _ (Qjm h q hq)
theorem Qmj {P:Program}{t e:TypeId}{n bb:Nat}{T:Type}{c:T→List AV}{G:T→Prop}(ht:P.underlying t=some (.slice e)) (hc:P.cellsOf t=1) (he:Opn P e n c G) (hn:0<n) (hbb:P.bytesOf e=bb) :
  Opn P t 1 (fun l:List T=>[.dat n (l.map c)]) (fun l=>l.length≤maxLen∧(∀x∈l,G x)∧l.length*bb≤140737488351232):=
 ⟨hc,fun _=>rfl,fun H enc w base spare held fuel cs x h hwt=>by
  obtain⟨hce,hcl,hop⟩:=he
  rcases open_slice ht h with ⟨rfl,_⟩ |⟨a,len,cap,m,fu,D,Pl,rfl,hb,hl,hm,hmm,rfl,hi⟩
  ·exact⟨[],⟨Nat.zero_le _,by simp,by simp⟩,.dat n [] none 0 0 (fun _ _=>undef) (DatOK.nil n none 0 _ (Nat.zero_le _)) (by simp),trivial⟩
  ·have hlm:len≤m:=by rw[hmm];split<;>omega
   obtain⟨l,hll,hlp⟩:=Qmh (p:=fun i (v:T)=>G v∧∃cs',cs'.length=n∧(∀j,j<n→w.cell? ((a.add (i*n)).add j)=cs'[j]?)∧RelL w (c v) cs') len fun i hil=>by
    obtain⟨cs',h1,h2⟩:=hi i (by omega)
    obtain⟨v,hG,hr⟩:=hop _ _ _ _ _ _ _ _ _ h2 fun q hq=>hwt q (by
     simp only[DataW.weights,ht]
     exact List.mem_cons_of_mem _ (List.mem_append_left _ (Qjm (List.mem_map.2 ⟨i,List.mem_range.2 hil,rfl⟩) q hq)))
    rw[hce] at h1
    obtain⟨_,h3,h4⟩:=World.cells?_some h1
    exact⟨v,hG,cs',h3,h4,hr⟩
   refine⟨l,⟨by omega,fun x hx=>?_,?_⟩,?_,trivial⟩
   ·obtain⟨i,hi'⟩:=List.getElem?_of_mem hx
    exact(hlp i x hi').1
   ·have:=hwt ((((List.range len).map D).length+((List.range (m-len)).map fun j=>D (len+j)).length)*P.bytesOf e) (by
     simp only[DataW.weights,ht]
     exact List.mem_cons_self ..)
    rw[hbb,List.length_map,List.length_range,Nat.add_mul] at this
    rw[hll]
    exact Nat.le_trans (Nat.le_add_right _ _) this
   ·have elt:∀(i:Nat) y,(l.map c)[i]? = some y→∃v cs',l[i]? = some v∧y=c v∧cs'.length=n∧(∀j,j<n→w.cell? ((a.add (i*n)).add j)=cs'[j]?)∧RelL w (c v) cs':=fun i y hy=>by
     rw[List.getElem?_map] at hy
     cases hv:l[i]? with
     |none=>rw[hv] at hy;cases hy
     |some v=>
      rw[hv] at hy
      cases hy
      obtain⟨_,cs',h1,h2,h3⟩:=hlp i v hv
      exact⟨v,cs',rfl,rfl,h1,h2,h3⟩
    have key:∀(i:Nat) y,(l.map c)[i]? = some y→∀j,j<n→∃u,w.cell? ((a.add (i*n)).add j)=some u∧∀q,y[j]? = some q→RelV noX noφ w q u:=fun i y hy j hj=>by
     obtain⟨v,cs',hv,rfl,h1,h2,h3⟩:=elt i y hy
     obtain⟨u,hu⟩:∃u,cs'[j]? = some u:=⟨_,List.getElem?_eq_getElem (by omega)⟩
     refine⟨u,(h2 j hj).trans hu,fun q hq=>?_⟩
     have:=(h3.get).2 j q hq
     rwa [List.getD_eq_getElem?_getD,hu] at this
    rw[←hll]
    refine .dat n _ (some a) l.length cap (fun i j=>(w.cell? ((a.add (i*n)).add j)).getD undef) ⟨by simp,by omega,hm,fun y hy=>?_,fun hne=>?_⟩ fun i y hy j q hq=>?_
    ·obtain⟨v,_,rfl⟩:=List.mem_map.1 hy
     exact hcl v
    ·obtain⟨y0,hy0⟩:∃y0,(l.map c)[0]? = some y0:=by
      cases l with
      |nil=>exact absurd rfl hne
      |cons v l=>exact⟨c v,rfl⟩
     obtain⟨u,hu,_⟩:=key 0 y0 hy0 0 hn
     have ha0:(a.add (0*n)).add 0=a:=by simp[Addr.add]
     rw[ha0] at hu
     obtain⟨hs,hlt⟩:=Qwc hu
     obtain⟨b,o,sp⟩:=a
     dsimp only at hs
     subst hs
     refine⟨b,o,rfl,fun i y hy j hj=>⟨⟨hlt,fun h=>h,(fun q h=>by cases h),(fun q L h=>by cases h),(fun q Y h=>by cases h),(fun q bs k h=>by cases h)⟩,?_⟩⟩
     obtain⟨u,hu,_⟩:=key i y hy j hj
     rw[Qhq,Qhq] at hu
     rw[hu,Qhq,Qhq,hu]
     rfl
    ·have hj:j<n:=by
      have h1:=(List.getElem?_eq_some_iff.1 hq).1
      obtain⟨v,_,rfl⟩:=List.mem_map.1 (List.mem_of_getElem? hy)
      rwa [hcl v] at h1
     obtain⟨u,hu,hr⟩:=key i y hy j hj
     rw[hu]
     exact hr q hq⟩
theorem Qid {H:Type}{enc:TypeId×Value→H}{P:Program}{w:World}{base:Nat}{spare:Nat→Bool}{held:Bool}{fuel:Nat}{cs:List Value}{fs:Array Field}{xs:List (DataW H×List MemPlace)}(hf:∀(i:Nat) (f:Field),fs[i]? = some f→DataW.trod enc P w base spare held fuel f.type ((cs.drop f.offset).take (P.cellsOf f.type))=xs[i]?)
  (hxl:xs.length=fs.size) (hwt:∀q∈DataW.weightsEach P (fs.toList.map (·.type)) (xs.map (·.1)),q≤reachBytes) {n:Nat}{T:Type}{c:T→List AV}{G:T→Prop}(j:Nat) (f:Field) (hj:fs[j]? = some f) (hop:Opn P f.type n c G):∃v:T,G v∧RelL w (c v) ((cs.drop f.offset).take n):=by
 have hjl:j<xs.length:=by rw[hxl];exact(Array.getElem?_eq_some_iff.1 hj).1
 have h1:=hf j f hj
 rw[List.getElem?_eq_getElem hjl,hop.1] at h1
 exact hop.2.2 _ _ _ _ _ _ _ _ _ h1 fun q hq=>hwt q (DataW.weights_mem_each (j:=j) (by simp[hj]) (by rw[List.getElem?_map,List.getElem?_eq_getElem hjl];rfl) q hq)
theorem Qne {H:Type}{P:Program}{t:TypeId}{fs:Array Field}{xs:List (DataW H×List MemPlace)}{pl:List MemPlace}(ht:P.underlying t=some (.struct fs)) (h:∀q∈(DataW.agg (xs.map (·.1)),pl).1.weights P t,q≤reachBytes):∀q∈DataW.weightsEach P (fs.toList.map (·.type)) (xs.map (·.1)),q≤reachBytes:=
 fun q hq=>h q (by simp only[DataW.weights,ht];exact hq)
theorem Qrk {H:Type}{P:Program}{ts:List TypeId}{ds:List (DataW H)}(h:(DataW.weightsEach P ts ds).all (· ≤ reachBytes)=true) (j:Nat) {t:TypeId}{d:DataW H}(ht:ts[j]? = some t) (hd:ds[j]? = some d):∀q∈d.weights P t,q≤reachBytes:=
 fun q hq=>by simpa using List.all_eq_true.1 h q (DataW.weights_mem_each ht hd q hq)
theorem Qlg {w:World}{A B':List AV}{cs:List Value}{k n k':Nat}(h:RelL w A (cs.take k)) (h':RelL w B' ((cs.drop k).take n)) (hk:k+n=k'):RelL w (A++B') (cs.take k'):=by
 subst hk
 rw[List.take_add]
 exact h.app h'
theorem Qr2 {w:World}{A:List AV}{cs:List Value}{n:Nat}(h:RelL w A ((cs.drop 0).take n)):RelL w A (cs.take n):=h
theorem Qwj {w:World}{A:List AV}{cs:List Value}{n:Nat}(h:RelL w A (cs.take n)) (hn:cs.length=n):RelL w A cs:=by
 subst hn
 rwa [List.take_length] at h
section
variable {H : Type} {enc : TypeId × Value → H} {P : Program} {w : World} {base : Nat} {spare : Nat → Bool} {held : Bool} {r : Reach} {b0 : Nat} {v : Value} {d : DataW H} {p : List MemPlace} {t : TypeId} {n : Nat} {T : Type} {c : T → List AV} {G : T → Prop}
theorem Qwl (ho:Opn P t 1 c G) (a:T→AV) (ha:∀x,c x=[a x]) (h1:v.cells = #[v]) (h:DataW.Trod enc P w base spare held t v d p) (hwt:∀q∈d.weights P t,q≤reachBytes):∃x:T,G x∧RelV noX noφ w (a x) v:=by
 obtain⟨fuel,hf⟩:=h
 obtain⟨x,hG,hr⟩:=ho.2.2 _ _ _ _ _ _ _ _ _ hf hwt
 rw[ha,h1] at hr
 exact⟨x,hG,hr.1⟩
theorem Qmi {e:TypeId}(ht:P.underlying t=some (.slice e)) (ho:Opn P t 1 c G) (a:T→AV) (ha:∀x,c x=[a x]) (hv:Value.okWide P w r b0 t v) (h:DataW.Trod enc P w base spare held t v d p) (hwt:∀q∈d.weights P t,q≤reachBytes):∃x:T,G x∧RelV noX noφ w (a x) v:=by
 obtain⟨A,len,cap,rfl⟩:=okWide_slice ht hv
 exact Qwl ho a ha rfl h hwt
theorem Qpz {fs:Array Field}(ht:P.underlying t=some (.struct fs)) (ho:Opn P t n c G) (hv:Value.okWide P w r b0 t v) (h:DataW.Trod enc P w base spare held t v d p) (hwt:∀q∈d.weights P t,q≤reachBytes):∃x:T,G x∧RelV noX noφ w (.agg (c x)) v:=by
 obtain⟨cs,rfl,hsz⟩:=okWide_struct ht hv
 obtain⟨fuel,hf⟩:=h
 obtain⟨x,hG,hr⟩:=ho.2.2 _ _ _ _ _ _ _ _ _ hf hwt
 obtain⟨h1,h2⟩:=hr.get
 refine⟨x,hG,.agg _ cs (by simpa [Value.cells] using h1) fun i a hi=>?_⟩
 have:=h2 i a hi
 simpa [Value.cells,Array.getD_eq_getD_getElem?,List.getD_eq_getElem?_getD] using this
end
section
variable {H : Type} {enc : TypeId × Value → H} {P : Program}
theorem Qib (hl:laidOutB P=true) {W W':World}(hb:Below W.heap.size W W') {sp:Nat→Bool}:∀(ts:List TypeId) (vs:List Value) (ds:List (DataW H)) (ps:List MemPlace),
  ts.all (fun t=>P.readableRec t&&decide (t<P.types.size))=true→DataW.TrodAll enc P W 0 (fun _=>true) true ts vs ds ps→(∀x∈ps,x.block<W.heap.size)→(∀x∈ps,sp x.block=true) →
  DataW.TrodAll enc P W' 0 sp true ts vs ds ps
 |[],[],[],_,_,h,_,_=>h
 |[],_::_,_,_,_,h,_,_=>by simp[DataW.TrodAll] at h
 |[],[],_::_,_,_,h,_,_=>by simp[DataW.TrodAll] at h
 |_::_,[],_,_,_,h,_,_=>by simp[DataW.TrodAll] at h
 |_::_,_::_,[],_,_,h,_,_=>by simp[DataW.TrodAll] at h
 |t::ts,v::vs,d::ds,ps,hr,h,hlt,hsp=>by
  obtain⟨p,q,h1,h2,rfl⟩:=h
  rw[List.all_cons,Bool.and_eq_true,Bool.and_eq_true,decide_eq_true_eq] at hr
  refine⟨p,q,?_,Qib hl hb ts vs ds q hr.2 h2 (fun x hx=>hlt x (List.mem_append_right _ hx)) (fun x hx=>hsp x (List.mem_append_right _ hx)),rfl⟩
  exact WideElems.Trod_stays hl hr.1.1 hr.1.2 h1 (fun x hx=>hb.same (hlt x (List.mem_append_left _ hx))) (fun x hx=>hsp x (List.mem_append_left _ hx))
theorem Quy {f:Func}{s:ChangeSpec}{W W':World}{args:Array Value}{ds:List (DataW H)}{before:List MemPlace}(tb:TypeId)
  (hW:DataW.Whole enc P f.params.toList s.vars false W args.toList ds [] before) (hl:laidOutB P=true) (hp:f.params.toList.all (fun t=>P.readableRec t&&decide (t<P.types.size))=true)
  (hrt:f.resultTypes = #[tb]) (htb:P.underlying tb=some .bool) (hv:s.vars=[]) (hs1:(s.fn H (ds++[])).results=[.lit (.bool true)]) (hs2:(s.fn H (ds++[])).args=ds) (hs3:(s.fn H (ds++[])).vars=[])
  (hb:Below W.heap.size W W'):s.post enc P f false true false false W args (.bool true) W':=by
 have hlt:∀p∈before,p.block<W.heap.size:=fun p hp=>hW.lt p hp
 have hold:∀p∈before,(fun b=>decide (b<W.heap.size)) p.block=true:=fun p hp=>by simpa using hlt p hp
 obtain⟨pa,pv,hA,hV,he,hz,hn⟩:=hW
 rw[hv] at hV
 have hpv:pv=[]:=hV
 subst hpv
 rw[List.append_nil] at he
 subst he
 have hargs:∀sp:Nat→Bool,(∀p∈before,sp p.block=true)→DataW.TrodAll enc P W' 0 sp true f.params.toList args.toList (s.fn H (ds++[])).args before:=fun sp hsp=>by
  rw[hs2]
  exact Qib hl hb _ _ _ _ hp hA hlt hsp
 have hvars:∀sp:Nat→Bool,DataW.TrodVars enc P W' sp s.vars (s.fn H (ds++[])).vars []:=fun sp=>by
  rw[hv,hs3]
  exact rfl
 have hres:∀(b:Nat) (sp:Nat→Bool) (hd:Bool),DataW.TrodAll enc P W' b sp hd f.resultTypes.toList ((Value.bool true).resultList f.resultTypes.size) (s.fn H (ds++[])).results []:=fun b sp hd=>by
  rw[hs1,hrt]
  exact trodAll_mk1 (shut_bool htb _)
 have hok:=ok_one (P:=P) (W':=W') (f:=f) (v:=.bool true) hrt rfl (okWide_bool_mk htb _)
 refine⟨ds,[],before,[],before,[],⟨before,[],hA,by rw[hv];exact rfl,by simp,hz,fun h=>by cases h⟩,hres _ _ _,hargs _ hold,hvars _,World.keptBut_mono (fun p hp=>⟨hp,Or.inr (Or.inl hp)⟩) (hb.frame (· ∈ before)),fun _=>?_⟩
 refine⟨hok,_,_,([]++before)++[],⟨[]++before,[],trodAll_append (hargs _ (fun _ _=>rfl)) (hres _ _ _),hvars _,rfl,?_,?_⟩,?_⟩
 ·intro b off hp
  have hin:MemPlace.cell b off∈before:=by simpa using hp
  rw[hb.frozen (hlt _ hin)]
  exact hz b off hin
 ·intro ha
  cases ha
 ·intro p hp _
  simpa using hp
end
end
section
open Go.ChangeShapes Go.WideShapes Go.ChangeAt Go.RowKit Go.Deep Go.Joins
def Qkp (x:Int):Prop:=(Lit.int .i64 x).wf=true
def Qi2 (x:Qaa):Prop:=Qkp x.Mass∧Qkp x.Heat∧Qkp x.Silica∧Qkp x.Gas
def Qj5 (x:List Qaa):Prop:=x.length≤maxLen∧(∀y∈x,Qi2 y)∧x.length*32≤140737488351232
theorem opn3:Opn prog 3 1 Qab Qkp:=Qwm underlying3 (by kernel_rfl)
theorem Qyq:Opn prog 24 4 Qae Qi2:=⟨by kernel_rfl,fun _=>rfl,fun _ _ _ _ _ _ _ _ _ h hw=>by
  obtain⟨xs,n,_,rfl,hl,hx,hf⟩:=DataW.trod_struct underlying24 h
  have hz:=Qne underlying24 hw
  obtain⟨v0,g0,r0⟩:=Qid hf hx hz 0 _ rfl opn3
  obtain⟨v1,g1,r1⟩:=Qid hf hx hz 1 _ rfl opn3
  obtain⟨v2,g2,r2⟩:=Qid hf hx hz 2 _ rfl opn3
  obtain⟨v3,g3,r3⟩:=Qid hf hx hz 3 _ rfl opn3
  exact⟨⟨v0,v1,v2,v3⟩,⟨g0,g1,g2,g3⟩,Qwj (Qlg (Qlg (Qlg (Qr2 r0) r1 rfl) r2 rfl) r3 rfl) (hl.trans (by kernel_rfl))⟩⟩
theorem Qzp:Opn prog 22 1 Qi3 Qj5:=Qmj underlying22 (by kernel_rfl) Qyq (by decide) (by kernel_rfl)
def Qsp (x:List Int):Prop:=x.length≤maxLen∧(∀y∈x,Qkp y)∧x.length*8≤140737488351232
theorem Qzo:Opn prog 25 1 Qte Qsp:=Qmj underlying25 (by kernel_rfl) opn3 (by decide) (by kernel_rfl)
end
section
def Qbq (_N:Nat) (p0 p1 p2:Int):Option Bool:=
  bif (decide (p1≤p0)) then
   some (decide (p0≤p2))
  else
   some false
theorem Qbs (N:Nat) (p0 p1 p2:Int) (r:Bool) (h:Qbq N p0 p1 p2=some r):Spec prog 23 [(I p0),(I p1),(I p2)] [] (B r) []:=by
  refine sA func23 0 fun _ _ _ hq hd0=>?_
  unfold Qbq at h
  refine wxz ?_
  refine bfe h (fun hb1 h=>?_) fun hb1 h=>?_
  ·refine wx tbk [(3,rp [(.tmp 9,(B ((decide (p1≤p0)))))] (B true))] ⟨asb hb1 (amv rfl),tv⟩<|Qaf ?_
   obtain rfl:=osi h
   exact fend ⟨[(B ((decide (p0≤p2))))],⟨rot,tv⟩,rfl⟩ nll
  ·exact wx tbk [(3,rp [(.tmp 9,(B ((decide (p1≤p0)))))] (B false))] ⟨asb hb1 (amv rfl),tv⟩<|Qaf<|frb h
def Qcm (N:Nat) (p0:Qaa):Option Bool:=
  (Qbq N p0.Mass 0 1000000).bind fun x2=>
  bif x2 then
   (Qbq N p0.Heat 0 (w64 (4000*p0.Mass))).bind fun x5=>
   bif x5 then
    (Qbq N p0.Silica 0 (w64 (10000*p0.Mass))).bind fun x8=>
    bif x8 then
     (Qbq N p0.Gas 0 1000000000).bind fun x11=>
     some x11
    else
     some false
   else
    some false
  else
   some false
def z7_2 (p0:Qaa) (x2:Bool):List (Nat×Rec):=[(2,rp [fu 23,((.tmp 4),(I p0.Mass)),ci 0,ci 1000000] (B x2))]
def z7_3 p0 x2 (x5:Bool):=hcat (z7_2 p0 x2) [(3,rp [((.tmp 5),(B x2))] (B true)),(9,rp [((.tmp 6),(B true)),fu 23,((.tmp 8),(I p0.Heat)),ci 0,((.tmp 11),(I (w64 (4000*p0.Mass))))] (B x5))]
def z7_4 p0 x2 x5 (x8:Bool):=hcat (z7_3 p0 x2 x5) [(11,rp [((.tmp 13),(B x5))] (B true)),(17,rp [((.tmp 14),(B true)),fu 23,((.tmp 16),(I p0.Silica)),ci 0,((.tmp 19),(I (w64 (10000*p0.Mass))))] (B x8))]
theorem Qd3 (N:Nat) (p0:Qaa) (r:Bool) (h:Qcm N p0=some r):Spec prog 24 [(.agg (Qae p0))] [] (B r) []:=by
  refine sA func24 0 fun _ _ _ hq hd0=>?_
  unfold Qcm at h
  refine wxz ?_
  obtain⟨x2,hf1,h⟩:=bno h
  refine hpre (A:=(z7_2 p0 x2)) ⟨apv Qfv (Qbs N p0.Mass 0 1000000 _ hf1) (nlcc (nlc nll nl0)) nll,tv⟩ fun q1_=>?_
  refine bfe h (fun hb3 h=>?_) fun hb3 h=>?_
  ·obtain⟨x5,hf4,h⟩:=bno h
   refine hpre (A:=(z7_3 p0 x2 x5)) (hap q1_ ⟨asb hb3 (amv rfl),ag_ (apv Qfv (Qbs N p0.Heat 0 (w64 (4000*p0.Mass)) _ hf4) (nlcc (nlc nll nl0)) nll),tv⟩) fun q2_=>?_
   refine bfe h (fun hb6 h=>?_) fun hb6 h=>?_
   ·obtain⟨x8,hf7,h⟩:=bno h
    refine hpre (A:=(z7_4 p0 x2 x5 x8)) (hap q2_ ⟨asb hb6 (amv rfl),ag_ (apv Qfv (Qbs N p0.Silica 0 (w64 (10000*p0.Mass)) _ hf7) (nlcc (nlc nll nl0)) nll),tv⟩) fun q3_=>?_
    refine bfe h (fun hb9 h=>?_) fun hb9 h=>?_
    ·obtain⟨x11,hf10,h⟩:=bno h
     exact wx tbk (hcat (z7_4 p0 x2 x5 x8) [(19,rp [(.tmp 21,B x8)] (B true)),(22,rp [(.tmp 22,B true),fu 23,(.tmp 24,I p0.Gas),ci 0,ci 1000000000] (B x11))]) (hap q3_ ⟨asb hb9 (amv rfl),ag_ (apv Qfv (Qbs N p0.Gas 0 1000000000 _ hf10) (nlcc (nlc nll nl0)) nll),tv⟩)<|Qaf<|frb h
    ·exact wx tbk (hcat (z7_4 p0 x2 x5 x8) [(19,rp [(.tmp 21,B x8)] (B false))]) (hap q3_ ⟨asb hb9 (amv rfl),tv⟩)<|Qaf<|frb h
   ·exact wx tbk (hcat (z7_3 p0 x2 x5) [(11,rp [(.tmp 13,B x5)] (B false))]) (hap q2_ ⟨asb hb6 (amv rfl),tv⟩)<|Qaf<|frb h
  ·exact wx tbk (hcat (z7_2 p0 x2) [(3,rp [(.tmp 5,B x2)] (B false))]) (hap q1_ ⟨asb hb3 (amv rfl),tv⟩)<|Qaf<|frb h
def Qb7 (N:Nat) (p0:Qaa):Option Bool:=
  (Qcm N p0).bind fun x3=>
  some (!x3)
abbrev z6_1 (p0:Qaa):AV:=.agg [(I p0.Mass),(I p0.Heat),(I p0.Silica),(I p0.Gas)]
abbrev z6_2:Slot:=.own 1 [[(.fn (.func 24) [] [])]]
theorem Qfg (N:Nat) (p0:Qaa) (r:Bool) (h:Qb7 N p0=some r):Spec prog 51 [(z6_1 p0),(.ref 0 1 (0) 0)] [z6_2] (B r) [z6_2]:=by
  refine sF func51 1 fun _ _ _ hq hd0=>?_
  unfold Qb7 at h
  refine wxz ?_
  obtain⟨x3,hf2,h⟩:=bno h
  refine wx tbk [(2,rp _ _)] ⟨apw Qny (Qd3 N p0 _ hf2),tv⟩ ?_
  refine wmr (mto (n:=8) (l':=[(3,(B ((!x3))))]) (own':=[z6_2]) [(3,(B ((!x3))))] [0] [z6_2] hq (pw pn) (qb (lc (.rn (Qaj rn0 rn0)) ln) qn))<|Qaf ?_
  obtain rfl:=osi h
  exact⟨_,Mor.rfl,fio [(B ((!x3)))] ⟨rot,tv⟩⟩
def Qan (N:Nat) (p0:List Qaa) (k2:Unit→Option Int):Nat→Int→Option Int
  |0,_=>none
  |n5+1,y3=>
    bif (decide (y3<(p0.length:Int))) then
     (getI p0 y3).bind fun x7=>
     (Qb7 N x7).bind fun x12=>
     bif x12 then
      some y3
     else
      Qan N p0 k2 n5 (w64 (y3+1))
    else
     k2 ()
def Qba (N:Nat) (p0:List Qaa):Option Int:=
  Qcd (fun _=>
    some (-1)) fun k2:Unit→Option Int=>
  Qan N p0 k2 N 0
abbrev z5_0 (p0:List Qaa):AV:=.dat 4 (p0.map Qae)
abbrev z5_1:AV:=.fn (.func 51) [] [(.ref 0 1 (0) 0)]
abbrev z5_3:Slot:=.own 1 [[(.fn (.func 24) [] [])]]
def z5_8 (x7:Qaa):AV:=.agg [(I x7.Mass),(I x7.Heat),(I x7.Silica),(I x7.Gas)]
theorem Qdo (N:Nat) (p0:List Qaa) (r:Int) (h:Qba N p0=some r):Spec prog 56 [(z5_0 p0),z5_1] [z5_3] (I r) [z5_3]:=by
  refine sF func56 1 fun _ _ _ hq hd0=>?_
  unfold Qba at h
  refine wxz ?_
  obtain⟨k2,hk_k2,h⟩:=jko h
  refine wjn (τ:=Unit) (fun t=>k2 t=some r) (fun _=>⟨mk 19 [],[z5_3]⟩) (fun t h=>?_) ?_
  ·subst hk_k2
   refine wxz<|wmr (mto (n:=19) (l':=[(4,(I ((-1))))]) (own':=[z5_3]) [(4,(I ((-1))))] [0] [z5_3] hq (pw pn) (qb (lc (.rn (Qaj rn0 rn0)) ln) qn))<|Qaf ?_
   obtain rfl:=osi h
   exact⟨_,Mor.rfl,fio [(I ((-1)))] ⟨rot,tv⟩⟩
  ·skip
   refine wx tbk [(1,rp _ _)] ⟨alq 4 Qae p0 underlying31,tv⟩<|Qag ?_
   refine wmr (mto (n:=19) (l':=[(0,(z5_0 p0)),(1,z5_1),(7,(I ((p0.length:Int)))),(8,I 0)]) (own':=[z5_3]) [(0,(z5_0 p0)),(1,z5_1),(7,(I ((p0.length:Int)))),(8,I 0)] [0] [z5_3] hq (pc (rnd Qai) (pc (.rn (Qaj rn0 (rnc (rqr rfl) rn0))) (pw (pw pn)))) (qb (lc (.rn (Qaj rn0 rn0)) ln) qn)) ?_
   refine Qb2 (τ:=Int) (fun n t=>Qan N p0 k2 n t=some r) (fun y3=>⟨mk 19 [(0,(z5_0 p0)),(1,z5_1),(7,(I ((p0.length:Int)))),(8,I y3)],[z5_3]⟩) (fun t h=>by rw[Qan] at h;cases h) (fun n5 ih y3 h=>?_) N (0) h
   rw[Qan] at h
   skip
   refine wxz<|wsq ?_
   refine bfe h (fun hc6 h=>?_) fun hc6 h=>?_
   ·refine wft hc6<|Qah<|thn<|wsq<|Qag<|wxz ?_
    obtain⟨x7,hg8,h⟩:=bno h
    obtain⟨hi9,hj10⟩:=gsm hg8
    obtain⟨x12,hf11,h⟩:=bno h
    refine wx tbk [(3,rp _ _),(5,⟨_,_,_,_,false⟩)] ⟨aiq underlying31 ti27 Qae hi9 hj10,Qcb (first:=[]) (cap:=[.ref 0 1 0 0]) (vs:=[(z5_8 x7)]) (σr:=[z5_3]) (σr':=[z5_3]) (res':=(B x12)) [0] rfl Qsx (Qfg N x7 _ hf11) rfl (Qbu (rnc (.plain _ (NLt.agg _ (nlcc (nlcc nl0)))) (rnc (Qak rfl) rn0))) (slc (Qad (rnc (.plain _ (NLt.fn _ _ _ nl0 nl0)) rn0)) Qal) (slc (Qad (rnc (.plain _ (NLt.fn _ _ _ nl0 nl0)) rn0)) Qal) (.plain _ nll) rfl rfl rfl,tv⟩ ?_
    refine bfe h (fun hc13 h=>?_) fun hc13 h=>?_
    ·refine wft hc13<|wxz ?_
     refine wmr (mto (n:=19) (l':=[(4,I y3)]) (own':=[z5_3]) [(4,I y3)] [0] [z5_3] hq (pw pn) (qb (lc (.rn (Qaj rn0 rn0)) ln) qn))<|Qaf<|Qbr<|Qao<|Qao<|Qbr<|Qao ?_
     obtain rfl:=osi h
     exact⟨_,Mor.rfl,fio [I y3] ⟨rot,tv⟩⟩
    ·exact wfn hc13<|Qah<|bln<|thn<|wxz1<|thn<|arm (mto (n:=19) [(0,(z5_0 p0)),(1,z5_1),(7,(I ((p0.length:Int)))),(8,(I (w64 (y3+1))))] [0] [z5_3] hq (pc (rnd Qai) (pc (.rn (Qaj rn0 (rnc (rqr rfl) rn0))) (pw (pw pn)))) (qb (lc (.rn (Qaj rn0 rn0)) ln) qn)) (ih (w64 (y3+1)) h)
   ·exact wfn hc6<|Qbc<|Qaq<|Qaq<|Qbb rfl<|thn<|⟨(),h,(mto (n:=19) [] [0] [z5_3] hq pn (qb (lc (.rn (Qaj rn0 rn0)) ln) qn))⟩
def Qax (N:Nat) (p0:List Qaa):Option Bool:=
  (Qba N p0).bind fun x3=>
  some (decide (x3≥0))
abbrev z4_1:AV:=.fn (.func 51) [] [(.ref 0 1 (0) 0)]
abbrev z4_2:Slot:=.own 1 [[(.fn (.func 24) [] [])]]
theorem Qdi (N:Nat) (p0:List Qaa) (r:Bool) (h:Qax N p0=some r):Spec prog 50 [(.dat 4 (p0.map Qae)),z4_1] [z4_2] (B r) [z4_2]:=by
  refine sF func50 1 fun _ _ _ hq hd0=>?_
  unfold Qax at h
  refine wxz ?_
  obtain⟨x3,hf2,h⟩:=bno h
  refine wx tbk [(2,⟨_,_,_,_,false⟩)] ⟨acq [(.dat 4 (p0.map Qae)),z4_1] [z4_2] [z4_2] (I x3) [0] Qsw (Qdo N p0 _ hf2) (Qbu (rnc (pld Qai) (rnc (Qaj rn0 (rnc (Qak rfl) rn0)) rn0))) (slc (Qad (rnc (.plain _ (NLt.fn _ _ _ nl0 nl0)) rn0)) Qal) (slc (Qad (rnc (.plain _ (NLt.fn _ _ _ nl0 nl0)) rn0)) Qal) (.plain _ nll),tv⟩ ?_
  refine wmr (mto (n:=9) (l':=[(4,(B ((decide (x3≥0)))))]) (own':=[z4_2]) [(4,(B ((decide (x3≥0)))))] [0] [z4_2] hq (pw pn) (qb (lc (.rn (Qaj rn0 rn0)) ln) qn))<|Qaf ?_
  obtain rfl:=osi h
  exact⟨_,Mor.rfl,fio [(B ((decide (x3≥0))))] ⟨rot,tv⟩⟩
def Qch (N:Nat) (p0:List Qaa):Option Bool:=
  (Qax N p0).bind fun x2=>
  some (!x2)
def z3_2:AV:=.fn (.func 51) [] [(.ref 0 1 (0) 0)]
def z3_0:Slot:=.own 1 [[(.fn (.func 24) [] [])]]
theorem Qfz (N:Nat) (p0:List Qaa) (r:Bool) (h:Qch N p0=some r):Spec prog 36 [(.dat 4 (p0.map Qae)),(.fn (.func 24) [] [])] [] (B r) []:=by
  refine sA func36 0 fun _ _ _ hq hd0=>?_
  unfold Qch at h
  refine wxz ?_
  obtain⟨x2,hf1,h⟩:=bno h
  refine wx tbk [(1,rp [(.tmp 3,.ref 0 1 0 0)] z3_2),(2,⟨_,_,_,_,false⟩)] ⟨Qd1 (fs:=[]) (cs:=[.ref 0 1 0 0]) rfl rfl rfl rfl,acq [(.dat 4 (p0.map Qae)),z3_2] [z3_0] [z3_0] (B x2) [0] Qsy (Qdi N p0 _ hf1) (Qbu (rnc (pld Qai) (rnc (Qaj rn0 (rnc (Qak rfl) rn0)) rn0))) (slc (Qad (rnc (.plain _ (NLt.fn _ _ _ nl0 nl0)) rn0)) Qal) (slc (Qad (rnc (.plain _ (NLt.fn _ _ _ nl0 nl0)) rn0)) Qal) (.plain _ nll),tv⟩<|Qaf ?_
  obtain rfl:=osi h
  exact fend ⟨[(B ((!x2)))],⟨rot,tv⟩,rfl⟩ nll
def Qef (N:Nat) (p0:List Qaa):Option Int:=
  bif (decide ((p0.length:Int)>40)) then
   some 3
  else
   (Qch N p0).bind fun x3=>
   bif (!x3) then
    some 1
   else
    some 0
theorem Qgq (N:Nat) (p0:List Qaa) (r:Int) (h:Qef N p0=some r):Spec prog 20 [(.dat 4 (p0.map Qae))] [] (I r) []:=by
  refine sA func20 0 fun _ _ _ hq hd0=>?_
  unfold Qef at h
  refine wxz<|wsq<|Qag ?_
  refine wx tbk [(1,rp _ _)] ⟨alq 4 Qae p0 underlying31,tv⟩ ?_
  refine bfe h (fun hc1 h=>?_) fun hc1 h=>?_
  ·refine wft hc1<|wxz<|Qaf<|Qbr<|Qao ?_
   obtain rfl:=osi h
   exact fend ⟨[I 3],⟨rot,tv⟩,rfl⟩ nll
  ·refine wfn hc1 ?_
   obtain⟨x3,hf2,h⟩:=bno h
   refine wx tbk [(1,rp _ _)] ⟨acq [(.dat 4 (p0.map Qae)),(.fn (.func 24) [] [])] [] [] (B x3) [] Qs1 (Qfz N p0 _ hf2) (Qbu (rnc (pld Qai) (rnc (.plain _ (NLt.fn _ _ _ nl0 nl0)) rn0))) Qal Qal (.plain _ nll),tv⟩ ?_
   refine bfe h (fun hc4 h=>?_) fun hc4 h=>?_
   ·refine wft hc4<|wxz<|Qaf<|Qbr<|Qao ?_
    obtain rfl:=osi h
    exact fend ⟨[I 1],⟨rot,tv⟩,rfl⟩ nll
   ·refine wfn hc4<|Qah<|bln<|thn<|wxz<|Qaf ?_
    obtain rfl:=osi h
    exact fend ⟨[I 0],⟨rot,tv⟩,rfl⟩ nll
def Qbl (_N:Nat) (_p0 _p1:Int) (_p2 _p3:Int):Option Unit:=
  some ()
abbrev Ql6 (p0 p1:Int) (p2 p3:Int):Slot:=.own 4 [[(I p0),(I p1),(I p2),(I p3)]]
abbrev Qv7:AV:=.agg [(.ref 0 4 (0) 0),(.ref 0 4 (0) 1),(.ref 0 4 (0) 2),(.ref 0 4 (0) 3)]
abbrev Qv6:Slot:=.own 4 [[(.ref 0 4 (0) 0),(.ref 0 4 (0) 1),(.ref 0 4 (0) 2),(.ref 0 4 (0) 3)]]
theorem Qce (N:Nat) (p0 p1:Int) (p2 p3:Int) (r:Unit) (h:Qbl N p0 p1 p2 p3=some r):Spec prog 42 [(.ref 0 4 (0) 0)] [(Ql6 p0 p1 p2 p3)] Qv7 [(Ql6 p0 p1 p2 p3),Qv6]:=by
  refine sF func42 2 fun _ _ _ hq hd0=>?_
  unfold Qbl at h
  refine wxz<|wxd tbk [(1,rb [(.tmp 3,.ref 0 4 0 0)] [(0,(Ql6 p0 p1 p2 p3))] (.ref 0 4 0 0)),(4,rb [(.tmp 6,.ref 0 4 0 0)] [(0,(Ql6 p0 p1 p2 p3))] (.ref 0 4 0 0)),(7,rb [(.tmp 9,.ref 0 4 0 0)] [(0,(Ql6 p0 p1 p2 p3))] (.ref 0 4 0 0)),(10,rb [(.tmp 12,.ref 0 4 0 0)] [(0,(Ql6 p0 p1 p2 p3))] (.ref 0 4 0 0)),(12,rp [(.tmp 5,.ref 0 4 0 0),(.tmp 8,.ref 0 4 0 1),(.tmp 11,.ref 0 4 0 2),(.tmp 14,.ref 0 4 0 3)] Qv7)] ⟨Qc0 rfl,Qc0 rfl,Qc0 rfl,Qc0 rfl,Qm7 (vs:=[.ref 0 4 0 0,.ref 0 4 0 1,.ref 0 4 0 2,.ref 0 4 0 3]) rfl underlying82 ti81 tz82 rfl (by rfl) rfl,tv⟩ ?_
  refine wmr (mto (n:=16) (l':=[(2,.ref 1 4 0 0)]) (own':=[(Ql6 p0 p1 p2 p3),Qv6]) [(2,.ref 1 4 0 0)] [0,1] [(Ql6 p0 p1 p2 p3),Qv6] hq (prr pn) (qb (lcc (lcc ln)) (qb (lc (.rn (rqr rfl)) (lc (.rn (rqr rfl)) (lc (.rn (rqr rfl)) (lc (.rn (rqr rfl)) ln)))) qn)))<|Qaf ?_
  obtain rfl:=osi h
  exact⟨_,Mor.rfl,fio [Qv7] ⟨Qbk (n:=1) (m:=4) (j:=0) (i:=0) (xs:=[[.ref 0 4 0 0,.ref 0 4 0 1,.ref 0 4 0 2,.ref 0 4 0 3]]) (by kernel_rfl) (by kernel_rfl) ti82 (by decide) rfl (nle rfl) rfl,tv⟩⟩
def Qfd (N:Nat) (p0:Qaa) (p1 p2:Int) (p3 p4:Int):Option Unit:=
  (Qbl N p0.Mass p0.Heat p0.Silica p0.Gas).bind fun _=>
  (Qbl N p1 p2 p3 p4).bind fun _=>
  (Qbl N (w64 (p1+p0.Mass)) p2 p3 p4).bind fun _=>
  (Qbl N (w64 (p1+p0.Mass)) (w64 (p2+p0.Heat)) p3 p4).bind fun _=>
  (Qbl N (w64 (p1+p0.Mass)) (w64 (p2+p0.Heat)) (w64 (p3+p0.Silica)) p4).bind fun _=>
  some ()
abbrev Qrg (p1 p2:Int) (p3 p4:Int):Slot:=.own 4 [[(I p1),(I p2),(I p3),(I p4)]]
abbrev Qri (p1:Int) (p0:Qaa) (p2 p3 p4:Int):Slot:=.own 4 [[(I (w64 (p1+p0.Mass))),(I (w64 (p2+p0.Heat))),(I (w64 (p3+p0.Silica))),(I (w64 (p4+p0.Gas)))]]
def Qpn (p0:Qaa):Slot:=.own 4 [[(I p0.Mass),(I p0.Heat),(I p0.Silica),(I p0.Gas)]]
def Qrh:AV:=.agg [(.ref 1 4 (0) 0),(.ref 1 4 (0) 1),(.ref 1 4 (0) 2),(.ref 1 4 (0) 3)]
def Qzm:Slot:=.own 4 [[(.ref 1 4 (0) 0),(.ref 1 4 (0) 1),(.ref 1 4 (0) 2),(.ref 1 4 (0) 3)]]
def Ql7:AV:=.agg [(.ref 0 4 (0) 0),(.ref 0 4 (0) 1),(.ref 0 4 (0) 2),(.ref 0 4 (0) 3)]
def Qud:Slot:=.own 4 [[(.ref 0 4 (0) 0),(.ref 0 4 (0) 1),(.ref 0 4 (0) 2),(.ref 0 4 (0) 3)]]
def Quc (p1:Int) (p0:Qaa) (p2 p3 p4:Int):Slot:=.own 4 [[(I (w64 (p1+p0.Mass))),(I p2),(I p3),(I p4)]]
def Qub (p1:Int) (p0:Qaa) (p2 p3 p4:Int):Slot:=.own 4 [[(I (w64 (p1+p0.Mass))),(I (w64 (p2+p0.Heat))),(I p3),(I p4)]]
def Qua (p1:Int) (p0:Qaa) (p2 p3 p4:Int):Slot:=.own 4 [[(I (w64 (p1+p0.Mass))),(I (w64 (p2+p0.Heat))),(I (w64 (p3+p0.Silica))),(I p4)]]
theorem Qiq (N:Nat) (p0:Qaa) (p1 p2:Int) (p3 p4:Int) (r:Unit) (h:Qfd N p0 p1 p2 p3 p4=some r):Spec prog 41 [(.agg [(I p0.Mass),(I p0.Heat),(I p0.Silica),(I p0.Gas)]),(.ref 0 4 (0) 0)] [(Qrg p1 p2 p3 p4)] (.tup []) [(Qri p1 p0 p2 p3 p4)]:=by
  refine sF func41 1 fun _ _ _ hq hd0=>?_
  unfold Qfd at h
  refine wxz ?_
  obtain⟨x2,hf1,h⟩:=bno h
  refine wx tbk [(0,⟨_,_,_,_,false⟩)] ⟨acq [.ref 1 4 0 0] [(Qpn p0)] [(Qpn p0),Qzm] Qrh [1,2] Qj9 (Qce N p0.Mass p0.Heat p0.Silica p0.Gas _ hf1) (Qbu (rnc (Qak rfl) rn0)) (slc (Qad (rncc (rncc rn0))) Qal) (slc (Qad (rncc (rncc rn0))) (slc (Qad (rnc (Qar rfl) (rnc (Qar rfl) (rnc (Qar rfl) (rnc (Qar rfl) rn0))))) Qal)) (Qbu (rnc (Qar rfl) (rnc (Qar rfl) (rnc (Qar rfl) (rnc (Qar rfl) rn0))))),tv⟩<|Qag<|Qo9 17<|Qk1<|wxz<|wsq<|wtr<|Qah<|thn<|wsq ?_
  refine Qag<|wx tbk [(1,rp [(.tmp 5,Qrh),(.tmp 6,I 0)] (.ref 1 4 0 0))] ⟨Qd9 rfl underlying82 ti81 (by decide) (by decide) (nle rfl) (by decide) rfl,tv⟩ ?_
  obtain⟨x4,hf3,h⟩:=bno h
  refine wy1 tbk [(0,⟨_,_,_,_,false⟩),(2,rp [(.tmp 10,Ql7),(.tmp 11,I 0)] (.ref 0 4 0 0)),(3,rb [(.tmp 12,.ref 0 4 0 0)] [(0,(Qrg p1 p2 p3 p4))] (.ref 0 4 0 0)),(6,rb [(.tmp 15,.ref 1 4 0 0)] [(1,(Qpn p0))] (.ref 1 4 0 0)),(9,rb [(.tmp 12,.ref 0 4 0 0)] [(0,(Qrg p1 p2 p3 p4))] (.ref 0 4 0 0))] ⟨acq [.ref 0 4 0 0] [(Qrg p1 p2 p3 p4)] [(Qrg p1 p2 p3 p4),Qud] Ql7 [0,3] Qj9 (Qce N p1 p2 p3 p4 _ hf3) (Qbu (rnc (Qak rfl) rn0)) (slc (Qad (rncc (rncc rn0))) Qal) (slc (Qad (rncc (rncc rn0))) (slc (Qad (rnc (Qar rfl) (rnc (Qar rfl) (rnc (Qar rfl) (rnc (Qar rfl) rn0))))) Qal)) (Qbu (rnc (Qar rfl) (rnc (Qar rfl) (rnc (Qar rfl) (rnc (Qar rfl) rn0))))),Qd9 rfl underlying82 ti81 (by decide) (by decide) (nle rfl) (by decide) rfl,Qc0 rfl,Qc0 rfl,Qc0 rfl,tv⟩<|bln<|thn<|wxz1<|thn<|Qk1<|wxz<|wsq<|wtr<|Qah ?_
  refine thn<|wsq<|Qag ?_
  refine wx tbk [(1,rp [(.tmp 5,Qrh),(.tmp 6,I 1)] (.ref 1 4 0 1))] ⟨Qd9 rfl underlying82 ti81 (by decide) (by decide) (nle rfl) (by decide) rfl,tv⟩ ?_
  obtain⟨x6,hf5,h⟩:=bno h
  refine wy1 tbk [(0,⟨_,_,_,_,false⟩),(2,rp [(.tmp 10,Ql7),(.tmp 11,I 1)] (.ref 0 4 0 1)),(3,rb [(.tmp 12,.ref 0 4 0 1)] [(0,(Quc p1 p0 p2 p3 p4))] (.ref 0 4 0 1)),(6,rb [(.tmp 15,.ref 1 4 0 1)] [(1,(Qpn p0))] (.ref 1 4 0 1)),(9,rb [(.tmp 12,.ref 0 4 0 1)] [(0,(Quc p1 p0 p2 p3 p4))] (.ref 0 4 0 1))] ⟨acq [.ref 0 4 0 0] [(Quc p1 p0 p2 p3 p4)] [(Quc p1 p0 p2 p3 p4),Qud] Ql7 [0,4] Qj9 (Qce N (w64 (p1+p0.Mass)) p2 p3 p4 _ hf5) (Qbu (rnc (Qak rfl) rn0)) (slc (Qad (rncc (rncc rn0))) Qal) (slc (Qad (rncc (rncc rn0))) (slc (Qad (rnc (Qar rfl) (rnc (Qar rfl) (rnc (Qar rfl) (rnc (Qar rfl) rn0))))) Qal)) (Qbu (rnc (Qar rfl) (rnc (Qar rfl) (rnc (Qar rfl) (rnc (Qar rfl) rn0))))),Qd9 rfl underlying82 ti81 (by decide) (by decide) (nle rfl) (by decide) rfl,Qc0 rfl,Qc0 rfl,Qc0 rfl,tv⟩<|bln<|thn<|wxz1<|thn<|Qk1<|wxz<|wsq<|wtr<|Qah ?_
  refine thn<|wsq<|Qag ?_
  refine wx tbk [(1,rp [(.tmp 5,Qrh),(.tmp 6,I 2)] (.ref 1 4 0 2))] ⟨Qd9 rfl underlying82 ti81 (by decide) (by decide) (nle rfl) (by decide) rfl,tv⟩ ?_
  obtain⟨x8,hf7,h⟩:=bno h
  refine wy1 tbk [(0,⟨_,_,_,_,false⟩),(2,rp [(.tmp 10,Ql7),(.tmp 11,I 2)] (.ref 0 4 0 2)),(3,rb [(.tmp 12,.ref 0 4 0 2)] [(0,(Qub p1 p0 p2 p3 p4))] (.ref 0 4 0 2)),(6,rb [(.tmp 15,.ref 1 4 0 2)] [(1,(Qpn p0))] (.ref 1 4 0 2)),(9,rb [(.tmp 12,.ref 0 4 0 2)] [(0,(Qub p1 p0 p2 p3 p4))] (.ref 0 4 0 2))] ⟨acq [.ref 0 4 0 0] [(Qub p1 p0 p2 p3 p4)] [(Qub p1 p0 p2 p3 p4),Qud] Ql7 [0,5] Qj9 (Qce N (w64 (p1+p0.Mass)) (w64 (p2+p0.Heat)) p3 p4 _ hf7) (Qbu (rnc (Qak rfl) rn0)) (slc (Qad (rncc (rncc rn0))) Qal) (slc (Qad (rncc (rncc rn0))) (slc (Qad (rnc (Qar rfl) (rnc (Qar rfl) (rnc (Qar rfl) (rnc (Qar rfl) rn0))))) Qal)) (Qbu (rnc (Qar rfl) (rnc (Qar rfl) (rnc (Qar rfl) (rnc (Qar rfl) rn0))))),Qd9 rfl underlying82 ti81 (by decide) (by decide) (nle rfl) (by decide) rfl,Qc0 rfl,Qc0 rfl,Qc0 rfl,tv⟩<|bln<|thn<|wxz1<|thn<|Qk1<|wxz<|wsq<|wtr<|Qah ?_
  refine thn<|wsq<|Qag ?_
  refine wx tbk [(1,rp [(.tmp 5,Qrh),(.tmp 6,I 3)] (.ref 1 4 0 3))] ⟨Qd9 rfl underlying82 ti81 (by decide) (by decide) (nle rfl) (by decide) rfl,tv⟩ ?_
  obtain⟨x10,hf9,h⟩:=bno h
  refine wy1 tbk [(0,⟨_,_,_,_,false⟩),(2,rp [(.tmp 10,Ql7),(.tmp 11,I 3)] (.ref 0 4 0 3)),(3,rb [(.tmp 12,.ref 0 4 0 3)] [(0,(Qua p1 p0 p2 p3 p4))] (.ref 0 4 0 3)),(6,rb [(.tmp 15,.ref 1 4 0 3)] [(1,(Qpn p0))] (.ref 1 4 0 3)),(9,rb [(.tmp 12,.ref 0 4 0 3)] [(0,(Qua p1 p0 p2 p3 p4))] (.ref 0 4 0 3))] ⟨acq [.ref 0 4 0 0] [(Qua p1 p0 p2 p3 p4)] [(Qua p1 p0 p2 p3 p4),Qud] Ql7 [0,6] Qj9 (Qce N (w64 (p1+p0.Mass)) (w64 (p2+p0.Heat)) (w64 (p3+p0.Silica)) p4 _ hf9) (Qbu (rnc (Qak rfl) rn0)) (slc (Qad (rncc (rncc rn0))) Qal) (slc (Qad (rncc (rncc rn0))) (slc (Qad (rnc (Qar rfl) (rnc (Qar rfl) (rnc (Qar rfl) (rnc (Qar rfl) rn0))))) Qal)) (Qbu (rnc (Qar rfl) (rnc (Qar rfl) (rnc (Qar rfl) (rnc (Qar rfl) rn0))))),Qd9 rfl underlying82 ti81 (by decide) (by decide) (nle rfl) (by decide) rfl,Qc0 rfl,Qc0 rfl,Qc0 rfl,tv⟩<|bln<|thn<|wxz1<|thn<|Qk1<|wxz<|wsq<|wfa<|Qbc ?_
  refine Qaq<|Qaq<|Qbb rfl ?_
  obtain rfl:=osi h
  exact⟨_,(mto (n:=21) (l':=[]) (own':=[(Qri p1 p0 p2 p3 p4)]) [] [0] [(Qri p1 p0 p2 p3 p4)] hq pn (qb (lcc (lcc ln)) qn)),fio [] tv⟩
def Qc6 (N:Nat) (p0:List Qaa) (k5:Int×Int×Int×Int→Option Qaa):Nat→Int→Int→Int→Int→Int→Option Qaa
  |0,_,_,_,_,_=>none
  |n16+1,y6,y7,y8,y9,y10=>
    bif (decide (y6<(p0.length:Int))) then
     (getI p0 y6).bind fun x18=>
     (Qfd N x18 y7 y8 y9 y10).bind fun _=>
     Qc6 N p0 k5 n16 (w64 (y6+1)) (w64 (y7+x18.Mass)) (w64 (y8+x18.Heat)) (w64 (y9+x18.Silica)) (w64 (y10+x18.Gas))
    else
     k5 (y7,y8,y9,y10)
def Qe7 (N:Nat) (p0:List Qaa):Option Qaa:=
  Qcd (fun ⟨y1,y2,y3,y4⟩=>
    some (⟨y1,y2,y3,y4⟩:Qaa)) fun k5:Int×Int×Int×Int→Option Qaa=>
  Qc6 N p0 k5 N 0 0 0 0 0
def z9_1:AV:=.fn (.func 41) [] [(.ref 0 4 (0) 0)]
def z9_2 (p0:List Qaa):AV:=.dat 4 (p0.map Qae)
def z9_0:Slot:=.own 4 [[(I (0)),(I (0)),(I (0)),(I (0))]]
def Qvu (y7 y8:Int) (y9 y10:Int):Slot:=.own 4 [[(I y7),(I y8),(I y9),(I y10)]]
def Qy8 (x18:Qaa):AV:=.agg [(I x18.Mass),(I x18.Heat),(I x18.Silica),(I x18.Gas)]
def Qxz (y7:Int) (x18:Qaa) (y8 y9 y10:Int):Slot:=.own 4 [[(I (w64 (y7+x18.Mass))),(I (w64 (y8+x18.Heat))),(I (w64 (y9+x18.Silica))),(I (w64 (y10+x18.Gas)))]]
theorem Qic (N:Nat) (p0:List Qaa) (r:Qaa) (h:Qe7 N p0=some r):Spec prog 21 [(.dat 4 (p0.map Qae))] [] (.agg (Qae r)) []:=by
  refine sA func21 0 fun _ _ _ hq hd0=>?_
  unfold Qe7 at h
  refine wxz<|wx tbk [(0,rp [(.tmp 2,.ref 0 4 0 0)] z9_1)] ⟨Qd1 (fs:=[]) (cs:=[.ref 0 4 0 0]) rfl rfl rfl rfl,tv⟩ ?_
  obtain⟨k5,hk_k5,h⟩:=jko h
  refine wjn (τ:=Int×Int×Int×Int) (fun t=>k5 t=some r) (fun ⟨y1,y2,y3,y4⟩=>⟨mk 18 [(2,.ref 0 4 0 0)],[(.own 4 [[I y1,I y2,I y3,I y4]])]⟩) (fun t h=>?_) ?_
  ·subst hk_k5
   obtain⟨y1,y2,y3,y4⟩:=t
   refine wxz<|Qaf ?_
   obtain rfl:=osi h
   exact fie [(.agg [I y1,I y2,I y3,I y4])] ⟨Qbk (n:=0) (m:=4) (j:=0) (i:=0) (xs:=[[I y1,I y2,I y3,I y4]]) (by kernel_rfl) (by kernel_rfl) ti27 (by decide) rfl (nle rfl) rfl,tv⟩
  ·skip
   refine wx tbk [(1,rp _ _)] ⟨alq 4 Qae p0 underlying31,tv⟩<|Qag ?_
   refine wmr (mto (n:=18) (l':=[(2,.ref 0 4 0 0),(3,z9_1),(7,(z9_2 p0)),(8,(I ((p0.length:Int)))),(9,I 0)]) (own':=[z9_0]) [(2,.ref 0 4 0 0),(3,z9_1),(7,(z9_2 p0)),(8,(I ((p0.length:Int)))),(9,I 0)] [0] [z9_0] hq (prr (pc (.rn (Qaj rn0 (rnc (rqr rfl) rn0))) (pc (rnd Qai) (pw (pw pn))))) (qb (lcc (lcc ln)) qn)) ?_
   refine Qb2 (τ:=Int×Int×Int×Int×Int) (fun n t=>Qc6 N p0 k5 n t.1 t.2.1 t.2.2.1 t.2.2.2.1 t.2.2.2.2=some r) (fun ⟨y6,y7,y8,y9,y10⟩=>⟨mk 18 [(2,.ref 0 4 0 0),(3,z9_1),(7,(z9_2 p0)),(8,(I ((p0.length:Int)))),(9,I y6)],[(Qvu y7 y8 y9 y10)]⟩) (fun t h=>by rw[Qc6] at h;cases h) (fun n16 ih t h=>?_) N (0,0,0,0,0) h
   obtain⟨y6,y7,y8,y9,y10⟩:=t
   rw[Qc6] at h
   skip
   refine wxz<|wsq ?_
   refine bfe h (fun hc17 h=>?_) fun hc17 h=>?_
   ·refine wft hc17<|Qah<|thn<|wsq<|Qag ?_
    obtain⟨x18,hg19,h⟩:=bno h
    obtain⟨hi20,hj21⟩:=gsm hg19
    refine wx tbk [(0,rp _ _)] ⟨aiq underlying31 ti27 Qae hi20 hj21,tv⟩ ?_
    obtain⟨x23,hf22,h⟩:=bno h
    refine wx1 tbk [(2,⟨_,_,_,_,false⟩)] ⟨Qcb (first:=[]) (cap:=[.ref 0 4 0 0]) (vs:=[(Qy8 x18)]) (σr:=[(Qvu y7 y8 y9 y10)]) (σr':=[(Qxz y7 x18 y8 y9 y10)]) (res':=(.tup [])) [0] rfl Qw6 (Qiq N x18 y7 y8 y9 y10 _ hf22) rfl (Qbu (rnc (.plain _ (NLt.agg _ (nlcc (nlcc nl0)))) (rnc (Qak rfl) rn0))) (slc (Qad (rncc (rncc rn0))) Qal) (slc (Qad (rncc (rncc rn0))) Qal) (.plain _ (NLt.tup _ nl0)) rfl rfl rfl,tv⟩<|bln<|thn<|wxz1<|thn ?_
    exact arm (mto (n:=18) [(2,.ref 0 4 0 0),(3,z9_1),(7,(z9_2 p0)),(8,(I ((p0.length:Int)))),(9,(I (w64 (y6+1))))] [0] [(Qxz y7 x18 y8 y9 y10)] hq (prr (pc (.rn (Qaj rn0 (rnc (rqr rfl) rn0))) (pc (rnd Qai) (pw (pw pn))))) (qb (lcc (lcc ln)) qn)) (ih (w64 (y6+1),w64 (y7+x18.Mass),w64 (y8+x18.Heat),w64 (y9+x18.Silica),w64 (y10+x18.Gas)) h)
   ·exact wfn hc17<|Qbc<|Qaq<|Qaq<|Qbb rfl<|thn<|⟨(y7,y8,y9,y10),h,(mto (n:=18) [(2,.ref 0 4 0 0)] [0] [(Qvu y7 y8 y9 y10)] hq (prr pn) (qb (lcc (lcc ln)) qn))⟩
def Qgs (N:Nat) (p0:List Qaa):Option (Qaa×Int):=
  (Qef N p0).bind fun x2=>
  bif (x2 != 0) then
   some ((⟨0,0,0,0⟩:Qaa),x2)
  else
   (Qe7 N p0).bind fun x5=>
   bif (decide (x5.Mass>1000000)) then
    some ((⟨0,0,0,0⟩:Qaa),3)
   else
    bif (decide (x5.Gas>1000000000)) then
     some ((⟨0,0,0,0⟩:Qaa),3)
    else
     some (x5,0)
def z1_2:AV:=.agg [(I (0)),(I (0)),(I (0)),(I (0))]
def z1_3 (x5:Qaa):AV:=.agg [(I x5.Mass),(I x5.Heat),(I x5.Silica),(I x5.Gas)]
theorem Qk9 (N:Nat) (p0:List Qaa) (r:(Qaa×Int)) (h:Qgs N p0=some r):Spec prog 5 [(.dat 4 (p0.map Qae))] [] (.tup [(.agg (Qae r.1)),(I r.2)]) []:=by
  refine sA func5 0 fun _ _ _ hq hd0=>?_
  unfold Qgs at h
  refine wxz<|wsq ?_
  obtain⟨x2,hf1,h⟩:=bno h
  refine wx tbk [(1,rp _ _)] ⟨apw Qs6 (Qgq N p0 _ hf1),tv⟩<|wxz ?_
  refine bfe h (fun hc3 h=>?_) fun hc3 h=>?_
  ·refine wft hc3<|wx tbk [(0,rp _ _)] ⟨Qap (vs:=[]) rfl ts27 tz27 rfl (by rfl) rfl,tv⟩<|Qaf<|Qao ?_
   obtain rfl:=osi h
   exact fie [z1_2,I x2] ⟨Qbk (n:=0) (m:=4) (j:=0) (i:=0) (xs:=[[I 0,I 0,I 0,I 0]]) (by kernel_rfl) (by kernel_rfl) ti27 (by decide) rfl (nle rfl) rfl,rot,tv⟩
  ·refine wfn hc3<|Qah<|thn ?_
   obtain⟨x5,hf4,h⟩:=bno h
   refine wx tbk [(1,rp _ _)] ⟨apw Qs5 (Qic N p0 _ hf4),tv⟩<|wsq ?_
   refine bfe h (fun hb6 h=>?_) fun hb6 h=>?_
   ·refine wx tbk [(3,rp [(.tmp 16,(B ((decide (x5.Mass>1000000)))))] (B true))] ⟨asb hb6 (amv rfl),tv⟩<|wtr ?_
    refine wx tbk [(0,rp _ _)] ⟨Qap (vs:=[]) rfl ts27 tz27 rfl (by rfl) rfl,tv⟩<|Qaf<|Qao ?_
    obtain rfl:=osi h
    exact fie [z1_2,I 3] ⟨Qbk (n:=0) (m:=4) (j:=0) (i:=0) (xs:=[[I 0,I 0,I 0,I 0]]) (by kernel_rfl) (by kernel_rfl) ti27 (by decide) rfl (nle rfl) rfl,rot,tv⟩
   ·refine wx tbk [(3,rp [(.tmp 16,(B ((decide (x5.Mass>1000000)))))] (B false))] ⟨asb hb6 (amv rfl),tv⟩ ?_
    refine bfe h (fun hc7 h=>?_) fun hc7 h=>?_
    ·refine wft hc7<|wx tbk [(0,rp _ _)] ⟨Qap (vs:=[]) rfl ts27 tz27 rfl (by rfl) rfl,tv⟩<|Qaf<|Qao ?_
     obtain rfl:=osi h
     exact fie [z1_2,I 3] ⟨Qbk (n:=0) (m:=4) (j:=0) (i:=0) (xs:=[[I 0,I 0,I 0,I 0]]) (by kernel_rfl) (by kernel_rfl) ti27 (by decide) rfl (nle rfl) rfl,rot,tv⟩
    ·refine wfn hc7<|Qah<|thn<|wxz<|Qaf ?_
     obtain rfl:=osi h
     exact fie [(z1_3 x5),I 0] ⟨Qbk (n:=0) (m:=4) (j:=0) (i:=0) (xs:=[[I x5.Mass,I x5.Heat,I x5.Silica,I x5.Gas]]) (by kernel_rfl) (by kernel_rfl) ti27 (by decide) rfl (nle rfl) rfl,rot,tv⟩
end
end Go.Proofs.Ytcoojdacfknboaa
