/-
  The texts EngR, EngS, EngT, EngU, EngV, EngW, EngX, EngY, EngA, EngC, EngN, EngE, EngG, EngJ of the proof, one behind the other. No conditions.
-/
import Derived.Test.YtcoojdacfknboafGreatG1
import Derived.RangeFuncNested
import Derived.Lib.SliceRun
import Derived.Scope
import Derived.RecoverIn
import Derived.MapKept
import Derived.WideKeyRuns
import Derived.ChangeKeysEq
namespace Go.Proofs.YtcoojdacfknboafGreat
open _root_.Go.Proofs.Tryz
open Go.RowKit
set_option linter.defProp false
set_option linter.unusedVariables false
set_option linter.unusedSimpArgs false
section
def Qv0 (P:Program) (gf:FuncId) (caps:List AV) (σ:List Slot) {α:Type}(encs:α->List AV) (L:List α):Prop:=
 ∀(X:Nat->Nat->Prop) (φ:Nat->FSlot) (w:World) (vals:Array Value) (l:Nat) (J:Far α),vals.size=caps.length->(∀i v,caps[i]? = some v->RelV X φ w v (vals.getD i undef))->Qo4 X φ w (fun n=>(σ++[Slot.far (J (some L))]).getD n .unused)->Qz1 P l J encs ->
  Calls P gf (#[.func (.yield l) #[] #[]]++vals) w fun e w'=>(∃v,e=.returned v)/\∃φ',Evo X φ w φ' w'/\Qdu φ'/\(SlotOK X φ' w' σ.length (.far (J (some [])))\/SlotOK X φ' w' σ.length (.far (J none)))
def finI {α:Type}(J:Far α) (k:Nat):Exit->AS->Prop
 |.normal,s |.ret,s=>s.slot k=.far (J (some []))\/s.slot k=.far (J none)
 |_,_=>False
def Qvb {P:Program}{gf:FuncId}{fn:Func}{c:Code}(hf:P.funcs[gf]? = some fn) (hb:fn.body=some c) (hres:fn.results = #[]) {caps:List AV}{σ:List Slot}{α:Type}{encs:α->List AV}{L:List α}
  (h:∀X φ0 w0 l (J:Far α),(∀n,σ.length+1<=n->φ0 n=.unused)->w0.drawn≠1->Qz1 P l J encs->AWp P X φ0 w0 none c (finI J σ.length) ⟨AV.lit (.func (.yield l) #[] #[])::(caps++List.replicate (fn.ntmps-(caps.length+1)) AV.any),σ++[Slot.far (J (some L))]⟩):Qv0 P gf caps σ encs L:=by
 intro X φ w vals l J hsz hargs henv hy
 have hφ0:∀n,σ.length+1<=n->φ n=.unused:=fun n hn=>by
  have:=henv.slot n
  simp only[Xaj,Xbb (show(σ++[Slot.far (J (some L))]).length<=n by simp;omega),Xei] at this
  exact this
 have hs0:Sim X φ { w with drawn:=0 } φ ⟨AV.lit (.func (.yield l) #[] #[])::(caps++List.replicate (fn.ntmps-(caps.length+1)) AV.any),σ++[Slot.far (J (some L))]⟩ { tmps:=(#[.func (.yield l) #[] #[]]++vals)++Array.replicate (fn.ntmps-(#[Value.func (.yield l) #[] #[]]++vals).size) undef,defers:=[] } w:=by
  refine⟨fun n b hb=>(henv.slot n).lt hb,.nil0 _ _ rfl,?_,fun t v hv=>?_,henv,Evo.refl.to_at⟩
  ·simp[hsz];omega
  simp only[Xaf]
  cases t with
  |zero=>
   simp only[Xid,Xdv] at hv
   subst hv
   rw[Xdb (by simp;try omega),Xdb (by simp)]
   exact .lit _
  |succ t=>
   by_cases ht:t<caps.length
   ·simp only[Xeh,Xas ht] at hv
    have:=hargs t v hv
    simp only[Xaf] at this
    rw[Xdb (by simp;omega),Xer (by simp)]
    simpa using this
   simp only[Xeh,Xam (Xc9 ht),Xdn] at hv
   split at hv
   ·cases hv;exact .any _
   cases hv
 refine Xg2.1 (Xf3 (F:=FR none) (n:=0) hf hb trivial (Xej (h X φ { w with drawn:=0 } l J hφ0 (fun e=>by cases e) hy φ _ w hs0) fun e a w' ⟨φ',s,hs,hq⟩=>?_))
 have fin:finI J σ.length .ret s->LeavesInM (FR none) 0 P fn a.tmps (fun e w'=>(∃v,e=.returned v)/\∃φ',Evo X φ w φ' w'/\Qdu φ'/\(SlotOK X φ' w' σ.length (.far (J (some [])))\/SlotOK X φ' w' σ.length (.far (J none)))) a.defers .returning w':=fun hq=>by
  refine Qrw (by simp) hs fun w'' hs2=>?_
  rw[Qsg rfl] at hs2 ⊢
  refine⟨.tuple #[],?_,⟨_,rfl⟩,φ',hs2.evo.of_at,hs2.env.distinct,?_⟩
  ·simp[results,hres]
  have h1:=hs2.env.slot σ.length
  rcases hq with hq |hq<;>rw[hq] at h1
  ·exact .inl h1
  exact .inr h1
 cases e with
 |normal=>exact fin hq
 |ret=>exact fin hq
 |exit=>exact hq.elim
 |goto=>exact hq.elim
 |panic=>exact hq.elim
 |outgrown=>exact hq.elim
structure Evo1 (X:Nat->Nat->Prop) (φ:Nat->FSlot) (w:World) (X':Nat->Nat->Prop) (φ':Nat->FSlot) (w':World):Prop where
 dat:∀b off,DataAt X φ w b off->DataAt X' φ' w' b off/\w'.cell? ⟨b,off,none⟩=w.cell? ⟨b,off,none⟩
 unus:∀n,φ n≠.unused->φ' n≠.unused
 own:∀n b,φ n≠.unused->φ' n=.own b->φ n=.own b
 tok:∀n t,φ n≠.unused->φ' n=.tok t->φ n=.tok t/\∀b L,t=some (b,L)->w'.heap[b]? = w.heap[b]?
 shape:∀n b,φ n=.own b->φ' n=.own b->Shape w w' b
 mat:∀n bs',φ n≠.unused->φ' n=.mat bs'->∃bs,φ n=.mat bs/\MatLe bs bs'
 rest:w'.os=w.os/\w'.tape=w.tape/\w'.output=w.output/\w.heap.size<=w'.heap.size
section
variable {X X' : Nat -> Nat -> Prop} {φ φ' : Nat -> FSlot} {w w' : World}
def DatOK.evo1 {m:Nat}{xs:List (List AV)}{A:Option Addr}{len cap:Nat}{g:Nat->Nat->Value}(h:DatOK X φ w m xs A len cap g) (e:Evo1 X φ w X' φ' w'):DatOK X' φ' w' m xs A len cap g:=
 ⟨h.hlen,h.hcap,h.hmost,h.hsize,fun hx=>by
  obtain⟨b,o,hA,hc⟩:=h.hcells hx
  exact⟨b,o,hA,fun j x hj i hi=>by
   obtain⟨h1,h2⟩:=hc j x hj i hi
   obtain⟨e1,e2⟩:=e.dat _ _ h1
   exact⟨e1,e2.trans h2⟩⟩⟩
def RelV.evo1 {a:AV}{v:Value}(h:RelV X φ w a v) (e:Evo1 X φ w X' φ' w'):RelV X' φ' w' a v:=by
 induction h with
 |any v=>exact .any v
 |lit v=>exact .lit v
 |agg l vs hs _ ih=>exact .agg l vs hs ih
 |tup l vs hs _ ih=>exact .tup l vs hs ih
 |fn f first cap us vs hu hv _ _ ih1 ih2=>exact .fn f first cap us vs hu hv ih1 ih2
 |dat m xs A len cap g ok _ ih=>exact .dat m xs A len cap g (ok.evo1 e) ih
 |dptr cs i b o g hc _ ih=>
  refine .dptr cs i b o g (fun k hk=>?_) ih
  obtain⟨h1,h2⟩:=hc k hk
  obtain⟨e1,e2⟩:=e.dat _ _ h1
  exact⟨e1,e2.trans h2⟩
 |ref n m j i A hn h=>exact .ref n m j i A (e.unus n hn) (fun b hb=>h b (e.own n b hn hb))
 |own n m j len A cap hc hm hn h=>exact .own n m j len A cap hc hm (e.unus n hn) (fun b hb=>h b (e.own n b hn hb))
 |acc n ty m xs A len cap g ok _ hn ht ih=>
  refine .acc n ty m xs A len cap g (ok.evo1 e) ih (e.unus n hn) (fun t hb=>?_)
  obtain⟨h1,h2⟩:=e.tok n t hn hb
  have:=ht t h1
  unfold Tip at this ⊢
  cases t with
  |none=>exact this
  |some p=>
   obtain⟨b,L⟩:=p
   obtain⟨k1,k2,cur,k3,k4⟩:=this
   exact⟨k1,k2,cur,(h2 b L rfl).trans k3,k4⟩
 |gro n ty m len A cap hc hm hn hv h=>
  refine .gro n ty m len A cap hc hm (e.unus n hn) (fun hb=>hv (e.tok n none hn hb).1) (fun b hb=>?_)
  obtain⟨h1,cur,h2,h3⟩:=h b (e.own n b hn hb)
  obtain⟨cur',h4,h5⟩:=e.shape n b (e.own n b hn hb) hb cur ty _ h2
  exact⟨h1,cur',h4,h5.trans h3⟩
 |row n k m j len A cap hc hm hn h=>
  refine .row n k m j len A cap hc hm (e.unus n hn) fun h0 bs' hb=>?_
  obtain⟨bs,h1,h2⟩:=e.mat n bs' hn hb
  exact⟨Xbc (h h0 bs h1).1 h2.1,fun b hk=>(h h0 bs h1).2 b (h2.2 k b (h h0 bs h1).1 hk)⟩
 |rowp n k m j i A hn h=>
  refine .rowp n k m j i A (e.unus n hn) fun bs' hb=>?_
  obtain⟨bs,h1,h2⟩:=e.mat n bs' hn hb
  exact⟨Xbc (h bs h1).1 h2.1,fun b hk=>(h bs h1).2 b (h2.2 k b (h bs h1).1 hk)⟩
 |mp n A hn h=>exact .mp n A (e.unus n hn) (fun b hb=>h b (e.own n b hn hb))
def SlotOK.evo1 {n:Nat}{s:Slot}(h:SlotOK X φ w n s) (e:Evo1 X φ w X' φ' w') (hn:φ' n=φ n) (hb:∀b,(φ n).lies b->w'.heap[b]? = w.heap[b]? /\ ∀off,¬X' b off):SlotOK X' φ' w' n s:=by
 cases s with
 |unused=>exact hn.trans h
 |dead=>exact hn.trans h
 |own m xs=>
  obtain⟨b,h1,⟨cur,ty,h2,h3,h4,h5⟩,h6⟩:=h
  exact⟨b,hn.trans h1,⟨cur,ty,(hb b (.inl h1)).1.trans h2,h3,h4,fun j x hj i a hi=>(h5 j x hj i a hi).evo1 e⟩,(hb b (.inl h1)).2⟩
 |tok=>
  obtain⟨t,h1,h2⟩:=h
  exact⟨t,hn.trans h1,fun b L hbl=>⟨by rw[(hb b (.tok (L:=L) (by rw[h1,hbl]))).1];exact(h2 b L hbl).1,(hb b (.tok (L:=L) (by rw[h1,hbl]))).2⟩⟩
 |gro m xs=>
  rcases h with ⟨h1,h2⟩ |⟨b,h1,⟨cur,ty,h2,h3,h4,h5⟩,h6⟩
  ·exact .inl ⟨h1,hn.trans h2⟩
  exact .inr ⟨b,hn.trans h1,⟨cur,ty,(hb b (.inl h1)).1.trans h2,h3,h4,fun j x hj i a hi=>(h5 j x hj i a hi).evo1 e⟩,(hb b (.inl h1)).2⟩
 |far J=>
  obtain⟨Y,D,B,h1,h2,h3⟩:=h
  obtain⟨r1,r2,r3,r4⟩:=e.rest
  refine⟨Y,D,B,hn.trans h1,h2,⟨fun b off hy=>?_,fun b off hD hy=>?_,r1.trans h3.os,r2.trans h3.tape,r3.trans h3.output,Xcn h3.size r4⟩⟩
  ·obtain⟨g1,g2⟩:=hb b (.far h1 hy)
   obtain⟨k1,k2,_⟩:=h3.own b off hy
   exact⟨Xbc k1 r4,g1.trans k2,g2⟩
  obtain⟨k1,k2⟩:=h3.dat b off hD hy
  obtain⟨e1,e2⟩:=e.dat b off k1
  exact⟨e1,e2.trans k2⟩
 |mat m rows=>
  obtain⟨bs,h1,h2,h3,h4⟩:=h
  refine⟨bs,hn.trans h1,h2,h3,fun k xs hx=>?_⟩
  rcases h4 k xs hx with h5 |⟨b,hk,⟨cur,ty,c2,c3,c4,c5⟩,c6⟩
  ·exact .inl h5
  exact .inr ⟨b,hk,⟨cur,ty,(hb b (.mat h1 hk)).1.trans c2,c3,c4,fun j x hj i a hi=>(c5 j x hj i a hi).evo1 e⟩,(hb b (.mat h1 hk)).2⟩
 |mp es clock=>
  obtain⟨b,h1,h2,h3⟩:=h
  exact⟨b,hn.trans h1,(hb b (.inl h1)).1.trans h2,(hb b (.inl h1)).2⟩
end
def farL (l:Nat) (o:Obj):(Nat->Nat->Prop)->(Nat->Nat->Prop)->World->Prop:=fun Y _ B=>Y=(fun b _=>b=l)/\B.heap[l]? = some o
def Yof (φ:Nat->FSlot) (D0:Nat):Nat->Nat->Prop:=fun b off=>(∃n,φ n=.own b)\/(∃n L,φ n=.tok (some (b,L))/\L<=off)\/(∃n Y,φ n=.far Y/\Y b off)\/(∃(n:Nat) (bs:List (Option Nat)) (k:Nat),φ n=.mat bs/\bs[k]? = some (some b))\/b=D0
def XH (Y D:Nat->Nat->Prop) (B:World):Nat->Nat->Prop:=fun b off=>b<B.heap.size/\¬D b off/\∀off',¬Y b off'
structure EvoN (kb:Nat) (φ:Nat->FSlot) (w:World) (φ':Nat->FSlot) (w':World):Prop where
 dead:∀n,n<kb->φ n=.dead->φ' n=.dead
 own:∀n b,n<kb->φ n=.own b->φ' n=.own b\/φ' n=.dead
 tok:∀n t,n<kb->φ n=.tok t->φ' n=.dead\/(φ' n=.tok t/\∀b L,t=some (b,L)->w'.heap[b]? = w.heap[b]?)
 far:∀n Y,n<kb->φ n=.far Y->φ' n=.dead\/∃Y',φ' n=.far Y'
 shape:∀n b,n<kb->φ n=.own b->φ' n=.own b->Shape w w' b
 mat:∀n bs,n<kb->φ n=.mat bs->φ' n=.dead\/∃bs',φ' n=.mat bs'/\MatLe bs bs'
def Qm3 {φ:Nat->FSlot}{D0 n b:Nat}(h:(φ n).lies b):∃off,Yof φ D0 b off:=by
 rcases h with h |⟨L,h⟩ |⟨Y,h,off,hy⟩ |⟨bs,h,k,hk⟩
 ·exact⟨0,.inl ⟨n,h⟩⟩
 ·exact⟨L,.inr (.inl ⟨n,L,h,Xay _⟩)⟩
 ·exact⟨off,.inr (.inr (.inl ⟨n,Y,h,hy⟩))⟩
 exact⟨0,.inr (.inr (.inr (.inl ⟨n,bs,k,h,hk⟩)))⟩
def Qu4 {φ:Nat->FSlot}{D0 b off:Nat}(h:Yof φ D0 b off):Qnz φ b\/b=D0:=by
 rcases h with ⟨n,h⟩ |⟨n,L,h,_⟩ |⟨n,Y,h,hy⟩ |⟨n,bs,k,h,hk⟩ |h
 ·exact .inl ⟨n,.inl h⟩
 ·exact .inl ⟨n,.tok h⟩
 ·exact .inl ⟨n,.far h hy⟩
 ·exact .inl ⟨n,.mat h hk⟩
 exact .inr h
def Qc7 {w:World}{l b:Nat}{o:Obj}(h:b≠l):(w.putObj l o).heap[b]? = w.heap[b]? := World.putObj_heap_other h
def Qqv {w:World}{l:Nat}{o:Obj}(h:l<w.heap.size):(w.putObj l o).heap[l]? = some o:=World.putObj_heap_same h
def Qj0 {w:World}{l:Nat}{o:Obj}:(w.putObj l o).heap.size=w.heap.size:=by simp
def Qqw {w:World}{l:Nat}{o o':Obj}(h:w.heap[l]? = some o) (ho:o.isCells=false) (ho':o'.isCells=false) (b off:Nat):(w.putObj l o').cell? ⟨b,off,none⟩=w.cell? ⟨b,off,none⟩:=by
 unfold World.cell?
 dsimp only
 by_cases e:b=l
 ·subst e
  rw[Qqv (Xa3.1 h).1,h]
  cases o<;>cases o'<;>first |rfl |(cases ho;done) |(cases ho';done)
 rw[Qc7 e]
section
variable {P : Program} {X : Nat -> Nat -> Prop} {φ0 φ φ' : Nat -> FSlot} {w0 w w' : World} {ro : Option Nat} {Q : Exit -> AS -> Prop} {s : AS}
def Sim.turnL {k l:Nat}{o o':Obj}{regs:List AV}{own:List Slot}{a:Act}(h:Sim X φ0 w0 φ ⟨regs,own⟩ a w) (hd0:Qdu φ0) (h0:(φ0 k).lies l) (hk:own[k]? = some (.far (farL l o))) (ho:o.isCells=false) (ho':o'.isCells=false) :
  w.heap[l]? = some o/\Sim X φ0 w0 φ ⟨regs,own.set k (.far (farL l o'))⟩ a (w.putObj l o'):=by
 have hslot:=h.env.slot k
 have hkl:k<own.length:=(Xad.1 hk).1
 have e:AS.slot ⟨regs,own⟩ k=.far (farL l o):=by simp[AS.slot,hk]
 rw[e] at hslot
 obtain⟨Y,D,B,h1,⟨rfl,h2⟩,h3⟩:=hslot
 have hY:=h3.own l 0 rfl
 have hl:w.heap[l]? = some o:=hY.2.1.trans h2
 have hne:∀n b,n≠k->(φ n).lies b->b≠l:=fun n b hn hb e=>hn (h.env.distinct n k b hb (.far (off:=0) h1 e))
 have ev:Evo0 X φ w φ (w.putObj l o'):=by
  refine⟨rfl,rfl,rfl,by simp,fun b off hd=>⟨⟨by simpa using hd.lt,hd.hid,hd.own,hd.tok,hd.far,hd.mat⟩,Qqw hl ho ho' b off⟩,fun _ h=>h,fun _ _ h=>.inl h,fun n t ht=>.inr ⟨ht,fun b L e=>Qc7 (hne n b (fun e'=>?_) (.tok (L:=L) (by rw[ht,e])))⟩,fun _ Y h=>.inr ⟨Y,h⟩,fun _ bs h=>.inr ⟨bs,h,.refl bs⟩,fun n b hn _=>.same (Qc7 (hne n b (fun e'=>?_) (.own hn)))⟩
  ·subst e';rw[h1] at ht;cases ht
  subst e';rw[h1] at hn;cases hn
 refine⟨hl,h.low,h.defers.to fun D hD hn=>⟨Qc7 fun e=>hn ⟨k,by subst e;exact .far (off:=0) h1 rfl⟩,hn⟩,h.size,fun t v hv=>(h.regs t v hv).evo0 ev,⟨fun n=>?_,h.env.distinct,fun b off hx=>by simpa using h.env.hid b off hx⟩,?_⟩
 ·by_cases en:n=k
  ·subst en
   have e2:AS.slot ⟨regs,own.set n (.far (farL l o'))⟩ n=.far (farL l o'):=by simp[AS.slot,hkl]
   rw[e2]
   exact⟨_,fun _ _=>False,_,h1,⟨rfl,Qqv hY.1⟩,⟨fun b off hb=>⟨by have hb':b=l:=hb;subst hb';simpa using hY.1,rfl,fun off'=>by have hb':b=l:=hb;subst hb';exact hY.2.2 off'⟩,fun b off hf=>hf.elim,rfl,rfl,rfl,Xay _⟩⟩
  have e2:AS.slot ⟨regs,own.set k (.far (farL l o'))⟩ n=AS.slot ⟨regs,own⟩ n:=by
   simp only[AS.slot,Xaj]
   rw[Xci (fun e=>en e.symm)]
  rw[e2]
  exact(h.env.slot n).evo0 ev rfl fun b hb=>Qc7 (hne n b en hb)
 have hb0:∀n b,n≠k->(φ0 n).lies b->b≠l:=fun n b hn hb e=>hn (hd0 n k b hb (e▸h0))
 have E:=h.evo
 refine⟨E.os,E.tape,E.output,by simpa using E.size,fun b hb hh=>(Qc7 fun e=>hh ⟨k,by subst e;exact h0⟩).trans (E.blk b hb hh),E.new,fun b off hd=>?_,E.dead,E.own,fun n t hn=>?_,E.far,E.mat,fun n b hn hn'=>(E.shape n b hn hn').trans (ev.shape n b hn' hn')⟩
 ·obtain⟨d1,d2⟩:=E.dat b off hd
  exact⟨(ev.dat b off d1).1,(ev.dat b off d1).2.trans d2⟩
 rcases E.tok n t hn with e1 |⟨e1,e2⟩
 ·exact .inl e1
 refine .inr ⟨e1,fun b L hb=>?_⟩
 rcases ev.tok n t e1 with e3 |⟨_,e3⟩
 ·rw[e1] at e3;cases e3
 exact(e3 b L hb).trans (e2 b L hb)
def EvoN.refl {kb:Nat}:EvoN kb φ w φ w:=⟨fun _ _ h=>h,fun _ _ _ h=>.inl h,fun _ _ _ h=>.inr ⟨h,fun _ _ _=>rfl⟩,fun _ Y _ h=>.inr ⟨Y,h⟩,fun _ _ _ _ _=>.same rfl,fun _ bs _ h=>.inr ⟨bs,h,.refl bs⟩⟩
def EvoN.trans {kb:Nat}{φ'':Nat->FSlot}{w'':World}(h:EvoN kb φ w φ' w') (k:EvoN kb φ' w' φ'' w''):EvoN kb φ w φ'' w'':=by
 refine⟨fun n hk hn=>k.dead n hk (h.dead n hk hn),fun n b hk hn=>?_,fun n t hk hn=>?_,fun n Y hk hn=>?_,fun n b hk hn hn2=>?_,fun n bs hk hn=>?_⟩
 ·rcases h.own n b hk hn with h1 |h1
  ·exact k.own n b hk h1
  exact .inr (k.dead n hk h1)
 ·rcases h.tok n t hk hn with h1 |⟨h1,h2⟩
  ·exact .inl (k.dead n hk h1)
  rcases k.tok n t hk h1 with k1 |⟨k1,k2⟩
  ·exact .inl k1
  exact .inr ⟨k1,fun b L e=>(k2 b L e).trans (h2 b L e)⟩
 ·rcases h.far n Y hk hn with h1 |⟨Y',h1⟩
  ·exact .inl (k.dead n hk h1)
  exact k.far n Y' hk h1
 ·rcases h.own n b hk hn with h1 |h1
  ·exact(h.shape n b hk hn h1).trans (k.shape n b hk h1 hn2)
  rw[k.dead n hk h1] at hn2;cases hn2
 rcases h.mat n bs hk hn with h1 |⟨bs',h1,hl⟩
 ·exact .inl (k.dead n hk h1)
 rcases k.mat n bs' hk h1 with k1 |⟨bs'',k1,kl⟩
 ·exact .inl k1
 exact .inr ⟨bs'',k1,hl.trans kl⟩
def Evo.toN {kb:Nat}(h:Evo X φ w φ' w'):EvoN kb φ w φ' w':=⟨fun n _=>h.dead n,fun n b _=>h.own n b,fun n t _=>h.tok n t,fun n Y _=>h.far n Y,fun n b _=>h.shape n b,fun n bs _=>h.mat n bs⟩
def Qy9 {kb:Nat}(h:∀n b,(φ n).lies b->w'.heap[b]? = w.heap[b]?):EvoN kb φ w φ w':=⟨fun _ _ h=>h,fun _ _ _ h=>.inl h,fun n t _ ht=>.inr ⟨ht,fun b L e=>h n b (.tok (L:=L) (by rw[ht,e]))⟩,fun _ Y _ h=>.inr ⟨Y,h⟩,fun n b _ hn _=>.same (h n b (.own hn)),fun _ bs _ h=>.inr ⟨bs,h,.refl bs⟩⟩
def Zmr {kb:Nat}(h:∀n,n<kb->φ' n=φ n):EvoN kb φ w φ' w:=⟨fun n hk hn=>(h n hk).trans hn,fun n _ hk hn=>.inl ((h n hk).trans hn),fun n _ hk hn=>.inr ⟨(h n hk).trans hn,fun _ _ _=>rfl⟩,fun n Y hk hn=>.inr ⟨Y,(h n hk).trans hn⟩,fun _ _ _ _ _=>.same rfl,fun n bs hk hn=>.inr ⟨bs,(h n hk).trans hn,.refl bs⟩⟩
def Ren (kb:Nat) (own own':List Slot):Prop:=∀(X:Nat->Nat->Prop) (φ:Nat->FSlot) (w:World),Qo4 X φ w (fun n=>own.getD n .unused)->∃φ',Qo4 X φ' w (fun n=>own'.getD n .unused)/\(∀n,n<kb->φ' n=φ n)/\(∀b,Qnz φ' b->Qnz φ b)/\∀b off,DataAt X φ w b off->DataAt X φ' w b off
def Zg9 {kb:Nat}{own own':List Slot}(ρ:List Nat) (sel:List Slot) (hdec:(decide ρ.Nodup&&((List.range kb).all fun i=>ρ[i]? == some i))=true) (hs:(ρ.map fun n=>own.getD n .unused)=sel) (ho:QPw (RW fun n n'=>ρ[n']? = some n) sel own'):Ren kb own own':=by
 intro X φ w henv
 simp only[Xaq,Xbw] at hdec
 obtain⟨hnd,hid⟩:=hdec
 obtain⟨q1,q2⟩:=ho.spec
 obtain⟨φ',hφ'⟩:∃φ':Nat->FSlot,φ'=fun n'=>match ρ[n']? with |some n=>φ n |none=>.unused:=⟨_,rfl⟩
 have hM:∀n n',ρ[n']? = some n->φ' n'=φ n:=fun n n' e=>by rw[hφ'];simp only[e]
 have inv:∀n' b,(φ' n').lies b->∃n,ρ[n']? = some n/\(φ n).lies b:=fun n' b hb=>by
  cases e:ρ[n']? with
  |none=>rw[hφ'] at hb;simp only[e] at hb;exact(Qf1 hb).elim
  |some n=>rw[hM n n' e] at hb;exact⟨n,rfl,hb⟩
 have fwd:∀b off,DataAt X φ w b off->DataAt X φ' w b off:=fun b off hd=>⟨hd.lt,hd.hid,fun n' hn=>by
  obtain⟨n,e,_⟩:=inv n' b (.own hn)
  exact hd.own n ((hM n n' e)▸hn),fun n' L hn=>by
  obtain⟨n,e,_⟩:=inv n' b (.tok hn)
  exact hd.tok n L ((hM n n' e)▸hn),fun n' Y hn hy=>by
  obtain⟨n,e,_⟩:=inv n' b (.far hn hy)
  exact hd.far n Y ((hM n n' e)▸hn) hy,fun n' bs k hn hk=>by
  obtain⟨n,e,_⟩:=inv n' b (.mat hn hk)
  exact hd.mat n bs k ((hM n n' e)▸hn) hk⟩
 have hR:∀a a' v,RW (fun n n'=>ρ[n']? = some n) a a'->RelV X φ w a v->RelV X φ' w a' v:=fun a a' v hra=>by
  induction hra generalizing v with
  |agg l l' hl _ ih=>
   intro hv
   cases hv with
   |agg _ vs hs h=>
    refine .agg _ vs (hs.trans hl) fun i a' hi=>?_
    have hlt:=(Xad.1 hi).1
    exact ih i _ a' (Xab (by omega)) hi _ (h i _ (Xab (by omega)))
  |any=>exact fun _=>.any v
  |rn hrn=>exact RelV.ren fwd hM hrn
  |dat n ty m xs hx=>
   intro hv
   cases hv with
   |acc _ _ _ _ A len cap g ok hr hu ht=>exact .dat m xs A len cap g (ok.env fwd) (fun j x hj i a hi=>(hr j x hj i a hi).env (k:=0) (fun n hn=>absurd hn (Xcl n)) fwd (hx x (Xac hj) a (Xac hi)))
  |nil m=>
   intro hv
   have:=Qd1 hv
   subst this
   exact .dat m [] none 0 0 (fun _ _=>undef) (DatOK.nil m none 0 _ (Xbg _)) (by simp)
 have inj:∀(n1 n2 n':Nat),ρ[n1]? = some n'->ρ[n2]? = some n'->n1=n2:=fun n1 n2 n' h1 h2=>by
  obtain⟨l1,e1⟩:=Xad.1 h1
  obtain⟨l2,e2⟩:=Xad.1 h2
  exact(Xgp hnd).1 (e1.trans e2.symm)
 refine⟨φ',⟨fun n'=>?_,fun n1 n2 b h1 h2=>?_,henv.hid⟩,fun n hn=>?_,fun b ⟨n',hb⟩=>?_,fwd⟩
 ·show SlotOK X φ' w n' (own'.getD n' .unused)
  cases e:ρ[n']? with
  |none=>
   have hge:own'.length<=n':=by rw[<-q1,<-hs,Xb3];exact Xh4.1 e
   simp only[Xaj,Xbb hge,Xei]
   show φ' n'=.unused
   rw[hφ'];simp only[e]
  |some n=>
   have hlt:n'<own'.length:=by rw[<-q1,<-hs,Xb3];exact(Xad.1 e).1
   have hg:=Xab hlt
   have hsp:=q2 n' (own.getD n .unused) _ (by rw[<-hs,Xaw,e];rfl) hg
   simp only[Xaj,hg,Xbd]
   have hok:=henv.slot n
   (try dsimp only at hok)
   generalize own.getD n .unused=s1 at hsp hok
   generalize own'[n']=s2 at hsp
   cases hsp with
   |unused=>exact(hM n n' e).trans hok
   |dead=>exact(hM n n' e).trans hok
   |tok=>obtain⟨t,ht,ht'⟩:=hok;exact⟨t,(hM n n' e).trans ht,ht'⟩
   |own m xs xs' hl' hp=>obtain⟨b,hb,hown⟩:=hok;exact⟨b,(hM n n' e).trans hb,hown.pw hR hl' hp⟩
   |gro m xs xs' hl' hp=>
    rcases hok with ⟨h1,h2⟩ |⟨b,hb,hown⟩
    ·exact .inl ⟨Xau (by rw[<-hl',h1];rfl),(hM n n' e).trans h2⟩
    exact .inr ⟨b,(hM n n' e).trans hb,hown.pw hR hl' hp⟩
   |far J=>
    obtain⟨Y,D,B,f1,f2,f3⟩:=hok
    exact⟨Y,D,B,(hM n n' e).trans f1,f2,f3.own,fun b off hx hy=>⟨fwd b off (f3.dat b off hx hy).1,(f3.dat b off hx hy).2⟩,f3.os,f3.tape,f3.output,f3.size⟩
   |mat m rows hp=>
    obtain⟨bs,m1,m2,m3,m4⟩:=hok
    refine⟨bs,(hM n n' e).trans m1,m2,m3,fun k xs hk=>?_⟩
    rcases m4 k xs hk with m5 |⟨b,m5,m6⟩
    ·exact .inl m5
    exact .inr ⟨b,m5,m6.pw hR rfl fun j x x' h1 h2=>by rw[h1] at h2;cases h2;exact hp xs (Xac hk) x (Xac h1)⟩
   |mp es clock=>obtain⟨b,hb,hown⟩:=hok;exact⟨b,(hM n n' e).trans hb,hown⟩
 ·obtain⟨m1,e1,h3⟩:=inv n1 b h1
  obtain⟨m2,e2,h4⟩:=inv n2 b h2
  have:=henv.distinct m1 m2 b h3 h4
  subst this
  exact inj n1 n2 m1 e1 e2
 ·have:=Xa6.1 hid n (by simpa using hn)
  exact hM n n (by simpa using this)
 obtain⟨n,_,h⟩:=inv n' b hb
 exact⟨n,h⟩
structure Mid (kb:Nat) (s:AS) (a:Act) (l D0:Nat) (φ1:Nat->FSlot) (W1:World) (own1:List Slot) (o:Obj) (φ:Nat->FSlot) (Y D:Nat->Nat->Prop) (B:World):Prop where
 hY:Y=Yof φ D0
 regs:∀i v,s.regs[i]? = some v->RelV (XH Y D B) φ B v (a.tmps.getD i undef)
 slot:∀n,SlotOK (XH Y D B) φ B n ((own1++[Slot.far (farL l o)]).getD n .unused)
 distinct:Qdu φ
 mark:B.heap[D0]? = some (.deferred (some []))
 free:¬Qnz φ D0
 names:EvoN kb φ1 W1 φ B
def Qow {own1:List Slot}{x:Slot}:(own1++[x]).getD own1.length .unused=x:=by simp
def Qse {own1:List Slot}{x:Slot}{n:Nat}(h:n<own1.length):(own1++[x]).getD n .unused=own1.getD n .unused:=by simp[Xas h]
def Qqn {own1:List Slot}{x:Slot}{n:Nat}(h:own1.length<n):(own1++[x]).getD n .unused=.unused:=by
 have:(own1++[x])[n]? = none:=Xbb (by simp;omega)
 simp[Xaj,this]
section
variable {kb : Nat} {a : Act} {l D0 : Nat} {φ1 : Nat -> FSlot} {W1 : World} {own1 : List Slot} {o : Obj} {Y D : Nat -> Nat -> Prop} {B : World}
def Mid.far (m:Mid kb s a l D0 φ1 W1 own1 o φ Y D B):φ own1.length=.far (fun b _=>b=l)/\B.heap[l]? = some o/\l<B.heap.size:=by
 have:=m.slot own1.length
 rw[Qow] at this
 obtain⟨Y0,D',B',h1,⟨rfl,h2⟩,h3⟩:=this
 exact⟨h1,(h3.own l 0 rfl).2.1.trans h2,(h3.own l 0 rfl).1⟩
def Mid.shift (m:Mid kb s a l D0 φ1 W1 own1 o φ Y D B) {Xi:Nat->Nat->Prop}{φi:Nat->FSlot}(hF:Q32 Xi φi w Y D B):Evo1 (XH Y D B) φ B (XH Y D w) φ w:=by
 have hb:∀n b,(φ n).lies b->w.heap[b]? = B.heap[b]? := fun n b h=>by
  obtain⟨off,hy⟩:=Qm3 (D0:=D0) h
  exact(hF.own b off (by rw[m.hY];exact hy)).2.1
 refine⟨fun b off hd=>⟨⟨Xbc hd.lt hF.size,fun hx=>hd.hid ⟨hd.lt,hx.2⟩,hd.own,hd.tok,hd.far,hd.mat⟩,?_⟩,fun _ h=>h,fun _ _ _ h=>h,fun n t _ h=>⟨h,fun b L e=>hb n b (.tok (L:=L) (by rw[h,e]))⟩,fun n b h _=>.same (hb n b (.own h)),fun _ bs _ h=>⟨bs,h,.refl bs⟩,⟨hF.os,hF.tape,hF.output,hF.size⟩⟩
 by_cases hy:∃off',Y b off'
 ·obtain⟨off',hy⟩:=hy
  exact Xcd (hF.own b off' hy).2.1
 have hD:D b off:=Xe0 fun hD=>hd.hid ⟨hd.lt,hD,fun off' h=>hy ⟨off',h⟩⟩
 exact(hF.dat b off hD fun h=>hy ⟨off,h⟩).2
def Mid.sim (m:Mid kb s a l D0 φ1 W1 own1 o φ Y D B) {Xi:Nat->Nat->Prop}{φi:Nat->FSlot}(hF:Q32 Xi φi w Y D B) :
  (∀i v,s.regs[i]? = some v->RelV (XH Y D w) φ w v (a.tmps.getD i undef))/\Qo4 (XH Y D w) φ w (fun n=>(own1++[Slot.far (farL l o)]).getD n .unused)/\w.heap[l]? = some o:=by
 have e:=m.shift hF
 have hlie:∀n b,(φ n).lies b->w.heap[b]? = B.heap[b]? /\ ∀off,¬XH Y D w b off:=fun n b h=>by
  obtain⟨off,hy⟩:=Qm3 (D0:=D0) h
  exact⟨(hF.own b off (by rw[m.hY];exact hy)).2.1,fun off' hx=>hx.2.2 off (by rw[m.hY];exact hy)⟩
 obtain⟨f1,f2,f3⟩:=m.far
 have hl:w.heap[l]? = some o:=(hlie _ l (.far (off:=0) f1 rfl)).1.trans f2
 refine⟨fun i v hv=>(m.regs i v hv).evo1 e,⟨fun n=>?_,m.distinct,fun b off hx=>hx.1⟩,hl⟩
 have hn:=m.slot n
 show SlotOK _ _ _ n ((own1++[Slot.far (farL l o)]).getD n .unused)
 rcases Xc5 n own1.length with h |rfl |h
 ·rw[Qse h] at hn ⊢
  exact hn.evo1 e rfl fun b hb=>hlie n b hb
 ·rw[Qow]
  exact⟨_,fun _ _=>False,w,f1,⟨rfl,hl⟩,⟨fun b off hb=>⟨by have hb':b=l:=hb;subst hb';exact(Xa3.1 hl).1,rfl,fun off'=>by have hb':b=l:=hb;subst hb';exact(hlie _ b (.far (off:=0) f1 rfl)).2 off'⟩,fun b off hf=>hf.elim,rfl,rfl,rfl,Xay _⟩⟩
 rw[Qqn h] at hn ⊢
 exact hn
def Mid.seen (m:Mid kb s a l D0 φ1 W1 own1 o φ Y D B) {Xi:Nat->Nat->Prop}{φi:Nat->FSlot}{q:Nat}(hq:φi q=.far Y) (b off:Nat) (hd:DataAt Xi φi w b off):DataAt (XH Y (wide Xi φi w D) w) φ w b off:=by
 have hy:¬Y b off:=hd.far q Y hq
 rw[m.hY] at hy
 refine⟨hd.lt,fun hx=>hx.2.1 (.inr hd),fun n hn=>hy (.inl ⟨n,hn⟩),fun n L hn=>?_,fun n Y0 hn h0=>hy (.inr (.inr (.inl ⟨n,Y0,hn,h0⟩))),fun n bs z hn hz=>hy (.inr (.inr (.inr (.inl ⟨n,bs,z,hn,hz⟩))))⟩
 rcases Xcm off L with h |h
 ·exact h
 exact absurd (.inr (.inl ⟨n,L,hn,h⟩)) hy
def Mid.vals (m:Mid kb s a l D0 φ1 W1 own1 o φ Y D B) {Xi:Nat->Nat->Prop}{φi:Nat->FSlot}{q:Nat}(hq:φi q=.far Y) {es:List AV}{vals:Array Value}(hne:∀v∈es,NLt 0 v) (hv:∀i v,es[i]? = some v->RelV Xi φi w v (vals.getD i undef)) (i:Nat) (v:AV) (u:Value) (h1:es[i]? = some v) (h2:vals.toList[i]? = some u):RelV (XH Y (Proofs.YtcoojdacfknboafGreat.wide Xi φi w D) w) φ w v u:=by
 have h3:=hv i v h1
 have e:vals.getD i undef=u:=by
  rw[Xb5] at h2
  rw[Xaf,h2];rfl
 rw[e] at h3
 exact h3.env (k:=0) (fun n hn=>absurd hn (Xcl n)) (fun b off hd=>m.seen hq b off hd) (hne v (Xac h1))
def Mid.wide (m:Mid kb s a l D0 φ1 W1 own1 o φ Y D B) {Xi:Nat->Nat->Prop}{φi:Nat->FSlot}(hF:Q32 Xi φi w Y D B):Mid kb s a l D0 φ1 W1 own1 o φ Y (Proofs.YtcoojdacfknboafGreat.wide Xi φi w D) w/\Q32 Xi φi w Y (Proofs.YtcoojdacfknboafGreat.wide Xi φi w D) w:=by
 obtain⟨hregs,henv,hl⟩:=m.sim hF
 have hYb:∀n b,(φ n).lies b->w.heap[b]? = B.heap[b]? /\ ∃off,Y b off:=fun n b h=>by
  obtain⟨off,hy⟩:=Qm3 (D0:=D0) h
  rw[<-m.hY] at hy
  exact⟨(hF.own b off hy).2.1,off,hy⟩
 have e:Evo1 (XH Y D w) φ w (XH Y (Proofs.YtcoojdacfknboafGreat.wide Xi φi w D) w) φ w:=⟨fun b off hd=>⟨⟨hd.lt,fun hx=>hd.hid ⟨hx.1,fun h=>hx.2.1 (.inl h),hx.2.2⟩,hd.own,hd.tok,hd.far,hd.mat⟩,rfl⟩,fun _ h=>h,fun _ _ _ h=>h,fun n t _ h=>⟨h,fun _ _ _=>rfl⟩,fun _ _ _ _=>.same rfl,fun _ bs _ h=>⟨bs,h,.refl bs⟩,⟨rfl,rfl,rfl,Xay _⟩⟩
 refine⟨⟨m.hY,fun i v hv=>(hregs i v hv).evo1 e,fun n=>(henv.slot n).evo1 e rfl fun b hb=>⟨rfl,fun off hx=>?_⟩,m.distinct,?_,m.free,?_⟩,⟨fun b off hy=>⟨(hF.own b off hy).1,rfl,(hF.own b off hy).2.2⟩,fun b off hD hy=>⟨?_,rfl⟩,rfl,rfl,rfl,Xay _⟩⟩
 ·obtain⟨_,off',hy⟩:=hYb n b hb
  exact hx.2.2 off' hy
 ·rw[(hF.own D0 0 (by rw[m.hY];exact .inr (.inr (.inr (.inr rfl))))).2.1]
  exact m.mark
 ·exact m.names.trans (Qy9 fun n b hb=>(hYb n b hb).1)
 rcases hD with hD |hD
 ·exact(hF.dat b off hD hy).1
 exact hD
def Mid.back {own2 own3:List Slot}{o' o'':Obj}{regs3:List AV}{a2:Act}{w2:World}{Xi:Nat->Nat->Prop}{φi φ3:Nat->FSlot}(m:Mid kb s a l D0 φ1 W1 own1 o φ Y D B) (hF:Q32 Xi φi w Y D B) (hreg:∀v∈s.regs,NLt kb v)
  (hlen:own2.length=own1.length) (hs:Sim (XH Y D w) φ { w with drawn:=0 } φ3 ⟨regs3,own3⟩ a2 w2) (hren:Ren kb own3 (own2++[Slot.far (farL l o')])) (ho':o'.isCells=false) (ho'':o''.isCells=false) :
  ∃φ2,w2.heap[l]? = some o'/\Kept Y (Yof φ2 D0) w (w2.putObj l o'')/\(∀b off,Yof φ2 D0 b off->b<(w2.putObj l o'').heap.size)/\Mid kb s a l D0 φ1 W1 own2 o'' φ2 (Yof φ2 D0) (grow D Y w (w2.putObj l o'')) (w2.putObj l o''):=by
 obtain⟨hregs,henv,hl⟩:=m.sim hF
 obtain⟨f1,_,_⟩:=m.far
 have E:=hs.evo.of_at
 obtain⟨φ2,henv2,hlow2,hsub,hfwd⟩:=hren _ φ3 w2 hs.env
 refine⟨φ2,?_⟩
 have hk2:φ2 own1.length=.far (fun b _=>b=l)/\w2.heap[l]? = some o':=by
  have:=henv2.slot own1.length
  have e:(own2++[Slot.far (farL l o')]).getD own1.length .unused=.far (farL l o'):=by rw[<-hlen];exact Qow
  (try dsimp only at this)
  rw[e] at this
  obtain⟨Y0,D',B',h1,⟨rfl,h2⟩,h3⟩:=this
  exact⟨h1,(h3.own l 0 rfl).2.1.trans h2⟩
 obtain⟨k1,k2⟩:=hk2
 have hlt2:l<w2.heap.size:=(Xa3.1 k2).1
 have hcell:=Qqw k2 ho' ho''
 have hYl:∀off,Y l off:=fun off=>by rw[m.hY];exact .inr (.inr (.inl ⟨_,_,f1,rfl⟩))
 have hYD:∀off,Y D0 off:=fun off=>by rw[m.hY];exact .inr (.inr (.inr (.inr rfl)))
 have hlD:D0≠l:=fun e=>m.free ⟨own1.length,.far (off:=0) f1 e⟩
 have hD0:D0<w.heap.size:=(hF.own D0 0 (hYD 0)).1
 have noY:∀b,(∀off,¬Y b off)->¬Qnz φ b:=fun b h ⟨n,hn⟩=>by
  obtain⟨off,hy⟩:=Qm3 (D0:=D0) hn
  exact h off (by rw[m.hY];exact hy)
 have hne:∀n b,n≠own1.length->(φ2 n).lies b->b≠l:=fun n b hn hb e=>hn (henv2.distinct n _ b hb (.far (off:=0) k1 e))
 have hbl:∀b,b<w.heap.size->(∀off,¬Y b off)->(w2.putObj l o'').heap[b]? = w.heap[b]? := fun b hb h=>(Qc7 fun e=>h 0 (by subst e;exact hYl 0)).trans (E.blk b hb (noY b h))
 have hdat:∀b off,b<w.heap.size->¬Y b off->(∃off',Y b off')->DataAt (XH Y D w) φ w b off:=fun b off hb hy ⟨off',hy'⟩=>by
  rw[m.hY] at hy
  refine⟨hb,fun hx=>hx.2.2 off' hy',fun n hn=>hy (.inl ⟨n,hn⟩),fun n L hn=>?_,fun n Y0 hn hy0=>hy (.inr (.inr (.inl ⟨n,Y0,hn,hy0⟩))),fun n bs z hn hz=>hy (.inr (.inr (.inr (.inl ⟨n,bs,z,hn,hz⟩))))⟩
  rcases Xcm off L with h |h
  ·exact h
  exact absurd (.inr (.inl ⟨n,L,hn,h⟩)) hy
 have hnew:∀b off,Yof φ2 D0 b off->(∃off,Y b off)\/w.heap.size<=b:=fun b off hy=>by
  rcases Qu4 hy with hh |rfl
  ·rcases E.new b (hsub b hh) with ⟨n,hn⟩ |h1
   ·obtain⟨off',h2⟩:=Qm3 (D0:=D0) hn
    exact .inl ⟨off',by rw[m.hY];exact h2⟩
   exact .inr h1
  exact .inl ⟨0,hYD 0⟩
 have e2:Evo1 (XH Y D w) φ2 w2 (XH (Yof φ2 D0) (grow D Y w (w2.putObj l o'')) (w2.putObj l o'')) φ2 (w2.putObj l o''):=by
  refine⟨fun b off hd=>⟨⟨by simpa using hd.lt,fun hx=>?_,hd.own,hd.tok,hd.far,hd.mat⟩,hcell b off⟩,fun _ h=>h,fun _ _ _ h=>h,fun n t _ h=>⟨h,fun b L e=>Qc7 (hne n b (fun en=>by subst en;rw[k1] at h;cases h) (.tok (L:=L) (by rw[h,e])))⟩,fun n b h _=>.same (Qc7 (hne n b (fun en=>by subst en;rw[k1] at h;cases h) (.own h))),fun _ bs _ h=>⟨bs,h,.refl bs⟩,⟨rfl,rfl,rfl,by rw[Qj0];exact Xay _⟩⟩
  obtain⟨h1,h2,h3⟩:=hx
  have hlt:b<w.heap.size:=Xe0 fun h=>h2 (.inr (.inr ⟨Xc9 h,h1⟩))
  exact hd.hid ⟨hlt,fun h=>h2 (.inl h),fun off' h=>h2 (.inr (.inl ⟨off',h⟩))⟩
 have hbound:∀b off,Yof φ2 D0 b off->b<(w2.putObj l o'').heap.size:=fun b off hy=>by
  rw[Qj0]
  rcases Qu4 hy with ⟨n,hn⟩ |rfl
  ·exact(henv2.slot n).lt hn
  exact Xbc hD0 E.size
 have hlie2:∀n b,(φ2 n).lies b->∀off,¬XH (Yof φ2 D0) (grow D Y w (w2.putObj l o'')) (w2.putObj l o'') b off:=fun n b h off hx=>by
  obtain⟨off',hy⟩:=Qm3 (D0:=D0) h
  exact hx.2.2 off' hy
 refine⟨k2,⟨E.os,E.tape,E.output,by rw[Qj0];exact E.size,hbl,fun b off hb hy=>?_,hnew⟩,hbound,⟨rfl,fun i v hv=>(((hregs i v hv).evo E).env (k:=kb) hlow2 hfwd (hreg v (Xac hv))).evo1 e2,fun n=>?_,henv2.distinct,?_,?_,?_⟩⟩
 ·by_cases hyy:∃off',Y b off'
  ·obtain⟨d1,d2⟩:=E.dat b off (hdat b off hb hy hyy)
   have d1:=hfwd b off d1
   refine⟨fun hy'=>?_,(hcell b off).trans d2⟩
   rcases hy' with ⟨n,h⟩ |⟨n,L,h,hL⟩ |⟨n,Y0,h,h0⟩ |⟨n,bs,z,h,hz⟩ |rfl
   ·exact d1.own n h
   ·have:=d1.tok n L h;omega
   ·exact d1.far n Y0 h h0
   ·exact d1.mat n bs z h hz
   exact hy (hYD off)
  have hno:∀off',¬Y b off':=fun off' h=>hyy ⟨off',h⟩
  refine⟨fun hy'=>?_,Xcd (hbl b hb hno)⟩
  rcases hnew b off hy' with ⟨off',h⟩ |h
  ·exact hno off' h
  omega
 ·have hn:=henv2.slot n
  (try dsimp only at hn)
  show SlotOK _ _ _ n ((own2++[Slot.far (farL l o'')]).getD n .unused)
  rcases Xc5 n own2.length with h |rfl |h
  ·rw[Qse h] at hn ⊢
   exact hn.evo1 e2 rfl fun b hb=>⟨Qc7 (hne n b (by omega) hb),hlie2 n b hb⟩
  ·rw[Qow]
   exact⟨_,fun _ _=>False,w2.putObj l o'',by rw[hlen];exact k1,⟨rfl,Qqv hlt2⟩,⟨fun b off hb=>⟨by have hb':b=l:=hb;subst hb';rw[Qj0];exact hlt2,rfl,fun off'=>by have hb':b=l:=hb;subst hb';exact hlie2 _ b (.far (off:=0) k1 rfl) off'⟩,fun b off hf=>hf.elim,rfl,rfl,rfl,Xay _⟩⟩
  rw[Qqn h] at hn ⊢
  exact hn
 ·rw[Qc7 hlD,E.blk D0 hD0 m.free,(hF.own D0 0 (hYD 0)).2.1]
  exact m.mark
 ·intro hh
  rcases E.new D0 (hsub D0 hh) with h |h
  ·exact m.free h
  omega
 have n1:EvoN kb φ B φ w:=Qy9 fun n b h=>by
  obtain⟨off,hy⟩:=Qm3 (D0:=D0) h
  exact(hF.own b off (by rw[m.hY];exact hy)).2.1
 refine m.names.trans (n1.trans (E.toN.trans ((Zmr hlow2).trans ?_)))
 exact⟨fun _ _ h=>h,fun _ _ _ h=>.inl h,fun n t _ ht=>.inr ⟨ht,fun b L e=>Qc7 (hne n b (fun en=>by subst en;rw[k1] at ht;cases ht) (.tok (L:=L) (by rw[ht,e])))⟩,fun _ Y _ h=>.inr ⟨Y,h⟩,fun n b _ h _=>.same (Qc7 (hne n b (fun en=>by subst en;rw[k1] at h;cases h) (.own h))),fun _ bs _ h=>.inr ⟨bs,h,.refl bs⟩⟩
end
def Zrj (regs:List AV) (ps:Array Tmp) (vs:List AV):List AV:=(ps.toList.zip vs).foldl (fun r p=>r.set p.1 p.2) regs
def Q43 {X:Nat->Nat->Prop}{φ:Nat->FSlot}{w:World}:∀(ps:List Tmp) (vs:List AV) (us:List Value) (regs:List AV) (tmps:Array Value),us.length=vs.length->(∀(i:Nat) v u,vs[i]? = some v->us[i]? = some u->RelV X φ w v u)->tmps.size=regs.length->(∀i v,regs[i]? = some v->RelV X φ w v (tmps.getD i undef)) ->
  ((ps.zip us).foldl (fun t p=>t.setIfInBounds p.1 p.2) tmps).size=((ps.zip vs).foldl (fun r p=>r.set p.1 p.2) regs).length/\∀i v,((ps.zip vs).foldl (fun r p=>r.set p.1 p.2) regs)[i]? = some v->RelV X φ w v (((ps.zip us).foldl (fun t p=>t.setIfInBounds p.1 p.2) tmps).getD i undef)
 |[],_,_,_,_,_,_,hs,h=>by simp only[List.zip_nil_left,List.foldl_nil];exact⟨hs,h⟩
 |_::_,[],[],_,_,_,_,hs,h=>by simp only[List.zip_nil_right,List.foldl_nil];exact⟨hs,h⟩
 |_::_,_::_,[],_,_,he,_,_,_=>by simp at he
 |_::_,[],_::_,_,_,he,_,_,_=>by simp at he
 |p::ps,v::vs,u::us,regs,tmps,he,hv,hs,h=>by
  refine Q43 ps vs us (regs.set p v) (tmps.setIfInBounds p u) (by simpa using he) (fun i v' u' h1 h2=>hv (i+1) v' u' h1 h2) (by simpa using hs) fun i v' hi=>?_
  rw[Xev] at hi
  simp only[Xaf,Xdp]
  split at hi
  ·rename_i e
   subst e
   split at hi
   ·rename_i hlt
    cases hi
    simp[hs,hlt]
    exact hv 0 v u rfl rfl
   cases hi
  rename_i e
  rw[Xat e]
  have:=h i v' hi
  rwa [Xaf] at this
def Zpp (kb:Nat) (Q:Exit->AS->Prop) (s:AS) (l:Nat) {τ:Type}(G:τ->Prop) (own:τ->List Slot) (k:Nat) (o:Obj):Exit->AS->Prop
 |.normal,s'=>∃t,G t/\Ren kb s'.own (own t++[Slot.far (farL l o)])
 |.ret,s'=>∃own2,(own2.length==k)=true/\Q .ret ⟨s.regs,own2++[.dead]⟩/\Ren kb s'.own (own2++[Slot.far (farL l o)])
 |.exit id,s'=>∃own2,(own2.length==k)=true/\Q (.exit id) ⟨s.regs,own2++[.dead]⟩/\Ren kb s'.own (own2++[Slot.far (farL l o)])
 |_,_=>False
def Zkc (P:Program) (X:Nat->Nat->Prop) (φr:Nat->FSlot) (Wr:World) (l:Nat) (k:Nat) (o:Obj) (body:Code) (K:Obj->Exit->AS->Prop):Exit->AS->Prop
 |.normal,s1=>s1.own[k]? = some (.far (farL l o))/\∀o',AWp P X φr Wr (some l) body (K o') ⟨s1.regs,s1.own.set k (.far (farL l o'))⟩
 |_,_=>False
def Qyf (own:List Slot) (ρ:List Nat):List Slot:=ρ.foldl (fun o n=>o.set n .dead) own
def Qye:∀(ρ:List Nat) (own:List Slot) (n:Nat),n<own.length->(Qyf own ρ).getD n .unused=if n∈ρ then .dead else own.getD n .unused
 |[],own,n,_=>by simp[Qyf]
 |q::ρ,own,n,h=>by
  have:=Qye ρ (own.set q .dead) n (by simpa using h)
  show(Qyf (own.set q .dead) ρ).getD n .unused=_
  rw[this]
  by_cases h1:n∈ρ
  ·simp[h1]
  by_cases h2:n=q
  ·subst h2;simp[h1,h]
  have:q≠n:=fun e=>h2 e.symm
  simp[h1,h2,Xci this]
section
variable {P : Program} {X : Nat -> Nat -> Prop} {φ0 φ : Nat -> FSlot} {w0 w : World} {Q : Exit -> AS -> Prop} {s : AS}
def Mid.finish {kb:Nat}{a:Act}{own2:List Slot}{o o':Obj}{φi φ2 φe:Nat->FSlot}{Y D:Nat->Nat->Prop}{B w2 W1:World}{φ1:Nat->FSlot}{ρ:List Nat}(h:Sim X φ0 w0 φ s a w) (h00:∀n,kb<=n->φ0 n=.unused) (hdr0:w0.drawn≠1) (hk:own2.length=s.own.length)
  (hφ1:∀n,φ1 n=if n∈ρ then .dead else if n=s.own.length then .far (fun b _=>b=w.heap.size+1) else φ n)
  (hW1:∃r,W1=(w.alloc (.deferred (some []))).alloc (.loop r))
  (m:Mid kb s a (w.heap.size+1) w.heap.size φ1 W1 own2 o φe Y D B) (ho:o.isCells=false) (ho':o'.isCells=false)
  (hF:Q32 X φ2 w2 Y D B) {q:Nat}(hq:φ2 q=.far Y) (E:Evo X φi W1 φ2 w2) (hi:∀b,Qnz φi b->Qnz φ b\/w.heap.size<=b) (hid:∀b off,DataAt X φ w b off->DataAt X φi W1 b off) :
  w2.heap[w.heap.size+1]? = some o/\Sim X φ0 w0 (fun n=>if n=s.own.length then .dead else φe n) ⟨s.regs,own2++[.dead]⟩ { a with defers:={ target:=.collected w.heap.size,args := #[] }::a.defers } (w2.putObj (w.heap.size+1) o'):=by
 obtain⟨r,hW1⟩:=hW1
 have hsz1:W1.heap.size=w.heap.size+2:=by subst hW1;simp
 have hold:∀b,b<w.heap.size->W1.heap[b]? = w.heap[b]? := fun b hb=>by
  subst hW1
  exact(Xbk _ _ (by simp;omega)).trans (Xbk w _ hb)
 obtain⟨hregs,henv,hl⟩:=m.sim hF
 refine⟨hl,?_⟩
 obtain⟨f1,_,_⟩:=m.far
 rw[hk] at f1
 have hlt2:w.heap.size+1<w2.heap.size:=(Xa3.1 hl).1
 have hcell:=Qqw (o':=o') hl ho ho'
 have hu:φ s.own.length=.unused:=by
  have:=h.env.slot s.own.length
  have e:s.slot s.own.length=.unused:=by simp[AS.slot]
  rw[e] at this
  exact this
 have hYof:∀n b,(φe n).lies b->∃off,Y b off:=fun n b hn=>by
  obtain⟨off,hy⟩:=Qm3 (D0:=w.heap.size) hn
  exact⟨off,by rw[m.hY];exact hy⟩
 have hne:∀n b,n≠s.own.length->(φe n).lies b->b≠w.heap.size+1:=fun n b hn hb e=>hn (m.distinct n _ b hb (.far (off:=0) f1 e))
 have hH:∀b,Qnz φe b->b<w.heap.size->Qnz φ b:=fun b ⟨n,hn⟩ hb=>by
  obtain⟨off,hy⟩:=hYof n b hn
  rcases E.new b ⟨q,.far hq hy⟩ with h1 |h1
  ·rcases hi b h1 with h2 |h2
   ·exact h2
   omega
  omega
 have keep:∀b,b<w.heap.size->¬Qnz φ b->(w2.putObj (w.heap.size+1) o').heap[b]? = w.heap[b]? := fun b hb hh=>by
  rw[Qc7 (by omega),E.blk b (by omega) fun h1=>?_,hold b hb]
  rcases hi b h1 with h2 |h2
  ·exact hh h2
  omega
 have n1:EvoN kb φ1 W1 φe w2:=m.names.trans (Qy9 fun n b hb=>by
  obtain⟨off,hy⟩:=hYof n b hb
  exact(hF.own b off hy).2.1)
 have uns:∀n,φ n≠.unused->n≠s.own.length:=fun n hn e=>hn (e▸hu)
 have same1:∀n,n∉ρ->n≠s.own.length->φ1 n=φ n:=fun n h1 h2=>by rw[hφ1,Xat h1,Xat h2]
 have E0:=h.evo
 have lk:∀n,φ0 n≠.unused->n<kb:=fun n hn=>Xe0 fun h1=>hn (h00 n (by omega))
 have dead1:∀n,n<kb->n∈ρ->(if n=s.own.length then FSlot.dead else φe n)=.dead:=fun n hkn h1=>by
  split
  ·rfl
  exact n1.dead n hkn (by rw[hφ1,Xaz h1])
 have step:∀n,n<kb->φ n≠.unused->(n∈ρ/\(if n=s.own.length then FSlot.dead else φe n)=.dead)\/(φ1 n=φ n/\(if n=s.own.length then FSlot.dead else φe n)=φe n):=fun n hkn hn=>by
  by_cases hr:n∈ρ
  ·exact .inl ⟨hr,dead1 n hkn hr⟩
  have hne':=uns n hn
  exact .inr ⟨same1 n hr hne',Xat hne'⟩
 have evo2:Evo X φ0 w0 (fun n=>if n=s.own.length then .dead else φe n) (w2.putObj (w.heap.size+1) o'):=by
  have w1w:W1.os=w.os/\W1.tape=w.tape/\W1.output=w.output:=by subst hW1;exact⟨rfl,rfl,rfl⟩
  have hsz:=E0.size
  refine⟨(E.os.trans w1w.1).trans E0.os,(E.tape.trans w1w.2.1).trans E0.tape,(E.output.trans w1w.2.2).trans E0.output,by rw[Qj0];omega,fun b hb hh=>(keep b (by omega) fun h1=>?_).trans (E0.blk b hb hh),fun b ⟨n,hn⟩=>?_,fun b off hd=>?_,fun n hn=>?_,fun n b hn=>?_,fun n t hn=>?_,fun n Y0 hn=>?_,fun n bs hn=>?_,fun n b hn hn2=>?_⟩
  ·rcases E0.new b h1 with h2 |h2
   ·exact hh h2
   omega
  ·dsimp only at hn
   split at hn
   ·exact(Qba hn).elim
   rcases Xcm b w.heap.size with h1 |h1
   ·exact E0.new b (hH b ⟨n,hn⟩ h1)
   exact .inr (by omega)
  ·obtain⟨c1,c2⟩:=E0.dat b off hd
   obtain⟨d1,d2⟩:=E.dat b off (hid b off c1)
   have hny:¬Y b off:=d1.far q Y hq
   refine⟨⟨by rw[Qj0];exact d1.lt,d1.hid,fun n hn=>?_,fun n L hn=>?_,fun n Y0 hn hy=>?_,fun n bs z hn hz=>?_⟩,(hcell b off).trans (d2.trans ((Xcd (hold b c1.lt)).trans c2))⟩
   ·split at hn
    ·cases hn
    exact hny (by rw[m.hY];exact .inl ⟨n,hn⟩)
   ·split at hn
    ·cases hn
    rcases Xcm off L with h1 |h1
    ·exact h1
    exact absurd (by rw[m.hY];exact .inr (.inl ⟨n,L,hn,h1⟩)) hny
   ·split at hn
    ·cases hn
    exact hny (by rw[m.hY];exact .inr (.inr (.inl ⟨n,Y0,hn,hy⟩)))
   split at hn
   ·cases hn
   exact hny (by rw[m.hY];exact .inr (.inr (.inr (.inl ⟨n,bs,z,hn,hz⟩))))
  ·have hkn:=lk n (by rw[hn];simp)
   have h1:=E0.dead n hn
   rcases step n hkn (by rw[h1];simp) with ⟨_,h2⟩ |⟨h2,h3⟩
   ·exact h2
   exact h3.trans (n1.dead n hkn (h2.trans h1))
  ·have hkn:=lk n (by rw[hn];simp)
   rcases E0.own n b hn with h1 |h1
   ·rcases step n hkn (by rw[h1];simp) with ⟨_,h2⟩ |⟨h2,h3⟩
    ·exact .inr h2
    rcases n1.own n b hkn (h2.trans h1) with h4 |h4
    ·exact .inl (h3.trans h4)
    exact .inr (h3.trans h4)
   rcases step n hkn (by rw[h1];simp) with ⟨_,h2⟩ |⟨h2,h3⟩
   ·exact .inr h2
   exact .inr (h3.trans (n1.dead n hkn (h2.trans h1)))
  ·have hkn:=lk n (by rw[hn];simp)
   rcases E0.tok n t hn with h1 |⟨h1,h1'⟩
   ·rcases step n hkn (by rw[h1];simp) with ⟨_,h2⟩ |⟨h2,h3⟩
    ·exact .inl h2
    exact .inl (h3.trans (n1.dead n hkn (h2.trans h1)))
   rcases step n hkn (by rw[h1];simp) with ⟨_,h2⟩ |⟨h2,h3⟩
   ·exact .inl h2
   rcases n1.tok n t hkn (h2.trans h1) with h4 |⟨h4,h5⟩
   ·exact .inl (h3.trans h4)
   refine .inr ⟨h3.trans h4,fun b L e=>?_⟩
   have hb:=(h.env.slot n).lt (FSlot.lies.tok (L:=L) (show φ n=_ by rw[h1,e]))
   rw[Qc7 (by omega),h5 b L e,hold b hb]
   exact h1' b L e
  ·have hkn:=lk n (by rw[hn];simp)
   rcases E0.far n Y0 hn with h1 |⟨Y',h1⟩
   ·rcases step n hkn (by rw[h1];simp) with ⟨_,h2⟩ |⟨h2,h3⟩
    ·exact .inl h2
    exact .inl (h3.trans (n1.dead n hkn (h2.trans h1)))
   rcases step n hkn (by rw[h1];simp) with ⟨_,h2⟩ |⟨h2,h3⟩
   ·exact .inl h2
   rcases n1.far n Y' hkn (h2.trans h1) with h4 |⟨Y2,h4⟩
   ·exact .inl (h3.trans h4)
   exact .inr ⟨Y2,h3.trans h4⟩
  ·have hkn:=lk n (by rw[hn];simp)
   rcases E0.mat n bs hn with h1 |⟨bs',h1,hl1⟩
   ·rcases step n hkn (by rw[h1];simp) with ⟨_,h2⟩ |⟨h2,h3⟩
    ·exact .inl h2
    exact .inl (h3.trans (n1.dead n hkn (h2.trans h1)))
   rcases step n hkn (by rw[h1];simp) with ⟨_,h2⟩ |⟨h2,h3⟩
   ·exact .inl h2
   rcases n1.mat n bs' hkn (h2.trans h1) with h4 |⟨bs2,h4,hl2⟩
   ·exact .inl (h3.trans h4)
   exact .inr ⟨bs2,h3.trans h4,hl1.trans hl2⟩
  have hkn:=lk n (by rw[hn];simp)
  rcases E0.own n b hn with h1 |h1
  ·rcases step n hkn (by rw[h1];simp) with ⟨_,h2⟩ |⟨h2,h3⟩
   ·rw[h2] at hn2;cases hn2
   rw[h3] at hn2
   have hb:=(h.env.slot n).lt (FSlot.lies.own h1)
   exact(E0.shape n b hn h1).trans ((Shape.same (hold b hb)).trans ((n1.shape n b hkn (h2.trans h1) hn2).trans (.same (Qc7 (by omega)))))
  rcases step n hkn (by rw[h1];simp) with ⟨_,h2⟩ |⟨h2,h3⟩
  ·rw[h2] at hn2;cases hn2
  rw[h3,n1.dead n hkn (h2.trans h1)] at hn2;cases hn2
 have e3:Evo1 (XH Y D w2) φe w2 X (fun n=>if n=s.own.length then .dead else φe n) (w2.putObj (w.heap.size+1) o'):=by
  refine⟨fun b off hd=>⟨⟨by rw[Qj0];exact hd.lt,?_,fun n hn=>?_,fun n L hn=>?_,fun n Y0 hn=>?_,fun n bs z hn=>?_⟩,hcell b off⟩,fun n hn=>?_,fun n b hn hb=>?_,fun n t hn ht=>?_,fun n b hn hn2=>?_,fun n bs hn hb=>?_,⟨rfl,rfl,rfl,by rw[Qj0];exact Xay _⟩⟩
  ·by_cases hy:∃off',Y b off'
   ·obtain⟨off',hy⟩:=hy
    exact(hF.own b off' hy).2.2 off
   have hD:D b off:=Xe0 fun hD=>hd.hid ⟨hd.lt,hD,fun off' h=>hy ⟨off',h⟩⟩
   exact(hF.dat b off hD fun h=>hy ⟨off,h⟩).1.hid
  ·split at hn
   ·cases hn
   exact hd.own n hn
  ·split at hn
   ·cases hn
   exact hd.tok n L hn
  ·split at hn
   ·cases hn
   exact hd.far n Y0 hn
  ·split at hn
   ·cases hn
   exact hd.mat n bs z hn
  ·split
   ·simp
   exact hn
  ·split at hb
   ·cases hb
   exact hb
  ·split at ht
   ·cases ht
   rename_i hne'
   exact⟨ht,fun b L e=>Qc7 (hne n b hne' (.tok (L:=L) (by rw[ht,e])))⟩
  ·split at hn2
   ·cases hn2
   rename_i hne'
   exact .same (Qc7 (hne n b hne' (.own hn)))
  split at hb
  ·cases hb
  exact⟨bs,hb,.refl bs⟩
 obtain⟨hm1,hm2,_,hm3⟩:=h.defers
 have hYD:Y w.heap.size 0:=by rw[m.hY];exact .inr (.inr (.inr (.inr rfl)))
 refine⟨h.low,⟨w.heap.size::hm1,by rw[hm2];rfl,fun e=>absurd e hdr0,?_,?_⟩,h.size,fun t v hv=>(hregs t v hv).evo1 e3,⟨fun n=>?_,fun n n' b h1 h2=>?_,fun b off hx=>?_⟩,evo2⟩
 ·refine Xem.2 ⟨fun hD=>?_,hm3.1⟩
  have:=(Xa3.1 (hm3.2 _ hD).2.1).1
  omega
 ·intro D' hD
  rcases Xa7.1 hD with rfl |hD
  ·refine⟨h.evo.size,?_,fun ⟨n,hn⟩=>?_⟩
   ·rw[Qc7 (by omega),(hF.own _ 0 hYD).2.1]
    exact m.mark
   (try dsimp only at hn)
   split at hn
   ·exact Qba hn
   exact m.free ⟨n,hn⟩
  obtain⟨d1,d2,d3⟩:=hm3.2 D' hD
  have hlt:=(Xa3.1 d2).1
  refine⟨d1,(keep D' hlt d3).trans d2,fun ⟨n,hn⟩=>?_⟩
  (try dsimp only at hn)
  split at hn
  ·exact Qba hn
  exact d3 (hH D' ⟨n,hn⟩ hlt)
 ·have hn:=henv.slot n
  show SlotOK _ _ _ n ((own2++[Slot.dead]).getD n .unused)
  (try dsimp only at hn)
  rcases Xc5 n own2.length with h1 |rfl |h1
  ·rw[Qse h1] at hn ⊢
   exact hn.evo1 e3 (Xat (by omega)) fun b hb=>⟨Qc7 (hne n b (by omega) hb),fun off hx=>by
    obtain⟨off',hy⟩:=hYof n b hb
    exact(hF.own b off' hy).2.2 off hx⟩
  ·rw[Qow]
   exact Xaz hk
  rw[Qqn h1] at hn ⊢
  exact(Xat (by omega)).trans hn
 ·(try dsimp only at h1 h2)
  split at h1
  ·exact(Qba h1).elim
  split at h2
  ·exact(Qba h2).elim
  exact m.distinct n n' b h1 h2
 have:=h.env.hid b off hx
 rw[Qj0]
 omega
def Zj3 {α τ:Type}{g:Operand}{ps:Array Tmp}{assign body:Code}{gf:FuncId}{caps caps':List AV}{σ σr:List Slot}{encs:α->List AV}{L:List α}{kb:Nat}(ρ:List Nat) (h00:∀n,kb<=n->φ0 n=.unused) (hdr0:w0.drawn≠1) (seq:Qv0 P gf caps' σ encs L) (hcall:∀vals w,(callFunc gf vals).run P w=.ok (.enter gf vals) w)
  (hg:opd s.regs g=.fn (.func gf) [] caps) (hdec:(decide ρ.Nodup&&(ρ.length==σ.length)&&ρ.all (fun n=>Nat.blt n s.own.length)&&σ.all Slot.alive)=true)
  (hcaps:Rn (fun n n'=>ρ[n]? = some n') (.agg caps') (.agg caps)) (hσ:SLw (fun n n'=>ρ[n]? = some n') σ σr) (hs:(ρ.map fun n=>s.slot n)=σr) (hps:∀x,(encs x).length=ps.size) (hne:∀x,∀v∈encs x,NLt 0 v) (hreg:∀v∈s.regs,NLt kb v)
  (own:τ->List Slot) (hk:∀t,(own t).length=s.own.length) (G:List α->τ->Prop) (t0:τ) (hG:G L t0) (h0:own t0=Qyf s.own ρ)
  (hround:∀l o X φr Wr,(∀n,s.own.length+1<=n->φr n=.unused)->∀x rest t,G (x::rest) t->AWp P X φr Wr (some l) assign (Zkc P X φr Wr l s.own.length o body (Zpp kb Q s l (G rest) own s.own.length)) ⟨Zrj s.regs ps (encs x),own t++[Slot.far (farL l o)]⟩)
  (hdone:∀t,G [] t->Q .normal ⟨s.regs,own t++[.dead]⟩):AWp P X φ0 w0 none (.rangeFunc g ps assign body) Q s:=by
 intro φ a w h
 simp only[Xaq,Xbw,Xbm,Xa6,Xfs] at hdec
 obtain⟨⟨⟨hnd,hlen⟩,hlow⟩,halive⟩:=hdec
 refine wpIn_rangeFunc ?_
 intro fn hfn
 obtain⟨rec,hrec⟩:∃rec:LoopState->Option Code->Loop,rec=fun st pe=>{ state:=st,pending:=pe,fn,tmps:=a.tmps,params:=ps,assign,body,defers:=w.heap.size }:=⟨_,rfl⟩
 obtain⟨W1,hW1⟩:∃W1,(w.alloc (.deferred (some []))).alloc (.loop (rec .ready none))=W1:=⟨_,rfl⟩
 have hgv:∃cs:Array Value,a.eval g=.func (.func gf) #[] cs/\cs.size=caps.length/\∀i v,caps[i]? = some v->RelV X φ w v (cs.getD i undef):=by
  have:=h.opd g
  rw[hg] at this
  cases hv:a.eval g with
  |func f us cs=>
   rw[hv] at this
   cases this with
   |fn _ _ _ _ _ hu hc h1 h2=>
    obtain rfl:us = #[]:=Array.eq_empty_of_size_eq_zero hu
    exact⟨cs,rfl,hc,h2⟩
  |_=>rw[hv] at this;cases this
 obtain⟨cs,hge,hcs,hcr⟩:=hgv
 have hlt:∀n b,(φ n).lies b->b<w.heap.size:=fun n b hb=>(h.env.slot n).lt hb
 have hsz1:W1.heap.size=w.heap.size+2:=by subst hW1;simp
 have hrest1:W1.os=w.os/\W1.tape=w.tape/\W1.output=w.output/\w.heap.size<=W1.heap.size:=by subst hW1;exact⟨rfl,rfl,rfl,by simp;omega⟩
 have hold:∀b,b<w.heap.size->W1.heap[b]? = w.heap[b]? := fun b hb=>by
  subst hW1
  exact(Xbk _ _ (by simp;omega)).trans (Xbk w _ hb)
 have hD1:W1.heap[w.heap.size]? = some (.deferred (some [])):=by
  subst hW1
  exact(Xbk _ _ (by simp)).trans (Xel w _)
 have hL1:W1.heap[w.heap.size+1]? = some (.loop (rec .ready none)):=by
  subst hW1
  have:=Xel (w.alloc (.deferred (some []))) (.loop (rec .ready none))
  rwa [World.size_alloc] at this
 have hu:∀n,s.own.length<=n->φ n=.unused:=fun n hn=>by
  have:=h.env.slot n
  have e:s.slot n=.unused:=by simp[AS.slot,Xbb hn]
  rw[e] at this
  exact this
 have inj:∀(n1 n2 n':Nat),ρ[n1]? = some n'->ρ[n2]? = some n'->n1=n2:=fun n1 n2 n' h1 h2=>by
  obtain⟨l1,e1⟩:=Xad.1 h1
  obtain⟨l2,e2⟩:=Xad.1 h2
  exact(Xgp hnd).1 (e1.trans e2.symm)
 obtain⟨φ1,hφ1⟩:∃φ1:Nat->FSlot,φ1=fun n=>if n∈ρ then .dead else if n=s.own.length then .far (fun b _=>b=w.heap.size+1) else φ n:=⟨_,rfl⟩
 have hφ1':∀n,φ1 n=if n∈ρ then .dead else if n=s.own.length then .far (fun b _=>b=w.heap.size+1) else φ n:=fun n=>by rw[hφ1]
 have hlies1:∀n b,(φ1 n).lies b->(n=s.own.length/\b=w.heap.size+1)\/(n∉ρ/\n≠s.own.length/\φ1 n=φ n/\(φ n).lies b):=fun n b hb=>by
  by_cases h1:n∈ρ
  ·rw[hφ1',Xaz h1] at hb;exact(Qba hb).elim
  by_cases h2:n=s.own.length
  ·rw[hφ1',Xat h1,Xaz h2] at hb
   obtain⟨_,hb⟩:=Qqy hb
   exact .inl ⟨h2,hb⟩
  have e:φ1 n=φ n:=by rw[hφ1',Xat h1,Xat h2]
  exact .inr ⟨h1,h2,e,e▸hb⟩
 have hinj1:∀n b,(φ1 n).lies b->n≠s.own.length->(φ n).lies b/\n∉ρ:=fun n b hb hn=>by
  rcases hlies1 n b hb with ⟨h1,_⟩ |⟨h1,_,_,h2⟩
  ·exact absurd h1 hn
  exact⟨h2,h1⟩
 have notY:∀b off,DataAt X φ w b off->¬Yof φ1 w.heap.size b off:=fun b off hd hy=>by
  have hb:=hd.lt
  rcases hy with ⟨n,e⟩ |⟨n,L,e,hL⟩ |⟨n,Y0,e,h0⟩ |⟨n,bs,z,e,hz⟩ |e
  ·rcases hlies1 n b (.own e) with ⟨_,h1⟩ |⟨_,_,h1,_⟩
   ·omega
   exact hd.own n (h1▸e)
  ·rcases hlies1 n b (.tok e) with ⟨_,h1⟩ |⟨_,_,h1,_⟩
   ·omega
   have:=hd.tok n L (h1▸e);omega
  ·rcases hlies1 n b (.far e h0) with ⟨_,h1⟩ |⟨_,_,h1,_⟩
   ·omega
   exact hd.far n Y0 (h1▸e) h0
  ·rcases hlies1 n b (.mat e hz) with ⟨_,h1⟩ |⟨_,_,h1,_⟩
   ·omega
   exact hd.mat n bs z (h1▸e) hz
  omega
 have hXo:∀n b,(φ n).lies b->∀off,¬X b off:=fun n b hb off hx=>by
  have hsl:=h.env.slot n
  generalize s.slot n=sl at hsl
  cases sl with
  |unused=>have h':φ n=.unused:=hsl;rw[h'] at hb;exact Qf1 hb
  |dead=>have h':φ n=.dead:=hsl;rw[h'] at hb;exact Qba hb
  |own m xs=>
   obtain⟨b',h1,h2⟩:=hsl
   rw[h1] at hb
   obtain rfl:=Qir hb
   exact h2.hid off hx
  |tok=>
   obtain⟨t,h1,h2⟩:=hsl
   rw[h1] at hb
   obtain⟨L',rfl⟩:=Qqx hb
   exact(h2 b L' rfl).2 off hx
  |gro m xs=>
   rcases hsl with ⟨_,h2⟩ |⟨b',h1,h2⟩
   ·rw[h2] at hb;exact Qe7 hb
   rw[h1] at hb
   obtain rfl:=Qir hb
   exact h2.hid off hx
  |far J=>
   obtain⟨Y0,D0,B0,h1,h2,h3⟩:=hsl
   rw[h1] at hb
   obtain⟨off',hy⟩:=Qqy hb
   exact(h3.own b off' hy).2.2 off hx
  |mat m rows=>
   obtain⟨bs,m1,m2,m3,m4⟩:=hsl
   rw[m1] at hb
   obtain⟨k,hk⟩:=Q24 hb
   have hkl:k<rows.length:=m2▸(Xad.1 hk).1
   rcases m4 k _ (Xab hkl) with ⟨_,m5⟩ |⟨b',m5,m6⟩
   ·rw[m5] at hk;cases hk
   rw[m5] at hk;cases hk;exact m6.hid off hx
  |mp es clock=>
   obtain⟨b',h1,h2⟩:=hsl
   rw[h1] at hb
   obtain rfl:=Qir hb
   exact h2.hid off hx
 have hXl:∀b off,w.heap.size<=b->¬X b off:=fun b off hb hx=>by have:=h.env.hid b off hx;omega
 have e0:Evo1 X φ w (XH (Yof φ1 w.heap.size) (fun b off=>DataAt X φ w b off) W1) φ1 W1:=by
  refine⟨fun b off hd=>⟨⟨by have:=hd.lt;omega,fun hx=>hx.2.1 hd,fun n hn=>?_,fun n L hn=>?_,fun n Y0 hn h0=>?_,fun n bs z hn hz=>?_⟩,Xcd (hold b hd.lt)⟩,fun n hn=>?_,fun n b hn hb=>?_,fun n t hn ht=>?_,fun n b hn _=>.same (hold b (hlt n b (.own hn))),fun n bs hn hb=>?_,hrest1⟩
  ·exact notY b off hd (.inl ⟨n,hn⟩)
  ·rcases Xcm off L with h1 |h1
   ·exact h1
   exact absurd (.inr (.inl ⟨n,L,hn,h1⟩)) (notY b off hd)
  ·exact notY b off hd (.inr (.inr (.inl ⟨n,Y0,hn,h0⟩)))
  ·exact notY b off hd (.inr (.inr (.inr (.inl ⟨n,bs,z,hn,hz⟩))))
  ·rw[hφ1']
   split
   ·simp
   split
   ·simp
   exact hn
  ·rcases hlies1 n b (.own hb) with ⟨h1,_⟩ |⟨_,_,h1,_⟩
   ·exact absurd (hu n (by omega)) hn
   exact h1▸hb
  ·by_cases h1:n∈ρ
   ·rw[hφ1',Xaz h1] at ht;cases ht
   by_cases h2:n=s.own.length
   ·exact absurd (hu n (by omega)) hn
   rw[hφ1',Xat h1,Xat h2] at ht
   exact⟨ht,fun b L e=>hold b (hlt n b (.tok (L:=L) (by rw[ht,e])))⟩
  by_cases h1:n∈ρ
  ·rw[hφ1',Xaz h1] at hb;cases hb
  by_cases h2:n=s.own.length
  ·exact absurd (hu n (by omega)) hn
  rw[hφ1',Xat h1,Xat h2] at hb
  exact⟨bs,hb,.refl bs⟩
 have hfree:¬Qnz φ1 w.heap.size:=fun ⟨n,hn⟩=>by
  rcases hlies1 n _ hn with ⟨_,h1⟩ |⟨_,_,_,h1⟩
  ·omega
  have:=hlt n _ h1;omega
 have hd1:Qdu φ1:=fun n n' b h1 h2=>by
  rcases hlies1 n b h1 with ⟨a1,a2⟩ |⟨_,_,_,a2⟩<;>rcases hlies1 n' b h2 with ⟨b1,b2⟩ |⟨_,_,_,b2⟩
  ·rw[a1,b1]
  ·have:=hlt n' b b2;omega
  ·have:=hlt n b a2;omega
  exact h.env.distinct n n' b a2 b2
 have m0:Mid kb s a (w.heap.size+1) w.heap.size φ1 W1 (own t0) (.loop (rec .ready none)) φ1 (Yof φ1 w.heap.size) (fun b off=>DataAt X φ w b off) W1:=by
  refine⟨rfl,fun i v hv=>(h.regs i v hv).evo1 e0,fun n=>?_,hd1,hD1,hfree,EvoN.refl⟩
  have hk0:=hk t0
  rcases Xc5 n s.own.length with h1 |h1 |h1
  ·rw[Qse (by omega),h0,Qye ρ _ n h1]
   by_cases hr:n∈ρ
   ·rw[Xaz hr]
    show φ1 n=.dead
    rw[hφ1',Xaz hr]
   rw[Xat hr]
   have e:φ1 n=φ n:=by rw[hφ1',Xat hr,Xat (by omega)]
   refine(h.env.slot n).evo1 e0 e fun b hb=>⟨hold b (hlt n b hb),fun off hx=>?_⟩
   obtain⟨off',hy⟩:=Qm3 (φ:=φ1) (D0:=w.heap.size) (n:=n) (b:=b) (by rw[e];exact hb)
   exact hx.2.2 off' hy
  ·have:n=(own t0).length:=by omega
   subst this
   rw[Qow]
   refine⟨_,fun _ _=>False,W1,by rw[hφ1',Xat (fun hr=>by have:=hlow _ hr;omega),Xaz (by omega)],⟨rfl,hL1⟩,⟨fun b off hb=>?_,fun b off hf=>hf.elim,rfl,rfl,rfl,Xay _⟩⟩
   have hb':b=w.heap.size+1:=hb
   subst hb'
   refine⟨by omega,rfl,fun off' hx=>?_⟩
   obtain⟨off2,hy⟩:=Qm3 (φ:=φ1) (D0:=w.heap.size) (n:=s.own.length) (b:=w.heap.size+1) (.far (Y:=fun b _=>b=w.heap.size+1) (off:=0) (by rw[hφ1',Xat (fun hr=>by have:=hlow _ hr;omega),Xaz rfl]) rfl)
   exact hx.2.2 off2 hy
  rw[Qqn (by omega)]
  show φ1 n=.unused
  rw[hφ1',Xat (fun hr=>by have:=hlow _ hr;omega),Xat (by omega)]
  exact hu n (by omega)
 obtain⟨J,hJ⟩:∃J:Far α,J=fun o Y D B=>match o with
  |some rest=>∃φe t,G rest t/\Mid kb s a (w.heap.size+1) w.heap.size φ1 W1 (own t) (.loop (rec .ready none)) φe Y D B
  |none=>∃φe c own2,own2.length=s.own.length/\((c=.ret/\Q .ret ⟨s.regs,own2++[.dead]⟩)\/∃id,c=.exit id/\Q (.exit id) ⟨s.regs,own2++[.dead]⟩)/\Mid kb s a (w.heap.size+1) w.heap.size φ1 W1 own2 (.loop (rec .done (some c))) φe Y D B:=⟨_,rfl⟩
 have hy:Qz1 P (w.heap.size+1) J encs:=by
  intro x rest Xi φi q Y D B W vals hj hq hF hXi hvs hvr
  rw[hJ] at hj
  obtain⟨φe,t,hGt,m⟩:=hj
  have hvr2:=m.vals hq (hne x) hvr
  obtain⟨m,hF⟩:=m.wide hF
  revert hvr2 m hF
  generalize wide Xi φi W D=D
  intro hvr2 m hF
  obtain⟨hregs,henv,hl⟩:=m.sim hF
  have hyl:=run_yield (P:=P) (args:=vals) hl (by rw[hrec];simp[hvs,hps x])
  rw[hrec] at hyl
  refine⟨fn,_,assign,body,hyl,roundIn_of_wpIn hfn ?_⟩
  obtain⟨f1,_,_⟩:=m.far
  rw[hk t] at f1
  have hfold:(ps.zip vals).foldl (fun t (p,v)=>t.setIfInBounds p v) a.tmps=((ps.toList.zip vals.toList).foldl (fun t p=>t.setIfInBounds p.1 p.2) a.tmps):=by
   rw[<-Array.foldl_toList,Array.toList_zip]
  have hset:=Q43 (X:=XH Y D W) (φ:=φe) (w:=W) ps.toList (encs x) vals.toList s.regs a.tmps (by simp[hvs]) hvr2 h.size hregs
  have hs0:Sim (XH Y D W) φe { W with drawn:=0 } φe ⟨Zrj s.regs ps (encs x),own t++[Slot.far (farL (w.heap.size+1) (.loop (rec .ready none)))]⟩ { tmps:=(ps.zip vals).foldl (fun t (p,v)=>t.setIfInBounds p v) a.tmps,defers:=[] } W:=
   ⟨fun n b hb=>(henv.slot n).lt hb,.nil0 _ _ rfl,by rw[hfold];exact hset.1,fun i v hv=>by rw[hfold];exact hset.2 i v hv,henv,Evo.refl.to_at⟩
  have hub:∀n,s.own.length+1<=n->φe n=.unused:=fun n hn=>by
   have:=henv.slot n
   (try dsimp only at this)
   rw[Qqn (by rw[hk t];omega)] at this
   exact this
  refine Xej (hround _ _ (XH Y D W) φe { W with drawn:=0 } hub x rest t hGt φe _ W hs0) ?_
  rintro e a1 w1 ⟨φ2,s1,hs1,hq1⟩
  cases e with
  |normal=>
   obtain⟨hk1,hbody⟩:=hq1
   obtain⟨hl1,hs2⟩:=hs1.turnL (o':=.loop (rec .busy none)) m.distinct (.far (off:=0) f1 rfl) hk1 rfl rfl
   refine⟨w1.putObj (w.heap.size+1) (.loop (rec .busy none)),by rw[hrec] at hl1 ⊢;exact run_beginRound hl1 rfl,?_⟩
   refine Xej (hbody _ φ2 _ _ hs2) ?_
   rintro e a3 w3 ⟨φ3,s3,hs3,hq3⟩
   have fin:∀(jump:Option Code) (own2:List Slot),own2.length=s.own.length->Ren kb s3.own (own2++[Slot.far (farL (w.heap.size+1) (.loop (rec .busy none)))]) ->
     ∃φ4,(Instr.endRound (w.heap.size+1) jump).run P w3=.ok (.bool jump.isNone) (w3.putObj (w.heap.size+1) (.loop (rec (if jump.isNone then .ready else .done) jump)))/\Kept Y (Yof φ4 w.heap.size) W (w3.putObj (w.heap.size+1) (.loop (rec (if jump.isNone then .ready else .done) jump))) /\
      (∀b off,Yof φ4 w.heap.size b off->b<(w3.putObj (w.heap.size+1) (.loop (rec (if jump.isNone then .ready else .done) jump))).heap.size) /\
      Mid kb s a (w.heap.size+1) w.heap.size φ1 W1 own2 (.loop (rec (if jump.isNone then .ready else .done) jump)) φ4 (Yof φ4 w.heap.size) (grow D Y W (w3.putObj (w.heap.size+1) (.loop (rec (if jump.isNone then .ready else .done) jump)))) (w3.putObj (w.heap.size+1) (.loop (rec (if jump.isNone then .ready else .done) jump))):=fun jump own2 h1 hm=>by
    obtain⟨φ4,b1,b2,b3,b4⟩:=m.back (own2:=own2) (own3:=s3.own) (o':=.loop (rec .busy none)) (o'':=.loop (rec (if jump.isNone then .ready else .done) jump)) hF hreg (by rw[hk t,h1]) hs3 hm rfl rfl
    refine⟨φ4,?_,b2,b3,b4⟩
    rw[hrec] at b1 ⊢
    exact run_endRound jump b1
   cases e with
   |normal=>
    obtain⟨t',hG',hm⟩:=hq3
    obtain⟨φ4,r1,r2,r3,r4⟩:=fin none (own t') (hk t') hm
    exact⟨_,_,r1,_,r2,r3,.inl ⟨rfl,by rw[hJ];exact⟨φ4,t',hG',r4⟩⟩⟩
   |ret=>
    obtain⟨own2,h1,hq,hm⟩:=hq3
    obtain⟨φ4,r1,r2,r3,r4⟩:=fin (some .ret) own2 (Xbm.1 h1) hm
    exact⟨_,_,r1,_,r2,r3,.inr ⟨rfl,by rw[hJ];exact⟨φ4,.ret,own2,Xbm.1 h1,.inl ⟨rfl,hq⟩,r4⟩⟩⟩
   |exit id=>
    obtain⟨own2,h1,hq,hm⟩:=hq3
    obtain⟨φ4,r1,r2,r3,r4⟩:=fin (some (.exit id)) own2 (Xbm.1 h1) hm
    exact⟨_,_,r1,_,r2,r3,.inr ⟨rfl,by rw[hJ];exact⟨φ4,.exit id,own2,Xbm.1 h1,.inr ⟨id,rfl,hq⟩,r4⟩⟩⟩
   |goto=>exact hq3.elim
   |panic=>exact hq3.elim
   |outgrown=>exact hq3.elim
  |ret=>exact hq1.elim
  |exit=>exact hq1.elim
  |goto=>exact hq1.elim
  |panic=>exact hq1.elim
  |outgrown=>exact hq1.elim
 obtain⟨φi,hφi⟩:∃φi:Nat->FSlot,φi=fun n=>if n<σ.length then(match ρ[n]? with |some n'=>φ n' |none=>.unused) else if n=σ.length then .far (Yof φ1 w.heap.size) else .unused:=⟨_,rfl⟩
 have iM:∀n n',ρ[n]? = some n'->φi n=φ n':=fun n n' e=>by
  have:n<σ.length:=by rw[<-hlen];exact(Xad.1 e).1
  rw[hφi]
  simp only[this,Xe4,e]
 have iF:φi σ.length=.far (Yof φ1 w.heap.size):=by rw[hφi];simp
 have iU:∀n,σ.length<n->φi n=.unused:=fun n hn=>by
  rw[hφi]
  simp only[show ¬n<σ.length by omega,show n≠σ.length by omega,Xff]
 have iInv:∀n b,(φi n).lies b->(∃n',ρ[n]? = some n'/\(φ n').lies b)\/(n=σ.length/\∃off,Yof φ1 w.heap.size b off):=fun n b hb=>by
  rcases Xc5 n σ.length with h1 |h1 |h1
  ·obtain⟨n',e⟩:∃n',ρ[n]? = some n':=⟨_,Xab (by omega)⟩
   rw[iM n n' e] at hb
   exact .inl ⟨n',e,hb⟩
  ·subst h1
   rw[iF] at hb
   exact .inr ⟨rfl,Qqy hb⟩
  rw[iU n h1] at hb;exact(Qf1 hb).elim
 have fwd:∀b off,DataAt X φ w b off->DataAt X φi w b off:=fun b off hd=>by
  refine⟨hd.lt,hd.hid,fun n hn=>?_,fun n L' hn=>?_,fun n Y0 hn h0'=>?_,fun n bs z hn hz=>?_⟩
  ·rcases iInv n b (.own hn) with ⟨n',e,_⟩ |⟨rfl,_⟩
   ·exact hd.own n' ((iM n n' e)▸hn)
   rw[iF] at hn;cases hn
  ·rcases iInv n b (.tok hn) with ⟨n',e,_⟩ |⟨rfl,_⟩
   ·exact hd.tok n' L' ((iM n n' e)▸hn)
   rw[iF] at hn;cases hn
  ·rcases iInv n b (.far hn h0') with ⟨n',e,_⟩ |⟨rfl,_⟩
   ·exact hd.far n' Y0 ((iM n n' e)▸hn) h0'
   rw[iF] at hn;cases hn;exact notY b off hd h0'
  rcases iInv n b (.mat hn hz) with ⟨n',e,_⟩ |⟨rfl,_⟩
  ·exact hd.mat n' bs z ((iM n n' e)▸hn) hz
  rw[iF] at hn;cases hn
 have ei:Evo1 X φi w X φi W1:=by
  have hb:∀n b,(φi n).lies b->n≠σ.length->W1.heap[b]? = w.heap[b]? := fun n b h1 h2=>by
   rcases iInv n b h1 with ⟨n',_,h3⟩ |⟨h3,_⟩
   ·exact hold b (hlt n' b h3)
   exact absurd h3 h2
  refine⟨fun b off hd=>⟨⟨by have:=hd.lt;omega,hd.hid,hd.own,hd.tok,hd.far,hd.mat⟩,Xcd (hold b hd.lt)⟩,fun _ h=>h,fun _ _ _ h=>h,fun n t _ ht=>⟨ht,fun b L' e=>hb n b (.tok (L:=L') (by rw[ht,e])) (fun e'=>by subst e';rw[iF] at ht;cases ht)⟩,fun n b hn _=>.same (hb n b (.own hn) fun e'=>by subst e';rw[iF] at hn;cases hn),fun _ bs _ h=>⟨bs,h,.refl bs⟩,hrest1⟩
 have fwd1:∀b off,DataAt X φ w b off->DataAt X φi W1 b off:=fun b off hd=>(ei.dat b off (fwd b off hd)).1
 have hYlt:∀b off,Yof φ1 w.heap.size b off->b<W1.heap.size:=fun b off hy'=>by
  rcases Qu4 hy' with ⟨n,hn⟩ |e
  ·rcases hlies1 n b hn with ⟨_,e⟩ |⟨_,_,_,h1⟩
   ·omega
   have:=hlt n b h1;omega
  omega
 have hYX:∀b off,Yof φ1 w.heap.size b off->∀off',¬X b off':=fun b off hy' off'=>by
  rcases Qu4 hy' with ⟨n,hn⟩ |e
  ·rcases hlies1 n b hn with ⟨_,e⟩ |⟨_,_,_,h1⟩
   ·exact hXl b off' (by omega)
   exact hXo n b h1 off'
  exact hXl b off' (by omega)
 have henvi:Qo4 X φi W1 (fun n=>(σ++[Slot.far (J (some L))]).getD n .unused):=by
  refine⟨fun n=>?_,fun n n' b h1 h2=>?_,fun b off hx=>by have:=h.env.hid b off hx;omega⟩
  ·show SlotOK X φi W1 n ((σ++[Slot.far (J (some L))]).getD n .unused)
   rcases Xc5 n σ.length with h1 |h1 |h1
   ·rw[Qse h1]
    obtain⟨n',e⟩:∃n',ρ[n]? = some n':=⟨_,Xab (by omega)⟩
    have hsl:=h.env.slot n'
    have hr:σr[n]? = some (s.slot n'):=by rw[<-hs];simp[e]
    obtain⟨q1,q2⟩:=hσ.spec
    have hst:=q2 n σ[n] (s.slot n') (Xab h1) hr
    have hal:=halive σ[n] (Xb2 h1)
    have e2:σ.getD n .unused=σ[n]:=by simp[h1]
    rw[e2]
    have hof:∀b,(φi n).lies b->W1.heap[b]? = w.heap[b]? /\ ∀off,¬X b off:=fun b hb=>by
     rw[iM n n' e] at hb
     exact⟨hold b (hlt n' b hb),hXo n' b hb⟩
    generalize σ[n]=st at hst hal ⊢
    generalize s.slot n'=st' at hst hsl
    cases hst with
    |dead=>cases hal
    |tok=>cases hal
    |own m xs xs' hl hx hr'=>
     obtain⟨b,b1,b2⟩:=hsl
     have:SlotOK X φi w n (.own m xs):=⟨b,(iM n n' e).trans b1,OwnOK.ren fwd (M:=fun n' n=>ρ[n]? = some n') (fun n' n hM=>iM n n' hM) b2 (.own m xs' xs hl.symm (fun j x x' h1 h2=>(hx j x' x h2 h1).symm) fun j x x' h1 h2 i a a' h3 h4=>(hr' j x' x h2 h1 i a' a h4 h3).symm) b2.hid⟩
     exact this.evo1 ei rfl hof
    |gro m xs xs' hl hx hr'=>
     have:SlotOK X φi w n (.gro m xs):=by
      rcases hsl with ⟨b1,b2⟩ |⟨b,b1,b2⟩
      ·exact .inl ⟨Xau (by rw[hl,b1];rfl),(iM n n' e).trans b2⟩
      exact .inr ⟨b,(iM n n' e).trans b1,OwnOK.ren fwd (M:=fun n' n=>ρ[n]? = some n') (fun n' n hM=>iM n n' hM) b2 (.own m xs' xs hl.symm (fun j x x' h1 h2=>(hx j x' x h2 h1).symm) fun j x x' h1 h2 i a a' h3 h4=>(hr' j x' x h2 h1 i a' a h4 h3).symm) b2.hid⟩
     exact this.evo1 ei rfl hof
    |mat m rows hx=>
     obtain⟨bs,m1,m2,m3,m4⟩:=hsl
     have:SlotOK X φi w n (.mat m rows):=by
      refine⟨bs,(iM n n' e).trans m1,m2,m3,fun k xs hk=>?_⟩
      rcases m4 k xs hk with m5 |⟨b,m5,m6⟩
      ·exact .inl m5
      exact .inr ⟨b,m5,OwnOK.ren fwd (M:=fun n' n=>ρ[n]? = some n') (fun n' n hM=>iM n n' hM) m6 (.plain (hx xs (Xac hk))) m6.hid⟩
     exact this.evo1 ei rfl hof
    |mp es clock=>
     obtain⟨b,b1,b2⟩:=hsl
     have:SlotOK X φi w n (.mp es clock):=⟨b,(iM n n' e).trans b1,b2⟩
     exact this.evo1 ei rfl hof
   ·subst h1
    rw[Qow]
    exact⟨_,_,W1,iF,by rw[hJ];exact⟨φ1,t0,hG,m0⟩,⟨fun b off hy'=>⟨hYlt b off hy',rfl,hYX b off hy'⟩,fun b off hd _=>⟨fwd1 b off hd,rfl⟩,rfl,rfl,rfl,Xay _⟩⟩
   rw[Qqn h1]
   exact iU n h1
  have mix:∀(n1 b:Nat),(∃n':Nat,ρ[n1]? = some n'/\(φ n').lies b)->(∃off,Yof φ1 w.heap.size b off)->False:=fun n1 b hmix ⟨off,hy'⟩=>by
   obtain⟨n',e,hb⟩:=hmix
   rcases Qu4 hy' with ⟨q,hq⟩ |e'
   ·rcases hlies1 q b hq with ⟨_,e'⟩ |⟨hq1,_,_,hq2⟩
    ·have:=hlt n' b hb;omega
    have:=h.env.distinct n' q b hb hq2
    subst this
    exact hq1 (Xac e)
   have:=hlt n' b hb;omega
  rcases iInv n b h1 with g1 |⟨g1,g2⟩<;>rcases iInv n' b h2 with g3 |⟨g3,g4⟩
  ·obtain⟨p1,e1,l1⟩:=g1
   obtain⟨p2,e2,l2⟩:=g3
   have:=h.env.distinct p1 p2 b l1 l2
   subst this
   exact inj n n' p1 e1 e2
  ·exact(mix n b g1 g4).elim
  ·exact(mix n' b g3 g2).elim
  rw[g1,g3]
 have hcapi:caps'.length=caps.length/\∀i v,caps'[i]? = some v->RelV X φi W1 v (cs.getD i undef):=by
  have hv:RelV X φ w (.agg caps) (.agg cs):=.agg _ _ hcs hcr
  have:=(RelV.ren fwd (fun n' n hM=>iM n n' hM) hcaps.symm hv).evo1 ei
  cases this with
  |agg _ _ h1 h2=>exact⟨by rw[<-h1,hcs],h2⟩
 refine⟨w.heap.size+1,[{ target:=.collected w.heap.size,args := #[] }],W1,{ target:=.fn (.func gf) cs,args := #[.func (.yield (w.heap.size+1)) #[] #[]] },W1,gf,
  #[.func (.yield (w.heap.size+1)) #[] #[]]++cs,W1,?_,?_,fun _ _=>trivial,?_,fun e=>(by cases e),?_⟩
 ·rw[<-hW1,hrec];exact run_enterLoop_outer _ _ _ _ _
 ·simp only[resolve,hge]
  simp[go_sem]
 ·simp[invoke,go_sem,hcall]
 refine Qvw.2 ((seq X φi W1 cs (w.heap.size+1) J (by rw[hcs,hcapi.1]) hcapi.2 henvi hy).mono ?_)
 rintro e w2 ⟨⟨v,rfl⟩,φ2,E,_,hend⟩
 have hiH:∀b,Qnz φi b->Qnz φ b\/w.heap.size<=b:=fun b ⟨n,hn⟩=>by
  rcases iInv n b hn with ⟨n',_,hb⟩ |⟨_,off,hy'⟩
  ·exact .inl ⟨n',hb⟩
  rcases Qu4 hy' with ⟨q,hq⟩ |e'
  ·rcases hlies1 q b hq with ⟨_,e'⟩ |⟨_,_,_,hq2⟩
   ·exact .inr (by omega)
   exact .inl ⟨q,hq2⟩
  exact .inr (by omega)
 have hends:∀{o:Option (List α)},SlotOK X φ2 w2 σ.length (.far (J o))->∃Y D B,φ2 σ.length=.far Y/\J o Y D B/\Q32 X φ2 w2 Y D B:=fun h=>h
 rcases hend with hend |hend
 ·obtain⟨Y,D,B,q1,q2,q3⟩:=hends hend
  rw[hJ] at q2
  obtain⟨φe,t,hGt,m⟩:=q2
  obtain⟨r1,r2⟩:=m.finish (o':=.loop (rec .exhausted none)) h h00 hdr0 (hk t) hφ1' ⟨_,hW1.symm⟩ rfl rfl q3 q1 E hiH fwd1
  refine⟨none,w2.putObj (w.heap.size+1) (.loop (rec .exhausted none)),by have:=run_endLoop (P:=P) r1 (by rw[hrec];simp);rw[hrec] at this ⊢;exact this,?_⟩
  exact⟨_,_,r2,hdone t hGt⟩
 obtain⟨Y,D,B,q1,q2,q3⟩:=hends hend
 rw[hJ] at q2
 obtain⟨φe,c,own2,hl2,hc,m⟩:=q2
 obtain⟨r1,r2⟩:=m.finish (o':=.loop (rec .exhausted (some c))) h h00 hdr0 hl2 hφ1' ⟨_,hW1.symm⟩ rfl rfl q3 q1 E hiH fwd1
 refine⟨some c,w2.putObj (w.heap.size+1) (.loop (rec .exhausted (some c))),by have:=run_endLoop (P:=P) r1 (by rw[hrec];simp);rw[hrec] at this ⊢;exact this,?_⟩
 rcases hc with ⟨rfl,hq⟩ |⟨id,rfl,hq⟩
 ·exact wpIn_ret ⟨_,_,r2,hq⟩
 exact wpIn_exit ⟨_,_,r2,hq⟩
end
end
end
section
def Qg0 {P:Program}{s:AS}{rv:ResultVar}{v v':AV}(h:Zec P s rv v) (hl:Less v v'):Zec P s rv v':=fun X φ0 w0 φ a w hs=>by
 obtain⟨u,h1,h2⟩:=h X φ0 w0 φ a w hs
 exact⟨u,h1,hl _ _ _ _ h2⟩
def yld {α:Type}(x:α) (o:Option (List α)):Option (List α):=o.map (x :: ·)
def Q2c {α:Type}{x:α}{o:Option (List α)}{r:List α}(h:yld x o=some r):∃r',o=some r'/\r=x::r':=by
 unfold yld at h
 obtain⟨r',h1,h2⟩:=Xc3.1 h
 exact⟨r',h1,h2.symm⟩
def Less.lits (l:List Value):Less (.agg (l.map AV.lit)) (.lit (.agg l.toArray)):=fun X φ w v h=>by
 cases h with
 |agg _ vs hs hr=>
  have:vs=l.toArray:=by
   apply Array.ext
   ·simpa using hs
   intro i h1 h2
   have hi:i<l.length:=by simpa using h2
   have:=Qd1 (hr i (.lit l[i]) (by simp[hi]))
   simpa [Xaf,h1] using this
  rw[this];exact .lit _
def Qq4 {P:Program}{o:Oper}{rd rd':List (Operand×AV)}{bl:List (Nat×Slot)}{r r':AV}{eff eff':List (Nat×Slot)}(hw:LW rd rd') (h:Qsv P o rd' bl r eff r' eff'):Qsv P o rd bl r eff r' eff':=fun X φ a w hr=>h X φ a w fun q hq=>by
 obtain⟨p,hp,e1,e2⟩:=hw.get q hq
 rw[<-e1]
 exact e2 _ _ _ _ (hr p hp)
def Qpu {P:Program}{α:Type}{o:Oper}{f:Operand}{xs:Array Operand}{ts:Array TypeId}{l n:Nat}{J:Far α}{encs:α->List AV}{x:α}{rest:List α}{rd:List (Operand×AV)}
  (h:o.op=.call { callee:=.value f,args:=xs,argTypes:=ts }) (hl:(encs x).length=xs.size) (hy:Qz1 P l J encs) (hrd:(f,.lit (.func (.yield l) #[] #[]))::xs.toList.zip (encs x)=rd) :
  Qsv P o rd [(n,.far (J (some (x::rest))))] (.lit (.bool true)) [(n,.far (J (some rest)))] (.lit (.bool false)) [(n,.far (J none))]:=hrd▸Q85 h hl hy
def Q5v:∀{l k:List AV}(t:Nat) {a b:AV},LessL l k->Less a b->LessL (l.set t a) (k.set t b)
 |[],[],_,_,_,_,_=>trivial
 |_::_,_::_,0,_,_,h,hr=>⟨hr,h.2⟩
 |_::_,_::_,t+1,_,_,h,hr=>⟨h.1,Q5v t h.2 hr⟩
def Q05:∀l:List AV,LessL l l
 |[]=>trivial
 |_::l=>⟨Less.rfl,Q05 l⟩
def Zbh:∀(ps:List Tmp) (vs us:List AV) (regs regs':List AV),LessL regs regs'->LPw Less vs us->LessL ((ps.zip vs).foldl (fun r p=>r.set p.1 p.2) regs) ((ps.zip us).foldl (fun r p=>r.set p.1 p.2) regs')
 |[],_,_,_,_,h,_=>by simpa using h
 |p::ps,[],[],_,_,h,_=>by simpa using h
 |p::ps,v::vs,u::us,regs,regs',h,hv=>Zbh ps vs us _ _ (Q5v p h hv.1) hv.2
 |_::_,[],_::_,_,_,_,hv=>hv.elim
 |_::_,_::_,[],_,_,_,hv=>hv.elim
section
variable {P : Program} {X : Nat -> Nat -> Prop} {φ0 : Nat -> FSlot} {w0 : World} {Q : Exit -> AS -> Prop} {s : AS}
def Qvx {α τ:Type}{g:Operand}{ps:Array Tmp}{assign body:Code}{gf:FuncId}{caps caps':List AV}{σ σr:List Slot}{encs:α->List AV}{L:List α}{kb:Nat}(avs:α->List AV) (ρ:List Nat) (h00:∀n,kb<=n->φ0 n=.unused) (hdr0:w0.drawn≠1) (seq:Qv0 P gf caps' σ encs L) (hcall:∀vals w,(callFunc gf vals).run P w=.ok (.enter gf vals) w)
  (hg:opd s.regs g=.fn (.func gf) [] caps) (hdec:(decide ρ.Nodup&&(ρ.length==σ.length)&&ρ.all (fun n=>Nat.blt n s.own.length)&&σ.all Slot.alive)=true)
  (hcaps:Rn (fun n n'=>ρ[n]? = some n') (.agg caps') (.agg caps)) (hσ:SLw (fun n n'=>ρ[n]? = some n') σ σr) (hs:(ρ.map fun n=>s.slot n)=σr) (hps:∀x,(encs x).length=ps.size) (hne:∀x,∀v∈encs x,NLt 0 v) (havs:∀x,LPw Less (encs x) (avs x)) (hreg:∀v∈s.regs,NLt kb v)
  (own:τ->List Slot) (hk:∀t,(own t).length=s.own.length) (G:List α->τ->Prop) (t0:τ) (hG:G L t0) (h0:own t0=Qyf s.own ρ)
  (hround:∀l o X φr Wr,(∀n,s.own.length+1<=n->φr n=.unused)->∀x rest t,G (x::rest) t->AWp P X φr Wr (some l) assign (Zkc P X φr Wr l s.own.length o body (Zpp kb Q s l (G rest) own s.own.length)) ⟨Zrj s.regs ps (avs x),own t++[Slot.far (farL l o)]⟩)
  (hdone:∀t,G [] t->Q .normal ⟨s.regs,own t++[.dead]⟩):AWp P X φ0 w0 none (.rangeFunc g ps assign body) Q s:=
 Zj3 ρ h00 hdr0 seq hcall hg hdec hcaps hσ hs hps hne hreg own hk G t0 hG h0 (fun l o X φr Wr hr x rest t ht=>Zn2 (Zbh ps.toList (encs x) (avs x) s.regs s.regs (Q05 _) (havs x)) (hround l o X φr Wr hr x rest t ht)) hdone
def Zhq {kb n:Nat}{l:List (Nat×AV)}(h:∀p∈l,NLt kb p.2):∀v∈mk n l,NLt kb v:=by
 have:∀(l:List (Nat×AV)) (r:List AV),(∀v∈r,NLt kb v)->(∀p∈l,NLt kb p.2)->∀v∈l.foldl (fun r p=>r.set p.1 p.2) r,NLt kb v:=by
  intro l
  induction l with
  |nil=>intro r h _;exact h
  |cons p l ih=>
   intro r h hp
   refine ih (r.set p.1 p.2) (fun v hv=>?_) fun q hq=>hp q (Xal _ hq)
   rcases Xd8 hv with h1 |h1
   ·exact h v h1
   rw[h1];exact hp p (by simp)
 exact this l _ (fun v hv=>by rw[Xed hv];exact .any) h
def Q8e {kb:Nat}:∀p∈([]:List (Nat×AV)),NLt kb p.2:=by simp
def Qmk {kb t:Nat}{a:AV}{l:List (Nat×AV)}(h:NLt kb a) (hl:∀p∈l,NLt kb p.2):∀p∈(t,a)::l,NLt kb p.2:=fun p hp=>by
 rcases Xa7.1 hp with rfl |hp
 ·exact h
 exact hl p hp
def Qpq {n ty m q mq:Nat}{c:List AV}(i:Nat) {s:AS}(hq:s.own.getD q .unused=.own mq [c]) (hc:c[i]? = some (.lit (.slice none 0 0))) (hn:s.own.length=n) (hqn:q<n):Mor X φ0 w0 s ⟨s.regs,s.own.set q (.own mq [c.set i (.acc n ty m [])])++[.tok]⟩:=by
 refine Zbc n ty m ?_ (LPw.refl (fun a=>.same a) _) ?_ fun k hk=>?_
 ·simp[AS.slot,<-hn]
 ·simp[<-hn]
 have hke:(s.own.set q (.own mq [c.set i (.acc n ty m [])])++[Slot.tok]).getD k .unused=(s.own.set q (.own mq [c.set i (.acc n ty m [])])).getD k .unused:=by
  rcases Xcm k n with h |h
  ·exact Qse (by simpa [hn] using h)
  have h1:(s.own.set q (.own mq [c.set i (.acc n ty m [])])++[Slot.tok])[k]? = none:=Xbb (by simp;omega)
  have h2:(s.own.set q (.own mq [c.set i (.acc n ty m [])]))[k]? = none:=Xbb (by simp;omega)
  simp only[Xaj,h1,h2]
 rw[hke]
 by_cases e:k=q
 ·subst e
  have:(s.own.set k (.own mq [c.set i (.acc n ty m [])])).getD k .unused=.own mq [c.set i (.acc n ty m [])]:=by
   simp[show k<s.own.length by omega]
  rw[this]
  have e2:s.slot k=.own mq [c]:=hq
  rw[e2]
  refine .own mq _ _ rfl fun j x x' h1 h2=>?_
  cases j with
  |zero=>simp at h1 h2;subst h1 h2;exact LPw.set (fun a=>.same a) c i hc .nil
  |succ j=>simp at h1
 have:(s.own.set q (.own mq [c.set i (.acc n ty m [])])).getD k .unused=s.own.getD k .unused:=by
  simp only[Xaj]
  rw[Xci (fun e'=>e e'.symm)]
 rw[this]
 exact SPw.refl (fun a=>.same a) _
end
end
section
section
variable {P : Program} {o : Oper} {X : Nat -> Nat -> Prop} {φ φ' : Nat -> FSlot} {w w' : World}
def Evo.allocT {n:Nat}(hn:φ n=.unused) (hlt:∀n b,(φ n).lies b->b<w.heap.size) (ob:Obj):Evo X φ w (upd φ n (.tok none)) (w.alloc ob):=by
 have ne:∀k,φ k≠.unused->k≠n:=fun k hk e=>hk (e▸hn)
 refine⟨rfl,rfl,rfl,by simp,fun b hb _=>Xbk w ob hb,fun b ⟨k,hk⟩=>?_,fun b off hd=>⟨⟨by simp;have:=hd.lt;omega,hd.hid,fun k hk=>?_,fun k L hk=>?_,fun k Y hk=>?_,fun k bs q hk=>?_⟩,Xcd (Xbk w ob hd.lt)⟩,fun k hk=>?_,fun k b hk=>?_,fun k t hk=>?_,fun k Y hk=>?_,fun k bs hk=>?_,fun k b hk _=>?_⟩
 ·unfold upd at hk
  split at hk
  ·exact(Qe7 hk).elim
  exact .inl ⟨k,hk⟩
 ·unfold upd at hk
  split at hk
  ·cases hk
  exact hd.own k hk
 ·unfold upd at hk
  split at hk
  ·cases hk
  exact hd.tok k L hk
 ·unfold upd at hk
  split at hk
  ·cases hk
  exact hd.far k Y hk
 ·unfold upd at hk
  split at hk
  ·cases hk
  exact hd.mat k bs q hk
 ·rw[upd,Xat (ne k (by rw[hk];simp))];exact hk
 ·rw[upd,Xat (ne k (by rw[hk];simp))];exact .inl hk
 ·rw[upd,Xat (ne k (by rw[hk];simp))]
  exact .inr ⟨hk,fun b L e=>Xbk w ob (hlt k b (.tok (L:=L) (by rw[hk,e])))⟩
 ·rw[upd,Xat (ne k (by rw[hk];simp))];exact .inr ⟨Y,hk⟩
 ·rw[upd,Xat (ne k (by rw[hk];simp))];exact .inr ⟨bs,hk,.refl bs⟩
 exact .same (Xbk w ob (hlt k b (.own hk)))
def Q2f {n:Nat}(hd:Qdu φ):Qdu (upd φ n (.tok none)):=by
 intro k k' b hk hk'
 unfold upd at hk hk'
 split at hk
 ·exact(Qe7 hk).elim
 split at hk'
 ·exact(Qe7 hk').elim
 exact hd k k' b hk hk'
def Qlb {t e:TypeId}{nm m:Nat}{gg:Bool}{zs:List Value}(h:o.op=.buildSlice t 0 #[]) (ht:P.underlying t=some (.slice e)) (he:TI P e gg m) (hz:TZ P e zs) :
  Qd0 P o [] [(nm,.unused)] (.acc nm e m []) [(nm,.tok)]:=by
 intro X φ a w hr hb hd hX hlt next Q k
 have hn:φ nm=.unused:=hb (nm,.unused) (by simp)
 obtain⟨z,hz1,hz2⟩:=hz.run w
 have hexec:∃cs,(execOp a.eval o).run P w=.ok (.value (.slice (some ⟨w.heap.size,0,none⟩) 0 0)) (w.alloc (.cells cs e)):=
  ⟨(Array.range 0).map fun _=>(default:Value),by simp[execOp,h,Instr.buildSlice,Xa8 ht,he.size,newRow,newObj,Instr.fill];rfl⟩
 obtain⟨cs,hexec⟩:=hexec
 have evo:=Evo.allocT (X:=X) hn hlt (.cells cs e)
 refine Qkd hexec ?_
 refine k _ (upd φ nm (.tok none)) _ (RelV.acc nm e m [] _ 0 0 (fun _ _=>undef) (DatOK.nil _ _ _ _ (by simp[maxLen])) (by simp) (by simp[upd]) (fun t ht=>?_)) (fun p hp=>?_) (Q2f hd) (fun q hq=>?_) (fun b hb _=>Xbk w _ hb) evo
 ·simp[upd] at ht
  subst ht
  exact⟨rfl,rfl⟩
 ·simp at hp
  subst hp
  exact⟨none,by simp[upd],fun b L e=>by cases e⟩
 simp at hq
 simp[upd,hq]
def Q9c {t t' e:TypeId}{x y:Operand}{v:AV}{m:Nat}{xs:List (List AV)}(h:o.op=.binOp .eql t x y t') (ht:P.underlying t=some (.slice e)) (hv:Q0a v=some (m,xs)) (hne:xs≠[]) :
  Qd0 P o [(x,v),(y,.lit (.slice none 0 0))] [] (.lit (.bool false)) []:=Qc6 fun X φ ac w hr _=>by
 obtain⟨A,len,cap,g,hx,ok,_⟩:=Qs6 (hr (x,v) (by simp)) hv
 dsimp only at hx
 obtain⟨b,of,hA,_⟩:=ok.hcells hne
 have h2:ac.eval y=.slice none 0 0:=Qd1 (hr (y,.lit (.slice none 0 0)) (by simp))
 have hg:(eqGuard .eql t x y (.slice A len cap) (.slice none 0 0)).run P w=.ok () w:=rfl
 subst hA
 exact⟨_,by simp only[execOp,h,hx,h2,Xav,hg,Xao,Lib.run_eql_slice_nil w t e _ _ _ _ _ ht];rfl,.lit _⟩
def Zn6 {n0:Option Nat}{n b':Nat}{e:TypeId}{cur':Array Value}{w':World}(hd:Qdu φ) (hlt:∀n b,(φ n).lies b->b<w.heap.size) (hn:φ n=.unused)
  (hc:(∃(k:Nat) (cur:Array Value),n0=some k/\φ k=.tok (some (b',0))/\w.heap[b']? = some (.cells cur e (0,0))/\w'=w.setRow b' cur')\/(b'=w.heap.size/\w'=w.drew.alloc (.cells cur' e)/\∀k,n0=some k->∃t,φ k=.tok t)) :
  Evo X φ w (fun k=>if k=n then .own b' else if some k=n0 then .dead else φ k) w'/\Qdu (fun k=>if k=n then FSlot.own b' else if some k=n0 then .dead else φ k):=by
 have ne:∀k,φ k≠.unused->k≠n:=fun k hk e=>hk (e▸hn)
 have only:∀k,(φ k).lies b'->some k=n0\/k=n:=fun k hk=>by
  rcases hc with ⟨k0,cur,rfl,h1,_⟩ |⟨rfl,_⟩
  ·exact .inl (Xek some (hd k k0 b' hk (.tok h1)))
  exact absurd (hlt k _ hk) (Xdl _)
 have dead0:∀k,some k=n0->∃t,φ k=.tok t:=fun k hk=>by
  rcases hc with ⟨k0,cur,h0,h1,_⟩ |⟨_,_,h2⟩
  ·rw[h0] at hk;cases hk;exact⟨_,h1⟩
  exact h2 k hk.symm
 have hother:∀b,b≠b'->b<w.heap.size->w'.heap[b]? = w.heap[b]? := fun b hb hbl=>by
  rcases hc with ⟨_,_,_,_,_,rfl⟩ |⟨_,rfl,_⟩
  ·exact Xea w b' b cur' hb
  exact Xbk w.drew _ hbl
 have hsize:w.heap.size<=w'.heap.size:=by
  rcases hc with ⟨_,_,_,_,_,rfl⟩ |⟨_,rfl,_⟩<;>simp
 refine⟨⟨?_,?_,?_,hsize,fun b hb hnb=>?_,fun b ⟨k,hk⟩=>?_,fun b off hdat=>?_,fun k hk=>?_,fun k b hk=>?_,fun k t hk=>?_,fun k Y hk=>?_,fun k bs hk=>?_,fun k b hk _=>?_⟩,fun k k' b hk hk'=>?_⟩
 ·rcases hc with ⟨_,_,_,_,_,rfl⟩ |⟨_,rfl,_⟩<;>rfl
 ·rcases hc with ⟨_,_,_,_,_,rfl⟩ |⟨_,rfl,_⟩<;>rfl
 ·rcases hc with ⟨_,_,_,_,_,rfl⟩ |⟨_,rfl,_⟩<;>rfl
 ·refine hother b (fun e=>?_) hb
  rcases hc with ⟨k0,cur,_,h1,_⟩ |⟨h1,_⟩
  ·exact hnb ⟨k0,.tok (L:=0) (by rw[h1,e])⟩
  omega
 ·dsimp only at hk
  split at hk
  ·obtain rfl:=Qir hk
   rcases hc with ⟨k0,cur,_,h1,_⟩ |⟨h1,_⟩
   ·exact .inl ⟨k0,.tok h1⟩
   exact .inr (by omega)
  split at hk
  ·exact(Qba hk).elim
  exact .inl ⟨k,hk⟩
 ·have hbb:b≠b':=fun e=>by
   subst e
   rcases hc with ⟨k0,cur,_,h1,_⟩ |⟨h1,_⟩
   ·exact absurd (hdat.tok k0 0 h1) (Xcl _)
   have:=hdat.lt;omega
  refine⟨⟨Xbc hdat.lt hsize,hdat.hid,fun k hk=>?_,fun k L hk=>?_,fun k Y hk=>?_,fun k bs q hk=>?_⟩,Xcd (hother b hbb hdat.lt)⟩
  ·split at hk
   ·cases hk;exact hbb rfl
   split at hk
   ·cases hk
   exact hdat.own k hk
  ·split at hk
   ·cases hk
   split at hk
   ·cases hk
   exact hdat.tok k L hk
  ·split at hk
   ·cases hk
   split at hk
   ·cases hk
   exact hdat.far k Y hk
  split at hk
  ·cases hk
  split at hk
  ·cases hk
  exact hdat.mat k bs q hk
 ·rw[Xat (ne k (by rw[hk];simp)),Xat (fun e=>by obtain⟨t,ht⟩:=dead0 k e;rw[hk] at ht;cases ht)]
  exact hk
 ·rw[Xat (ne k (by rw[hk];simp)),Xat (fun e=>by obtain⟨t,ht⟩:=dead0 k e;rw[hk] at ht;cases ht)]
  exact .inl hk
 ·rw[Xat (ne k (by rw[hk];simp))]
  by_cases e:some k=n0
  ·rw[Xaz e];exact .inl rfl
  rw[Xat e]
  refine .inr ⟨hk,fun b L ht=>?_⟩
  subst ht
  have hl:(φ k).lies b:=.tok hk
  refine hother b (fun e'=>?_) (hlt k b hl)
  subst e'
  rcases only k hl with h |h
  ·exact e h
  exact ne k (by rw[hk];simp) h
 ·rw[Xat (ne k (by rw[hk];simp)),Xat (fun e=>by obtain⟨t,ht⟩:=dead0 k e;rw[hk] at ht;cases ht)]
  exact .inr ⟨Y,hk⟩
 ·rw[Xat (ne k (by rw[hk];simp)),Xat (fun e=>by obtain⟨t,ht⟩:=dead0 k e;rw[hk] at ht;cases ht)]
  exact .inr ⟨bs,hk,.refl bs⟩
 ·have hl:(φ k).lies b:=.own hk
  refine .same (hother b (fun e'=>?_) (hlt k b hl))
  subst e'
  rcases only k hl with h |h
  ·obtain⟨t,ht⟩:=dead0 k h;rw[hk] at ht;cases ht
  exact ne k (by rw[hk];simp) h
 dsimp only at hk hk'
 split at hk<;>split at hk'
 ·simp_all
 ·obtain rfl:=Qir hk
  split at hk'
  ·exact(Qba hk').elim
  rcases only k' hk' with h |h<;>contradiction
 ·obtain rfl:=Qir hk'
  split at hk
  ·exact(Qba hk).elim
  rcases only k hk with h |h<;>contradiction
 split at hk
 ·exact(Qba hk).elim
 split at hk'
 ·exact(Qba hk').elim
 exact hd k k' b hk hk'
def Zd3 {x y:Operand}{t e:TypeId}{m m' bytes:Nat}{v u:AV}{ys:List (List AV)}{n0:Option Nat}{n:Nat}(h:o.op=.call { callee:=.builtin .append,args := #[x,y],argTypes := #[t,t] }) (ht:P.underlying t=some (.slice e)) (he:TE P e m bytes)
  (hv:Base e m v [] n0) (hu:Q0a u=some (m',ys)) (hm':m'=m) (hne:ys≠[]) (h1:(ys.all fun y=>y.all AV.one)=true) (hb:(0+ys.length)*bytes<=140737488355328) (h63:0+ys.length<=maxLen) {L:Nat}(hL:ys.length=L) :
  Qd0 P o [(x,v),(y,u)] (Qzk n0++[(n,.unused)]) (.own n m 0 L) (Qm1 n0++[(n,.own m ys)]):=by
 subst hm' hL
 intro X φ a w hrd hbl hd hX hlt next Q k
 have hn:φ n=.unused:=hbl (n,.unused) (by simp)
 have hpos:=he.pos
 obtain⟨A,len,cap,g,hy,ok,hr⟩:=Qs6 (hrd (y,u) (by simp)) hu
 dsimp only at hy
 obtain⟨ad,news,rfl,hnl,hnc,hn1,hng⟩:=Qzg ok hr hpos hne h1
 have elen:=ok.hlen
 subst elen
 have hx:=hrd (x,v) (by simp)
 dsimp only at hx
 have hbase:(n0=none/\∃A,a.eval x=.slice A 0 0)\/∃k0,n0=some k0/\((φ k0=.tok none/\∃A,a.eval x=.slice A 0 0)\/∃b cap cur,φ k0=.tok (some (b,0))/\a.eval x=.slice (some ⟨b,0,none⟩) 0 cap/\w.heap[b]? = some (.cells cur e (0,0))/\cur.size=cap*m'/\cap<=maxLen/\∀off,¬X b off):=by
  generalize hxs:([]:List (List AV))=xs0 at hv
  cases hv with
  |nil=>exact .inl ⟨rfl,_,Qd1 hx⟩
  |acc k0 _=>
   subst hxs
   obtain⟨T,hT,hT2⟩:=hbl (k0,.tok) (by simp[Qzk])
   cases hxe:a.eval x with
   |slice A len cap=>
    rw[hxe] at hx
    cases hx with
    |acc _ _ _ _ _ _ _ gx okx hrx hnx htip=>
     have tip:=htip T hT
     unfold Tip at tip
     have el:=okx.hlen
     simp only[Xcg] at el
     subst el
     cases T with
     |none=>
      obtain⟨_,rfl⟩:=tip
      exact .inr ⟨k0,rfl,.inl ⟨hT,_,rfl⟩⟩
     |some p=>
      obtain⟨b,L⟩:=p
      obtain⟨rfl,h2,cur,hc1,hc2,hc3⟩:=tip
      rw[Xgs] at h2
      subst h2
      exact .inr ⟨k0,rfl,.inr ⟨b,cap,cur,hT,rfl,hc1,hc2,hc3,(hT2 b _ rfl).2⟩⟩
   |_=>rw[hxe] at hx;cases hx
 have hsv:((∃A,a.eval x=.slice A 0 0)/\0=0)\/∃g cap cur,a.eval x=.slice (some ⟨g,0,none⟩) 0 cap/\w.heap[g]? = some (.cells cur e (0,0))/\cur.size=cap*m'/\0<=cap/\cap<=maxLen/\cur.toList.take (0*m')=[]:=by
  rcases hbase with ⟨_,h3⟩ |⟨k0,_,⟨_,h3⟩ |⟨b,cap,cur,h2,h3,h4,h5,h6,_⟩⟩
  ·exact .inl ⟨h3,rfl⟩
  ·exact .inl ⟨h3,rfl⟩
  exact .inr ⟨b,cap,cur,h3,h4,h5,Xbg _,h6,by simp⟩
 obtain⟨b',cap',cur',w',hrun,c1,c2,c3,c4,c5⟩:=Qvz (P:=P) (ty:=o.type) ht he (a.eval x) 0 [] (by simp) hsv ad ys.length cap news hnl hnc hn1 (Xc4.2 hne) hb h63
 have hexec:(execOp a.eval o).run P w=.ok (.value (.slice (some ⟨b',0,none⟩) (0+ys.length) cap')) w':=by
  simp only[execOp,h,resolve,invoke,builtin,Xav,Xcr,Xao,Xgo,Xax,Xbz,hy,hrun]
 have hcase:(∃(k:Nat) (cur:Array Value),n0=some k/\φ k=.tok (some (b',0))/\w.heap[b']? = some (.cells cur e (0,0))/\w'=w.setRow b' cur')\/(b'=w.heap.size/\w'=w.drew.alloc (.cells cur' e)/\∀k,n0=some k->∃t,φ k=.tok t):=by
  rcases c5 with ⟨capx,h3,hroom,h4⟩ |⟨h3,h4⟩
  ·rcases hbase with ⟨_,A,h6⟩ |⟨k0,h5,⟨_,A,h6⟩ |⟨b,cap,cur,h2,h6,h7,h8,h9,_⟩⟩
   ·rw[h6] at h3
    have hc:=(Xfb h3).2.2
    have:=Xc4.2 hne
    omega
   ·rw[h6] at h3
    have hc:=(Xfb h3).2.2
    have:=Xc4.2 hne
    omega
   rw[h6] at h3
   cases h3
   exact .inl ⟨k0,cur,h5,h2,h7,h4⟩
  refine .inr ⟨h3,h4,fun k hk=>?_⟩
  rcases hbase with ⟨h5,_⟩ |⟨k0,h5,⟨h2,_⟩ |⟨b,cap,cur,h2,_⟩⟩
  ·rw[h5] at hk;cases hk
  ·rw[h5] at hk;cases hk;exact⟨_,h2⟩
  rw[h5] at hk;cases hk;exact⟨_,h2⟩
 rw[Xar] at hexec c2 c4
 have cget:∀off,off<ys.length*m'->cur'[off]? = news[off]? := fun off ho=>by
  rw[Xa9] at c4
  rw[<-c4,Xbi,Xaz ho,Xb5]
 have hheap:w'.heap[b']? = some (.cells cur' e (0,0)):=by
  rcases hcase with ⟨_,cur,_,_,h3,rfl⟩ |⟨rfl,rfl,_⟩
  ·exact Xgq w b' cur cur' _ _ h3
  exact Xel w.drew _
 have hXb:∀off,¬X b' off:=fun off hx'=>by
  rcases hcase with ⟨k1,cur,h6,h7,_⟩ |⟨h6,_⟩
  ·rcases hbase with ⟨h5,_⟩ |⟨k0,h5,⟨h8,_⟩ |⟨b,cap,cur2,h8,_,_,_,_,h9⟩⟩
   ·rw[h5] at h6;cases h6
   ·rw[h5] at h6;cases h6;rw[h8] at h7;cases h7
   rw[h5] at h6;cases h6;rw[h8] at h7;cases h7;exact h9 off hx'
  have:=hX _ _ hx';omega
 obtain⟨evo,hd'⟩:=Zn6 (X:=X) hd hlt hn hcase
 refine Qkd hexec ?_
 refine k _ _ w' (.own _ _ _ _ _ _ c2 c3 (by simp) fun b hb'=>?_) (fun p hp=>?_) hd' (fun q hq=>?_) (fun b hb hfr=>?_) evo
 ·simp at hb'
  subst hb'
  simp
 ·simp only[Xby,Xbq] at hp
  rcases hp with hp |rfl
  ·cases n0 with
   |none=>simp[Qm1] at hp
   |some k0=>
    simp only[Qm1,Xbq] at hp
    subst hp
    have:k0≠n:=fun e=>by
     rcases hbase with ⟨h5,_⟩ |⟨k1,h5,⟨h8,_⟩ |⟨_,_,_,h8,_⟩⟩<;>cases h5<;>rw[e,hn] at h8<;>cases h8
    show(if k0=n then _ else _)=_
    rw[Xat this,Xaz rfl]
  refine⟨b',by simp,⟨cur',e,hheap,?_,ok.hsize,fun j z hj i u hu=>?_⟩,hXb⟩
  ·rw[c1];exact Xbl _ c2
  have hjl:=(Xad.1 hj).1
  have him:i<m':=by
   have:=ok.hsize z (Xac hj)
   have:=(Xad.1 hu).1
   omega
  rw[Xaf,cget _ (Qft hjl him),hng j i hjl him]
  exact(hr j z hj i u hu).evo evo
 ·have hqn:q≠n:=fun e=>hq (by simp[e])
  have hq0:¬some q=n0:=fun e=>by
   subst e
   exact hq (by simp[Qm1])
  simp[hqn,hq0]
 rcases hcase with ⟨k1,cur,h6,h7,h8,rfl⟩ |⟨rfl,rfl,_⟩
 ·refine Xea w b' b cur' (fun e=>?_)
  subst e
  subst h6
  exact hfr (k1,.dead) (by simp[Qm1]) (.tok h7)
 exact Xbk w.drew _ hb
def Qmz {α β:Type}{l:List α}{c:α->β}(h:(!l.isEmpty)=true):l.map c≠[]:=by
 cases l<;>simp_all
end
end
section
section
variable {P : Program} {o : Oper} {X : Nat -> Nat -> Prop} {φ0 : Nat -> FSlot} {w0 : World} {s : AS}
inductive OpG (n:Nat) (ty:TypeId) (m:Nat):AV->AV->Prop where
 |same (a:AV):OpG n ty m a a
 |nil:OpG n ty m (.lit (.slice none 0 0)) (.gro n ty m 0)
def Zhx (n:Nat) (ty:TypeId) (m:Nat) (hs:s.slot n=.unused) {regs':List AV}{own':List Slot}(hr:LPw (OpG n ty m) s.regs regs') (hd:own'.getD n .unused=.gro m []) (ho:∀k,k≠n->SPw (OpG n ty m) (s.slot k) (own'.getD k .unused)):Mor X φ0 w0 s ⟨regs',own'⟩:=
 Qug (R:=OpG n ty m) (fun φ w henv=>by
  have hn:φ n=.unused:=by
   have:=henv.slot n
   rw[hs] at this
   exact this
  have ne:∀q,φ q≠.unused->q≠n:=fun q hq e=>hq (e▸hn)
  have evo:Evo X φ w (upd φ n (.tok none)) w:=by
   refine⟨rfl,rfl,rfl,Xay _,fun _ _ _=>rfl,fun b' ⟨q,hq⟩=>?_,fun b' off hdat=>⟨⟨hdat.lt,hdat.hid,fun q hq=>?_,fun q L hq=>?_,fun q Y hq=>?_,fun q bs z hq=>?_⟩,rfl⟩,fun q hq=>?_,fun q b' hq=>?_,fun q t hq=>?_,fun q Y hq=>?_,fun q bs hq=>?_,fun _ _ _ _=>.same rfl⟩
   ·unfold upd at hq
    split at hq
    ·first |exact(Qba hq).elim |exact(Qe7 hq).elim
    exact .inl ⟨q,hq⟩
   ·unfold upd at hq
    split at hq
    ·cases hq
    exact hdat.own q hq
   ·unfold upd at hq
    split at hq
    ·cases hq
    exact hdat.tok q L hq
   ·unfold upd at hq
    split at hq
    ·cases hq
    exact hdat.far q Y hq
   ·unfold upd at hq
    split at hq
    ·cases hq
    exact hdat.mat q bs z hq
   ·unfold upd;rw[Xat (ne q (by rw[hq];simp))];exact hq
   ·unfold upd;rw[Xat (ne q (by rw[hq];simp))];exact .inl hq
   ·unfold upd;rw[Xat (ne q (by rw[hq];simp))];exact .inr ⟨hq,fun _ _ _=>rfl⟩
   ·unfold upd;rw[Xat (ne q (by rw[hq];simp))];exact .inr ⟨Y,hq⟩
   unfold upd;rw[Xat (ne q (by rw[hq];simp))];exact .inr ⟨bs,hq,.refl bs⟩
  have hR:∀a a' v,OpG n ty m a a'->RelV X φ w a v->RelV X (upd φ n (.tok none)) w a' v:=fun a a' v hf hv=>by
   cases hf with
   |same=>exact hv.evo evo
   |nil=>
    have:=Qd1 hv
    subst this
    exact .gro n ty m 0 none 0 (Xay _) (Xbg _) (by simp[upd]) (fun _=>⟨rfl,rfl⟩) (fun b hb=>by simp[upd] at hb)
  refine⟨upd φ n (.tok none),evo,fun q q' b' h1 h2=>?_,fun q=>?_,hR⟩
  ·unfold upd at h1 h2
   split at h1
   ·first |exact(Qba h1).elim |exact(Qe7 h1).elim
   split at h2
   ·first |exact(Qba h2).elim |exact(Qe7 h2).elim
   exact henv.distinct q q' b' h1 h2
  by_cases e:q=n
  ·subst e
   rw[hd]
   exact .inl ⟨rfl,by simp[upd]⟩
  have hsp:=ho q e
  have hok:=henv.slot q
  have eq:upd φ n (.tok none) q=φ q:=by simp[upd,e]
  generalize s.slot q=s1 at hsp hok
  generalize own'.getD q .unused=s2 at hsp
  cases hsp with
  |unused=>exact eq.trans hok
  |dead=>exact eq.trans hok
  |tok=>obtain⟨t,ht,ht'⟩:=hok;exact⟨t,eq.trans ht,ht'⟩
  |own m xs xs' hl' hp=>obtain⟨b,hb,hown⟩:=hok;exact⟨b,eq.trans hb,hown.pw hR hl' hp⟩
  |gro m xs xs' hl' hp=>
   rcases hok with ⟨h1,h2⟩ |⟨b,hb,hown⟩
   ·exact .inl ⟨Xau (by rw[<-hl',h1];rfl),eq.trans h2⟩
   exact .inr ⟨b,eq.trans hb,hown.pw hR hl' hp⟩
  |far J=>
   obtain⟨Y,D,B,f1,f2,f3⟩:=hok
   exact⟨Y,D,B,eq.trans f1,f2,f3.own,fun b off hx hy=>⟨(evo.dat b off (f3.dat b off hx hy).1).1,(f3.dat b off hx hy).2⟩,f3.os,f3.tape,f3.output,f3.size⟩
  |mat m rows hp=>
   obtain⟨bs,m1,m2,m3,m4⟩:=hok
   refine⟨bs,eq.trans m1,m2,m3,fun k xs hk=>?_⟩
   rcases m4 k xs hk with m5 |⟨b,m5,m6⟩
   ·exact .inl m5
   exact .inr ⟨b,m5,m6.pw hR rfl fun j x x' h1 h2=>by rw[h1] at h2;cases h2;exact hp xs (Xac hk) x (Xac h1)⟩
  |mp es clock=>obtain⟨b,hb,hown⟩:=hok;exact⟨b,eq.trans hb,hown⟩) hr
end
section
variable {P : Program} {o : Oper} {X : Nat -> Nat -> Prop} {φ : Nat -> FSlot} {w : World}
def Zn7 {n0 n b':Nat}{e:TypeId}{cur':Array Value}{w':World}(hd:Qdu φ) (hlt:∀n b,(φ n).lies b->b<w.heap.size) (hn:φ n=.unused)
  (h0:φ n0=.tok none\/∃b,φ n0=.own b) (hc:(∃(cur:Array Value),φ n0=.own b'/\w.heap[b']? = some (.cells cur e (0,0))/\w'=w.setRow b' cur')\/(b'=w.heap.size/\w'=w.drew.alloc (.cells cur' e))) :
  Evo X φ w (fun k=>if k=n then .own b' else if k=n0 then .dead else φ k) w'/\Qdu (fun k=>if k=n then FSlot.own b' else if k=n0 then .dead else φ k):=by
 have ne:∀k,φ k≠.unused->k≠n:=fun k hk e=>hk (e▸hn)
 have only:∀k,(φ k).lies b'->k=n0\/k=n:=fun k hk=>by
  rcases hc with ⟨cur,h1,_⟩ |⟨rfl,_⟩
  ·exact .inl (hd k n0 b' hk (.own h1))
  exact absurd (hlt k _ hk) (Xdl _)
 have dead0:∀k,k=n0->φ k=.tok none\/∃b,φ k=.own b:=fun k hk=>by subst hk;exact h0
 have hother:∀b,b≠b'->b<w.heap.size->w'.heap[b]? = w.heap[b]? := fun b hb hbl=>by
  rcases hc with ⟨_,_,_,rfl⟩ |⟨_,rfl⟩
  ·exact Xea w b' b cur' hb
  exact Xbk w.drew _ hbl
 have hsize:w.heap.size<=w'.heap.size:=by
  rcases hc with ⟨_,_,_,rfl⟩ |⟨_,rfl⟩<;>simp
 refine⟨⟨?_,?_,?_,hsize,fun b hb hnb=>?_,fun b ⟨k,hk⟩=>?_,fun b off hdat=>?_,fun k hk=>?_,fun k b hk=>?_,fun k t hk=>?_,fun k Y hk=>?_,fun k bs hk=>?_,fun k b hk hk2=>?_⟩,fun k k' b hk hk'=>?_⟩
 ·rcases hc with ⟨_,_,_,rfl⟩ |⟨_,rfl⟩<;>rfl
 ·rcases hc with ⟨_,_,_,rfl⟩ |⟨_,rfl⟩<;>rfl
 ·rcases hc with ⟨_,_,_,rfl⟩ |⟨_,rfl⟩<;>rfl
 ·refine hother b (fun e=>?_) hb
  rcases hc with ⟨cur,h1,_⟩ |⟨h1,_⟩
  ·exact hnb ⟨n0,.own (by rw[h1,e])⟩
  omega
 ·dsimp only at hk
  split at hk
  ·obtain rfl:=Qir hk
   rcases hc with ⟨cur,h1,_⟩ |⟨h1,_⟩
   ·exact .inl ⟨n0,.own h1⟩
   exact .inr (by omega)
  split at hk
  ·exact(Qba hk).elim
  exact .inl ⟨k,hk⟩
 ·have hbb:b≠b':=fun e=>by
   subst e
   rcases hc with ⟨cur,h1,_⟩ |⟨h1,_⟩
   ·exact hdat.own n0 h1
   have:=hdat.lt;omega
  refine⟨⟨Xbc hdat.lt hsize,hdat.hid,fun k hk=>?_,fun k L hk=>?_,fun k Y hk=>?_,fun k bs q hk=>?_⟩,Xcd (hother b hbb hdat.lt)⟩
  ·split at hk
   ·cases hk;exact hbb rfl
   split at hk
   ·cases hk
   exact hdat.own k hk
  ·split at hk
   ·cases hk
   split at hk
   ·cases hk
   exact hdat.tok k L hk
  ·split at hk
   ·cases hk
   split at hk
   ·cases hk
   exact hdat.far k Y hk
  split at hk
  ·cases hk
  split at hk
  ·cases hk
  exact hdat.mat k bs q hk
 ·rw[Xat (ne k (by rw[hk];simp)),Xat (fun e=>by rcases dead0 k e with ht |⟨b,ht⟩<;>rw[hk] at ht<;>cases ht)]
  exact hk
 ·rw[Xat (ne k (by rw[hk];simp))]
  by_cases e:k=n0
  ·rw[Xaz e];exact .inr rfl
  rw[Xat e];exact .inl hk
 ·rw[Xat (ne k (by rw[hk];simp))]
  by_cases e:k=n0
  ·rw[Xaz e];exact .inl rfl
  rw[Xat e]
  refine .inr ⟨hk,fun b L ht=>?_⟩
  subst ht
  have hl:(φ k).lies b:=.tok hk
  refine hother b (fun e'=>?_) (hlt k b hl)
  subst e'
  rcases only k hl with h |h
  ·exact e h
  exact ne k (by rw[hk];simp) h
 ·rw[Xat (ne k (by rw[hk];simp)),Xat (fun e=>by rcases dead0 k e with ht |⟨b,ht⟩<;>rw[hk] at ht<;>cases ht)]
  exact .inr ⟨Y,hk⟩
 ·rw[Xat (ne k (by rw[hk];simp)),Xat (fun e=>by rcases dead0 k e with ht |⟨b,ht⟩<;>rw[hk] at ht<;>cases ht)]
  exact .inr ⟨bs,hk,.refl bs⟩
 ·have hl:(φ k).lies b:=.own hk
  refine .same (hother b (fun e'=>?_) (hlt k b hl))
  subst e'
  rcases only k hl with h |h
  ·rw[Xat (ne k (by rw[hk];simp)),Xaz h] at hk2;cases hk2
  exact ne k (by rw[hk];simp) h
 dsimp only at hk hk'
 split at hk<;>split at hk'
 ·simp_all
 ·obtain rfl:=Qir hk
  split at hk'
  ·exact(Qba hk').elim
  rcases only k' hk' with h |h<;>contradiction
 ·obtain rfl:=Qir hk'
  split at hk
  ·exact(Qba hk).elim
  rcases only k hk with h |h<;>contradiction
 split at hk
 ·exact(Qba hk).elim
 split at hk'
 ·exact(Qba hk').elim
 exact hd k k' b hk hk'
def Zd4 {x y:Operand}{t e:TypeId}{m m' bytes:Nat}{u:AV}{xs ys:List (List AV)}{n0 n len:Nat}(h:o.op=.call { callee:=.builtin .append,args := #[x,y],argTypes := #[t,t] }) (ht:P.underlying t=some (.slice e)) (he:TE P e m bytes)
  (hlen:xs.length=len) (hu:Q0a u=some (m',ys)) (hm':m'=m) (hne:ys≠[]) (h1:(ys.all fun y=>y.all AV.one)=true) (hb:(xs.length+ys.length)*bytes<=140737488355328) (h63:xs.length+ys.length<=maxLen) {L:Nat}(hL:len+ys.length=L) :
  Qd0 P o [(x,.gro n0 e m len),(y,u)] [(n0,.gro m xs),(n,.unused)] (.gro n e m L) [(n0,.dead),(n,.gro m (xs++ys))]:=by
 subst hm' hlen hL
 intro X φ a w hrd hbl hd hX hlt next Q k
 have hn:φ n=.unused:=hbl (n,.unused) (by simp)
 have hpos:=he.pos
 obtain⟨A,len,cap,g,hy,ok,hr⟩:=Qs6 (hrd (y,u) (by simp)) hu
 dsimp only at hy
 obtain⟨ad,news,rfl,hnl,hnc,hn1,hng⟩:=Qzg ok hr hpos hne h1
 have elen:=ok.hlen
 subst elen
 have hx:=hrd (x,.gro n0 e m' xs.length) (by simp)
 dsimp only at hx
 have hs0:=hbl (n0,.gro m' xs) (by simp)
 obtain⟨A1,cap1,hxe,hc1,hcm,hv,ho⟩:∃A1 cap1,a.eval x=.slice A1 xs.length cap1/\xs.length<=cap1/\cap1<=maxLen/\(φ n0=.tok none->xs.length=0/\cap1=0)/\(∀b,φ n0=.own b->A1=some ⟨b,0,none⟩/\∃cur,w.heap[b]? = some (.cells cur e (0,0))/\cur.size=cap1*m'):=by
  cases hxe:a.eval x with
  |slice A l c=>
   rw[hxe] at hx
   cases hx with
   |gro _ _ _ _ _ _ q1 q2 q3 q4 q5=>exact⟨A,c,rfl,q1,q2,q4,q5⟩
  |_=>rw[hxe] at hx;cases hx
 have h0:φ n0=.tok none\/∃b,φ n0=.own b:=by
  rcases hs0 with ⟨_,h⟩ |⟨b,h,_⟩
  ·exact .inl h
  exact .inr ⟨b,h⟩
 obtain⟨olds,hol,hsv,hog⟩:∃olds:List Value,olds.length=xs.length*m'/\(((∃A,a.eval x=.slice A 0 0)/\xs.length=0)\/∃g cap cur,a.eval x=.slice (some ⟨g,0,none⟩) xs.length cap/\w.heap[g]? = some (.cells cur e (0,0))/\cur.size=cap*m'/\xs.length<=cap/\cap<=maxLen/\cur.toList.take (xs.length*m')=olds) /\
   (∀j z,xs[j]? = some z->z.length=m'/\∀i c,z[i]? = some c->∃v,olds[j*m'+i]? = some v/\RelV X φ w c v):=by
  rcases hs0 with ⟨rfl,h⟩ |⟨b,h,hown⟩
  ·obtain⟨q1,q2⟩:=hv h
   subst q2
   exact⟨[],by simp,.inl ⟨⟨A1,hxe⟩,rfl⟩,by simp⟩
  obtain⟨rfl,cur,q3,q4⟩:=ho b h
  obtain⟨⟨cur2,ty2,r1,r2,r3,r4⟩,_⟩:=hown
  rw[q3] at r1
  cases r1
  refine⟨cur.toList.take (xs.length*m'),by simp;omega,.inr ⟨b,cap1,cur,hxe,q3,q4,hc1,hcm,rfl⟩,fun j z hj=>⟨r3 z (Xac hj),fun i c hi=>?_⟩⟩
  have hjl:=(Xad.1 hj).1
  have him:i<m':=by
   have:=r3 z (Xac hj)
   have:=(Xad.1 hi).1
   omega
  have hoff:=Qft hjl him
  have:=r4 j z hj i c hi
  have hlt2:j*m'+i<cur.size:=by omega
  refine⟨cur.getD (j*m'+i) undef,?_,this⟩
  rw[Xbi,Xaz hoff,Xb5,Xaf,Xa1 hlt2]
  rfl
 obtain⟨b',cap',cur',w',hrun,c1,c2,c3,c4,c5⟩:=Qvz (P:=P) (ty:=o.type) ht he (a.eval x) xs.length olds hol hsv ad ys.length cap news hnl hnc hn1 (Xc4.2 hne) hb h63
 have hexec:(execOp a.eval o).run P w=.ok (.value (.slice (some ⟨b',0,none⟩) (xs.length+ys.length) cap')) w':=by
  simp only[execOp,h,resolve,invoke,builtin,Xav,Xcr,Xao,Xgo,Xax,Xbz,hy,hrun]
 have hcase:(∃(cur:Array Value),φ n0=.own b'/\w.heap[b']? = some (.cells cur e (0,0))/\w'=w.setRow b' cur')\/(b'=w.heap.size/\w'=w.drew.alloc (.cells cur' e)):=by
  rcases c5 with ⟨capx,h3,hroom,h4⟩ |h3
  ·rcases hs0 with ⟨_,h⟩ |⟨b,h,_⟩
   ·obtain⟨q1,q2⟩:=hv h
    rw[hxe] at h3
    have hc:=(Xfb h3).2.2
    have:=Xc4.2 hne
    omega
   obtain⟨q1,cur,q3,_⟩:=ho b h
   rw[hxe,q1] at h3
   have hb2:=(Xfb h3).1
   cases hb2
   exact .inl ⟨cur,h,q3,h4⟩
  exact .inr h3
 have cget:∀off,off<(xs.length+ys.length)*m'->cur'[off]? = (olds++news)[off]? := fun off ho=>by
  rw[<-c4,Xbi,Xaz ho,Xb5]
 have hheap:w'.heap[b']? = some (.cells cur' e (0,0)):=by
  rcases hcase with ⟨cur,_,h3,rfl⟩ |⟨rfl,rfl⟩
  ·exact Xgq w b' cur cur' _ _ h3
  exact Xel w.drew _
 have hXb:∀off,¬X b' off:=fun off hx'=>by
  rcases hcase with ⟨cur,h6,_⟩ |⟨h6,_⟩
  ·rcases hs0 with ⟨_,h⟩ |⟨b,h,hown⟩
   ·rw[h] at h6;cases h6
   rw[h] at h6;cases h6;exact hown.hid off hx'
  have:=hX _ _ hx';omega
 obtain⟨evo,hd'⟩:=Zn7 (X:=X) hd hlt hn h0 hcase
 have hnn:n0≠n:=fun e=>by
  subst e
  rcases h0 with h |⟨b,h⟩<;>rw[hn] at h<;>cases h
 refine Qkd hexec ?_
 refine k _ _ w' (.gro _ _ _ _ _ _ c2 c3 (by simp) (fun h=>by simp at h) fun b hb'=>?_) (fun p hp=>?_) hd' (fun q hq=>?_) (fun b hb hfr=>?_) evo
 ·simp at hb'
  subst hb'
  exact⟨rfl,cur',hheap,c1⟩
 ·simp only[Xa7,List.not_mem_nil,or_false] at hp
  rcases hp with rfl |rfl
  ·show(if n0=n then _ else _)=_
   rw[Xat hnn,Xaz rfl]
  refine .inr ⟨b',by simp,⟨cur',e,hheap,?_,fun z hz=>?_,fun j z hj i c hi=>?_⟩,hXb⟩
  ·rw[c1,Xb1];exact Xbl _ c2
  ·rcases Xby.1 hz with hz |hz
   ·obtain⟨j,hj,rfl⟩:=Xdz hz
    exact(hog j _ (Xab hj)).1
   exact ok.hsize z hz
  have hjl:j<xs.length+ys.length:=by simpa using(Xad.1 hj).1
  rw[Xaf]
  by_cases hjx:j<xs.length
  ·rw[Xas hjx] at hj
   obtain⟨hz,hzr⟩:=hog j z hj
   have him:i<m':=by
    have:=(Xad.1 hi).1
    omega
   obtain⟨v,hv1,hv2⟩:=hzr i c hi
   rw[cget _ (Qft hjl him),Xas (by rw[hol];exact Qft hjx him),hv1]
   exact hv2.evo evo
  rw[Xam (by omega)] at hj
  have him:i<m':=by
   have:=ok.hsize z (Xac hj)
   have:=(Xad.1 hi).1
   omega
  have e1:j*m'+i-olds.length=(j-xs.length)*m'+i:=by
   rw[hol,Nat.sub_mul]
   have:=Xbl m' (show xs.length<=j by omega)
   omega
  rw[cget _ (Qft hjl him),Xam (by rw[hol];have:=Xbl m' (show xs.length<=j by omega);omega),e1,hng (j-xs.length) i (by omega) him]
  exact(hr (j-xs.length) z hj i c hi).evo evo
 ·have hqn:q≠n:=fun e=>hq (by simp[e])
  have hq0:q≠n0:=fun e=>hq (by simp[e])
  simp[hqn,hq0]
 rcases hcase with ⟨cur,h6,h8,rfl⟩ |⟨rfl,rfl⟩
 ·refine Xea w b' b cur' (fun e=>?_)
  subst e
  exact hfr (n0,.dead) (by simp) (.own h6)
 exact Xbk w.drew _ hb
inductive OpU (n:Nat):AV->AV->Prop where
 |same (a:AV):OpU n a a
 |own (ty m len:Nat):OpU n (.gro n ty m len) (.own n m 0 len)
end
end
section
def Less.gro {n:Nat}{ty:TypeId}{m len:Nat}:Less (.gro n ty m len) (.own n m 0 len):=fun _ _ _ _ h=>by
 cases h with
 |gro _ _ _ _ A cap hc hm hn hv h=>exact .own n m 0 len A cap hc hm hn fun b hb=>by rw[(h b hb).1];simp
def SLess (s t:Slot):Prop:=∀(X:Nat->Nat->Prop) (φ:Nat->FSlot) (w:World) (n:Nat),SlotOK X φ w n s->SlotOK X φ w n t
def SLess.rfl {s:Slot}:SLess s s:=fun _ _ _ _ h=>h
def SLess.gro {m:Nat}{xs:List (List AV)}(hne:xs≠[]):SLess (.gro m xs) (.own m xs):=fun _ _ _ _ h=>by
 rcases h with ⟨h,_⟩ |h
 ·exact absurd h hne
 exact h
def BW:List (Nat×Slot)->List (Nat×Slot)->Prop
 |[],[]=>True
 |p::l,q::k=>p.1=q.1/\SLess p.2 q.2/\BW l k
 |_,_=>False
def BW.get:∀{l k:List (Nat×Slot)},BW l k->∀q∈k,∃p∈l,p.1=q.1/\SLess p.2 q.2
 |[],[],_,q,hq=>by cases hq
 |p::l,q'::k,h,q,hq=>by
  rcases Xa7.1 hq with rfl |hq
  ·exact⟨p,by simp,h.1,h.2.1⟩
  obtain⟨p',hp',e⟩:=BW.get h.2.2 q hq
  exact⟨p',Xal _ hp',e⟩
section
variable {P : Program} {o : Oper} {rd rd' : List (Operand × AV)} {bl bl' eff : List (Nat × Slot)} {r : AV}
def Qzo (hw:BW bl bl') (h:Qd0 P o rd bl' r eff):Qd0 P o rd bl r eff:=fun X φ a w hr hb=>h X φ a w hr fun q hq=>by
 obtain⟨p,hp,e1,e2⟩:=hw.get q hq
 rw[<-e1]
 exact e2 _ _ _ _ (hb p hp)
end
section
variable {P : Program} {X : Nat -> Nat -> Prop} {φ0 : Nat -> FSlot} {w0 : World} {s : AS}
def Zbd (n:Nat) (ty:TypeId) (m:Nat) (t:Nat) (h1:s.regs[t]? = some nilS) (h2:s.slot n=.unused):Mor X φ0 w0 s ⟨s.regs.set t (.gro n ty m 0),setL s.own n (.gro m [])⟩:=
 Zhx n ty m h2 (LPw.set (fun a=>.same a) _ t h1 .nil) (by rw[Qon,Xaz rfl]) fun k hk=>by
  rw[Qon,Xat (fun e=>hk e.symm)]
  exact SPw.refl (fun a=>.same a) _
def Zmi {n:Nat}(l:List (Nat×AV)) {l':List (Nat×AV)}(hn:(s.regs.length==n)=true) (hmask:Qz8 s.regs (mk n l)=mk n l) (hr:PPw Less l l'):Mor X φ0 w0 s ⟨mk n l',s.own⟩:=by
 have hn':s.regs.length=n:=by simpa using hn
 refine Mor.trans (Qsc l hn' hmask) fun φ a w hs=>⟨φ,hs.less ?_⟩
 have key:∀{l k:List AV},LPw Less l k->LessL l k:=by
  intro l
  induction l with
  |nil=>intro k h;cases k with |nil=>trivial |cons=>exact h.elim
  |cons a l ih=>intro k h;cases k with |nil=>exact h.elim |cons b k=>exact⟨h.1,ih h.2⟩
 exact key (Q04 Less.rfl n hr)
end
def Qp1 {ρ:List Nat}{n n':Nat}{ty:TypeId}{m i:Nat}(h:(ρ[n']? == some n)=true):Rn (fun n n'=>ρ[n']? = some n) (.gro n ty m i) (.gro n' ty m i):=.gro (by simpa using h) _ _ _
def Qm8 {M:Nat->Nat->Prop}{m:Nat}{α:Type}{c:α->List AV}{l:List α}(h:∀x,∀a∈c x,NLt 0 a):SPw (RW M) (.gro m (l.map c)) (.gro m (l.map c)):=.gro m _ _ rfl fun j y y' hj hj'=>by
 rw[hj] at hj'
 cases hj'
 have hy:=Qcf h l y (Xac hj)
 clear hj
 induction y with
 |nil=>exact trivial
 |cons a y ih=>exact⟨.rn (.plain a (hy a (by simp))),ih fun b hb=>hy b (Xal _ hb)⟩
def Zr1 {α:Type}{c:α->List AV}{a:List α}:(a.map c).length=a.length:=by simp
def Zr6 {α:Type}(c:α->List AV) {a b:List α}{n:Nat}(h:decide ((a.length+b.length)*n<=140737488355328)=true):((a.map c).length+(b.map c).length)*n<=140737488355328:=by simpa using h
def Qzv {P:Program}{o:Oper}{α:Type}{c:α->List AV}{a b:List α}{x y:Operand}{t e:TypeId}{m bytes:Nat}{u:AV}{n0 n:Nat}(h:o.op=.call { callee:=.builtin .append,args := #[x,y],argTypes := #[t,t] }) (ht:P.underlying t=some (.slice e)) (he:TE P e m bytes)
  (hu:Q0a u=some (m,b.map c)) (hne:b.map c≠[]) (h1:((b.map c).all fun y=>y.all AV.one)=true) (hb:decide ((a.length+b.length)*bytes<=140737488355328)=true) (hp:0<bytes) :
  Qd0 P o [(x,.gro n0 e m a.length),(y,u)] [(n0,.gro m (a.map c)),(n,.unused)] (.gro n e m (a++b).length) [(n0,.dead),(n,.gro m ((a++b).map c))]:=by
 have h2:=Zd4 (o:=o) (n0:=n0) (n:=n) (xs:=a.map c) (len:=a.length) (L:=(a++b).length) h ht he (by simp) hu rfl hne h1 (Zr6 c hb) (by
  have h1:=Xdr hb
  have h2:=Xe6 (a.length+b.length) hp
  simp only[Xb3,maxLen]
  omega) (by simp)
 rwa [<-Xdy] at h2
def Quw {P:Program}{o:Oper}{t t':TypeId}{x y:Operand}{k yk:IntKind}{a b D:Int}(h:o.op=.binOp .shr t x y t') (h0:0<=b) (hD:D=2 ^ min b.toNat k.bits):Qd0 P o [(x,.lit (.int k a)),(y,.lit (.int yk b))] [] (.lit (.int k (a/D))) []:=Qc6 fun X φ ac w hr _=>by
 have h1:ac.eval x=.int k a:=Qd1 (hr (x,.lit (.int k a)) (by simp))
 have h2:ac.eval y=.int yk b:=Qd1 (hr (y,.lit (.int yk b)) (by simp))
 have e:a.fdiv D=a/D:=Int.fdiv_eq_ediv_of_nonneg _ (by rw[hD];exact Int.pow_nonneg (by decide))
 subst hD
 exact⟨_,by simp[execOp,h,h1,h2,eqGuard,binOp,Op.shift,Xhs.2 h0,e],.lit _⟩
def Qfv {P:Program}{o:Oper}{x y:Operand}{t e:TypeId}{gg:Bool}{sz len i i':Nat}{c:List AV}{k:IntKind}{q:Int}(h:o.op=.indexAddr t x y) (ht:P.underlying t=some (.array len e)) (he:TI P e gg sz) (h0:0<=q) (hq:q.toNat<len) (hi:i+q.toNat*sz=i') :
  Qd0 P o [(x,.dptr c i),(y,.lit (.int k q))] [] (.dptr c i') []:=Qc6 fun X φ a w hrd _=>by
 have hx:=hrd (x,.dptr c i) (by simp)
 dsimp only at hx
 have hy:a.eval y=.int k q:=Qd1 (hrd (y,.lit (.int k q)) (by simp))
 cases hv:a.eval x with
 |pointer A=>
  rw[hv] at hx
  cases hx with
  |dptr _ _ b of g' hc hrel=>
   refine⟨.pointer (some ⟨b,of+i+q.toNat*sz,none⟩),?_,?_⟩
   ·have h1:q<(len:Int):=by omega
    simp[execOp,h,hv,hy,Instr.indexAt,Xa8 ht,asIntOf,Instr.sureAddr,h0,h1,he.size,Xfa]
   subst hi
   rw[Xeg]
   exact .dptr c _ b of g' hc hrel
 |_=>rw[hv] at hx;cases hx
class AVo (α:Type) where val:α->Value
instance:AVo Int:=⟨fun x=>.int .i64 x⟩
instance:AVo Bool:=⟨fun b=>.bool b⟩
def Qzx {α:Type} [AVo α]:Nat->Nat->(Nat->α)->List AV
 |0,_,_=>[]
 |n+1,k,f=>.lit (AVo.val (f k))::Qzx n (k+1) f
def arrF {α:Type} [AVo α] (n:Nat) (f:Nat->α):List AV:=Qzx n 0 f
def setF {α:Type}(f:Nat->α) (k:Nat) (x:α):Nat->α:=fun j=>if j=k then x else f j
section
variable {α : Type} [AVo α]
def Q1k:∀(n k:Nat) (f:Nat->α),Qzx n k f=(List.range n).map fun i=>.lit (AVo.val (f (k+i)))
 |0,_,_=>rfl
 |n+1,k,f=>by
  rw[Qzx,Q1k n,List.range_succ_eq_map]
  simp[Xeg,Nat.add_comm 1,Xht]
def Qvy (n:Nat) (f:Nat->α):arrF n f=(List.range n).map fun k=>.lit (AVo.val (f k)):=by rw[arrF,Q1k];simp
def Q30 (n:Nat) (f:Nat->α):(arrF n f).length=n:=by simp[Qvy]
def Qek {R:AV->AV->Prop}:∀{a a' b b':List AV},LPw R a a'->LPw R b b'->LPw R (a++b) (a'++b')
 |[],[],_,_,_,h=>h
 |_::_,_::_,_,_,h,h'=>⟨h.1,Qek h.2 h'⟩
 |[],_::_,_,_,h,_=>h.elim
 |_::_,[],_,_,h,_=>h.elim
def Qbh {R:AV->AV->Prop}{n:Nat}{f:Nat->α}(h:∀v,R (.lit v) (.lit v)):LPw R (arrF n f) (arrF n f):=by
 rw[Qvy]
 induction List.range n with
 |nil=>trivial
 |cons k l ih=>exact⟨h _,ih⟩
def Qvn {n:Nat}{f:Nat->α}:LPw Less (arrF n f) (List.replicate n .any):=by
 have:∀(m k:Nat),LPw Less (Qzx m k f) (List.replicate m .any):=fun m=>by
  induction m with
  |zero=>exact fun _=>trivial
  |succ m ih=>exact fun k=>⟨Less.any,ih (k+1)⟩
 exact this n 0
def Q5k {k n:Nat}{f:Nat->α}:∀a∈arrF n f,NLt k a:=fun a ha=>by
 rw[Qvy] at ha
 obtain⟨i,_,rfl⟩:=Xba.1 ha
 exact .lit _
def Zia {c pre post:List AV}{n off k:Nat}{f:Nat->α}(hc:c=pre++(arrF n f++post)) (hp:pre.length=off) (hk:k<n):ldA false 1 (off+k*1) c=.lit (AVo.val (f k)):=by
 subst hc hp
 simp only[ldA,Xai,Nat.mul_one,Xaj,Xam (Nat.le_add_right _ _),Xdm]
 rw[Xas (by rw[Q30];exact hk)]
 simp[Qvy,hk]
def Qou {c pre post:List AV}{n off k a:Nat}{f:Nat->α}(hc:c=pre++(arrF n f++post)) (hp:pre.length=off) (hk:k<n) (ha:a=off+k*1):ldA false 1 a c=.lit (AVo.val (f k)):=by
 subst ha
 exact Zia hc hp hk
def Zif {c:List AV}{n off k:Nat}(hk:k<n) (h:off+n<=c.length):off+k*1+1<=c.length:=by omega
def Qls {c:List AV}{n off k a:Nat}(hk:k<n) (ha:a=off+k*1) (h:off+n<=c.length):a+1<=c.length:=by omega
def lt2 {u v a b n:Nat}(h:u<a) (h':v<b) (hn:a*b=n):u*b+v<n:=by
 have:=Xbl b (show u+1<=a from h)
 rw[Xcu] at this
 omega
def Zn3 {n k:Nat}{f:Nat->α}{x:α}:(arrF n f).set k (.lit (AVo.val x))=arrF n (setF f k x):=by
 refine List.ext_getElem? fun i=>?_
 simp only[Qvy,Xev,Xaw,setF,Xb3,Xeu]
 rcases Xcm i n with h |h
 ·rw[Xfx h]
  by_cases e:k=i
  ·subst e;simp[h]
  simp[e]
  exact Xek (fun q:α=>AVo.val q) (Xat fun e'=>e e'.symm).symm
 rw[Xbb (by simpa using h)]
 by_cases e:k=i
 ·subst e;simp;omega
 simp[e]
def Zrg {c:List AV}{i:Nat}{y:AV}(h:i<c.length):Qj7 c i [y]=c.set i y:=by
 rw[List.set_eq_take_append_cons_drop,Xaz h]
 simp[Qj7]
def Zpn {c c' pre post:List AV}{n off k:Nat}{f:Nat->α}{x:α}(hc:c=pre++(arrF n f++post)) (hp:pre.length=off) (hc':c'=pre++(arrF n (setF f k x)++post)) (hk:k<n):[c].set 0 (Qj7 c (off+k*1) (stA (.lit (AVo.val x))))=[c']:=by
 subst hc hp hc'
 show[Qj7 _ _ [.lit (AVo.val x)]]=_
 rw[Nat.mul_one,Zrg (by simp[Q30];omega),List.set_append,Xat (by omega),Xdm,List.set_append,Xaz (by rw[Q30];exact hk),Zn3]
def Q2n {c c' pre post:List AV}{n off k a:Nat}{f:Nat->α}{x:α}(hc:c=pre++(arrF n f++post)) (hp:pre.length=off) (hc':c'=pre++(arrF n (setF f k x)++post)) (hk:k<n) (ha:a=off+k*1):[c].set 0 (Qj7 c a (stA (.lit (AVo.val x))))=[c']:=by
 subst ha
 exact Zpn hc hp hc' hk
end
def arrI (n:Nat) (f:Nat->Int):List Int:=(List.range n).map f
def Zbk (n:Nat) (f:Nat->Int):ints (arrI n f)=arrF n f:=by rw[Qvy,ints,arrI,Xeo];rfl
def Q9d {P:Program}{o:Oper}{t t':TypeId}{x y:Operand}{n d:Nat}{f g:Nat->Int}(h:o.op=.binOp .eql t x y t') (hd:d=10000) (he:EqT P d t n) (hg:P.eqGuardType P.depth t=false) :
  Qd0 P o [(x,.agg (arrF n f)),(y,.agg (arrF n g))] [] (.lit (.bool (arrI n f==arrI n g))) []:=by
 rw[<-Zbk,<-Zbk]
 exact Zka _ _ h hd he hg (by simp[arrI]) (by simp[arrI])
end
section
section
variable {F : Fence} {n : Nat} {P : Program} {Q : Exit -> Act -> World -> Prop} {a : Act} {w : World}
def Qmy {b:Frame}{c:Code}{k:List Item}{cs:List Frame}:step P (lone (b.atR a (.code (.scope c)::k)) cs w)=.next (lone (b.atR a (.code c::.inScope c::k)) cs w):=
 step_lone_go (by simp[stepG,stepG.exec,Frame.atR])
def Q2k {b:Frame}{c:Code}{k:List Item}{cs:List Frame}:step P (lone (b.atR a (.inScope c::k)) cs w)=.next (lone (b.atR a k) cs w):=
 step_lone_go (by simp[stepG,stepG.exec,Frame.atR])
def Zcp {c:Code}(h:c.wpIn F n P (Exit.noGoto Q) a w):(Code.scope c).wpIn F n P Q a w:=by
 intro b k cs hro hb hr
 have h0:(lone (b.atR a (.code (.scope c)::k)) cs w).fenced P F:=fenced_calm hb hr rfl
 obtain⟨e,a₁,w₁,hq,harr⟩:=h b (.inScope c::k) cs hro hb hr
 cases e with
 |normal=>exact⟨.normal,a₁,w₁,hq,.head h0 Qmy (StepsIn.trans harr (.one (fenced_calm hb hr rfl) Q2k))⟩
 |exit id'=>
  have hx:exitTo id' (.inScope c::k)=exitTo id' k:=by simp[exitTo]
  exact⟨.exit id',a₁,w₁,hq,fun k' hk=>.head h0 Qmy (harr.1 k' (by rw[hx];exact hk)),
   fun hr' hk=>let ⟨k₁,h1,h2⟩:=harr.2 hr' (by rw[hx];exact hk);⟨k₁,h1,.head h0 Qmy h2⟩⟩
 |goto l=>exact hq.elim
 |ret=>exact⟨_,a₁,w₁,hq,.of_steps (.one h0 Qmy) harr⟩
 |panic ch=>exact⟨_,a₁,w₁,hq,.of_steps (.one h0 Qmy) harr⟩
 |outgrown=>exact⟨_,a₁,w₁,hq,.of_steps (b:=b) (k:=k) (cs:=cs) (e:=.outgrown) (.one h0 Qmy) harr⟩
end
section
variable {P : Program} {X : Nat -> Nat -> Prop} {φ0 : Nat -> FSlot} {w0 : World} {ro : Option Nat} {Q : Exit -> AS -> Prop} {s : AS} {c : Code}
def Zpo (Q:Exit->AS->Prop):Exit->AS->Prop
 |.goto _,_=>False
 |e,s=>Q e s
def Zjz (h:AWp P X φ0 w0 ro c (Zpo Q) s):AWp P X φ0 w0 ro (.scope c) Q s:=fun φ a w hs=>Zcp (Xej (h φ a w hs) fun e a w ⟨φ',s',h1,h2⟩=>by
 cases e with
 |goto l=>exact h2.elim
 |_=>exact⟨φ',s',h1,h2⟩)
def Zl2 (h:Q .ret s):Zpo Q .ret s:=h
end
section
variable {P : Program} {o : Oper} {X : Nat -> Nat -> Prop} {φ φ' : Nat -> FSlot} {w w' : World}
def kill (ns:List Nat) (φ:Nat->FSlot):Nat->FSlot:=fun k=>if ns.contains k then .dead else φ k
def Zic {ns:List Nat}{k:Nat}(h:k∈ns):kill ns φ k=.dead:=by simp[kill,h]
def Qnb {ns:List Nat}{k:Nat}(h:k∉ns):kill ns φ k=φ k:=by simp[kill,h]
def Qmn {ns:List Nat}{q c:Nat}(hq:(kill ns φ q).lies c):(φ q).lies c/\q∉ns:=by
 by_cases e:q∈ns
 ·rw[Zic e] at hq;exact(Qba hq).elim
 rw[Qnb e] at hq;exact⟨hq,e⟩
def Zbr (ns:List Nat):Evo X φ w (kill ns φ) w:=by
 have ho:∀{q s},kill ns φ q=s->s≠.dead->φ q=s:=fun {q s} h hs=>by
  by_cases e:q∈ns
  ·rw[Zic e] at h;exact absurd h.symm hs
  rwa [Qnb e] at h
 refine⟨rfl,rfl,rfl,Xay _,fun _ _ _=>rfl,fun b' ⟨q,hq⟩=>.inl ⟨q,(Qmn hq).1⟩,fun b' off hdat=>⟨⟨hdat.lt,hdat.hid,fun q hq=>hdat.own q (ho hq (by simp)),fun q L hq=>hdat.tok q L (ho hq (by simp)),fun q Y hq=>hdat.far q Y (ho hq (by simp)),fun q bs z hq=>hdat.mat q bs z (ho hq (by simp))⟩,rfl⟩,fun q hq=>?_,fun q b' hq=>?_,fun q t hq=>?_,fun q Y hq=>?_,fun q bs hq=>?_,fun _ _ _ _=>.same rfl⟩
 ·unfold kill;split<;>simp[hq]
 ·unfold kill;split
  ·exact .inr rfl
  exact .inl hq
 ·unfold kill;split
  ·exact .inl rfl
  exact .inr ⟨hq,fun _ _ _=>rfl⟩
 ·unfold kill;split
  ·exact .inl rfl
  exact .inr ⟨Y,hq⟩
 unfold kill;split
 ·exact .inl rfl
 exact .inr ⟨bs,hq,.refl bs⟩
def wake (ns:List Nat) (φ0 φ:Nat->FSlot):Nat->FSlot:=fun k=>if ns.contains k then φ0 k else φ k
def Qn1 {ns:List Nat}{φ0:Nat->FSlot}{k:Nat}(h:k∈ns):wake ns φ0 φ k=φ0 k:=by simp[wake,h]
def Qhe {ns:List Nat}{φ0:Nat->FSlot}{k:Nat}(h:k∉ns):wake ns φ0 φ k=φ k:=by simp[wake,h]
inductive Fresh (ns:List Nat) (eff:List (Nat×Slot)):AV->Prop where
 |any:Fresh ns eff .any
 |lit (v:Value):Fresh ns eff (.lit v)
 |ref (n' m j i:Nat) (h:n'∉ns):Fresh ns eff (.ref n' m j i)
 |own (n' m j len:Nat) (h:n'∉ns):Fresh ns eff (.own n' m j len)
 |gro (n':Nat) (ty:TypeId) (m len:Nat) (h:n'∉ns):Fresh ns eff (.gro n' ty m len)
 |acc (n':Nat) (ty:TypeId) (m:Nat) (xs:List (List AV)) (h:n'∉ns) (ht:(n',Slot.tok)∈eff) (hx:∀x∈xs,∀a∈x,∃v,a=.lit v):Fresh ns eff (.acc n' ty m xs)
 |tup (l:List AV) (h:∀a∈l,Fresh ns eff a):Fresh ns eff (.tup l)
 |agg (l:List AV) (h:∀a∈l,Fresh ns eff a):Fresh ns eff (.agg l)
def Fresh.rel {ns:List Nat}{φ0:Nat->FSlot}{eff:List (Nat×Slot)}{a:AV}(h:Fresh ns eff a) (hd:Qdu (wake ns φ0 φ)) (he:∀p∈eff,SlotOK X φ w p.1 p.2)
  (hX:∀b' off,DataAt X φ w b' off->(∀n∈ns,φ0 n≠.own b')->DataAt X (wake ns φ0 φ) w b' off):∀{v:Value},RelV X φ w a v->RelV X (wake ns φ0 φ) w a v:=by
 have ne:∀{n'},n'∉ns->wake ns φ0 φ n'=φ n':=fun h=>Qhe h
 induction h with
 |any=>intro v _;exact .any v
 |lit u=>intro v hv;cases hv;exact .lit _
 |ref n' m j i h=>intro v hv;cases hv with |ref _ _ _ _ A hn hb=>exact .ref n' m j i A (by rw[ne h];exact hn) (by rw[ne h];exact hb)
 |own n' m j len h=>intro v hv;cases hv with |own _ _ _ _ A cap hc hm hn hb=>exact .own n' m j len A cap hc hm (by rw[ne h];exact hn) (by rw[ne h];exact hb)
 |gro n' ty m len h=>intro v hv;cases hv with |gro _ _ _ _ A cap hc hm hn hv hb=>exact .gro n' ty m len A cap hc hm (by rw[ne h];exact hn) (by rw[ne h];exact hv) (by rw[ne h];exact hb)
 |acc n' ty m xs h ht hx=>
  intro v hv
  cases hv with
  |acc _ _ _ _ A len cap g ok hr hn htip=>
   obtain⟨t,htok,_⟩:=he (n',.tok) ht
   dsimp only at htok
   have htip':=htip t htok
   refine .acc n' ty m xs A len cap g ⟨ok.hlen,ok.hcap,ok.hmost,ok.hsize,fun hne=>?_⟩ (fun j x hj i a hi=>?_) (by rw[ne h];exact hn) (by rw[ne h];exact htip)
   ·obtain⟨b0,o0,hA,hc⟩:=ok.hcells hne
    refine⟨b0,o0,hA,fun j x hj i hi=>⟨?_,(hc j x hj i hi).2⟩⟩
    have hb0:∀n∈ns,φ0 n≠.own b0:=by
     intro n hnn hb
     cases t with
     |none=>
      have:=htip'.1
      rw[ok.hlen] at this
      exact hne (Xau this)
     |some p=>
      obtain⟨b2,L⟩:=p
      have hA2:=htip'.1
      rw[hA] at hA2
      cases hA2
      have h1:(wake ns φ0 φ n').lies b0:=by rw[ne h];exact .tok htok
      have h2:(wake ns φ0 φ n).lies b0:=.own (by rw[Qn1 hnn];exact hb)
      exact h (hd _ _ _ h1 h2▸hnn)
    exact hX _ _ (hc j x hj i hi).1 hb0
   obtain⟨u,rfl⟩:=hx x (Xac hj) a (Xac hi)
   have:=hr j x hj i _ hi
   rw[Qd1 this]
   exact .lit _
 |tup l h ih=>
  intro v hv
  cases hv with
  |tup _ vs hs hr=>exact .tup l vs hs fun i a hi=>ih a (Xac hi) (hr i a hi)
 |agg l h ih=>
  intro v hv
  cases hv with
  |agg _ vs hs hr=>exact .agg l vs hs fun i a hi=>ih a (Xac hi) (hr i a hi)
inductive Qsu (ns:List Nat) (eff:List (Nat×Slot)):Slot->Prop where
 |dead:Qsu ns eff .dead
 |tok:Qsu ns eff .tok
 |own (m:Nat) (xs:List (List AV)) (h:∀x∈xs,∀a∈x,Fresh ns eff a):Qsu ns eff (.own m xs)
 |gro (m:Nat) (xs:List (List AV)) (h:∀x∈xs,∀a∈x,Fresh ns eff a):Qsu ns eff (.gro m xs)
inductive Cv (B:List (Nat×Nat×List (List AV))):AV->AV->Prop where
 |same (a:AV):Cv B a a
 |dat (n m j len:Nat) (xs zs:List (List AV)) (h:(n,m,xs)∈B) (hl:j+len<=xs.length) (hz:zs.length=len) (hs:∀(i:Nat) y z,xs[j+i]? = some y->zs[i]? = some z->y.length=z.length) (hr:∀(i:Nat) y z,xs[j+i]? = some y->zs[i]? = some z->∀(q:Nat) a a',y[q]? = some a->z[q]? = some a'->Cv B a a'):Cv B (.own n m j len) (.dat m zs)
 |dptr (n m j i:Nat) (xs:List (List AV)) (c c':List AV) (h:(n,m,xs)∈B) (hj:xs[j]? = some c) (hl:c.length=c'.length) (hr:∀(q:Nat) a a',c[q]? = some a->c'[q]? = some a'->Cv B a a'):Cv B (.ref n m j i) (.dptr c' i)
 |agg (l l':List AV) (hl:l.length=l'.length) (hr:∀(q:Nat) a a',l[q]? = some a->l'[q]? = some a'->Cv B a a'):Cv B (.agg l) (.agg l')
 |fn (f:Fn) (l l' c c':List AV) (hl:l.length=l'.length) (hc:c.length=c'.length) (hr:∀(q:Nat) a a',l[q]? = some a->l'[q]? = some a'->Cv B a a') (hr':∀(q:Nat) a a',c[q]? = some a->c'[q]? = some a'->Cv B a a'):Cv B (.fn f l c) (.fn f l' c')
def Cv.rel {B:List (Nat×Nat×List (List AV))}{a a':AV}(h:Cv B a a') (hB:∀p∈B,∃b,φ p.1=.own b/\OwnOK X φ w b p.2.1 p.2.2) (ev:Evo X φ w φ' w) (hdat:∀p∈B,∀b off,φ p.1=.own b->DataAt X φ' w b off):∀{v:Value},RelV X φ w a v->RelV X φ' w a' v:=by
 have geti:∀{l l':List AV},l.length=l'.length->∀(q:Nat) a',l'[q]? = some a'->∃a,l[q]? = some a:=fun {l l'} hl q a' hq=>by
  have:=(Xad.1 hq).1
  exact⟨_,Xab (by omega)⟩
 have cellat:∀{b m:Nat}{cur:Array Value}{ty:TypeId}{xs:List (List AV)}{j:Nat}{c:List AV}{q:Nat},w.heap[b]? = some (.cells cur ty (0,0))->xs.length*m<=cur.size->xs[j]? = some c->q<m->w.cell? ⟨b,j*m+q,none⟩=some (cur.getD (j*m+q) undef):=fun {b m cur ty xs j c q} hc hs hj hq=>by
  have hjl:j<xs.length:=(Xad.1 hj).1
  have hpos:j*m+q<cur.size:=by
   have:(j+1)*m<=xs.length*m:=Xbl m hjl
   rw[Xcu] at this
   omega
  rw[World.cell?]
  simp only[hc]
  simp[Xaf,hpos]
 induction h with
 |same a=>intro v hv;exact hv.evo ev
 |dat n m j len xs zs h hl hz hs hr ih=>
  intro v hv
  obtain⟨b,hn,hown⟩:=hB _ h
  dsimp only at hn hown
  obtain⟨cap,hc1,hc2,rfl⟩:=Q76 hv hn
  obtain⟨cur,ty,hcell,hsz,hlen,hrel⟩:=hown.blk
  have hx:∀(i:Nat) z,zs[i]? = some z->∃y,xs[j+i]? = some y:=fun i z hi=>by
   have:=(Xad.1 hi).1
   exact⟨_,Xab (by omega)⟩
  refine .dat m zs _ len cap (fun i q=>cur.getD ((j+i)*m+q) undef) ⟨hz.symm,hc1,hc2,fun z hz'=>?_,fun _=>⟨b,j*m,rfl,fun i z hi q hq=>⟨hdat _ h b _ hn,?_⟩⟩⟩ fun i z hi q c hq=>?_
  ·obtain⟨i,hi⟩:=Xcj hz'
   obtain⟨y,hy⟩:=hx i z hi
   rw[<-hs i y z hy hi]
   exact hlen y (Xac hy)
  ·obtain⟨y,hy⟩:=hx i z hi
   rw[show j*m+i*m+q=(j+i)*m+q from by rw[Xcu]]
   exact cellat hcell hsz hy hq
  obtain⟨y,hy⟩:=hx i z hi
  obtain⟨u,hu⟩:=geti (hs i y z hy hi) q c hq
  exact ih i y z hy hi q u c hu hq (hrel (j+i) y hy q u hu)
 |dptr n m j i xs c c' h hj hl hr ih=>
  intro v hv
  obtain⟨b,hn,hown⟩:=hB _ h
  dsimp only at hn hown
  obtain rfl:=Qs5 hv hn
  obtain⟨cur,ty,hcell,hsz,hlen,hrel⟩:=hown.blk
  refine .dptr c' i b (j*m) (fun k=>cur.getD (j*m+k) undef) (fun k hk=>⟨hdat _ h b _ hn,?_⟩) fun k u hk=>?_
  ·exact cellat hcell hsz hj (by rw[<-hl,hlen c (Xac hj)] at hk;exact hk)
  obtain⟨u',hu'⟩:=geti hl k u hk
  exact ih k u' u hu' hk (hrel j c hj k u' hu')
 |agg l l' hl hr ih=>
  intro v hv
  cases hv with
  |agg _ vs hs h=>
   refine .agg l' vs (hs.trans hl) fun i a hi=>?_
   obtain⟨u,hu⟩:=geti hl i a hi
   exact ih i u a hu hi (h i u hu)
 |fn f l l' c c' hl hc hr hr' ih ih'=>
  intro v hv
  cases hv with
  |fn _ _ _ us vs hu hv h1 h2=>
   refine .fn f l' c' us vs (hu.trans hl) (hv.trans hc) (fun i a hi=>?_) fun i a hi=>?_
   ·obtain⟨u,hu⟩:=geti hl i a hi
    exact ih i u a hu hi (h1 i u hu)
   obtain⟨u,hu⟩:=geti hc i a hi
   exact ih' i u a hu hi (h2 i u hu)
def Q6p {rd rd':List (Operand×AV)}{bl eff:List (Nat×Slot)}{r:AV}(B:List (Nat×Nat×List (List AV))) (hrd:∀q∈rd',∃p∈rd,p.1=q.1/\Cv B p.2 q.2)
  (hbl:∀n∈B.map (·.1),n∉bl.map (·.1)) (heff:∀n∈B.map (·.1),n∉eff.map (·.1)) (hr:Fresh (B.map (·.1)) eff r) (hs:∀p∈eff,Qsu (B.map (·.1)) eff p.2) (h:Qd0 P o rd' bl r eff):Qd0 P o rd (B.map (fun p=>(p.1,Slot.own p.2.1 p.2.2))++bl) r eff:=by
 intro X φ a w hrv hb hd hX hlt next Q k
 have hB:∀p∈B,∃b,φ p.1=.own b/\OwnOK X φ w b p.2.1 p.2.2:=fun p hp=>hb (p.1,.own p.2.1 p.2.2) (Xc0 _ (Xba.2 ⟨p,hp,rfl⟩))
 generalize hns:B.map (·.1)=ns at hbl heff hr hs
 have hown:∀n∈ns,∃b,φ n=.own b/\b<w.heap.size/\∀off,¬X b off:=fun n hn=>by
  rw[<-hns] at hn
  obtain⟨p,hp,rfl⟩:=Xba.1 hn
  obtain⟨b,h1,h2⟩:=hB p hp
  exact⟨b,h1,h2.lt,h2.hid⟩
 have hown':∀n∈ns,∃b,φ n=.own b:=fun n hn=>⟨_,(hown n hn).choose_spec.1⟩
 have ev:Evo X φ w (kill ns φ) w:=Zbr ns
 have nhold:∀n∈ns,∀b,φ n=.own b->¬Qnz (kill ns φ) b:=fun n hn b hb ⟨q,hq⟩=>(Qmn hq).2 (hd _ _ _ (Qmn hq).1 (.own hb)▸hn)
 have datB:∀n∈ns,∀b off,φ n=.own b->DataAt X (kill ns φ) w b off:=fun n hn b off hb=>by
  obtain⟨b',h1,h2,h3⟩:=hown n hn
  rw[hb] at h1
  cases h1
  exact⟨h2,h3 off,fun q hq=>nhold n hn b hb ⟨q,.own hq⟩,fun q L hq=>(nhold n hn b hb ⟨q,.tok hq⟩).elim,fun q Y hq hy=>nhold n hn b hb ⟨q,.far hq hy⟩,fun q bs z hq hz=>nhold n hn b hb ⟨q,.mat hq hz⟩⟩
 refine h X (kill ns φ) a w (fun q hq=>?_) (fun p hp=>?_) (fun q q' c h1 h2=>hd _ _ _ (Qmn h1).1 (Qmn h2).1) hX (fun q c hq=>hlt q c (Qmn hq).1) next Q ?_
 ·obtain⟨p,hp,e1,e2⟩:=hrd q hq
  rw[<-e1]
  exact e2.rel hB ev (fun p hp b off hb=>datB p.1 (hns▸Xg4 hp) b off hb) (hrv p hp)
 ·have hpn:p.1∉ns:=fun e=>hbl _ e (Xg4 hp)
  exact(hb p (Xd5 _ hp)).evo ev (Qnb hpn) fun _ _=>rfl
 intro v φ1 w' hv he hd1 hother hheap hev
 have nhold1:∀n∈ns,∀b,φ n=.own b->¬Qnz φ1 b:=fun n hn b hb hh=>by
  rcases hev.new b hh with h1 |h1
  ·exact nhold n hn b hb h1
  obtain⟨b',h2,h3,_⟩:=hown n hn
  rw[hb] at h2
  cases h2
  omega
 have hsame:∀n∈ns,∀b,φ n=.own b->w'.heap[b]? = w.heap[b]? := fun n hn b hb=>by
  obtain⟨b',h2,h3,_⟩:=hown n hn
  rw[hb] at h2
  cases h2
  exact hev.blk b h3 (nhold n hn b hb)
 have hd2:Qdu (wake ns φ φ1):=fun q q' c h1 h2=>by
  by_cases e:q∈ns
  ·rw[Qn1 e] at h1
   by_cases e':q'∈ns
   ·rw[Qn1 e'] at h2
    exact hd _ _ _ h1 h2
   rw[Qhe e'] at h2
   obtain⟨b,hb,_⟩:=hown q e
   rw[hb] at h1
   exact(nhold1 q e b hb ⟨q',Qir h1▸h2⟩).elim
  rw[Qhe e] at h1
  by_cases e':q'∈ns
  ·rw[Qn1 e'] at h2
   obtain⟨b,hb,_⟩:=hown q' e'
   rw[hb] at h2
   exact(nhold1 q' e' b hb ⟨q,Qir h2▸h1⟩).elim
  rw[Qhe e'] at h2
  exact hd1 _ _ _ h1 h2
 have hdata:∀c off,DataAt X φ1 w' c off->(∀n∈ns,φ n≠.own c)->DataAt X (wake ns φ φ1) w' c off:=fun c off hc hcb=>⟨hc.lt,hc.hid,fun q hq=>by
   by_cases e:q∈ns
   ·rw[Qn1 e] at hq;exact hcb q e hq
   rw[Qhe e] at hq;exact hc.own q hq,
  fun q L hq=>by
   by_cases e:q∈ns
   ·rw[Qn1 e] at hq;obtain⟨b,hb,_⟩:=hown q e;rw[hb] at hq;cases hq
   rw[Qhe e] at hq;exact hc.tok q L hq,
  fun q Y hq=>by
   by_cases e:q∈ns
   ·rw[Qn1 e] at hq;obtain⟨b,hb,_⟩:=hown q e;rw[hb] at hq;cases hq
   rw[Qhe e] at hq;exact hc.far q Y hq,
  fun q bs z hq=>by
   by_cases e:q∈ns
   ·rw[Qn1 e] at hq;obtain⟨b,hb,_⟩:=hown q e;rw[hb] at hq;cases hq
   rw[Qhe e] at hq;exact hc.mat q bs z hq⟩
 have frel:∀{a:AV}{v:Value},Fresh ns eff a->RelV X φ1 w' a v->RelV X (wake ns φ φ1) w' a v:=fun hf hv=>hf.rel hd2 he hdata hv
 refine k v (wake ns φ φ1) w' (frel hr hv) (fun p hp=>?_) hd2 (fun q hq=>?_) (fun c hc hne=>hheap c hc fun p hp=>?_) ?_
 ·have hpn:p.1∉ns:=fun e=>heff _ e (Xg4 hp)
  have hok:=he p hp
  have hf:=hs p hp
  obtain⟨p1,p2⟩:=p
  dsimp only at hok hf hpn ⊢
  have own_:∀{c m' zs},OwnOK X φ1 w' c m' zs->(∀x∈zs,∀a∈x,Fresh ns eff a)->OwnOK X (wake ns φ φ1) w' c m' zs:=fun ho hz=>by
   obtain⟨⟨cur,ty,h1,h2,h3,h4⟩,h5⟩:=ho
   exact⟨⟨cur,ty,h1,h2,h3,fun j x hj i a hi=>frel (hz x (Xac hj) a (Xac hi)) (h4 j x hj i a hi)⟩,h5⟩
  cases hf with
  |dead=>exact(Qhe hpn).trans hok
  |tok=>obtain⟨t,h1,h2⟩:=hok;exact⟨t,(Qhe hpn).trans h1,h2⟩
  |own m' zs hz=>obtain⟨c,h1,h2⟩:=hok;exact⟨c,(Qhe hpn).trans h1,own_ h2 hz⟩
  |gro m' zs hz=>
   rcases hok with ⟨h1,h2⟩ |⟨c,h1,h2⟩
   ·exact .inl ⟨h1,(Qhe hpn).trans h2⟩
   exact .inr ⟨c,(Qhe hpn).trans h1,own_ h2 hz⟩
 ·by_cases e:q∈ns
  ·rw[Qn1 e]
  rw[Qhe e,hother q hq,Qnb e]
 ·exact fun hl=>hne p hp (Qmn hl).1
 refine⟨hev.os,hev.tape,hev.output,hev.size,fun c hc hnc=>hev.blk c hc fun ⟨q,hq⟩=>hnc ⟨q,(Qmn hq).1⟩,fun c ⟨q,hq⟩=>?_,fun c off hc=>?_,fun q hq=>?_,fun q c hq=>?_,fun q t hq=>?_,fun q Y hq=>?_,fun q bs hq=>?_,fun q c hq hq'=>?_⟩
 ·by_cases e:q∈ns
  ·rw[Qn1 e] at hq
   exact .inl ⟨q,hq⟩
  rw[Qhe e] at hq
  rcases hev.new c ⟨q,hq⟩ with ⟨q',h1⟩ |h1
  ·exact .inl ⟨q',(Qmn h1).1⟩
  exact .inr h1
 ·obtain⟨h1,h2⟩:=ev.dat c off hc
  obtain⟨h3,h4⟩:=hev.dat c off h1
  exact⟨hdata c off h3 fun n _ e=>hc.own n e,h4.trans h2⟩
 ·by_cases e:q∈ns
  ·rw[Qn1 e];exact hq
  rw[Qhe e];exact hev.dead q (by rw[Qnb e];exact hq)
 ·by_cases e:q∈ns
  ·rw[Qn1 e];exact .inl hq
  rw[Qhe e];exact hev.own q c (by rw[Qnb e];exact hq)
 ·by_cases e:q∈ns
  ·obtain⟨b,hb,_⟩:=hown q e;rw[hb] at hq;cases hq
  rw[Qhe e];exact hev.tok q t (by rw[Qnb e];exact hq)
 ·by_cases e:q∈ns
  ·obtain⟨b,hb,_⟩:=hown q e;rw[hb] at hq;cases hq
  rw[Qhe e];exact hev.far q Y (by rw[Qnb e];exact hq)
 ·by_cases e:q∈ns
  ·obtain⟨b,hb,_⟩:=hown q e;rw[hb] at hq;cases hq
  rw[Qhe e];exact hev.mat q bs (by rw[Qnb e];exact hq)
 by_cases e:q∈ns
 ·exact .same (hsame q e c hq)
 rw[Qhe e] at hq'
 exact hev.shape q c (by rw[Qnb e];exact hq) hq'
def isIn {α:Type}(l:List α) (x:α) (k:Nat):Prop:=l[k]? = some x
def isIn.mem {α:Type}{l:List α}{x:α}{k:Nat}(h:isIn l x k):x∈l:=Xac h
def Q8w {B:List (Nat×Nat×List (List AV))}{n m:Nat}{α:Type}{c:α->List AV}{e:List α}{len:Nat}(k:Nat) (hk:isIn B (n,m,e.map c) k) (h:decide (len<=e.length)=true):Cv B (.own n m 0 len) (.dat m ((e.take len).map c)):=by
 have hl:=Xdr h
 have key:∀(i:Nat) y z,(e.map c)[0+i]? = some y->((e.take len).map c)[i]? = some z->y=z:=fun i y z h1 h2=>by
  simp only[Xar,Xaw,Xbi] at h1 h2
  split at h2
  ·exact Xfv (h1.symm.trans h2)
  cases h2
 exact .dat n m 0 len _ _ hk.mem (by simpa using hl) (by simp;omega) (fun i y z h1 h2=>by rw[key i y z h1 h2]) fun i y z h1 h2 q a a' h3 h4=>by
  rw[key i y z h1 h2] at h3
  rw[h3] at h4
  cases h4
  exact .same _
def Q8i {R:AV->AV->Prop}{l k:List AV}(h:LPw R l k):∀(q:Nat) a a',l[q]? = some a->k[q]? = some a'->R a a':=fun q a a' h1 h2=>by
 obtain⟨b,hb,hr⟩:=h.get q a' h2
 rw[h1] at hb
 cases hb
 exact hr
def Qun {B:List (Nat×Nat×List (List AV))}{n m i:Nat}{c c':List AV}(k:Nat) (hk:isIn B (n,m,[c]) k) (h:LPw (Cv B) c c'):Cv B (.ref n m 0 i) (.dptr c' i):=.dptr n m 0 i _ c c' hk.mem rfl h.length (Q8i h)
def Znq {B:List (Nat×Nat×List (List AV))}{f:Fn}{l l' c c':List AV}(h:LPw (Cv B) l l') (h':LPw (Cv B) c c'):Cv B (.fn f l c) (.fn f l' c'):=.fn f l l' c c' h.length h'.length (Q8i h) (Q8i h')
def BR (B:List (Nat×Nat×List (List AV))):List (Operand×AV)->List (Operand×AV)->Prop
 |[],[]=>True
 |p::l,q::k=>p.1=q.1/\Cv B p.2 q.2/\BR B l k
 |_,_=>False
def BR.get {B:List (Nat×Nat×List (List AV))}:∀{l k:List (Operand×AV)},BR B l k->∀q∈k,∃p∈l,p.1=q.1/\Cv B p.2 q.2
 |[],[],_,q,hq=>by cases hq
 |p::l,q'::k,h,q,hq=>by
  rcases Xa7.1 hq with rfl |hq
  ·exact⟨p,by simp,h.1,h.2.1⟩
  obtain⟨p',hp',e⟩:=BR.get h.2.2 q hq
  exact⟨p',Xal _ hp',e⟩
def Zml {α:Type}{c:α->List AV}(h:∀x,∀a∈c x,∃v,a=.lit v) (l:List α):∀x∈l.map c,∀a∈x,∃v,a=.lit v:=fun x hx=>by
 obtain⟨y,_,rfl⟩:=Xba.1 hx
 exact h y
def Q2r {ns:List Nat}{eff:List (Nat×Slot)}:∀p∈([]:List (Nat×Slot)),Qsu ns eff p.2:=by simp
def Zl1 {ns:List Nat}{eff:List (Nat×Slot)}{p:Nat×Slot}{l:List (Nat×Slot)}(h:Qsu ns eff p.2) (hl:∀p∈l,Qsu ns eff p.2):∀q∈p::l,Qsu ns eff q.2:=fun q hq=>by
 rcases Xa7.1 hq with rfl |hq
 ·exact h
 exact hl q hq
def Zr0:∀a∈([]:List AV),∃v,a=.lit v:=by simp
def Zmm {v:Value}{l:List AV}(h:∀a∈l,∃v,a=.lit v):∀a∈AV.lit v::l,∃v,a=.lit v:=fun b hb=>by
 rcases Xa7.1 hb with rfl |hb
 ·exact⟨v,rfl⟩
 exact h b hb
def Q8j {l l':List AV}(h:∀a∈l,∃v,a=.lit v) (h':∀a∈l',∃v,a=.lit v):∀a∈l++l',∃v,a=.lit v:=fun a ha=>by
 rcases Xby.1 ha with ha |ha
 ·exact h a ha
 exact h' a ha
def nin {n:Nat}{ns:List Nat}(h:ns.contains n=false):n∉ns:=fun hm=>by simp[hm] at h
def Zkd (l k:List Nat):Bool:=l.all fun n=>!k.contains n
def Qzz {l k:List Nat}(h:Zkd l k=true):∀n∈l,n∉k:=fun n hn hk=>by
 have:=Xa6.1 h n hn
 simp[hk] at this
def Qod {rd rd':List (Operand×AV)}{bl eff:List (Nat×Slot)}{r:AV}(B:List (Nat×Nat×List (List AV))) (hrd:BR B rd rd') (hb:(Zkd (B.map (·.1)) (bl.map (·.1))&&Zkd (B.map (·.1)) (eff.map (·.1)))=true) (hr:Fresh (B.map (·.1)) eff r) (hs:∀p∈eff,Qsu (B.map (·.1)) eff p.2) (h:Qd0 P o rd' bl r eff):Qd0 P o rd (B.map (fun p=>(p.1,Slot.own p.2.1 p.2.2))++bl) r eff:=by
 rw[Xaq] at hb
 exact Q6p B hrd.get (Qzz hb.1) (Qzz hb.2) hr hs h
end
abbrev amv := @Q1h
abbrev ag_ := @Qzt
abbrev aas := @Qwq
abbrev nlc := @Qlf
abbrev apk := @Q1f
abbrev abn := @Q6q
abbrev rnc := @Qw9
abbrev ald := @Q1i
abbrev rn0 := @Q2t
abbrev nld := @Qpp
abbrev nl0 := @Qn9
abbrev bno := @Q3s
abbrev afa := @Qzu
abbrev spb := @Zgy
abbrev asb := @Ztz
abbrev thn := @Zra
abbrev cko := @Zjq
abbrev jko := @Zid
abbrev acv := @Zd2
abbrev aln := @Q6o
abbrev mgt := @Zh4
abbrev gsm := @Q5z
abbrev wmr := @Ztw
abbrev wjn := @Zb2
abbrev mto := @Zwe
abbrev arm := @Zd5
abbrev bln := @Znv
abbrev ald_ := @Qzs
abbrev afd := @Qwo
abbrev awk := @Zdw
abbrev anc := @Q1g
abbrev wsq := @Qzl
abbrev slc := @Q2p
abbrev spr := @Zre
abbrev rqr := @Zg4
abbrev lrf := @Less.rfl
abbrev ast := @Qzp
abbrev aio := @Zd0
def bfe {β:Type}{c:Bool}{a b:Option β}{r:β}{G:Prop}(h:(bif c then a else b)=some r) (h1:c=true->a=some r->G) (h2:c=false->b=some r->G):G:=by
 cases c
 ·exact h2 rfl h
 exact h1 rfl h
def bnq {α β:Type}{o:Option α}{f:α->Option β}{r:β}{G:Prop}(h:o.bind f=some r) (k:∀x,o=some x->f x=some r->G):G:=by
 obtain⟨x,h1,h2⟩:=Q3s h
 exact k x h1 h2
def ckq {β:Type}{b:Bool}{k:Option β}{r:β}{G:Prop}(h:chk b k=some r) (g:b=true->k=some r->G):G:=by
 obtain⟨h1,h2⟩:=Zjq h
 exact g h1 h2
def bgq {α β:Type}{l:List α}{i:Int}{f:α->Option β}{r:β}{G:Prop}(h:(getI l i).bind f=some r) (k:∀x,0<=i->l[i.toNat]? = some x->f x=some r->G):G:=by
 obtain⟨x,h1,h2⟩:=Q3s h
 obtain⟨h3,h4⟩:=gsm h1
 exact k x h3 h4 h2
section
variable {P : Program} {X : Nat -> Nat -> Prop} {φ0 : Nat -> FSlot} {w0 : World} {ro : Option Nat} {Q : Exit -> AS -> Prop} {s : AS}
def wft {x y:Code}{o:Operand}{b:Bool}(hb:b=true) (h:AWp P X φ0 w0 ro x Q s) (hc:opd s.regs o=.lit (.bool b):=by kernel_rfl):AWp P X φ0 w0 ro (.cond o x y) Q s:=Ztx hb hc h
def wfn {x y:Code}{o:Operand}{b:Bool}(hb:b=false) (h:AWp P X φ0 w0 ro y Q s) (hc:opd s.regs o=.lit (.bool b):=by kernel_rfl):AWp P X φ0 w0 ro (.cond o x y) Q s:=Zty hb hc h
def wjq {τ β:Type}{x y:Code}{k:τ->Option β}{f:(τ->Option β)->Option β}{r:β}(h:Qb0 k f=some r) (st:τ->AS) (hrest:∀t,k t=some r->AWp P X φ0 w0 ro y Q (st t)) (hx:∀k',f k'=some r->AWp P X φ0 w0 ro x (Qx5 (fun s'=>∃t,k' t=some r/\Mor X φ0 w0 s' (st t)) Q) s):AWp P X φ0 w0 ro (.seq x y) Q s:=
 Zb2 (fun t=>k t=some r) st hrest (hx k h)
def bfq {β:Type}{c:Bool}{a b:Option β}{r:β}{x y:Code}{o:Operand}(h:(bif c then a else b)=some r) (h1:c=true->a=some r->AWp P X φ0 w0 ro x Q s) (h2:c=false->b=some r->AWp P X φ0 w0 ro y Q s) (hc:opd s.regs o=.lit (.bool c):=by kernel_rfl):AWp P X φ0 w0 ro (.cond o x y) Q s:=
 bfe h (fun e k=>wft e (h1 e k) hc) fun e k=>wfn e (h2 e k) hc
def wtr {c:Operand}{x y:Code}(h:AWp P X φ0 w0 ro x Q s) (hc:opd s.regs c=.lit (.bool true):=by kernel_rfl):AWp P X φ0 w0 ro (.cond c x y) Q s:=Zb1 hc h
def wfa {c:Operand}{x y:Code}(h:AWp P X φ0 w0 ro y Q s) (hc:opd s.regs c=.lit (.bool false):=by kernel_rfl):AWp P X φ0 w0 ro (.cond c x y) Q s:=Q6l hc h
def rot {t:Tmp}{v:AV}(h:s.regs.getD t .any=v:=by kernel_rfl):Zec P s (.tmp t) v:=Zg8 h
end
def lcc {M:Nat->Nat->Prop}{u v:Value}{l k:List AV}(h:LPw (RW M) l k):LPw (RW M) (.lit u::.lit v::l) (.lit u::.lit v::k):=lc rwl (lc rwl h)
def nlcc {k:Nat}{u v:Value}{l:List AV}(h:∀a∈l,NLt k a):∀b∈AV.lit u::AV.lit v::l,NLt k b:=Qlf nll (Qlf nll h)
def rncc {M:Nat->Nat->Prop}{u v:Value}{l l':List AV}(h:LPw (Rn M) l l'):LPw (Rn M) (.lit u::.lit v::l) (.lit u::.lit v::l'):=Qw9 (.plain _ nll) (Qw9 (.plain _ nll) h)
def rnd {M:Nat->Nat->Prop}{m:Nat}{α:Type}{c:α->List AV}{l:List α}(h:∀x,∀a∈c x,NLt 0 a):RW M (.dat m (l.map c)) (.dat m (l.map c)):=.rn (.plain _ (Qpp h l))
def pld {M:Nat->Nat->Prop}{m:Nat}{α:Type}{c:α->List AV}{l:List α}(h:∀x,∀a∈c x,NLt 0 a):Rn M (.dat m (l.map c)) (.dat m (l.map c)):=.plain _ (Qpp h l)
def lfn {M:Nat->Nat->Prop}{f:Fn}{l k:List AV}(h:LPw (RW M) l k):LPw (RW M) (.fn f [] []::l) (.fn f [] []::k):=lc (.rn (Qby Q2t Q2t)) h
def sfn {M:Nat->Nat->Prop}{m:Nat}{f:Fn}{l k:List Slot}(h:SLw M l k):SLw M (.own m [[.fn f [] []]]::l) (.own m [[.fn f [] []]]::k):=Q2p (Qcr (Qw9 (.plain _ (NLt.fn _ _ _ Qn9 Qn9)) Q2t)) h
end
section
section
variable {P : Program} {o : Oper} {X : Nat -> Nat -> Prop} {φ : Nat -> FSlot} {w : World} {r : AV}
end
section
variable {P : Program} {X : Nat -> Nat -> Prop} {φ0 φ : Nat -> FSlot} {w0 w : World} {s : AS}
end
section
variable {X : Nat -> Nat -> Prop} {φ0 : Nat -> FSlot} {w0 : World} {s : AS}
def Q22 {n:Nat}(q p:Nat) (l:List (Nat×AV)) {l':List (Nat×AV)}{mp m:Nat}{c c':List AV}{xs:List (List AV)}{own':List Slot}(hmask:Qz8 s.regs (mk n l)=mk n l) (hn:(s.regs.length==n&&Nat.blt q s.own.length&&Nat.blt p s.own.length&&q != p)=true) (hs:s.own.getD q .unused=.own m xs) (hp:s.own.getD p .unused=.own mp [c])
  (hc:LPw (Fz q m xs) c c') (hr:PPw (Fz q m xs) l l') (ho:(s.own.set p (.own mp [c'])).set q .dead=own'):Mor X φ0 w0 s ⟨mk n l',own'⟩:=by
 subst ho
 simp only[Xaq,Xbm,Xfs,Xeb,ne_eq] at hn
 obtain⟨⟨⟨hn1,hn2⟩,hn3⟩,hn4⟩:=hn
 refine Mor.trans (Qsc l hn1 hmask) (Qvj (s:=⟨mk n l,s.own⟩) q hs (Q04 (.any _) n hr) ?_ fun k hk=>?_)
 ·simp[hn2]
 have:((s.own.set p (Slot.own mp [c'])).set q Slot.dead).getD k .unused=(s.own.set p (Slot.own mp [c'])).getD k .unused:=by
  simp only[Xaj]
  rw[Xci (fun e=>hk e.symm)]
 rw[this]
 by_cases e:k=p
 ·subst e
  have e1:(s.own.set k (Slot.own mp [c'])).getD k .unused=.own mp [c']:=by simp[hn3]
  have e2:AS.slot ⟨mk n l,s.own⟩ k=.own mp [c]:=hp
  rw[e1,e2]
  refine .own mp _ _ rfl fun j x x' h1 h2=>?_
  cases j with
  |zero=>simp at h1 h2;subst h1 h2;exact hc
  |succ j=>simp at h1
 have:(s.own.set p (Slot.own mp [c'])).getD k .unused=s.own.getD k .unused:=by
  simp only[Xaj]
  rw[Xci (fun e'=>e e'.symm)]
 rw[this]
 exact SPw.refl (fun a=>.same a) _
end
section
variable {P : Program} {o : Oper}
end
end
section
section
variable {P : Program} {o : Oper} {X : Nat -> Nat -> Prop} {φ φ' : Nat -> FSlot} {w : World}
end
section
variable {X : Nat -> Nat -> Prop} {φ0 : Nat -> FSlot} {w0 : World} {s : AS}
inductive FzG (n m:Nat) (xs:List (List AV)):AV->AV->Prop where
 |same (a:AV):FzG n m xs a a
 |any (a:AV):FzG n m xs a .any
 |gro (ty:TypeId) (len:Nat) (h:len=xs.length):FzG n m xs (.gro n ty m len) (.dat m xs)
 |agg (l l':List AV) (hl:l.length=l'.length) (h:∀(i:Nat) a a',l[i]? = some a->l'[i]? = some a'->FzG n m xs a a'):FzG n m xs (.agg l) (.agg l')
def Q8f (q:Nat) {m:Nat}{xs:List (List AV)}(hs:s.slot q=.gro m xs) {regs':List AV}{own':List Slot}(hr:LPw (FzG q m xs) s.regs regs') (hd:own'.getD q .unused=.dead) (ho:∀k,k≠q->SPw (FzG q m xs) (s.slot k) (own'.getD k .unused)):Mor X φ0 w0 s ⟨regs',own'⟩:=by
 refine Qug (R:=FzG q m xs) (fun φ w henv=>?_) hr
 have evo:Evo X φ w (upd φ q .dead) w:=by
  have:=Zbr (X:=X) (φ:=φ) (w:=w) [q]
  have e:kill [q] φ=upd φ q .dead:=by
   funext k
   unfold kill upd
   by_cases h:k=q<;>simp[h]
  rwa [e] at this
 have ne:∀k,k≠q->upd φ q .dead k=φ k:=fun k e=>by simp[upd,e]
 have hsl:SlotOK X φ w q (.gro m xs):=by
  have:=henv.slot q
  rwa [hs] at this
 have hR:∀a a' v,FzG q m xs a a'->RelV X φ w a v->RelV X (upd φ q .dead) w a' v:=fun a a' v hf=>by
  induction hf generalizing v with
  |same a=>exact fun hv=>hv.evo evo
  |any a=>exact fun _=>.any v
  |agg l l' hl _ ih=>
   intro hv
   cases hv with
   |agg _ vs hs' hr=>
    refine .agg _ vs (hs'.trans hl) fun i a' hi=>?_
    have hlt:=(Xad.1 hi).1
    exact ih i _ a' (Xab (by omega)) hi _ (hr i _ (Xab (by omega)))
  |gro ty len hlen=>
   intro hv
   subst hlen
   rcases hsl with ⟨h1,h2⟩ |⟨b,hb,hown⟩
   ·subst h1
    cases hv with
    |gro _ _ _ _ A cap hc hm hn0 hvd h=>exact .dat m [] A 0 cap (fun _ _=>undef) (DatOK.nil m A cap _ hm) (by simp)
   cases hv with
   |gro _ _ _ _ A cap hc hm hn0 hvd h=>
    obtain⟨hA,_⟩:=h b hb
    obtain⟨cur,cty,h1,h2,h3,h4⟩:=hown.blk
    have hdat:∀off,DataAt X (upd φ q .dead) w b off:=fun off=>by
     have no:∀k,k≠q->¬(φ k).lies b:=fun k hk hl=>hk (henv.distinct k q b hl (.own hb))
     have cas:∀k (f:FSlot),upd φ q .dead k=f->f≠.dead->k≠q/\φ k=f:=fun k f e hf=>by
      by_cases h:k=q
      ·subst h;simp[upd] at e;exact absurd e.symm hf
      exact⟨h,(ne k h).symm.trans e⟩
     refine⟨hown.lt,hown.hid off,fun k hk=>?_,fun k L hk=>?_,fun k Y hk hy=>?_,fun k bs z hk hz=>?_⟩
     ·obtain⟨e1,e2⟩:=cas k _ hk (by simp);exact no k e1 (.own e2)
     ·obtain⟨e1,e2⟩:=cas k _ hk (by simp);exact(no k e1 (.tok e2)).elim
     ·obtain⟨e1,e2⟩:=cas k _ hk (by simp);exact no k e1 (.far e2 hy)
     obtain⟨e1,e2⟩:=cas k _ hk (by simp);exact no k e1 (.mat e2 hz)
    refine .dat m xs A xs.length cap (fun z i=>cur.getD (z*m+i) undef) ⟨rfl,hc,hm,h3,fun _=>⟨b,0,hA,fun z y hz i hi=>⟨hdat _,?_⟩⟩⟩ (fun z y hz i u hu=>(h4 z y hz i u hu).evo evo)
    have hzl:=(Xad.1 hz).1
    have:=Qft hzl hi
    have hlt':z*m+i<cur.size:=by omega
    rw[Xar,Xe3 w b _ cur _ _ h1]
    simp[Xaf,hlt']
 refine⟨upd φ q .dead,evo,fun k k' b h1 h2=>?_,fun k=>?_,hR⟩
 ·unfold upd at h1 h2
  split at h1
  ·exact(Qba h1).elim
  split at h2
  ·exact(Qba h2).elim
  exact henv.distinct k k' b h1 h2
 by_cases e:k=q
 ·subst e
  rw[hd]
  simp[SlotOK,upd]
 have hsp:=ho k e
 have hok:=henv.slot k
 have eq:=ne k e
 generalize s.slot k=s1 at hsp hok
 generalize own'.getD k .unused=s2 at hsp
 cases hsp with
 |unused=>exact eq.trans hok
 |dead=>exact eq.trans hok
 |tok=>obtain⟨t,ht,ht'⟩:=hok;exact⟨t,eq.trans ht,ht'⟩
 |own m xs xs' hl' hp=>obtain⟨b,hb,hown⟩:=hok;exact⟨b,eq.trans hb,hown.pw hR hl' hp⟩
 |gro m xs xs' hl' hp=>
  rcases hok with ⟨h1,h2⟩ |⟨b,hb,hown⟩
  ·exact .inl ⟨Xau (by rw[<-hl',h1];rfl),eq.trans h2⟩
  exact .inr ⟨b,eq.trans hb,hown.pw hR hl' hp⟩
 |far J=>
  obtain⟨Y,D,B,f1,f2,f3⟩:=hok
  exact⟨Y,D,B,eq.trans f1,f2,f3.own,fun b off hx hy=>⟨(evo.dat b off (f3.dat b off hx hy).1).1,(f3.dat b off hx hy).2⟩,f3.os,f3.tape,f3.output,f3.size⟩
 |mat m rows hp=>
  obtain⟨bs,m1,m2,m3,m4⟩:=hok
  refine⟨bs,eq.trans m1,m2,m3,fun k xs hk=>?_⟩
  rcases m4 k xs hk with m5 |⟨b,m5,m6⟩
  ·exact .inl m5
  exact .inr ⟨b,m5,m6.pw hR rfl fun j x x' h1 h2=>by rw[h1] at h2;cases h2;exact hp xs (Xac hk) x (Xac h1)⟩
 |mp es clock=>obtain⟨b,hb,hown⟩:=hok;exact⟨b,eq.trans hb,hown⟩
def Za3 {R:AV->AV->Prop}{own own':List Slot}{q:Nat}(hq:q<own.length) (h:QPw R (own.set q .dead) own'):own'.getD q .unused=.dead/\∀k,k≠q->SPw R (own.getD k .unused) (own'.getD k .unused):=by
 obtain⟨h1,h2⟩:=h.spec
 rw[Xgu] at h1
 refine⟨?_,fun k hk=>?_⟩
 ·have:=h2 q .dead (own'[q]'(by omega)) (by rw[Xd0 hq]) (Xab (by omega))
  rw[Xaj,Xab (by omega),Xbd]
  generalize own'[q]=z at this
  cases this
  rfl
 rcases Xcm k own.length with hl |hl
 ·have:=h2 k own[k] (own'[k]'(by omega)) (by rw[Xci (Ne.symm hk),Xab hl]) (Xab (by omega))
  simpa [Xaj,Xab hl,Xab (show k<own'.length by omega)] using this
 simp only[Xaj,Xbb hl,Xbb (show own'.length<=k by omega),Xei]
 exact .unused
def Zmj {n:Nat}(q:Nat) (l:List (Nat×AV)) {l':List (Nat×AV)}{m:Nat}{xs:List (List AV)}{own':List Slot}(hmask:Qz8 s.regs (mk n l)=mk n l) (hn:(s.regs.length==n&&Nat.blt q s.own.length)=true) (hs:s.own.getD q .unused=.gro m xs)
  (hr:PPw (FzG q m xs) l l') (ho:QPw (FzG q m xs) (s.own.set q .dead) own'):Mor X φ0 w0 s ⟨mk n l',own'⟩:=by
 simp only[Xaq,Xbm,Xfs] at hn
 obtain⟨h1,h2⟩:=Za3 hn.2 ho
 exact Mor.trans (Qsc l hn.1 hmask) (Q8f (s:=⟨mk n l,s.own⟩) q hs (Q04 (.any _) n hr) h1 h2)
def Q21 {n:Nat}(q:Nat) (l:List (Nat×AV)) {l':List (Nat×AV)}{m:Nat}{xs:List (List AV)}{own':List Slot}(hmask:Qz8 s.regs (mk n l)=mk n l) (hn:(s.regs.length==n&&Nat.blt q s.own.length)=true) (hs:s.own.getD q .unused=.own m xs)
  (hr:PPw (Fz q m xs) l l') (ho:QPw (Fz q m xs) (s.own.set q .dead) own'):Mor X φ0 w0 s ⟨mk n l',own'⟩:=by
 simp only[Xaq,Xbm,Xfs] at hn
 obtain⟨h1,h2⟩:=Za3 hn.2 ho
 exact Mor.trans (Qsc l hn.1 hmask) (Qvj (s:=⟨mk n l,s.own⟩) q hs (Q04 (.any _) n hr) h1 h2)
end
section
variable {X : Nat -> Nat -> Prop} {φ0 : Nat -> FSlot} {w0 : World} {s : AS}
end
section
variable {X : Nat -> Nat -> Prop} {φ0 : Nat -> FSlot} {w0 : World} {s : AS}
end
def Qt4 {n m:Nat}{xs:List (List AV)}{s:Slot}:SPw (FzG n m xs) s s:=SPw.refl (fun a=>.same a) s
def Qks {n m:Nat}{xs:List (List AV)}{s:Slot}:SPw (Fz n m xs) s s:=SPw.refl (fun a=>.same a) s
def Q86 {P:Program}{o:Oper}{rd:List (Operand×AV)}{bl eff:List (Nat×Slot)}{r r':AV}(hl:Less r r') (h:Qd0 P o rd bl r eff):Qd0 P o rd bl r' eff:=
 fun X φ a w hr hb hd hX hlt next Q k=>h X φ a w hr hb hd hX hlt next Q fun v φ' w' hv=>k v φ' w' (hl X φ' w' v hv)
def Less.tup {l k:List AV}(h:LessL l k):Less (.tup l) (.tup k):=fun X φ w v hv=>by
 cases hv with
 |tup _ vs hs hr=>
  refine .tup k vs (hs.trans h.length) fun i a hi=>?_
  obtain⟨b,hb,hl⟩:=h.get i a hi
  exact hl X φ w _ (hr i b hb)
def Zlw {k m:Nat}{α:Type}{c:α->List AV}(h:∀x,∀a∈c x,NLt 0 a) (l:List α):SNLt k (.gro m (l.map c)):=.gro m _ (Q20 h l)
end
section
def Q72 {α β γ:Type}{f:α->Option γ}{g:β->Option γ}{a:α}{r:γ}(h:Sum.elim f g (.inl a)=some r):f a=some r:=h
def Q71 {α β γ:Type}{f:α->Option γ}{g:β->Option γ}{b:β}{r:γ}(h:Sum.elim f g (.inr b)=some r):g b=some r:=h
def Qj2 {P:Program}{fn:Func}{k:Nat}{res:AV}{σ':List Slot}{regs vs:List AV}(hr:ResL P ⟨regs,σ'⟩ fn.results.toList vs) (hres:res=Qz6 vs) (hn:NLt k res) (hk:Nat.ble σ'.length k=true) (hs:∀s∈σ',SNLt k s):Fin P fn k res σ' ⟨regs,σ'⟩:=
 ⟨⟨vs,hr,hres⟩,hn,Xd4 hk,fun n _=>⟨rfl,by
  show SNLt _ (σ'.getD n .unused)
  rcases Xcm n σ'.length with h |h
  ·simp only[Xaj,Xab h,Xbd]
   exact hs _ (Xb2 h)
  simp only[Xaj,Xbb h,Xei]
  exact .unused⟩⟩
def PStep (P:Program) (o:Oper) (rd:List (Operand×AV)) (bl:List (Nat×Slot)) (pv:Value) (eff:List (Nat×Slot)):Prop:=
 ∀(X:Nat->Nat->Prop) (φ:Nat->FSlot) (a:Act) (w:World),(∀p∈rd,RelV X φ w p.2 (a.eval p.1))->(∀p∈bl,SlotOK X φ w p.1 p.2)->Qdu φ->(∀b off,X b off->b<w.heap.size) ->
  (∀n b,(φ n).lies b->b<w.heap.size) ->
  ∀(next:Act->World->Prop) (Q:Exit->Act->World->Prop),
   (∀φ' w',(∀p∈eff,SlotOK X φ' w' p.1 p.2)->Qdu φ'->(∀n,n∉eff.map (·.1)->φ' n=φ n) ->
    (∀b,b<w.heap.size->(∀p∈eff,¬(φ p.1).lies b)->w'.heap[b]? = w.heap[b]?)->Evo X φ w φ' w'->Q (.panic [{ v:=pv,recovered:=false }]) a w')->Does P o a w next Q
def PStep.to {P:Program}{o:Oper}{rd rd2:List (Operand×AV)}{bl:List (Nat×Slot)}{v:Value}{eff:List (Nat×Slot)}(e:rd=rd2) (h:PStep P o rd bl v eff):PStep P o rd2 bl v eff:=e▸h
def PStep.more {P:Program}{o:Oper}{rd rd':List (Operand×AV)}{bl:List (Nat×Slot)}{pv:Value}{eff:List (Nat×Slot)}(h:PStep P o rd bl pv eff):PStep P o (rd++rd') bl pv eff:=
 fun X φ a w hr hb hd hX hlt=>h X φ a w (fun p hp=>hr p (Xc0 _ hp)) hb hd hX hlt
section
variable {X : Nat -> Nat -> Prop} {φ0 : Nat -> FSlot} {w0 : World} {P : Program} {ex : Option Nat} {ops : Array Oper} {l : List (Oper × Rec)} {regs regs' : List AV} {own own' : List Slot}
def RInv.nextP {S:Nat->Bool}{φ:Nat->FSlot}{a:Act}{w:World}(h:RInv X φ0 w0 l regs own S φ a w) (f:Facts ex P ops l regs own regs' own') {i:Nat}{o:Oper}{c:Rec}(hi:l[i]? = some (o,c)) (fit:Fit l S i o c)
  {φ':Nat->FSlot}{w':World}(hr:c.r=.any) (he:∀p∈c.eff,SlotOK X φ' w' p.1 p.2) (hd:Qdu φ') (hn:∀n,n∉c.eff.map (·.1)->φ' n=φ n)
  (hb:∀b,b<w.heap.size->(∀p∈c.eff,¬(φ p.1).lies b)->w'.heap[b]? = w.heap[b]?) (hev:Evo X φ w φ' w'):RInv X φ0 w0 l regs own (Qg2 S i) φ' a w':=by
 have:=h.next f hi fit (v:=undef) (φ':=φ') (w':=w') (by rw[hr];exact .any _) he hd hn hb hev
 refine⟨this.low,h.defers.evo hev,h.size,fun t ht=>?_,this.slot,this.distinct,this.hid,this.evo⟩
 rw[Q0q hi fit]
 split
 ·rw[hr];exact .any _
 exact(h.regs t ht).evo hev
def Za7 {S:Nat->Bool}{φ:Nat->FSlot}{a:Act}{w:World}(h:RInv X φ0 w0 l regs own S φ a w) (f:Facts ex P ops l regs own regs' own') {i:Nat}{o:Oper}{c:Rec}(hi:l[i]? = some (o,c)) (fit:Fit l S i o c) (hgd:o.guard=none) (hr:c.r=.any) {pv:Value}(hp:PStep P o c.rd c.bl pv c.eff)
  {K:Act->World->Prop}{Q:Exit->Act->World->Prop}{ro:Option Nat}(k:∀φ' w',RInv X φ0 w0 l regs own (Qg2 S i) φ' a w'->Q (.panic [{ v:=pv,recovered:=false }]) a w'):wpOpIn (FR ro) 0 P ops Q i K a w:=by
 unfold wpOpIn
 rw[f.at hi]
 dsimp only
 rw[Xaz (by unfold Region.wanted;rw[hgd])]
 exact hp X φ a w (h.val f hi fit) (h.blocks f hi fit) h.distinct h.hid h.lt K Q (fun φ' w' he hd hn hb hev=>k φ' w' (h.nextP f hi fit hr he hd hn hb hev)) ro
def Q47 {i0:Nat}{op:Oper}{cp:Rec}(f:Facts (some i0) P ops l regs own regs' own') (hi0:l[i0]? = some (op,cp)) (hlast:i0+1=l.length) (hgd:op.guard=none) (hr:cp.r=.any) {pv:Value}(hp:PStep P op cp.rd cp.bl pv cp.eff) {Q:Exit->Act->World->Prop}{ro:Option Nat}
  (k:∀φ' a' w',Sim X φ0 w0 φ' ⟨regs',own'⟩ a' w'->Q (.panic [{ v:=pv,recovered:=false }]) a' w'):∀(m i:Nat),i+m=i0->∀(φ:Nat->FSlot) (a:Act) (w:World),RInv X φ0 w0 l regs own (fun j=>decide (j<i)) φ a w->wpOpsIn (FR ro) 0 P ops Q (List.range' i (m+1)) a w:=by
 have fitS:∀(i:Nat) (o:Oper) (c:Rec),Fit l (fun j=>decide (j<i)) i o c:=fun i o c=>⟨by simp,fun j o' c' hj=>⟨fun hlt _=>by simpa using hlt,fun hgt _=>by simp;omega⟩⟩
 have eS:∀i,Qg2 (fun j=>decide (j<i)) i=fun j=>decide (j<i+1):=fun i=>by
  funext j
  simp only[Qg2]
  by_cases h1:j<i
  ·simp[h1];omega
  by_cases h2:j=i
  ·subst h2;simp
  have:¬j<i+1:=by omega
  simp[h1,h2,this]
 intro m
 induction m with
 |zero=>
  intro i hi φ a w h
  obtain rfl:i=i0:=by omega
  rw[Xd1,Xfo]
  refine Za7 h f hi0 (fitS _ _ _) hgd hr hp fun φ' w' h'=>k φ' _ w' (h'.done f fun j hj=>?_)
  rw[eS]
  simp;omega
 |succ m ih=>
  intro i hi φ a w h
  rw[Xd1,Xfo]
  obtain⟨p,hpi⟩:∃p,l[i]? = some p:=⟨_,Xab (by omega)⟩
  obtain⟨o,c⟩:=p
  refine h.step f hpi (fitS _ _ _) (fun e=>by cases e;omega) fun φ' a' w' h'=>ih (i+1) (by omega) φ' a' w' ?_
  rwa [eS] at h'
def Q2v {i0:Nat}{op:Oper}{cp:Rec}(f:Facts (some i0) P ops l regs own regs' own') (hi0:l[i0]? = some (op,cp)) (hlast:i0+1=l.length) (hgd:op.guard=none) (hr:cp.r=.any) (hcl:∀j o' c',l[j]? = some (o',c')->j<i0->Qrf o' c' op cp=true) (hord:Qjg l [] []=true) {pv:Value}(hp:PStep P op cp.rd cp.bl pv cp.eff) {Q:Exit->Act->World->Prop}{ro:Option Nat}(k:∀φ' a' w',Sim X φ0 w0 φ' ⟨regs',own'⟩ a' w'->Q (.panic [{ v:=pv,recovered:=false }]) a' w'):∀(fuel:Nat) (listed:Array Bool),listed.size=ops.size->(List.range ops.size).countP (fun j=>!listed.getD j false)<=fuel ->
  (∀(i:Nat) (o:Oper) (c:Rec),l[i]? = some (o,c)->listed.getD i false=true->Qq5 (fun j=>listed.getD j false) o)->listed.getD i0 false=false->∀(φ:Nat->FSlot) (a:Act) (w:World),RInv X φ0 w0 l regs own (fun j=>listed.getD j false) φ a w->wpAnyIn (FR ro) 0 P .any ops Q fuel listed a w:=by
 have hlen:l.length=ops.size:=by
  have:=Xek List.length f.hops
  simpa using this.symm
 have fin:∀(listed:Array Bool),listed.size=ops.size->(∀(i:Nat) (o:Oper) (c:Rec),l[i]? = some (o,c)->listed.getD i false=true->Qq5 (fun j=>listed.getD j false) o)->Region.ready .any ops listed=[]->∀i,i<l.length->listed.getD i false=true:=by
  intro listed hsz closed hr i
  induction i using Nat.strongRecOn with
  |_ i ih=>
   intro hi
   cases hli:listed.getD i false with
   |true=>rfl
   |false=>
    exfalso
    obtain⟨p,hp⟩:∃p,l[i]? = some p:=⟨_,Xab hi⟩
    obtain⟨o,c⟩:=p
    have h1:=(Qh8 closed l [] [] rfl rfl (fun _ _ _ h=>by simp at h) hord i o c (by simp) hp).1
    have hmem:i∈Region.ready .any ops listed:=by
     unfold Region.ready
     rw[Xen]
     refine⟨by simp;omega,?_⟩
     rw[f.at hp]
     have hl':listed.getD i true=false:=by
      simp only[Xaf] at hli ⊢
      rw[Xa1 (by omega)] at hli ⊢
      simpa using hli
     simp only[hl',Xd9,Xcc,Xca,Xbd]
     refine Xdj.2 fun e he=>?_
     cases hb:Region.binds .any e with
     |false=>simp
     |true=>
      have hlt:=h1 e (by simpa using he) hb
      simpa using ih e.on hlt (by omega)
    rw[hr] at hmem
    cases hmem
 intro fuel
 induction fuel with
 |zero=>
  intro listed hsz hc closed hex φ a w h
  have hall:∀i,i<l.length->listed.getD i false=true:=fun i hi=>by
   have:=Xg5.1 (Nat.le_zero.1 hc) i (by simp;omega)
   simpa using this
  exact absurd (hall i0 (by omega)) (by rw[hex];simp)
 |succ fuel ih=>
  intro listed hsz hc closed hex φ a w h
  refine⟨fun hr=>absurd (fin listed hsz closed hr i0 (by omega)) (by rw[hex];simp),fun i hi=>?_⟩
  unfold Region.ready at hi
  rw[Xen] at hi
  obtain⟨hir,hi2⟩:=hi
  rw[Xd7] at hir
  simp only[Xaq,Xdw] at hi2
  obtain⟨hi2,hi3⟩:=hi2
  have hli:listed.getD i false=false:=by
   simp only[Xaf] at hi2 ⊢
   rw[Xa1 (by omega)] at hi2 ⊢
   simpa using hi2
  obtain⟨c,hpi⟩:=f.get (Xa1 hir)
  rw[Xa1 hir] at hi3
  simp only[Xca,Xbd] at hi3
  generalize ops[i]=o at hpi hi3
  have hpreds:Qq5 (fun j=>listed.getD j false) o:=fun e he hb=>by
   have:=Xdj.1 hi3 e (by simpa using he)
   simpa [hb] using this
  have fit:Fit l (fun j=>listed.getD j false) i o c:=⟨hli,fun j o' c' hj=>⟨fun hlt hcl=>(Qh8 closed l [] [] rfl rfl (fun _ _ _ h=>by simp at h) hord i o c (by simp) hpi).2 hpreds j o' c' hlt hj hcl,fun hgt hcl=>by
   cases hS:listed.getD j false with
   |false=>exact hS
   |true=>
    have:=(Qh8 closed l [] [] rfl rfl (fun _ _ _ h=>by simp at h) hord j o' c' (by simp) hj).2 (closed j o' c' hj hS) i o c hgt hpi hcl
    rw[hli] at this
    cases this⟩⟩
  have eS:(fun j=>(listed.setIfInBounds i true).getD j false)=Qg2 (fun j=>listed.getD j false) i:=by
   funext j
   simp only[Qg2,Xaf,Xdp]
   by_cases e:i=j
   ·subst e;simp[hsz,hir]
   have:(j==i)=false:=by simp;omega
   simp[e,this]
  by_cases hie:i=i0
  ·subst hie
   rw[hi0] at hpi
   cases hpi
   refine Za7 h f hi0 fit hgd hr hp fun φ' w' h'=>k φ' _ w' (h'.done f fun j hj=>?_)
   show Qg2 _ _ _=true
   simp only[Qg2,Xf1,Xbm]
   rcases Xcm j i with h1 |h1
   ·obtain⟨q,hq⟩:∃q,l[j]? = some q:=⟨_,Xab hj⟩
    exact .inl ((fit.2 j q.1 q.2 hq).1 h1 (hcl j q.1 q.2 hq h1))
   exact .inr (by omega)
  refine h.step f hpi fit (fun e=>hie (by cases e;rfl)) fun φ' a' w' h'=>ih _ (by simpa using hsz) ?_ ?_ (by rw[show(listed.setIfInBounds i true).getD i0 false=Qg2 (fun j=>listed.getD j false) i i0 from Xee eS i0];simp only[Qg2,hex,Xgn,Xct];exact fun e=>hie e.symm) φ' a' w' (by rw[eS];exact h')
  ·have hlt:=Quo (p:=fun j=>!listed.getD j false) (p':=fun j=>!(listed.setIfInBounds i true).getD j false) (List.range ops.size) (fun x _ hx=>by
    rw[show(listed.setIfInBounds i true).getD x false=Qg2 (fun j=>listed.getD j false) i x from Xee eS x] at hx
    simp only[Qg2,Xh1,Xaq] at hx
    exact hx.1) i (by simpa using hir) (by simpa using hli) (by
    rw[show(listed.setIfInBounds i true).getD i false=Qg2 (fun j=>listed.getD j false) i i from Xee eS i]
    simp[Qg2])
   omega
  intro j o' c' hj hS e he hb
  have e1:(listed.setIfInBounds i true).getD j false=Qg2 (fun j=>listed.getD j false) i j:=Xee eS j
  have e2:(listed.setIfInBounds i true).getD e.on false=Qg2 (fun j=>listed.getD j false) i e.on:=Xee eS e.on
  show(listed.setIfInBounds i true).getD e.on false=true
  rw[e1] at hS
  rw[e2]
  simp only[Qg2,Xf1,Xbm] at hS ⊢
  rcases hS with hS |rfl
  ·exact .inl (closed j o' c' hj hS e he hb)
  rw[hpi] at hj
  cases hj
  exact .inl (hpreds e he hb)
end
section
variable {P : Program} {X : Nat -> Nat -> Prop} {φ0 : Nat -> FSlot} {w0 : World} {ro : Option Nat} {Q : Exit -> AS -> Prop} {s : AS}
def Znz {id:Nat}{ops:Array Oper}(i0:Nat) (recs:List Rec) (hm:Met ops recs s) {op:Oper}{cp:Rec}(h1:(ops.toList.zip recs)[i0]? = some (op,cp)) (hd:(i0+1==ops.size&&(op.guard==none:Bool))=true) (hr:cp.r=.any) {pv:Value}
  (hp:PStep P op cp.rd cp.bl pv cp.eff) (ha:AllOkE P i0 0 (ops.toList.zip recs)) (k:Q (.panic [{ v:=pv,recovered:=false }]) (after ops recs s)):AWp P X φ0 w0 ro (.region id ops false) Q s:=fun φ a w hs=>by
 have e1:=hm.2
 simp only[Xaq,Xbm] at e1 hd
 have hl1:(ops.toList.zip recs).length=ops.size:=by simp;have:=e1.1;simp at this;omega
 refine Xh9 ?_
 have:=Q47 (ro:=ro) (X:=X) (φ0:=φ0) (w0:=w0) (Qqo ha hm) h1 (by rw[hl1];exact hd.1) hd.2 hr hp (Q:=conc X φ0 w0 Q) (fun φ' a' w' hs'=>⟨φ',_,hs',k⟩) i0 0 (by omega) φ a w (by
  have:=RInv.start (l:=ops.toList.zip recs) (regs:=s.regs) (own:=s.own) hs
  simpa using this)
 rw[hd.1,<-Xfp] at this
 exact this
def Zj1 {id:Nat}{ops:Array Oper}(i0:Nat) (recs:List Rec) (hm:Met ops recs s) {op:Oper}{cp:Rec}(h1:(ops.toList.zip recs)[i0]? = some (op,cp)) (hd:(i0+1==ops.size&&(op.guard==none:Bool))=true) (hr:cp.r=.any) {pv:Value}
  (hp:PStep P op cp.rd cp.bl pv cp.eff) (ha:AllOkE P i0 0 (ops.toList.zip recs)) (k:Q (.panic [{ v:=pv,recovered:=false }]) (after ops recs s)) (hf:P.follows .mixedOrders=true) (ho:Qjg (ops.toList.zip recs) [] []=true) (hc:(((ops.toList.zip recs).take i0).all fun q=>Qrf q.1 q.2 op cp)=true):AWp P X φ0 w0 ro (.region id ops true) Q s:=fun φ a w hs=>by
 have e1:=hm.2
 simp only[Xaq,Xbm] at e1 hd
 have hl1:(ops.toList.zip recs).length=ops.size:=by simp;have:=e1.1;simp at this;omega
 refine Xh8 hf (Q2v (Qqo ha hm) h1 (by rw[hl1];exact hd.1) hd.2 hr (fun j o' c' hj hlt=>?_) ho hp (Q:=conc X φ0 w0 Q) (fun φ' a' w' hs'=>⟨φ',_,hs',k⟩) ops.size _ (by simp) ?_ ?_ ?_ φ a _ ?_)
 ·exact Xa6.1 hc (o',c') (Xac (i:=j) (by rw[Xbi,Xaz hlt];exact hj))
 ·exact Xcn Xgw (by simp)
 ·intro i o c hi hl
  simp only[Xaf,Xcs] at hl
  split at hl<;>simp at hl
 ·simp only[Xaf,Xcs]
  split<;>rfl
 have:=RInv.start (l:=ops.toList.zip recs) (regs:=s.regs) (own:=s.own) hs.drawn
 have e:(fun j=>(Array.replicate ops.size false).getD j false)=fun _=>false:=by
  funext j
  simp only[Xaf,Xcs]
  split<;>rfl
 rw[e]
 exact this
end
def Q8v {P:Program}{o:Oper}{a:Act}{w w':World}{next:Act->World->Prop}{Q:Exit->Act->World->Prop}{f:FuncId}{args:Array Value}{ch:List PanicEntry}(h:(execOp a.eval o).run P w=.ok (.enter f args) w') (k:Calls P f args w' fun e w''=>e=.panicked ch/\Q (.panic ch) a w''):Does P o a w next Q:=fun ro=>by
 refine⟨fun _ _=>trivial,?_⟩
 rw[Xf2 _ _ _ (Qop h fun d e=>by cases e),h]
 refine⟨fun e=>(by cases e),Qvw.2 (k.mono ?_)⟩
 rintro e w2 ⟨rfl,hk⟩
 exact hk
def Q77 {P:Program}{o:Oper}{x:Operand}{t:TypeId}{v:Value}(h:o.op=.panic x):PStep P o [(x,.lit (.iface t v))] [] (.iface t v) []:=by
 intro X φ a w hr hb hd hX hlt next Q k ro
 have h1:a.eval x=.iface t v:=Qd1 (hr (x,.lit (.iface t v)) (by simp))
 have he:(execOp a.eval o).run P w=.halt (.panic (.iface t v)) w:=by
  simp only[execOp,h,h1]
  rfl
 refine⟨fun _ _=>trivial,?_⟩
 rw[Xf2 _ _ _ (fun c e=>by rw[h] at e;cases e),he]
 exact k φ w (by simp) hd (fun _ _=>rfl) (fun _ _ _=>rfl) Evo.refl
def Q9a {P:Program}{o:Oper}{t:TypeId}{x:Operand}{v:Value}{f:Array Field}(h:o.op=.makeInterface t x) (ht:P.underlying t=some (.struct f)):Qd0 P o [(x,.lit v)] [] (.lit (.iface t v)) []:=Qc6 fun X φ a w hr _=>by
 have h1:a.eval x=v:=Qd1 (hr (x,.lit v) (by simp))
 exact⟨_,by simp[execOp,h,h1,Instr.makeInterface,Xa8 ht],.lit _⟩
def Zh8 {u v:Value}:Less (.lit (.tuple #[u,v])) (.tup [.lit u,.lit v]):=fun X φ w z h=>by
 cases h
 refine .tup _ _ rfl fun i a hi=>?_
 match i,hi with
 |0,hi=>simp at hi;subst hi;exact .lit _
 |1,hi=>simp at hi;subst hi;exact .lit _
 |i+2,hi=>simp at hi
def Zh9 {l:List Value}:Less (.lit (.agg l.toArray)) (.agg (l.map .lit)):=fun X φ w z h=>by
 cases h
 refine .agg _ _ (by simp) fun i a hi=>?_
 rw[Xaw] at hi
 cases hv:l[i]? with
 |none=>rw[hv] at hi;cases hi
 |some v=>
  rw[hv] at hi
  cases hi
  have:l.toArray.getD i undef=v:=by simp[Xaf,hv]
  rw[this]
  exact .lit _
inductive Out where
 |ret (res:AV) (σ':List Slot)
 |pan (pv:Value)
def panE (pv:Value):Value->Ending->Prop:=fun _ e=>e=.panicked [{ v:=pv,recovered:=false }]
def Zoa (P:Program) (f:FuncId) (args:List AV) (σ:List Slot) (pv:Value):Prop:=Zki (Calls P f) (panE pv) args σ .any (σ.map fun _=>.dead)
def Zw3 (P:Program) (f:FuncId) (args:List AV) (σ:List Slot):Out->Prop
 |.ret res σ'=>Spec P f args σ res σ'
 |.pan pv=>Zoa P f args σ pv
def finP (pv:Value):Exit->AS->Prop
 |.panic ch,_=>ch=[{ v:=pv,recovered:=false }]
 |_,_=>False
def finO (P:Program) (X:Nat->Nat->Prop) (φ0:Nat->FSlot) (w0:World) (fn:Func) (k:Nat):Out->Exit->AS->Prop
 |.ret res σ'=>finM P X φ0 w0 fn k res σ'
 |.pan pv=>finP pv
def Zmu {X:Nat->Nat->Prop}{φ φ':Nat->FSlot}{w w':World}{σ:List Slot}(hφ:∀n,σ.length<=n->φ n=.unused) (hh:∀b off,X b off->b<w'.heap.size) (E:Evo X φ w φ' w') :
  Qo4 X (fun n=>if n<σ.length then .dead else .unused) w' (fun n=>(σ.map fun _=>Slot.dead).getD n .unused)/\Evo X φ w (fun n=>if n<σ.length then .dead else .unused) w':=by
 have no:∀(n:Nat) (f:FSlot),(if n<σ.length then FSlot.dead else .unused)=f->f=.dead\/f=.unused:=fun n f e=>by
  split at e
  ·exact .inl e.symm
  exact .inr e.symm
 have nl:∀n b,¬(if n<σ.length then FSlot.dead else .unused).lies b:=fun n b h=>by
  split at h
  ·exact Qba h
  exact Qf1 h
 have lt:∀n,φ n≠.unused->n<σ.length:=fun n h=>by
  rcases Xcm n σ.length with h1 |h1
  ·exact h1
  exact absurd (hφ n h1) h
 have dd:∀n,φ n≠.unused->(if n<σ.length then FSlot.dead else .unused)=.dead:=fun n h=>Xaz (lt n h)
 refine⟨⟨fun n=>?_,fun n n' b h=>absurd h (nl n b),hh⟩,E.os,E.tape,E.output,E.size,E.blk,fun b ⟨n,h⟩=>absurd h (nl n b),fun b off hd=>?_,fun n h=>dd n (by rw[h];simp),fun n b h=>.inr (dd n (by rw[h];simp)),fun n t h=>.inl (dd n (by rw[h];simp)),fun n Y h=>.inl (dd n (by rw[h];simp)),fun n bs h=>.inl (dd n (by rw[h];simp)),fun n b h h'=>?_⟩
 ·by_cases h:n<σ.length
  ·simp only[Xaj,Xaw,Xab h,Xca,Xbd]
   exact Xaz h
  simp only[Xaj,Xaw,Xbb (Xc9 h),Xh0,Xei]
  exact Xat h
 ·obtain⟨h1,h2⟩:=E.dat b off hd
  exact⟨⟨h1.lt,h1.hid,fun n e=>(by rcases no n _ e with e |e<;>cases e),fun n L e=>(by rcases no n _ e with e |e<;>cases e),fun n Y e=>(by rcases no n _ e with e |e<;>cases e),fun n bs k e=>(by rcases no n _ e with e |e<;>cases e)⟩,h2⟩
 rcases no n _ h' with e |e<;>cases e
def Q41 {P:Program}{f:FuncId}{fn:Func}{c:Code}(hf:P.funcs[f]? = some fn) (hb:fn.body=some c) {args:List AV}{σ:List Slot}{pv:Value}
  (h:∀X φ0 w0,(∀n,σ.length<=n->φ0 n=.unused)->w0.drawn≠1->AWp P X φ0 w0 none c (finP pv) ⟨args++List.replicate (fn.ntmps-args.length) .any,σ⟩):Zoa P f args σ pv:=by
 intro X φ w vals hsz hargs henv
 have hφ0:=Qsf henv
 refine Xg2.1 (Xf3 (F:=FR none) (n:=0) hf hb trivial (Xej (h X φ { w with drawn:=0 } hφ0 (fun e=>by cases e) φ _ w (Qt5 (k:=0) (Xbg _) hsz hargs henv)) fun e a w' ⟨φ',s,hs,hq⟩=>?_))
 cases e with
 |panic ch=>
  have hq':ch=[{ v:=pv,recovered:=false }]:=hq
  subst hq'
  refine Qrw (by simp) hs fun w'' hs2=>?_
  rw[Qsg rfl] at hs2 ⊢
  obtain⟨h1,h2⟩:=Zmu hφ0 hs2.env.hid hs2.evo.of_at
  exact⟨undef,_,rfl,.any _,h1,h2⟩
 |normal=>exact hq.elim
 |ret=>exact hq.elim
 |exit=>exact hq.elim
 |goto=>exact hq.elim
 |outgrown=>exact hq.elim
def Q4z {P:Program}{f:FuncId}{fn:Func}{c:Code}(hf:P.funcs[f]? = some fn) (hb:fn.body=some c) {args:List AV}{σ:List Slot}{out:Out}(k:Nat) (hσ:σ.length<=k)
  (h:∀X φ0 w0,(∀n,σ.length<=n->φ0 n=.unused)->w0.drawn≠1->AWp P X φ0 w0 none c (finO P X φ0 w0 fn k out) ⟨args++List.replicate (fn.ntmps-args.length) .any,σ⟩):Zw3 P f args σ out:=by
 cases out with
 |ret res σ'=>exact Qs2 hf hb k hσ fun X φ0 w0 h1 h2=>Q3v (h X φ0 w0 h1 h2)
 |pan pv=>exact Q41 hf hb h
def Q78 {P:Program}{o:Oper}{f:Operand}{xs:Array Operand}{ts:Array TypeId}{g:FuncId}{first cap vs args:List AV}{σ σr:List Slot}{pv:Value}(ρ:List Nat) (h:o.op=.call { callee:=.value f,args:=xs,argTypes:=ts })
  (hcall:∀vals w,(callFunc g vals).run P w=.ok (.enter g vals) w) (spec:Zoa P g args σ pv)
  (hdec:(decide ρ.Nodup&&(vs.length==xs.size)&&(σ.length==ρ.length)&&σ.all Slot.alive)=true)
  (hargs:Rn (fun n n'=>ρ[n]? = some n'/\n<σ.length) (.agg args) (.agg (first++vs++cap)))
  (hσ:SLw (fun n n'=>ρ[n]? = some n'/\n<σ.length) σ σr)
  {bl eff:List (Nat×Slot)}(hbl:ρ.zip σr=bl) (heff:ρ.map (fun n=>(n,Slot.dead))=eff) {rd:List (Operand×AV)}(hrd:(f,.fn (.func g) first cap)::xs.toList.zip vs=rd) :
  PStep P o rd bl pv eff:=by
 simp only[Xaq,Xbw,Xbm] at hdec
 obtain⟨⟨⟨h1,h2⟩,h3⟩,h5⟩:=hdec
 obtain⟨q1,q2⟩:=hσ.spec
 subst hbl heff hrd
 intro X φ a w hr hb hd hX hlt next Q K
 obtain⟨vals,e1,e2⟩:=Q6g h hcall h2 hr
 have hz:ρ.zip (σ.map fun _=>Slot.dead)=ρ.map (fun n=>(n,Slot.dead)):=by
  apply List.ext_getElem?
  intro i
  rw[Xaw]
  rcases Xcm i ρ.length with h |h
  ·rw[Xab h,Xca,Xbs]
   exact⟨Xab h,by rw[Xaw,Xab (by omega)];rfl⟩
  rw[Xbb h,Xh0,Xbb]
  simp;omega
 have core:=Quq (C:=Calls P g) (fun _ _ _ _ hR h=>h.mono hR) (E:=panE pv) (σ':=σ.map fun _=>.dead) (σr':=σ.map fun _=>.dead) (res':=.any) ρ h1 spec hargs q1.symm (fun n s s' hs hs'=>⟨⟨fun e=>?_,fun e=>?_⟩,q2 n s s' hs hs'⟩) (by simp[h3]) (by simp[h3]) (Nat.le_of_eq h3) (fun n s s' hs hs'=>?_) (.plain _ .any) e2 (fun p hp=>hb p ?_) hd hX hlt
 ·refine Q8v (ch:=[{ v:=pv,recovered:=false }]) e1 (core.mono ?_)
  rintro e w' ⟨v,φ',rfl,_,h4,h5,h6,h7,h8⟩
  rw[hz] at h4 h6 h7
  exact⟨rfl,K φ' w' h4 h5 h6 h7 h8⟩
 ·subst e
  have:=Xa6.1 h5 _ (Xac hs)
  cases this
 ·subst e
  have:=Xa6.1 h5 _ (Xac hs)
  cases this
 ·simp only[Xaw,Xc3] at hs hs'
  obtain⟨_,_,rfl⟩:=hs
  obtain⟨_,_,rfl⟩:=hs'
  exact .dead
 simp only[h3,Xcv,List.drop_length,Xbz,Xbn] at hp
 exact hp
def endR (X:Nat->Nat->Prop) (φ:Nat->FSlot) (w:World) (res:AV) (σ':List Slot):Ending->World->Prop:=fun e w'=>∃v φ',e=.returned v/\RelV X φ' w' res v/\Qo4 X φ' w' (fun n=>σ'.getD n .unused)/\Evo X φ w φ' w'
def AWpF (P:Program) (X:Nat->Nat->Prop) (φ0:Nat->FSlot) (w0:World) (fn:Func) (res:AV) (σ':List Slot) (c:Code) (s:AS):Prop:=∀φ a w,Sim X φ0 w0 φ s a w->c.wpIn (FR none) 0 P (bodyPostM (FR none) 0 P fn (endR X φ0 w0 res σ')) a w
def Q40 {P:Program}{f:FuncId}{fn:Func}{c:Code}(hf:P.funcs[f]? = some fn) (hb:fn.body=some c) {args:List AV}{σ:List Slot}{res:AV}{σ':List Slot}
  (h:∀X φ0 w0,(∀n,σ.length<=n->φ0 n=.unused)->w0.drawn=1->AWpF P X φ0 w0 fn res σ' c ⟨args++List.replicate (fn.ntmps-args.length) .any,σ⟩):Spec P f args σ res σ':=by
 intro X φ w vals hsz hargs henv
 have:=h X φ { w with drawn:=1 } (Qsf henv) rfl φ _ w (Qt5 (k:=1) (n:=fn.ntmps) (Xay _) hsz hargs henv)
 refine Xg2.1 (CallsIn.mono (Xf3 (F:=FR none) (n:=0) hf hb trivial this) ?_)
 rintro e w' ⟨v,φ',rfl,h1,h2,h3⟩
 exact⟨v,φ',rfl,h1,h2,h3.of_at⟩
section
variable {P : Program} {X : Nat -> Nat -> Prop} {φ0 : Nat -> FSlot} {w0 : World} {fn : Func} {res : AV} {σ' : List Slot} {s : AS}
def Zg7 {φ:Nat->FSlot}{a:Act}{w:World}{k:Nat}(hd:w0.drawn=1) (hk:∀n,k<=n->φ0 n=.unused) (hs:Sim X φ0 w0 φ s a w) (hq:∃s',Mor X φ0 w0 s s'/\Fin P fn k res σ' s'):LeavesInM (FR none) 0 P fn a.tmps (endR X φ0 w0 res σ') a.defers .returning w:=by
 obtain⟨s2,hm,hf⟩:=hq
 obtain⟨φ2,h2⟩:=hm _ _ _ hs
 refine Qrw (by simp) h2 fun w'' hs2=>?_
 rw[Qr2 (by omega)] at hs2 ⊢
 obtain⟨v,h1,v',φ3,h3,h4,h5,h6⟩:=Q8n hk hs2 hf
 exact⟨v,h1,v',φ3,h3,h4,h5,h6⟩
def Zb4 {x y:Code}{k:Nat}(hd:w0.drawn=1) (hk:∀n,k<=n->φ0 n=.unused) (h:AWp P X φ0 w0 none x (Qx5 (AWpF P X φ0 w0 fn res σ' y) (finM P X φ0 w0 fn k res σ')) s):AWpF P X φ0 w0 fn res σ' (.seq x y) s:=fun φ a w hs=>
 wpIn_seq (Xej (h φ a w hs) fun e a w ⟨φ',s',hs',hq⟩=>by
  cases e with
  |normal=>exact hq φ' a w hs'
  |ret=>exact Zg7 hd hk hs' hq
  |exit=>exact hq.elim
  |goto=>exact hq.elim
  |panic=>exact hq.elim
  |outgrown=>exact hq.elim)
def Zhb:Nat->List Nat->List AV
 |_,[]=>[]
 |i,m::ms=>.ref i m 0 0::Zhb (i+1) ms
def Q1l (ms:List Nat):List Slot:=ms.map fun m=>.own m [List.replicate m .any]
def Qra:List Nat->List (List AV)->List Slot
 |m::ms,c::cs=>.own m [c]::Qra ms cs
 |_,_=>[]
def DRet (P:Program) (g:FuncId) (ms:List Nat):Prop:=
 Zki (fun vals w R=>CallsDIn (FR none) 0 P g vals .returning w fun e u' w'=>u'=.returning/\R e w') (fun v e=>e=.returned v) (ms.map fun _=>.any) [] (.tup []) []
def DPan (P:Program) (g:FuncId) (ms:List Nat) (pv:Value) (cs:List (List AV)):Prop:=
 Zki (fun vals w R=>CallsDIn (FR none) 0 P g vals (.panicking [{ v:=pv,recovered:=false }]) w fun e u' w'=>u'=.panicking [{ v:=pv,recovered:=true }]/\R e w') (fun v e=>e=.returned v) (Zhb 0 ms) (Q1l ms) (.tup []) (Qra ms cs)
def Qwj {g:FuncId}{gfn:Func}{id:Nat}{o:Oper}{y:Code}{t:Tmp}(hf:P.funcs[g]? = some gfn) (hb:gfn.body=some (.seq (.region id #[o] false) y)) (hrec:∀ρ w,(execOp ρ o).run P w=.ok .recover w) (hdst:(o.dst==some t&&(o.guard==none:Bool))=true)
  {u u':FrameMode}{rv:Value}(hu:∀(c:Frame) cs,c.mode=u->(match recoverD (c::cs) with |some (v,cs')=>v=rv/\cs'={ c with mode:=u' }::cs |none=>rv=.nilIface/\u'=u))
  {args:List AV}{σ:List Slot}{res:AV}{σ':List Slot}(k:Nat) (hσ:σ.length<=k)
  (h:∀X φ0 w0,(∀n,σ.length<=n->φ0 n=.unused)->AWp P X φ0 w0 none y (finA P gfn k res σ') ⟨(args++List.replicate (gfn.ntmps-args.length) AV.any).set t (.lit rv),σ⟩) :
  Zki (fun vals w R=>CallsDIn (FR none) 0 P g vals u w fun e m w'=>m=u'/\R e w') (fun v e=>e=.returned v) args σ res σ':=by
 simp only[Xaq,Xbm] at hdst
 intro X φ w vals hsz hargs henv
 have hφ0:=Qsf henv
 have hs0:=Qt5 (k:=1) (n:=gfn.ntmps) (Xay _) hsz hargs henv
 refine callsDIn_of_wpSIn hf hb trivial fun c₀ cs hc=>wpSIn_seq (wpSIn_region ?_)
 have hput:Sim X φ { w with drawn:=1 } φ ⟨(args++List.replicate (gfn.ntmps-args.length) AV.any).set t (.lit rv),σ⟩ (Act.put { tmps:=vals++Array.replicate (gfn.ntmps-vals.size) undef,defers:=[] } o.dst rv) w:=by
  refine⟨hs0.low,by rw[Qvc];exact hs0.defers,by rw[Q2x];exact hs0.size.trans (by simp),fun q v hv=>?_,hs0.env,hs0.evo⟩
  rw[hdst.1]
  have hq:q<(args++List.replicate (gfn.ntmps-args.length) AV.any).length:=by
   have:=(Xad.1 hv).1
   simpa using this
  rw[Qw6 _ _ _ _ (by rw[hs0.size];exact hq)]
  rw[Xev] at hv
  by_cases e:t=q
  ·subst e
   rw[Xaz rfl,Xaz hq] at hv
   cases hv
   simp only[Xb8,Xe4]
   exact .lit _
  rw[Xat e] at hv
  have:(some t==some q)=false:=by simpa using e
  rw[this]
  exact hs0.regs q v hv
 have hrest:∀cs',cs'={ c₀ with mode:=u' }::cs->y.wpSIn (FR none) 0 P (bodyPostS P gfn c₀ cs fun e m w'=>m=u'/\∃v φ',e=.returned v/\RelV X φ' w' res v/\Qo4 X φ' w' (fun n=>σ'.getD n .unused)/\Evo X φ w φ' w') (Act.put { tmps:=vals++Array.replicate (gfn.ntmps-vals.size) undef,defers:=[] } o.dst rv) cs' w:=fun cs' ecs=>by
  refine wpSIn_of_wpIn rfl (Xej (h X φ { w with drawn:=1 } hφ0 φ _ w hput) fun e a w' ⟨φ',s',hs',hq⟩=>?_)
  have fin:Fin P gfn k res σ' s'->bodyPostS P gfn c₀ cs (fun e m w'=>m=u'/\∃v φ',e=.returned v/\RelV X φ' w' res v/\Qo4 X φ' w' (fun n=>σ'.getD n .unused)/\Evo X φ w φ' w') .ret a cs' w':=fun hq=>by
   obtain⟨l,e1,e2,_⟩:=hs'.defers
   have e3:a.defers=[]:=by rw[e1,e2 rfl,Qr2 (Xay _)];rfl
   obtain⟨v,h1,v',φ2,h2,h3,h4,h5⟩:=Q8n (fun n hn=>hφ0 n (Xcn hσ hn)) hs' hq
   exact⟨e3,u',ecs,v,h1,rfl,v',φ2,h2,h3,h4,h5.of_at⟩
  cases e with
  |normal=>exact fin hq
  |ret=>exact fin hq
  |exit=>exact hq.elim
  |goto=>exact hq.elim
  |panic=>exact hq.elim
  |outgrown=>exact hq.elim
 have hw:Region.wanted o (yielded #[o] (vals++Array.replicate (gfn.ntmps-vals.size) undef))=true:=by unfold Region.wanted;rw[hdst.2]
 have hr:=hu c₀ cs hc
 show wpOpsSIn (FR none) 0 P #[o] _ [0] _ _ _
 unfold wpOpsSIn
 refine⟨fun _ _=>trivial,?_⟩
 have hw':Region.wanted #[o][0] (yielded #[o] (vals++Array.replicate (gfn.ntmps-vals.size) undef))=true:=hw
 rw[Xaz hw',show(execOp _ #[o][0]).run P w=_ from hrec _ _]
 dsimp only
 cases hm:recoverD (c₀::cs) with
 |some p=>
  obtain⟨v,cs'⟩:=p
  rw[hm] at hr
  obtain⟨rfl,e2⟩:=hr
  exact hrest cs' e2
 |none=>
  rw[hm] at hr
  obtain⟨rfl,rfl⟩:=hr
  exact hrest (c₀::cs) (by rw[<-hc])
def Zrn (c:Frame) (cs:List Frame) (h:c.mode=.returning):match recoverD (c::cs) with |some (v,cs')=>v=Value.nilIface/\cs'={ c with mode:=.returning }::cs |none=>Value.nilIface=.nilIface/\FrameMode.returning=.returning:=by
 simp[recoverD,h]
def Zro {pv:Value}(c:Frame) (cs:List Frame) (h:c.mode=.panicking [{ v:=pv,recovered:=false }]):match recoverD (c::cs) with |some (v,cs')=>v=pv/\cs'={ c with mode:=.panicking [{ v:=pv,recovered:=true }] }::cs |none=>pv=.nilIface/\FrameMode.panicking [{ v:=pv,recovered:=true }]=.panicking [{ v:=pv,recovered:=false }]:=by
 simp[recoverD,h]
end
def Sim.beside {X:Nat->Nat->Prop}{φ0 φ φ':Nat->FSlot}{w0 w w':World}{s:AS}{a:Act}{eff:List (Nat×Slot)}(hs:Sim X φ0 w0 φ s a w) (he:∀p∈eff,SlotOK X φ' w' p.1 p.2) (hd:Qdu φ') (hn:∀n,n∉eff.map (·.1)->φ' n=φ n)
  (hb:∀b,b<w.heap.size->(∀p∈eff,¬(φ p.1).lies b)->w'.heap[b]? = w.heap[b]?) (hev:Evo X φ w φ' w'):Sim X φ0 w0 φ' ⟨s.regs,setE s.own eff⟩ a w':=by
 refine⟨hs.low,hs.defers.evo hev,hs.size,fun t v hv=>(hs.regs t v hv).evo hev,⟨fun n=>?_,hd,fun b off hx=>Xbc (hs.env.hid b off hx) hev.size⟩,hs.evo.trans hev⟩
 show SlotOK X φ' w' n ((setE s.own eff).getD n .unused)
 rw[Qt6]
 by_cases hm:n∈eff.map (·.1)
 ·exact he _ (Qzf hm)
 rw[Qm0 hm]
 refine(hs.env.slot n).evo hev (hn n hm) fun b hb'=>hb b ((hs.env.slot n).lt hb') fun p hp hp'=>?_
 have e:=hs.env.distinct n p.1 b hb' hp'
 exact hm (e▸Xba.2 ⟨p,hp,rfl⟩)
def Sim.home {X:Nat->Nat->Prop}{φ0 φ φ':Nat->FSlot}{w0 w w':World}{k:Nat}{s s':AS}{a a':Act}(h0:Sim X φ0 w0 φ s a w) (hd:w0.drawn=1) (h:Sim X φ { w with drawn:=k } φ' s' a' w'):Sim X φ0 w0 φ' s' { a' with defers:=[] } w':=
 ⟨h0.low,.nil1 _ _ (by omega),h.size,h.regs,h.env,h0.evo.trans h.evo.of_at⟩
def boxB (m:Nat):Slot->Bool
 |.own m' [c]=>m'==m&&c.length==m
 |_=>false
def refL (ns:List (Nat×Nat)):List AV:=ns.map fun p=>.ref p.1 p.2 0 0
def finD (P:Program) (X:Nat->Nat->Prop) (φ0:Nat->FSlot) (w0:World) (fn:Func) (k:Nat) (res:AV) (σ':List Slot) (g:FuncId) (ns:List (Nat×Nat)):Exit->AS->Prop
 |.normal,s |.ret,s=>∃s',Mor X φ0 w0 s s'/\Fin P fn k res σ' s'
 |.panic ch,s=>∃pv cs,ch=[{ v:=pv,recovered:=false }]/\DPan P g (ns.map (·.2)) pv cs/\(∀c∈cs,∀a∈c,NLt 0 a)/\(cs.length==ns.length&&ns.all (fun p=>boxB p.2 (s.slot p.1))&&decide (ns.map (·.1)).Nodup)=true /\
   ∃s',Mor X φ0 w0 ⟨s.regs,setE s.own ((ns.map (·.1)).zip (Qra (ns.map (·.2)) cs))⟩ s'/\Fin P fn k res σ' s'
 |_,_=>False
def Zha {M:Nat->Nat->Prop}:∀(ns:List (Nat×Nat)) (i:Nat),(∀j p,ns[j]? = some p->M (i+j) p.1)->LPw (Rn M) (Zhb i (ns.map (·.2))) (refL ns)
 |[],_,_=>trivial
 |p::ns,i,h=>⟨.ref (h 0 p rfl) _ _ _,Zha ns (i+1) fun j q hj=>by
  have:=h (j+1) q (by simpa using hj)
  rwa [show i+(j+1)=i+1+j from by omega] at this⟩
def Zb7 {ms:List Nat}{i:Nat}{s:Slot}(h:(Q1l ms)[i]? = some s):∃m,ms[i]? = some m/\s=.own m [List.replicate m .any]:=by
 unfold Q1l at h
 rw[Xaw,Xc3] at h
 obtain⟨m,h1,rfl⟩:=h
 exact⟨m,h1,rfl⟩
def Qyp:∀(ms:List Nat) (cs:List (List AV)),cs.length=ms.length->(Qra ms cs).length=ms.length
 |[],[],_=>rfl
 |m::ms,c::cs,h=>by simp[Qra,Qyp ms cs (by simpa using h)]
 |[],_::_,h=>by simp at h
 |_::_,[],h=>by simp at h
def Za8:∀(ms:List Nat) (cs:List (List AV)) (i:Nat) (s:Slot),(Qra ms cs)[i]? = some s->∃m c,c∈cs/\s=.own m [c]
 |m::ms,c::cs,0,s,h=>by simp[Qra] at h;exact⟨m,c,by simp,h.symm⟩
 |m::ms,c::cs,i+1,s,h=>by
  obtain⟨m',c',h1,h2⟩:=Za8 ms cs i s (by simpa [Qra] using h)
  exact⟨m',c',Xal _ h1,h2⟩
 |[],_,_,_,h=>by simp[Qra] at h
 |_::_,[],_,_,h=>by simp[Qra] at h
def Q5d {c:List AV}(h:∀a∈c,NLt 0 a):∀x∈[c],∀a∈x,NLt 0 a:=fun x hx a ha=>by
 rw[Xbq.1 hx] at ha
 exact h a ha
def Q6f {X:Nat->Nat->Prop}{φ:Nat->FSlot}{w:World}{s:AS}{a:Act}{ev:Operand->Value}(henv:Qo4 X φ w s.slot):∀(caps:List Operand) (ns:List (Nat×Nat)),caps.map (fun x=>opd s.regs x)=refL ns->(∀x∈caps,RelV X φ w (opd s.regs x) (ev x))->(ns.all fun p=>boxB p.2 (s.slot p.1))=true ->
  ∃bs:List Nat,caps.map ev=bs.map (fun b=>Value.pointer (some ⟨b,0,none⟩))/\bs.length=ns.length/\∀(i:Nat) (p:Nat×Nat) b,ns[i]? = some p->bs[i]? = some b->φ p.1=.own b
 |[],[],_,_,_=>⟨[],rfl,rfl,by simp⟩
 |x::caps,p::ns,h,hr,hb=>by
  simp only[Xax,refL,Xfy] at h
  rw[Xdo,Xaq] at hb
  obtain⟨bs,h1,h2,h3⟩:=Q6f (a:=a) (ev:=ev) henv caps ns h.2 (fun y hy=>hr y (Xal _ hy)) hb.2
  have hx:=hr x (by simp)
  rw[h.1] at hx
  have hslot:=henv.slot p.1
  obtain⟨b,hn⟩:∃b,φ p.1=.own b:=by
   have hb1:=hb.1
   cases hs:s.slot p.1 with
   |own m xs=>rw[hs] at hslot;obtain⟨b,e,_⟩:=hslot;exact⟨b,e⟩
   |_=>rw[hs] at hb1;cases hb1
  generalize hv:ev x=v at hx
  cases hx with
  |ref _ _ _ _ A _ hA=>
   have:=hA b hn
   refine⟨b::bs,by rw[Xax,Xax,h1,hv,this];simp,by simp[h2],fun i q c hi hc=>?_⟩
   cases i with
   |zero=>simp at hi hc;subst hi hc;exact hn
   |succ i=>exact h3 i q c (by simpa using hi) (by simpa using hc)
 |[],_::_,h,_,_=>by simp[refL] at h
 |_::_,[],h,_,_=>by simp[refL] at h
def Q4k {F:Fence}{n:Nat}{P:Program}{ops:Array Oper}{Q:Exit->Act->World->Prop}{i:Nat}{K:Act->World->Prop}{a:Act}{w:World}{o:Oper}(h:ops[i]? = some o) :
  wpOpIn F n P ops Q i K a w=if Region.wanted o (yielded ops a.tmps) then o.wpIn F n P a w K Q else(∀f,o.about P w a.eval=some f->F.fn f)/\K (a.put o.dst undef) w:=by
 unfold wpOpIn
 rw[h]
def Zds {P:Program}{X:Nat->Nat->Prop}{φ0:Nat->FSlot}{w0:World}{fn:Func}{res:AV}{σ':List Slot}{s:AS}{id k:Nat}{mk df:Oper}{y:Code}{t:Tmp}{g:FuncId}{caps:Array Operand}(ns:List (Nat×Nat)) (hd:w0.drawn=1) (hk:∀n,k<=n->φ0 n=.unused)
  (hcall:∀vals w,(callFunc g vals).run P w=.ok (.enter g vals) w)
  (hmk:mk.op=.makeFunc (.func g) #[] caps) (hdf:df.op=.defer { callee:=.value (.tmp t),args := #[],argTypes := #[] }) (hg:(mk.dst==some t&&(mk.guard==none:Bool)&&(df.dst==none:Bool)&&(df.guard==none:Bool)&&Nat.blt t s.regs.length)=true)
  (hcaps:caps.toList.map (fun x=>opd s.regs x)=refL ns) (hown:(ns.all fun p=>boxB p.2 (s.slot p.1))=true) (hret:DRet P g (ns.map (·.2)))
  (h:∀φ1 w1,(∀n,s.own.length<=n->φ1 n=.unused)->w1.drawn≠1->AWp P X φ1 w1 none y (finD P X φ0 w0 fn k res σ' g ns) ⟨s.regs.set t .any,s.own⟩):AWpF P X φ0 w0 fn res σ' (.seq (.region id #[mk,df] false) y) s:=by
 simp only[Xaq,Xbm,Xfs] at hg
 obtain⟨⟨⟨⟨g1,g2⟩,g3⟩,g4⟩,g5⟩:=hg
 intro φ a w hs
 obtain⟨bs,hb1,hb2,hb3⟩:=Q6f (a:=a) (ev:=a.eval) hs.env caps.toList ns hcaps (fun x _=>hs.opd x) hown
 have hcv:caps.map a.eval=(bs.map fun b=>Value.pointer (some ⟨b,0,none⟩)).toArray:=by
  rw[<-hb1]
  apply Array.ext'
  simp
 obtain⟨l,el,el0,_⟩:=hs.defers
 have hdef:a.defers=[]:=by rw[el,el0 hd,Qr2 (by omega)];rfl
 let a1:Act:=a.put (some t) (.func (.func g) #[] (caps.map a.eval))
 let a2:Act:={ a1 with defers:=dclo g bs::a1.defers }
 have hs2:Sim X φ { w with drawn:=Qum g bs } φ ⟨s.regs.set t .any,s.own⟩ a2 w:=by
  refine⟨fun n b hb=>(hs.env.slot n).lt hb,?_,?_,fun q v hv=>?_,hs.env,Evo.refl.to_at⟩
  ·have:a2.defers=Quv { w with drawn:=Qum g bs }:=by rw[Q1d rfl];show dclo g bs::a1.defers=_;rw[Qvc,hdef]
   rw[this]
   exact .base _ _ _
  ·show a1.tmps.size=_
   rw[Q2x]
   exact hs.size.trans (by simp)
  show RelV X φ w v (a1.tmps.getD q undef)
  have hq:q<s.regs.length:=by
   have:=(Xad.1 hv).1
   simpa using this
  rw[Qw6 _ _ _ _ (by rw[hs.size];exact hq)]
  rw[Xev] at hv
  by_cases e:t=q
  ·subst e
   rw[Xaz rfl,Xaz hq] at hv
   cases hv
   exact .any _
  rw[Xat e] at hv
  have:(some t==some q)=false:=by simpa using e
  rw[this]
  exact hs.regs q v hv
 have hw1:({ w with drawn:=Qum g bs }:World).drawn≠1:=by show Qum g bs≠1;unfold Qum;omega
 have hrun:=h φ { w with drawn:=Qum g bs } (fun n hn=>by
  have:=hs.env.slot n
  have e:s.slot n=.unused:=by unfold AS.slot;simp[Xaj,Xbb hn]
  rw[e] at this
  exact this) hw1 φ a2 w hs2
 have hpos:∀(ops:Array Oper) (o:Oper) (q:Act),o.guard=none->Region.wanted o (yielded ops q.tmps)=true:=fun ops o q e=>by unfold Region.wanted;rw[e]
 have he1:(execOp a.eval mk).run P w=.ok (.value (.func (.func g) #[] (caps.map a.eval))) w:=by
  simp[execOp,hmk,Instr.makeFunc]
 have he2:(execOp a1.eval df).run P w=.ok (.defer (dclo g bs)) w:=by
  have ht:a1.eval (.tmp t)=.func (.func g) #[] (caps.map a.eval):=by
   show a1.tmps.getD t undef=_
   rw[Qw6 _ _ _ _ (by rw[hs.size];exact g5)]
   simp
  simp[execOp,hdf,resolve,ht,Deferred.ofValue,hcv,dclo]
 refine wpIn_seq (Xh9 ?_)
 show wpOpsIn (FR none) 0 P #[mk,df] _ [0,1] a w
 rw[Xfo,Q4k (o:=mk) rfl,Xaz (hpos _ _ _ g2)]
 have hval:=Qkd (P:=P) (next:=wpOpsIn (FR none) 0 P #[mk,df] (Exit.then (fun a w=>y.wpIn (FR none) 0 P (bodyPostM (FR none) 0 P fn (endR X φ0 w0 res σ')) a w) (bodyPostM (FR none) 0 P fn (endR X φ0 w0 res σ'))) [1]) (Q:=Exit.then (fun a w=>y.wpIn (FR none) 0 P (bodyPostM (FR none) 0 P fn (endR X φ0 w0 res σ')) a w) (bodyPostM (FR none) 0 P fn (endR X φ0 w0 res σ'))) he1 ?_ none
 ·exact hval
 rw[g1,Xfo,Q4k (o:=df) rfl,Xaz (hpos _ _ _ g4)]
 refine⟨fun _ _=>trivial,?_⟩
 have hsem:df.semAt (FR none).round a1.eval=execOp a1.eval df:=Oper.semAt_none _ _
 rw[hsem,he2,Oper.uponIn_defer,g3]
 show y.wpIn (FR none) 0 P _ a2 w
 refine Xej hrun fun e a3 w3 ⟨φ3,s3,hs3,hq⟩=>?_
 have go:∀(u u':FrameMode) (eff:List (Nat×Slot)) (hu:u≠.run) (hset:settle u'=.returning) (hfin:∃s',Mor X φ0 w0 ⟨s3.regs,setE s3.own eff⟩ s'/\Fin P fn k res σ' s')
   (hcl:∀w4,Sim X φ { w with drawn:=Qum g bs } φ3 s3 { a3 with defers:=Quv { w with drawn:=Qum g bs } } w4->CallsDIn (FR none) 0 P g (bs.map fun b=>Value.pointer (some ⟨b,0,none⟩)).toArray u w4 fun e m w5=>m=u'/\(∃v,e=.returned v)/\∃φ5,(∀p∈eff,SlotOK X φ5 w5 p.1 p.2)/\Qdu φ5/\(∀n,n∉eff.map (·.1)->φ5 n=φ3 n) /\
    (∀b,b<w4.heap.size->(∀p∈eff,¬(φ3 p.1).lies b)->w5.heap[b]? = w4.heap[b]?)/\Evo X φ3 w4 φ5 w5),LeavesInM (FR none) 0 P fn a3.tmps (endR X φ0 w0 res σ') a3.defers u w3:=by
  intro u u' eff hu hset hfin hcl
  refine Qrw hu hs3 fun w4 hs4=>?_
  have hc4:=hcl w4 hs4
  rw[Q1d rfl] at hs4 ⊢
  refine⟨hu,.inr ⟨fun e=>(by cases e),_,_,g,_,rfl,?_,fun _ _=>trivial,Xgr hc4 ?_⟩⟩
  ·show(callFunc g (#[]++_)).run P w4=_
   rw[hcall,Array.empty_append]
  rintro e m w5 ⟨rfl,⟨v,rfl⟩,φ5,p1,p2,p3,p4,p5⟩
  dsimp only
  rw[hset]
  have h5:=(hs4.beside p1 p2 p3 p4 p5)
  have h6:=Sim.home (a':={ a3 with defers:=[dclo g bs] }) hs hd h5
  have:=Zg7 (P:=P) (fn:=fn) (res:=res) (σ':=σ') hd hk h6 hfin
  exact this
 have hret':∀w4,Sim X φ { w with drawn:=Qum g bs } φ3 s3 { a3 with defers:=Quv { w with drawn:=Qum g bs } } w4->CallsDIn (FR none) 0 P g (bs.map fun b=>Value.pointer (some ⟨b,0,none⟩)).toArray .returning w4 fun e m w5=>m=.returning/\(∃v,e=.returned v)/\∃φ5,(∀p∈([]:List (Nat×Slot)),SlotOK X φ5 w5 p.1 p.2)/\Qdu φ5/\(∀n,n∉([]:List (Nat×Slot)).map (·.1)->φ5 n=φ3 n) /\
    (∀b,b<w4.heap.size->(∀p∈([]:List (Nat×Slot)),¬(φ3 p.1).lies b)->w5.heap[b]? = w4.heap[b]?)/\Evo X φ3 w4 φ5 w5:=fun w4 hs4=>by
  have core:=Quq (C:=fun vals w R=>CallsDIn (FR none) 0 P g vals .returning w fun e u' w'=>u'=.returning/\R e w') (fun _ _ _ _ hR h=>Xgr h fun e u' w' ⟨h1,h2⟩=>⟨h1,hR _ _ h2⟩) (E:=fun v e=>e=.returned v) (σr:=[]) (σr':=[]) (res':=.tup []) (argr:=(ns.map (·.2)).map fun _=>AV.any) (vals:=(bs.map fun b=>Value.pointer (some ⟨b,0,none⟩)).toArray) (X:=X) (φ:=φ3) (w:=w4) [] Xfg hret
   (.plain _ (.agg _ fun a ha=>by obtain⟨_,_,rfl⟩:=Xba.1 ha;exact .any)) rfl (fun n s s' h=>by simp at h) rfl rfl (Xay _) (fun n s s' h=>by simp at h) (.plain _ (.tup _ (by simp)))
   (.agg _ _ (by simp[hb2]) fun i a ha=>by
    rw[Xaw,Xc3] at ha
    obtain⟨_,_,rfl⟩:=ha
    exact .any _) (by simp) hs4.env.distinct hs4.env.hid fun n b hb=>(hs4.env.slot n).lt hb
  refine Xgr core ?_
  rintro e m w5 ⟨h1,v,φ5,h2,_,h4,h5,h6,h7,h8⟩
  exact⟨h1,⟨v,h2⟩,φ5,h4,h5,h6,h7,h8⟩
 cases e with
 |normal=>exact go .returning .returning [] (by simp) rfl hq hret'
 |ret=>exact go .returning .returning [] (by simp) rfl hq hret'
 |panic ch=>
  obtain⟨pv,cs,rfl,hpan,hpl,hck,hfin⟩:=hq
  simp only[Xaq,Xbm,Xbw] at hck
  obtain⟨⟨c1,c2⟩,c3⟩:=hck
  refine go _ (.panicking [{ v:=pv,recovered:=true }]) _ (by simp) rfl hfin fun w4 hs4=>?_
  have hml:(ns.map (·.2)).length=ns.length:=by simp
  have hal:(Q1l (ns.map (·.2))).length=ns.length:=by simp[Q1l]
  have hrl:(ns.map (·.1)).length=ns.length:=by simp
  have hol:(Qra (ns.map (·.2)) cs).length=ns.length:=(Qyp _ _ (c1.trans hml.symm)).trans hml
  have hbox:∀p∈ns,∃c b,φ3 p.1=.own b/\c.length=p.2/\OwnOK X φ3 w4 b p.2 [c]:=fun p hp=>by
   have h1:=Xa6.1 c2 p hp
   have h2:=hs4.env.slot p.1
   unfold boxB at h1
   split at h1
   ·rename_i m' c hsl
    simp only[Xaq,Xbm] at h1
    rw[hsl] at h2
    obtain⟨b,h3,h4⟩:=h2
    exact⟨c,b,h3,h1.2,h1.1▸h4⟩
   cases h1
  have hblk:∀(i:Nat) (p:Nat×Nat) b,ns[i]? = some p->bs[i]? = some b->φ3 p.1=.own b:=fun i p b hi hb=>by
   obtain⟨c,b',h1,_,_⟩:=hbox p (Xac hi)
   have h2:=hb3 i p b hi hb
   rcases hs4.evo.own p.1 b h2 with h3 |h3
   ·exact h3
   rw[h3] at h1;cases h1
  have core:=Quq (C:=fun vals w R=>CallsDIn (FR none) 0 P g vals (.panicking [{ v:=pv,recovered:=false }]) w fun e u' w'=>u'=.panicking [{ v:=pv,recovered:=true }]/\R e w') (fun _ _ _ _ hR h=>Xgr h fun e u' w' ⟨h1,h2⟩=>⟨h1,hR _ _ h2⟩) (E:=fun v e=>e=.returned v)
   (σr:=Q1l (ns.map (·.2))) (σr':=Qra (ns.map (·.2)) cs) (res':=.tup []) (argr:=refL ns) (vals:=(bs.map fun b=>Value.pointer (some ⟨b,0,none⟩)).toArray) (X:=X) (φ:=φ3) (w:=w4) (ns.map (·.1)) c3 hpan
   (Qct (Zha ns 0 fun j p hj=>⟨by rw[Xaw,Xar,hj];rfl,by rw[hal,Xar];exact(Xad.1 hj).1⟩)) rfl
   (fun n s s' h1 h2=>by
    rw[h1] at h2;cases h2
    obtain⟨m,_,rfl⟩:=Zb7 h1
    exact⟨⟨by simp,by simp⟩,.plain (Q5d fun a ha=>by rw[Xed ha];exact .any)⟩)
   (hol.trans hrl.symm) (hol.trans hrl.symm) (by rw[hal,hrl];exact Xay _)
   (fun n s s' h1 h2=>by
    rw[h1] at h2;cases h2
    obtain⟨m,c,hc,rfl⟩:=Za8 _ _ _ _ h1
    exact .plain (Q5d (hpl c hc)))
   (.plain _ (.tup _ (by simp)))
   (.agg _ _ (by simp[refL,hb2]) fun i av ha=>by
    unfold refL at ha
    rw[Xaw,Xc3] at ha
    obtain⟨p,hp,rfl⟩:=ha
    have hi:i<bs.length:=by rw[hb2];exact(Xad.1 hp).1
    have hv:(bs.map fun b=>Value.pointer (some ⟨b,0,none⟩)).toArray.getD i undef=.pointer (some ⟨bs[i],0,none⟩):=by simp[Xaf,hi]
    rw[hv]
    have hφ:=hblk i p bs[i] hp (Xab hi)
    refine .ref _ _ _ _ _ (by rw[hφ];simp) fun b hb=>?_
    rw[hφ] at hb
    cases hb
    simp)
   (fun p hp=>by
    rw[hal,<-hrl,Xcv,List.drop_length,Xbz,Xbn] at hp
    obtain⟨i,hi⟩:=Xcj hp
    obtain⟨n,sl⟩:=p
    rw[Xbs] at hi
    obtain⟨i1,i2⟩:=hi
    rw[Xaw,Xc3] at i1
    obtain⟨q,hq1,rfl⟩:=i1
    obtain⟨m,hm,rfl⟩:=Zb7 i2
    rw[Xaw,hq1] at hm
    cases hm
    obtain⟨c,b,h1,h2,⟨⟨cur,ty,k1,k2,k3,k4⟩,k5⟩⟩:=hbox q (Xac hq1)
    exact⟨b,h1,⟨cur,ty,k1,by simpa using k2,fun x hx=>by rw[Xbq.1 hx];simp,fun j x hj i a hi=>by
     have:x=List.replicate q.2 AV.any:=by
      have:=Xac hj
      simpa using this
     subst this
     have:=Xac hi
     rw[Xed this]
     exact .any _⟩,k5⟩)
   hs4.env.distinct hs4.env.hid fun n b hb=>(hs4.env.slot n).lt hb
  refine Xgr core ?_
  rintro e m w5 ⟨h1,v,φ5,h2,_,h4,h5,h6,h7,h8⟩
  exact⟨h1,⟨v,h2⟩,φ5,h4,h5,h6,h7,h8⟩
 |exit=>exact hq.elim
 |goto=>exact hq.elim
 |outgrown=>exact hq.elim
def Zrq:∀c∈([]:List (List AV)),∀a∈c,NLt 0 a:=by simp
def Za4 {c:List AV}{cs:List (List AV)}(h:∀a∈c,NLt 0 a) (hs:∀c∈cs,∀a∈c,NLt 0 a):∀d∈c::cs,∀a∈d,NLt 0 a:=fun d hd=>by
 rcases Xa7.1 hd with rfl |hd
 ·exact h
 exact hs d hd
def Zms {P:Program}{tt tx:TypeId}{v:Value}{ms:Array (String×TypeId)}(ht:P.underlying tx=some (.interface ms)) (w:World):(binOp .eql tx (.iface tt v) .nilIface).run P w=.ok (.bool false) w:=by
 have h1:(Op.equal tx (.iface tt v) .nilIface).run P w=.ok false w:=by
  show(Op.equalIn (9999+1) tx (.iface tt v) .nilIface).run P w=_
  rw[Op.equalIn]
  simp only[Xav,Xa8 ht,Xao]
  rfl
 show(do pure (.bool (<-Op.equal tx (.iface tt v) .nilIface)):Sem Value).run P w=_
 simp only[Xav,h1,Xao]
 rfl
def Zis {P:Program}{tx:TypeId}{ms:Array (String×TypeId)}(ht:P.underlying tx=some (.interface ms)) (w:World):(binOp .eql tx .nilIface .nilIface).run P w=.ok (.bool true) w:=by
 have h1:(Op.equal tx .nilIface .nilIface).run P w=.ok true w:=by
  show(Op.equalIn (9999+1) tx .nilIface .nilIface).run P w=_
  rw[Op.equalIn]
  simp only[Xav,Xa8 ht,Xao]
  rfl
 show(do pure (.bool (<-Op.equal tx .nilIface .nilIface)):Sem Value).run P w=_
 simp only[Xav,h1,Xao]
 rfl
def Q89 {P:Program}{o:Oper}{x y:Operand}{tt tx t':TypeId}{v:Value}{ms:Array (String×TypeId)}(h:o.op=.binOp .eql tx x y t') (ht:P.underlying tx=some (.interface ms)):Qd0 P o [(x,.lit (.iface tt v)),(y,.lit .nilIface)] [] (.lit (.bool false)) []:=Qc6 fun X φ a w hr _=>by
 have h1:a.eval x=.iface tt v:=Qd1 (hr (x,.lit (.iface tt v)) (by simp))
 have h2:a.eval y=.nilIface:=Qd1 (hr (y,.lit .nilIface) (by simp))
 refine⟨.bool false,?_,.lit _⟩
 simp only[execOp,h,h1,h2,Xav]
 have e:(eqGuard .eql tx x y (.iface tt v) .nilIface).run P w=.ok () w:=rfl
 simp only[e,Xao,Zms ht]
 rfl
def Q6n {P:Program}{o:Oper}{x:Operand}{c:Value}{tx t':TypeId}{ms:Array (String×TypeId)}(h:o.op=.binOp .eql tx x (.const c) t') (ht:P.underlying tx=some (.interface ms)):Qd0 P o [(x,.lit .nilIface),(.const c,.lit .nilIface)] [] (.lit (.bool true)) []:=Qc6 fun X φ a w hr _=>by
 have h1:a.eval x=.nilIface:=Qd1 (hr (x,.lit .nilIface) (by simp))
 have h2:a.eval (.const c)=.nilIface:=Qd1 (hr (.const c,.lit .nilIface) (by simp))
 refine⟨.bool true,?_,.lit _⟩
 simp only[execOp,h,h1,h2,Xav]
 have e:(eqGuard .eql tx x (.const c) .nilIface .nilIface).run P w=.ok () w:=by cases x<;>rfl
 simp only[e,Xao,Zis ht]
 rfl
def Q3x {P:Program}{o:Oper}{x:Operand}{tx t:TypeId}{f:Array Field}{v:Value}(h:o.op=.typeAssert x tx t true) (ht:P.underlying t=some (.struct f)):Qd0 P o [(x,.lit (.iface t v))] [] (.lit (.tuple #[v,.bool true])) []:=Qc6 fun X φ a w hr _=>by
 have h1:a.eval x=.iface t v:=Qd1 (hr (x,.lit (.iface t v)) (by simp))
 exact⟨_,by simp[execOp,h,h1,Instr.typeAssert,Xa8 ht],.lit _⟩
def Qoh {P:Program}{o:Oper}{x y:Operand}{av:AV}{k:IntKind}{q c:Int}{bl:List (Nat×Slot)}{r:AV}(hb:(q==c)=true) (h:Qd0 P o [(x,av),(y,.lit (.int k c))] bl r []):Qd0 P o [(x,av),(y,.lit (.int k q))] bl r []:=by
 rw[Xbm] at hb
 rw[hb]
 exact h
def Zj9 {P:Program}{o:Oper}{rd:List (Operand×AV)}{bl:List (Nat×Slot)}{r:AV}{α:Type}{c:α->List AV}{v:α}{n m k:Nat}{z:List AV}(hz:LPw Less z (c v)) (h:Qd0 P o rd bl r [(n,.own m (List.replicate k z))]):Qd0 P o rd bl r [(n,.own m ((List.replicate k v).map c))]:=by
 intro X φ a w hr hb hd hX hlt next Q K
 refine h X φ a w hr hb hd hX hlt next Q fun u φ' w' h1 h2 h3 h4 h5 h6=>K u φ' w' h1 (fun p hp=>?_) h3 h4 (fun b hb' hp=>h5 b hb' fun p hp'=>?_) h6
 ·rw[Xbq.1 hp]
  obtain⟨b,e,⟨cur,ty,k1,k2,k3,k4⟩,k5⟩:=h2 (n,.own m (List.replicate k z)) (by simp)
  have hl:z.length=(c v).length:=hz.length
  refine⟨b,e,⟨cur,ty,k1,by simpa using k2,fun x hx=>?_,fun j x hj i a hi=>?_⟩,k5⟩
  ·obtain⟨y,hy,rfl⟩:=Xba.1 hx
   obtain⟨hy1,rfl⟩:=List.mem_replicate.1 hy
   rw[<-hl]
   exact k3 z (List.mem_replicate.2 ⟨hy1,rfl⟩)
  rw[Xaw,Xc3] at hj
  obtain⟨y,hy,rfl⟩:=hj
  rw[Xdn] at hy
  split at hy
  ·cases hy
   obtain⟨b',hb1,hb2⟩:=hz.get i a hi
   exact hb2 _ _ _ _ (k4 j z (by rw[Xdn,Xaz (by assumption)]) i b' hb1)
  cases hy
 rw[Xbq.1 hp']
 exact hp (n,.own m ((List.replicate k v).map c)) (Xbq.2 rfl)
def nlt0 {k:Nat}{l:List AV}(h:∀a∈l,NLt 0 a):∀a∈l,NLt k a:=fun a ha=>(h a ha).of0
def Less.trans {a b c:AV}(h:Less a b) (k:Less b c):Less a c:=fun X φ w v hv=>k X φ w v (h X φ w v hv)
section
variable {P : Program} {X : Nat -> Nat -> Prop} {φ0 : Nat -> FSlot} {w0 : World} {ro : Option Nat} {Q : Exit -> AS -> Prop} {s : AS}
def Zji {ops:Array Oper}{listed:Array Bool}{i:Nat}(hsz:listed.size=ops.size) (hir:i<ops.size):(fun j=>(listed.setIfInBounds i true).getD j false)=Qg2 (fun j=>listed.getD j false) i:=by
 funext j
 simp only[Qg2,Xaf,Xdp]
 by_cases e:i=j
 ·subst e;simp[hsz,hir]
 have:(j==i)=false:=by simp;omega
 simp[e,this]
def Qzh {ops:Array Oper}{listed:Array Bool}{i fuel:Nat}(hsz:listed.size=ops.size) (hir:i<ops.size) (hli:listed.getD i false=false) (hc:(List.range ops.size).countP (fun j=>!listed.getD j false)<=fuel+1):(List.range ops.size).countP (fun j=>!(listed.setIfInBounds i true).getD j false)<=fuel:=by
 have eS:=Zji hsz hir
 have hlt:=Quo (p:=fun j=>!listed.getD j false) (p':=fun j=>!(listed.setIfInBounds i true).getD j false) (List.range ops.size) (fun x _ hx=>by
  rw[show(listed.setIfInBounds i true).getD x false=Qg2 (fun j=>listed.getD j false) i x from Xee eS x] at hx
  simp only[Qg2,Xh1,Xaq] at hx
  exact hx.1) i (by simpa using hir) (by simpa using hli) (by
  rw[show(listed.setIfInBounds i true).getD i false=Qg2 (fun j=>listed.getD j false) i i from Xee eS i]
  simp[Qg2])
 omega
def Qvv {ops:Array Oper}{l:List (Oper×Rec)}{listed:Array Bool}{i:Nat}{o:Oper}{c:Rec}(hsz:listed.size=ops.size) (hir:i<ops.size) (hp:l[i]? = some (o,c)) (closed:∀(i:Nat) (o:Oper) (c:Rec),l[i]? = some (o,c)->listed.getD i false=true->Qq5 (fun j=>listed.getD j false) o) (hpreds:Qq5 (fun j=>listed.getD j false) o) :
  ∀(j:Nat) (o:Oper) (c:Rec),l[j]? = some (o,c)->(listed.setIfInBounds i true).getD j false=true->Qq5 (fun j=>(listed.setIfInBounds i true).getD j false) o:=by
 have eS:=Zji hsz hir
 intro j o' c' hj hS e he hb
 have e1:(listed.setIfInBounds i true).getD j false=Qg2 (fun j=>listed.getD j false) i j:=Xee eS j
 have e2:(listed.setIfInBounds i true).getD e.on false=Qg2 (fun j=>listed.getD j false) i e.on:=Xee eS e.on
 show(listed.setIfInBounds i true).getD e.on false=true
 rw[e1] at hS
 rw[e2]
 simp only[Qg2,Xf1,Xbm] at hS ⊢
 rcases hS with hS |rfl
 ·exact .inl (closed j o' c' hj hS e he hb)
 rw[hp] at hj
 cases hj
 exact .inl (hpreds e he hb)
def Qy7 {l:List (Oper×Rec)}{S:Nat->Bool}(hord:Qjg l [] []=true) (closed:∀(i:Nat) (o:Oper) (c:Rec),l[i]? = some (o,c)->S i=true->Qq5 S o) {i:Nat}{o:Oper}{c:Rec}(hp:l[i]? = some (o,c)) (hli:S i=false) (hpreds:Qq5 S o):Fit l S i o c:=
 ⟨hli,fun j o' c' hj=>⟨fun hlt hcl=>(Qh8 closed l [] [] rfl rfl (fun _ _ _ h=>by simp at h) hord i o c (by simp) hp).2 hpreds j o' c' hlt hj hcl,fun hgt hcl=>by
  cases hS:S j with
  |false=>rfl
  |true=>
   have:=(Qh8 closed l [] [] rfl rfl (fun _ _ _ h=>by simp at h) hord j o' c' (by simp) hj).2 (closed j o' c' hj hS) i o c hgt hp hcl
   rw[hli] at this
   cases this⟩⟩
def Zl4 {ops:Array Oper}{listed:Array Bool}{i:Nat}(hsz:listed.size=ops.size) (hi:i∈Region.ready .any ops listed):i<ops.size/\listed.getD i false=false/\∀o,ops[i]? = some o->Qq5 (fun j=>listed.getD j false) o:=by
 unfold Region.ready at hi
 rw[Xen] at hi
 obtain⟨hir,hi2⟩:=hi
 rw[Xd7] at hir
 simp only[Xaq,Xdw] at hi2
 obtain⟨hi2,hi3⟩:=hi2
 refine⟨hir,?_,fun o ho=>?_⟩
 ·simp only[Xaf] at hi2 ⊢
  rw[Xa1 (by omega)] at hi2 ⊢
  simpa using hi2
 rw[ho] at hi3
 simp only[Xca,Xbd] at hi3
 intro e he hb
 have:=Xdj.1 hi3 e (by simpa using he)
 simpa [hb] using this
def Zhc {ops:Array Oper}{l:List (Oper×Rec)}{listed:Array Bool}(hops:ops.toList=l.map (·.1)) (hlen:l.length=ops.size) (hord:Qjg l [] []=true) (hsz:listed.size=ops.size) (closed:∀(i:Nat) (o:Oper) (c:Rec),l[i]? = some (o,c)->listed.getD i false=true->Qq5 (fun j=>listed.getD j false) o) (hr:Region.ready .any ops listed=[]):∀i,i<l.length->listed.getD i false=true:=by
 intro i
 induction i using Nat.strongRecOn with
 |_ i ih=>
  intro hi
  cases hli:listed.getD i false with
  |true=>rfl
  |false=>
   exfalso
   obtain⟨p,hp⟩:∃p,l[i]? = some p:=⟨_,Xab hi⟩
   obtain⟨o,c⟩:=p
   have h1:=(Qh8 closed l [] [] rfl rfl (fun _ _ _ h=>by simp at h) hord i o c (by simp) hp).1
   have ho:ops[i]? = some o:=by
    have:(l.map (·.1))[i]? = some o:=by rw[Xaw,hp];rfl
    rw[<-hops] at this
    simpa using this
   have hmem:i∈Region.ready .any ops listed:=by
    unfold Region.ready
    rw[Xen]
    refine⟨by simp;omega,?_⟩
    rw[ho]
    have hl':listed.getD i true=false:=by
     simp only[Xaf] at hli ⊢
     rw[Xa1 (by omega)] at hli ⊢
     simpa using hli
    simp only[hl',Xd9,Xcc,Xca,Xbd]
    refine Xdj.2 fun e he=>?_
    cases hb:Region.binds .any e with
    |false=>simp
    |true=>
     have hlt:=h1 e (by simpa using he) hb
     simpa using ih e.on hlt (by omega)
   rw[hr] at hmem
   cases hmem
def Q2w {ops:Array Oper}{l1 l2:List (Oper×Rec)}{i0:Nat}{regs r1 r2:List AV}{own o1 o2:List Slot}{oy:Oper}{c1 c2:Rec}(f1:Facts (some i0) P ops l1 regs own r1 o1) (f2:Facts (some i0) P ops l2 regs own r2 o2) (pre:∀j,j<i0->l1[j]? = l2[j]?)
  (h1:l1[i0]? = some (oy,c1)) (h2:l2[i0]? = some (oy,c2)) (hg:c1.skip=false) (hy:Qsv P oy c1.rd c1.bl c1.r c1.eff c2.r c2.eff) (hlen:l1.length=l2.length) (hops:ops.toList=l1.map (·.1)) (hops2:ops.toList=l2.map (·.1)) (ha:∀j o' c',l1[j]? = some (o',c')->i0<j->Qrf oy c1 o' c'=true) (hord1:Qjg l1 [] []=true) (hord2:Qjg l2 [] []=true) {K:Exit->Act->World->Prop}
  (k1:∀φ' a' w',Sim X φ0 w0 φ' ⟨r1,o1⟩ a' w'->K .normal a' w') (k2:∀φ' a' w',Sim X φ0 w0 φ' ⟨r2,o2⟩ a' w'->K .normal a' w'):∀(fuel:Nat) (listed:Array Bool),listed.size=ops.size->(List.range ops.size).countP (fun j=>!listed.getD j false)<=fuel ->
  (∀(i:Nat) (o:Oper) (c:Rec),l1[i]? = some (o,c)->listed.getD i false=true->Qq5 (fun j=>listed.getD j false) o)->listed.getD i0 false=false->∀(φ:Nat->FSlot) (a:Act) (w:World),RInv X φ0 w0 l1 regs own (fun j=>listed.getD j false) φ a w->RInv X φ0 w0 l2 regs own (fun j=>listed.getD j false) φ a w->wpAnyIn (FR ro) 0 P .any ops K fuel listed a w:=by
 have hl1:l1.length=ops.size:=by have:=Xek List.length hops;simpa using this.symm
 have hi0:i0<l1.length:=(Xad.1 h1).1
 have same:∀(i:Nat) (o:Oper) (c:Rec),l2[i]? = some (o,c)->∃c',l1[i]? = some (o,c'):=fun i o c h=>by
  have e1:(l1.map (·.1))[i]? = (l2.map (·.1))[i]? := by rw[<-hops,<-hops2]
  rw[Xaw,Xaw,h] at e1
  cases hq:l1[i]? with
  |none=>rw[hq] at e1;cases e1
  |some p=>
   rw[hq] at e1
   obtain⟨o',c'⟩:=p
   simp only[Xca,Xdv] at e1
   exact⟨c',by rw[<-e1]⟩
 intro fuel
 induction fuel with
 |zero=>
  intro listed hsz hc _ hex
  have:=Xg5.1 (Nat.le_zero.1 hc) i0 (by simp;omega)
  rw[hex] at this
  simp at this
 |succ fuel ih=>
  intro listed hsz hc closed hex φ a w q1 q2
  have closed2:∀(i:Nat) (o:Oper) (c:Rec),l2[i]? = some (o,c)->listed.getD i false=true->Qq5 (fun j=>listed.getD j false) o:=fun i o c h=>by
   obtain⟨c',h'⟩:=same i o c h
   exact closed i o c' h'
  refine⟨fun hr=>?_,fun i hi=>?_⟩
  ·have:=Zhc hops hl1 hord1 hsz closed hr i0 hi0
   rw[hex] at this
   cases this
  obtain⟨hir,hli,hpr⟩:=Zl4 hsz hi
  obtain⟨c,hp⟩:=f1.get (Xa1 hir)
  have hpreds:=hpr _ (Xa1 hir)
  generalize ops[i]=o at hp hpreds
  have fit1:=Qy7 hord1 closed hp hli hpreds
  have eS:=Zji hsz hir
  rcases Xc5 i i0 with hlt |rfl |hgt
  ·have hp2:l2[i]? = some (o,c):=by rw[<-pre i hlt];exact hp
   have fit2:=Qy7 hord2 closed2 hp2 hli hpreds
   refine q1.step' f1 hp fit1 (fun e=>by cases e;omega) fun v φ' w' hr he hd hn hb hev=>ih _ (by simpa using hsz) (Qzh hsz hir hli hc) (Qvv hsz hir hp closed hpreds) ?_ φ' _ w' ?_ ?_
   ·rw[show(listed.setIfInBounds i true).getD i0 false=Qg2 (fun j=>listed.getD j false) i i0 from Xee eS i0]
    simp only[Qg2,hex,Xgn,Xct]
    omega
   ·rw[eS];exact q1.next f1 hp fit1 hr he hd hn hb hev
   rw[eS];exact q2.next f2 hp2 fit2 hr he hd hn hb hev
  ·rw[h1] at hp
   cases hp
   have fit2:=Qy7 hord2 closed2 h2 hli hpreds
   unfold wpOpIn
   rw[f1.at h1]
   dsimp only
   rw[Xaz (q1.wants f1 h1 fit1 hg)]
   refine hy X φ a w (q1.val f1 h1 fit1) (q1.blocks f1 h1 fit1) q1.distinct q1.hid q1.lt _ K (fun v φ' w' hr he hd hn hb hev=>?_) (fun v φ' w' hr he hd hn hb hev=>?_) ro
   ·refine Qrs f1 hord1 k1 fuel _ (by simpa using hsz) (Qzh hsz hir hli hc) (Qvv hsz hir h1 closed hpreds) (fun j e=>?_) φ' _ w' (by rw[eS];exact q1.next f1 h1 fit1 hr he hd hn hb hev)
    cases e
    rw[show(listed.setIfInBounds i true).getD i false=Qg2 (fun j=>listed.getD j false) i i from Xee eS i]
    simp[Qg2]
   refine Qrs f2 hord2 k2 fuel _ (by simpa using hsz) (Qzh hsz hir hli hc) (Qvv hsz hir h2 closed2 hpreds) (fun j e=>?_) φ' _ w' (by rw[eS];exact q2.next f2 h2 fit2 hr he hd hn hb hev)
   cases e
   rw[show(listed.setIfInBounds i true).getD i false=Qg2 (fun j=>listed.getD j false) i i from Xee eS i]
   simp[Qg2]
  have:listed.getD i0 false=true:=(fit1.2 i0 oy c1 h1).1 hgt (ha i o c hp hgt)
  rw[hex] at this
  cases this
def Qzm {id:Nat}{ops:Array Oper}{y:Code}(i0:Nat) (recs1 recs2:List Rec) {oy:Oper}{c1 c2:Rec}(hm1:Met ops recs1 s) (hm2:Met ops recs2 s) (hp:recs1.take i0=recs2.take i0) (h1:(ops.toList.zip recs1)[i0]? = some (oy,c1)) (h2:(ops.toList.zip recs2)[i0]? = some (oy,c2)) (hg:c1.skip=false)
  (hy:Qsv P oy c1.rd c1.bl c1.r c1.eff c2.r c2.eff) (ha1:AllOkE P i0 0 (ops.toList.zip recs1)) (ha2:AllOkE P i0 0 (ops.toList.zip recs2)) (k1:AWp P X φ0 w0 ro y Q (after ops recs1 s)) (k2:AWp P X φ0 w0 ro y Q (after ops recs2 s))
  (hf:P.follows .mixedOrders=true:=by kernel_rfl) (ho1:Qjg (ops.toList.zip recs1) [] []=true:=by kernel_rfl) (ho2:Qjg (ops.toList.zip recs2) [] []=true:=by kernel_rfl) (hc:(((ops.toList.zip recs1).drop (i0+1)).all fun q=>Qrf oy c1 q.1 q.2)=true:=by kernel_rfl):AWp P X φ0 w0 ro (.seq (.region id ops true) y) Q s:=by
 refine Qzl fun φ a w hs=>?_
 have e1:=hm1.2
 have e2:=hm2.2
 simp only[Xaq,Xbm] at e1 e2
 have hl1:ops.toList.length=recs1.length:=e1.1
 have hl2:ops.toList.length=recs2.length:=e2.1
 have start:∀recs:List Rec,RInv X φ0 w0 (ops.toList.zip recs) s.regs s.own (fun j=>(Array.replicate ops.size false).getD j false) φ a { w with drawn:=w.drawn+1 }:=fun recs=>by
  have:=RInv.start (l:=ops.toList.zip recs) (regs:=s.regs) (own:=s.own) hs.drawn
  have e:(fun j=>(Array.replicate ops.size false).getD j false)=fun _=>false:=by
   funext j
   simp only[Xaf,Xcs]
   split<;>rfl
  rw[e]
  exact this
 refine Xh8 hf (Q2w (Qqo ha1 hm1) (Qqo ha2 hm2) (fun j hj=>?_) h1 h2 hg hy (by simp[List.length_zip];omega) (Xfl (by omega)).symm (Xfl (by omega)).symm (fun j o' c' hj hlt=>?_) ho1 ho2 (K:=conc X φ0 w0 (Qx5 (AWp P X φ0 w0 ro y Q) Q)) (fun φ' a' w' hs'=>⟨φ',_,hs',k1⟩) (fun φ' a' w' hs'=>⟨φ',_,hs',k2⟩) ops.size _ (by simp) ?_ ?_ ?_ φ a _ (start recs1) (start recs2))
 ·have hr:recs1[j]? = recs2[j]? := by
   have:=Xek (fun l=>l[j]?) hp
   simpa [Xbi,hj] using this
  simp only[List.zip,List.getElem?_zipWith,hr]
 ·exact Xa6.1 hc (o',c') (Xac (i:=j-(i0+1)) (by rw[Xch,show i0+1+(j-(i0+1))=j from by omega];exact hj))
 ·exact Xcn Xgw (by simp)
 ·intro i o c hi hl
  simp only[Xaf,Xcs] at hl
  split at hl<;>simp at hl
 simp only[Xaf,Xcs]
 split<;>rfl
end
end
section
def kv (p:List Int):Value:=.agg (p.map (Value.int .i64)).toArray
def Qqh:Nat->List (List Int)->List MapEntry
 |_,[]=>[]
 |i,p::l=>{ key:=kv p,val:=.bool true,born:=i }::Qqh (i+1) l
def mset (ps:List (List Int)):Slot:=.mp (Qqh 0 ps).toArray ps.length
def addK (ps:List (List Int)) (p:List Int):List (List Int):=bif ps.contains p then ps else ps++[p]
def Q5r:∀(i:Nat) (ps:List (List Int)) (p:List Int),Qqh i (ps++[p])=Qqh i ps++[{ key:=kv p,val:=.bool true,born:=i+ps.length }]
 |i,[],p=>by simp[Qqh]
 |i,q::l,p=>by simp[Qqh,Q5r (i+1) l p];omega
def Q5q:∀(ps:List (List Int)) (i j:Nat),(Qqh i ps)[j]? = ps[j]?.map fun q=>{ key:=kv q,val:=.bool true,born:=i+j }
 |[],i,j=>by simp[Qqh]
 |p::l,i,0=>by simp[Qqh]
 |p::l,i,j+1=>by
  simp only[Qqh,Xeh,Q5q l (i+1) j]
  rw[show i+1+j=i+(j+1) by omega]
def Zr5 {ps:List (List Int)}{p:List Int}(h:ps.contains p=true):ps[ps.idxOf p]? = some p:=by
 have hm:p∈ps:=by simpa using h
 have hl:ps.idxOf p<ps.length:=List.idxOf_lt_length_iff.2 hm
 rw[Xab hl,List.getElem_idxOf]
def Ztt (m:Nat) (p:List Int):Instr.sameBits (m+1+1) (kv p) (kv p)=true:=by
 unfold kv Instr.sameBits
 simp only[Xb8,Xcc]
 rw[Xa6]
 intro x hx
 obtain⟨y,hy⟩:∃y,x=(y,y):=by
  obtain⟨a,b⟩:=x
  have:∀(l:List Value),(a,b)∈l.zip l->a=b:=fun l=>by
   induction l with
   |nil=>simp
   |cons v l ih=>simp only[Xe7,Xa7,Xef];rintro (⟨rfl,rfl⟩ |h);rfl;exact ih h
  exact⟨a,by rw[this _ hx]⟩
 subst hy
 have hm:=(List.of_mem_zip hx).1
 simp only[Xba] at hm
 obtain⟨z,_,rfl⟩:=hm
 simp[Instr.sameBits]
section
variable {P : Program}
def CkT (P:Program) (t:TypeId) (n:Nat):Prop:=∀(w:World) (em:Bool) (p:List Int),p.length=n->(Instr.checkKey em 10000 t (kv p)).run P w=.ok () w
def ck2 {t:TypeId}{f0 f1:Field}{k0 k1:IntKind}(ht:P.underlying t=some (.struct #[f0,f1])) (h0:P.underlying f0.type=some (.int k0)) (h1:P.underlying f1.type=some (.int k1)) (o0:f0.offset=0) (o1:f1.offset=1):CkT P t 2:=fun w em p hp=>by
 obtain⟨a,b,rfl⟩:∃a b,p=[a,b]:=by
  match p,hp with
  |[a,b],_=>exact⟨a,b,rfl⟩
 have ia:∀(f:Field) (k:IntKind),P.underlying f.type=some (.int k)->(isAgg f.type).run P w=.ok false w:=fun f k h=>by
  unfold Go.isAgg
  simp only[Xav,Xa8 h,Xao]
  rfl
 have ck:∀(m:Nat) (f:Field) (k:IntKind) (x:Int),P.underlying f.type=some (.int k)->(Instr.checkKey em (m+1) f.type (.int .i64 x)).run P w=.ok () w:=fun m f k x h=>by
  rw[Instr.checkKey]
  simp[Xa8 h]
 have key:∀m:Nat,(Instr.checkKey em (m+1+1) t (kv [a,b])).run P w=.ok () w:=fun m=>by
  rw[Instr.checkKey]
  simp[kv,Xa8 ht,part,ia f0 k0 h0,ia f1 k1 h1,o0,o1,ck m f0 k0 _ h0,ck m f1 k1 _ h1]
 exact key 9998
def Qzw {t:TypeId}{n:Nat}(E:EqT P 10000 t n) (w:World) (k:List Int) (hk:k.length=n):∀(ps:List (List Int)) (i j:Nat),(∀p∈ps,p.length=n) ->
  (Instr.findAsking t (kv k) (Qqh i ps) j).run P w=.ok (if ps.contains k then some (j+ps.idxOf k,.bool true) else none) w
 |[],i,j,_=>by simp[Qqh,Instr.findAsking]
 |p::l,i,j,h=>by
  have e1:(Op.equal t (kv k) (kv p)).run P w=.ok (k==p) w:=E w k p hk (h p (by simp))
  have ih:=Qzw E w k hk l (i+1) (j+1) fun q hq=>h q (Xal _ hq)
  simp only[Qqh,Instr.findAsking,Xav,e1,Xao]
  cases hb:(k==p) with
  |true=>
   have:k=p:=by simpa using hb
   subst this
   simp
  |false=>
   have hne:k≠p:=by simpa using hb
   have hne':(p==k)=false:=by simpa using fun e=>hne e.symm
   simp only[Xc8,Xff,ih,List.contains_cons,hb,Xgn,List.idxOf_cons,hne',Xai]
   split<;>simp<;>omega
end
section
variable {X : Nat -> Nat -> Prop} {φ : Nat -> FSlot} {w : World} {P : Program} {o : Oper}
def aI (p:List Int):AV:=.agg (p.map fun x=>AV.lit (.int .i64 x))
def Zps {p:List Int}{v:Value}(h:RelV X φ w (aI p) v):v=kv p:=by
 cases h with
 |agg _ vs hs h=>
  simp only[Xb3] at hs
  unfold kv
  congr 1
  apply Array.ext_getElem?
  intro i
  by_cases hi:i<p.length
  ·have h1:=h i (.lit (.int .i64 p[i])) (by simp[hi])
   have h2:=Qd1 h1
   rw[Xaf,Xa1 (by omega)] at h2
   simp only[Xbd] at h2
   rw[Xa1 (by omega),h2]
   simp[hi]
  rw[Array.getElem?_eq_none (by omega),Array.getElem?_eq_none (by simp;omega)]
def Zpr {n:Nat}{v:Value}(h:RelV X φ w (.mp n) v) {b:Nat}(hb:φ n=.own b):v=.map (some b):=by
 cases h with
 |mp _ A hn h=>rw[h b hb]
def Q88 {t:TypeId}{n:Nat}(h:o.op=.makeMap t none):Qd0 P o [] [(n,.unused)] (.mp n) [(n,mset [])]:=by
 intro X φ a w hrd hbl hd hX hlt next Q k
 have hn:φ n=.unused:=hbl (n,.unused) (by simp)
 have evo:=Evo.alloc (X:=X) hn hlt (.map #[] 0)
 have hrun:(execOp a.eval o).run P w=.ok (.value (.map (some w.heap.size))) (w.alloc (.map #[] 0)):=by
  simp only[execOp,h]
  rfl
 refine Qkd hrun ?_
 refine k _ (upd φ n (.own w.heap.size)) _ (.mp _ _ (by simp[upd]) fun b hb=>by simp[upd] at hb;rw[hb]) (fun p hp=>?_) (Qwb hd hlt) (fun k hk=>?_) (fun b hb _=>Xbk w _ hb) evo
 ·simp at hp
  subst hp
  exact⟨w.heap.size,by simp[upd],Xel w _,fun off hx=>absurd (hX _ _ hx) (Xdl _)⟩
 simp at hk
 simp[upd,hk]
def Zdy {x y:Operand}{t kt et:TypeId}{fs:Array Field}{n m:Nat}{ps:List (List Int)}{p:List Int}(h:o.op=.lookup t x y false) (ht:P.underlying t=some (.map kt et)) (hk:P.underlying kt=some (.struct fs)) (hz:∃i,P.info? et=some i/\i.zero=some (.bool false))
  (C:CkT P kt m) (E:EqT P 10000 kt m) (hp:p.length=m) (hps:∀q∈ps,q.length=m):Qd0 P o [(x,.mp n),(y,aI p)] [(n,mset ps)] (.lit (.bool (ps.contains p))) []:=Qc6 fun X φ a w hrd hbl=>by
 obtain⟨b,hb,hblk,_⟩:=hbl (n,mset ps) (by simp)
 have h1:=Zpr (hrd (x,.mp n) (by simp)) hb
 have h2:=Zps (hrd (y,aI p) (by simp))
 dsimp only at h1 h2
 have hw:(match P.underlying kt with |some (.array _ _) |some (.struct _)=>true |_=>false)=true:=by rw[hk]
 have h3:(Instr.findKey kt (kv p) (Qqh 0 ps)).run P w=_:=(run_findKey_eq w hw _ _).trans (Qzw E w p hp ps 0 0 hps)
 obtain⟨i,z1,z2⟩:=hz
 have hzr:(zeroValue et).run P w=.ok (.bool false) w:=by simp[zeroValue,typeInfo,z1,z2]
 refine⟨.bool (ps.contains p),?_,.lit _⟩
 simp only[execOp,h,h1,h2,Instr.lookup,Xav,Xa8 ht,Xao,Xcr,MapKept.run_getObj_map hblk,C w _ p hp,h3]
 cases hc:ps.contains p<;>simp[hzr]
def Zdx {x y z:Operand}{t kt et:TypeId}{fs:Array Field}{n m:Nat}{ps:List (List Int)}{p:List Int}(h:o.op=.mapUpdate t x y z) (ht:P.underlying t=some (.map kt et)) (hk:P.underlying kt=some (.struct fs))
  (C:CkT P kt m) (E:EqT P 10000 kt m) (hp:p.length=m) (hps:∀q∈ps,q.length=m):Qd0 P o [(x,.mp n),(y,aI p),(z,.lit (.bool true))] [(n,mset ps)] .any [(n,mset (addK ps p))]:=by
 intro X φ a w hrd hbl hd hX hlt next Q k
 obtain⟨b,hb,hblk,hid⟩:=hbl (n,mset ps) (by simp)
 have h1:=Zpr (hrd (x,.mp n) (by simp)) hb
 have h2:=Zps (hrd (y,aI p) (by simp))
 have h4:=Qd1 (hrd (z,.lit (.bool true)) (by simp))
 dsimp only at h1 h2 h4
 have hw:(match P.underlying kt with |some (.array _ _) |some (.struct _)=>true |_=>false)=true:=by rw[hk]
 have h3:(Instr.findKey kt (kv p) (Qqh 0 ps)).run P w=_:=(run_findKey_eq w hw _ _).trans (Qzw E w p hp ps 0 0 hps)
 have hlt':b<w.heap.size:=(Xa3.1 hblk).1
 have hrun:(execOp a.eval o).run P w=.ok .skip (w.putObj b (.map (Qqh 0 (addK ps p)).toArray (addK ps p).length)):=by
  simp only[execOp,h,h1,h2,h4,Instr.mapUpdate,Xav,Xa8 ht,Xao,Xcr,MapKept.run_getObj_map hblk,C w _ p hp,h3]
  cases hc:ps.contains p with
  |false=>
   have e:addK ps p=ps++[p]:=by rw[addK,hc];rfl
   simp only[Xc8,Xff,MapKept.run_setObj_map _ hblk,Xao,e,Q5r,Xar,List.push_toArray,Xb1,List.length_singleton]
   rfl
  |true=>
   have e:addK ps p=ps:=by rw[addK,hc];rfl
   have hg:(Qqh 0 ps).toArray[0+ps.idxOf p]? = some { key:=kv p,val:=.bool true,born:=ps.idxOf p }:=by
    rw[Xar,Xd6,Q5q,Zr5 hc]
    simp
   have hks:(Instr.keyThatStays (kv p) (kv p)).run P w=.ok (kv p) w:=by
    simp[Instr.keyThatStays,Ztt 9998 p]
   have hmod:((Qqh 0 ps).toArray.modify (0+ps.idxOf p) fun e=>{ e with key:=kv p,val:=.bool true })=(Qqh 0 ps).toArray:=by
    apply Array.ext_getElem?
    intro j
    rw[Array.getElem?_modify]
    split
    ·rename_i hj
     subst hj
     rw[hg];rfl
    rfl
   simp only[Xe4,hg,Xca,Xbd,Xav,hks,Xao,hmod,MapKept.run_setObj_map _ hblk,e]
   rfl
 have evo:Evo X φ w φ (w.putObj b (.map (Qqh 0 (addK ps p)).toArray (addK ps p).length)):=by
  refine⟨rfl,rfl,rfl,by simp,fun b' _ hb'=>Qc7 fun e=>hb' ⟨n,e▸.own hb⟩,fun _ h=>.inl h,fun b' off hdat=>?_,fun _ h=>h,fun _ _ h=>.inl h,fun n' t ht=>.inr ⟨ht,fun b' L e=>Qc7 fun eb=>?_⟩,fun _ Y h=>.inr ⟨Y,h⟩,fun _ bs h=>.inr ⟨bs,h,.refl bs⟩,fun n' b' hn' _=>?_⟩
  ·exact⟨⟨by simpa using hdat.lt,hdat.hid,hdat.own,hdat.tok,hdat.far,hdat.mat⟩,Qqw hblk rfl rfl b' off⟩
  ·subst e
   subst eb
   have:=hd n n' b' (.own hb) (.tok ht)
   subst this
   rw[hb] at ht;cases ht
  by_cases e:b'=b
  ·subst e
   intro cur ty s hc
   rw[hblk] at hc;cases hc
  exact .same (Qc7 e)
 exact Q6b hrun (k undef φ _ (.any _) (fun q hq=>by simp at hq;subst hq;exact⟨b,hb,Qqv hlt',hid⟩) hd (fun _ _=>rfl) (fun b' _ hb'=>Qc7 fun e=>hb' (n,mset (addK ps p)) (by simp) (e▸.inl hb)) evo)
end
def pk (q:Int×Int):List Int:=[q.1,q.2]
def Zv3 {a b:Int×Int}(h:pk a=pk b):a=b:=by
 obtain⟨x,y⟩:=a
 obtain⟨u,v⟩:=b
 simpa [pk] using h
def Qgg (ps:List (Int×Int)):Slot:=mset (ps.map pk)
def addQ (ps:List (Int×Int)) (q:Int×Int):List (Int×Int):=bif ps.contains q then ps else ps++[q]
def Qyl (ps:List (Int×Int)) (q:Int×Int):(ps.map pk).contains (pk q)=ps.contains q:=by
 rw[Xh2,Xgx,Xgx,Xba]
 exact⟨fun ⟨x,hx,e⟩=>Zv3 e▸hx,fun h=>⟨q,h,rfl⟩⟩
def Zv4 (ps:List (Int×Int)) (q:Int×Int):(addQ ps q).map pk=addK (ps.map pk) (pk q):=by
 unfold addQ addK
 rw[Qyl]
 cases ps.contains q<;>simp
def Zpu (ps:List (Int×Int)):∀q∈ps.map pk,q.length=2:=fun q hq=>by
 obtain⟨x,_,rfl⟩:=Xba.1 hq
 rfl
section
variable {P : Program} {o : Oper}
def Qwn {t:TypeId}{n:Nat}(h:o.op=.makeMap t none):Qd0 P o [] [(n,.unused)] (.mp n) [(n,Qgg [])]:=Q88 h
def Qq3 {x y:Operand}{t kt et:TypeId}{fs:Array Field}{n:Nat}{ps:List (Int×Int)}{a b:Int}(h:o.op=.lookup t x y false) (ht:P.underlying t=some (.map kt et)) (hk:P.underlying kt=some (.struct fs)) (hz:∃i,P.info? et=some i/\i.zero=some (.bool false))
  (C:CkT P kt 2) (E:EqT P 10000 kt 2):Qd0 P o [(x,.mp n),(y,.agg [.lit (.int .i64 a),.lit (.int .i64 b)])] [(n,Qgg ps)] (.lit (.bool (ps.contains (a,b)))) []:=by
 rw[<-Qyl]
 exact Zdy (p:=pk (a,b)) h ht hk hz C E rfl (Zpu ps)
def Qzr {x y z:Operand}{t kt et:TypeId}{fs:Array Field}{n:Nat}{ps:List (Int×Int)}{a b:Int}(h:o.op=.mapUpdate t x y z) (ht:P.underlying t=some (.map kt et)) (hk:P.underlying kt=some (.struct fs))
  (C:CkT P kt 2) (E:EqT P 10000 kt 2):Qd0 P o [(x,.mp n),(y,.agg [.lit (.int .i64 a),.lit (.int .i64 b)]),(z,.lit (.bool true))] [(n,Qgg ps)] .any [(n,Qgg (addQ ps (a,b)))]:=by
 unfold Qgg
 rw[Zv4]
 exact Zdx (p:=pk (a,b)) h ht hk C E rfl (Zpu ps)
end
section
variable {P : Program} {X : Nat -> Nat -> Prop} {φ0 : Nat -> FSlot} {w0 : World} {ro : Option Nat} {Q : Exit -> AS -> Prop} {s : AS}
def SImp.less {s s':Slot}(hsp:SPw Less s s'):SImp s s':=fun X φ w n hok=>by
 have hR:∀a a' v,Less a a'->RelV X φ w a v->RelV X φ w a' v:=fun a a' v h hv=>h _ _ _ _ hv
 cases hsp with
 |unused=>exact hok
 |dead=>exact hok
 |tok=>exact hok
 |own m xs xs' hl' hp=>obtain⟨b,hb,hown⟩:=hok;exact⟨b,hb,hown.pw hR hl' hp⟩
 |gro m xs xs' hl' hp=>
  rcases hok with ⟨h1,h2⟩ |⟨b,hb,hown⟩
  ·exact .inl ⟨Xau (by rw[<-hl',h1];rfl),h2⟩
  exact .inr ⟨b,hb,hown.pw hR hl' hp⟩
 |far J=>exact hok
 |mat m rows hp=>exact hok
 |mp es clock=>exact hok
def SImp.box {m:Nat}{l l':List AV}(h:LPw Less l l'):SImp (.own m [l]) (.own m [l']):=.less (.own m _ _ rfl fun j x x' h1 h2=>by
 cases j with
 |zero=>simp at h1 h2;subst h1;subst h2;exact h
 |succ j=>simp at h1)
def EffAll (n:Nat) (s':Slot):List (Nat×Slot)->Prop
 |[]=>True
 |e::l=>(match Nat.beq e.1 n with |true=>SImp e.2 s' |false=>True)/\EffAll n s' l
def SAll (n:Nat) (s':Slot):List (Oper×Rec)->Prop
 |[]=>True
 |p::l=>EffAll n s' p.2.eff/\SAll n s' l
def EffAll.imp {n:Nat}{s':Slot}:∀{l:List (Nat×Slot)}{s:Slot},EffAll n s' l->SImp s s'->SImp (Qq1 n l s) s'
 |[],_,_,hs=>hs
 |e::l,s,h,hs=>by
  unfold Qq1
  refine EffAll.imp h.2 ?_
  have h1:=h.1
  split
  ·rename_i he
   rw[he,Nat.beq_refl] at h1
   exact h1
  exact hs
def SAll.imp {n:Nat}{s':Slot}{S:Nat->Bool}:∀{l:List (Oper×Rec)}{i:Nat}{s:Slot},SAll n s' l->SImp s s'->SImp (Qo9 l i S s n) s'
 |[],_,_,_,hs=>hs
 |p::l,i,s,h,hs=>by
  unfold Qo9
  refine SAll.imp h.2 ?_
  split
  ·exact h.1.imp hs
  exact hs
def StepAt.soft {l:List (Oper×Rec)}{own:List Slot}{o:Oper}{c:Rec}(n:Nat) (s':Slot) (h:Qd0 P o c.rd (c.bl++[(n,s')]) c.r c.eff) (hs:SImp (own.getD n .unused) s') (ha:SAll n s' l):StepAt P l own o c:=
 ⟨[(n,s')],h,fun p hp S=>by
  rw[Xbq.1 hp]
  exact ha.imp hs⟩
def AllOkS (P:Program) (L:List (Oper×Rec)) (own:List Slot):List (Oper×Rec)->Prop
 |[]=>True
 |p::l=>(p.2.skip=false->StepAt P L own p.1 p.2)/\AllOkS P L own l
def AllOkS.get {L:List (Oper×Rec)}{own:List Slot}:∀{l:List (Oper×Rec)},AllOkS P L own l->∀(i:Nat) (o:Oper) (c:Rec),l[i]? = some (o,c)->c.skip=false->StepAt P L own o c
 |_::_,h,0,o,c,hi=>by simp at hi;subst hi;exact h.1
 |_::_,h,i+1,o,c,hi=>fun hs=>AllOkS.get h.2 i o c (by simpa using hi) hs
 |[],_,_,_,_,hi=>by simp at hi
def Ziq {ops:Array Oper}{recs:List Rec}(hall:AllOkS P (ops.toList.zip recs) s.own (ops.toList.zip recs)) (hm:Met ops recs s):Facts none P ops (ops.toList.zip recs) s.regs s.own (after ops recs s).regs (after ops recs s).own:=by
 obtain⟨h1,h2⟩:=hm
 rw[Xaq] at h2
 obtain⟨h2,h3⟩:=h2
 have hl:ops.toList.length=recs.length:=by simpa using h2
 refine⟨by rw[Xfl (by omega)],fun i o c hi hs _=>hall.get i o c hi hs,?_,h3⟩
 have e:(ops.toList.zip recs).map (fun p=>(p.2.rd.map (·.2),p.2.bl.map (·.2)))=recs.map (fun c=>(c.rd.map (·.2),c.bl.map (·.2))):=by
  have:(fun p:Oper×Rec=>(p.2.rd.map (·.2),p.2.bl.map (·.2)))=(fun c:Rec=>(c.rd.map (·.2),c.bl.map (·.2))) ∘ Prod.snd:=rfl
  rw[this,<-Xeo,Xhy (by omega)]
 rw[e,<-h1]
 rfl
def Zj0 {id:Nat}{ops:Array Oper}(recs:List Rec) (hall:AllOkS P (ops.toList.zip recs) s.own (ops.toList.zip recs)) (h:Q .normal (after ops recs s)) (hf:P.follows .mixedOrders=true:=by kernel_rfl) (hm:Met ops recs s:=by exact⟨by kernel_rfl,by kernel_rfl⟩) (ho:Qjg (ops.toList.zip recs) [] []=true:=by kernel_rfl):AWp P X φ0 w0 ro (.region id ops true) Q s:=Qzn hf _ (Ziq hall hm) ho h
def AllOkT (P:Program) (n:Nat) (U:Slot):List (Oper×Rec)->Prop
 |[]=>True
 |p::l=>(p.2.skip=false->Qd0 P p.1 p.2.rd p.2.bl p.2.r p.2.eff\/Qd0 P p.1 p.2.rd (p.2.bl++[(n,U)]) p.2.r p.2.eff)/\AllOkT P n U l
def AllOkT.to {n:Nat}{U:Slot}{L:List (Oper×Rec)}{own:List Slot}(hs:SImp (own.getD n .unused) U) (ha:SAll n U L):∀{l:List (Oper×Rec)},AllOkT P n U l->AllOkS P L own l
 |[],_=>trivial
 |_::_,h=>⟨fun k=>(h.1 k).elim .hard fun q=>.soft n U q hs ha,AllOkT.to hs ha h.2⟩
def Zri {own:List Slot}{n:Nat}{V U:Slot}(hv:own.getD n .unused=V) (h:SImp V U):SImp (own.getD n .unused) U:=by rw[hv];exact h
def hr_ {b:Bool}{A B:Prop}(h:A):b=false->A\/B:=fun _=>.inl h
def sf_ {b:Bool}{A B:Prop}(h:B):b=false->A\/B:=fun _=>.inr h
def Qo1 {id:Nat}{ops:Array Oper}(n:Nat) (U:Slot) (recs:List Rec) (hs:SImp (s.own.getD n .unused) U) (ha:SAll n U (ops.toList.zip recs)) (hall:AllOkT P n U (ops.toList.zip recs)) (h:Q .normal (after ops recs s)) (hf:P.follows .mixedOrders=true:=by kernel_rfl) (hm:Met ops recs s:=by exact⟨by kernel_rfl,by kernel_rfl⟩) (ho:Qjg (ops.toList.zip recs) [] []=true:=by kernel_rfl):AWp P X φ0 w0 ro (.region id ops true) Q s:=Zj0 recs (hall.to hs ha) h hf hm ho
end
def Zw4 {P:Program}{t:TypeId}(h:((P.info? t).bind fun i=>i.zero)=some (.bool false)):∃i,P.info? t=some i/\i.zero=some (.bool false):=by
 cases hi:P.info? t with
 |none=>rw[hi] at h;cases h
 |some i=>rw[hi] at h;exact⟨i,rfl,h⟩
def Qme {ρ:List Nat}{n n':Nat}(h:(ρ[n']? == some n)=true):Rn (fun n n'=>ρ[n']? = some n) (.mp n) (.mp n'):=.mp (by simpa using h)
def Zpq {ρ:List Nat}{n n':Nat}(h:(ρ[n]? == some n')=true):Rn (fun n n'=>ρ[n]? = some n') (.mp n) (.mp n'):=.mp (by simpa using h)
def Qh4 {R:AV->AV->Prop}{ps:List (Int×Int)}:SPw R (Qgg ps) (Qgg ps):=.mp _ _
def Za0 {M:Nat->Nat->Prop}{ps:List (Int×Int)}:SRn M (Qgg ps) (Qgg ps):=.mp _ _
def Zlv {k:Nat}{ps:List (Int×Int)}:SNLt k (Qgg ps):=.mp _ _
end
section
structure Ty where
 g:Bool
 sz:Nat
 z:Option (List Value)
 fl:List (Nat×Bool×Nat)
def FlOk (P:Program):List Field->List (Nat×Bool×Nat)->Prop
 |_,[]=>True
 |f::fs,q::l=>f.offset=q.1/\TI P f.type q.2.1 q.2.2/\FlOk P fs l
 |[],_::_=>False
structure Ty.ok (P:Program) (t:Nat) (v:Ty):Prop where
 ti:TI P t v.g v.sz
 z:match v.z with |some zs=>TZ P t zs |none=>True
 fl:v.fl=[]\/∃fs:Array Field,P.underlying t=some (.struct fs)/\FlOk P fs.toList v.fl
inductive Tab where
 |nil
 |node (k:Nat) (v:Ty) (l r:Tab)
def Tab.get:Tab->Nat->Option Ty
 |.nil,_=>none
 |.node k v l r,t=>bif Nat.beq t k then some v else bif Nat.blt t k then l.get t else r.get t
def Tab.ok (P:Program):Tab->Prop
 |.nil=>True
 |.node k v l r=>Ty.ok P k v/\l.ok P/\r.ok P
def Tab.ok.get {P:Program}:∀{T:Tab},T.ok P->∀{t:Nat}{v:Ty},T.get t=some v->Ty.ok P t v
 |.nil,_,_,_,h=>by cases h
 |.node k v l r,hT,t,u,h=>by
  rw[Tab.get] at h
  cases h1:Nat.beq t k with
  |true=>
   rw[h1] at h
   cases h
   rw[Xdf h1]
   exact hT.1
  |false=>
   rw[h1,Xai] at h
   cases h2:Nat.blt t k with
   |true=>rw[h2] at h;exact Tab.ok.get hT.2.1 h
   |false=>rw[h2] at h;exact Tab.ok.get hT.2.2 h
def FlOk.get {P:Program}:∀{fs:List Field}{l:List (Nat×Bool×Nat)},FlOk P fs l->∀(f:Nat) {q:Nat×Bool×Nat},l[f]? = some q->∃fl,fs[f]? = some fl/\fl.offset=q.1/\TI P fl.type q.2.1 q.2.2
 |_,[],_,_,_,h=>by simp at h
 |f::fs,q0::l,hF,0,q,h=>by simp at h;subst h;exact⟨f,rfl,hF.1,hF.2.1⟩
 |f::fs,q0::l,hF,i+1,q,h=>by
  obtain⟨fl,h1,h2⟩:=FlOk.get hF.2.2 i (by simpa using h)
  exact⟨fl,by simpa using h1,h2⟩
 |[],_::_,hF,_,_,_=>hF.elim
abbrev AuR:Type:=List Operand×List Nat×AV×List (Nat×Slot)
def Zpz (own:List Slot) (n m j:Nat):Option (List AV):=match own.getD n .unused with
 |.own m' xs=>bif Nat.beq m' m then xs[j]? else none
 |_=>none
def Zb6 (ty:Ty) (own:List Slot) (x:Operand):AV->Option AuR
 |.ref n m j i=>match Zpz own n m j with
  |some c=>bif Nat.ble (i+ty.sz) c.length&&(ty.g||Nat.beq ty.sz 1) then some ([x],[n],ldA ty.g ty.sz i c,[]) else none
  |none=>none
 |.dptr c i=>bif Nat.ble (i+ty.sz) c.length&&(ty.g||Nat.beq ty.sz 1) then some ([x],[],ldA ty.g ty.sz i c,[]) else none
 |_=>none
def Q83 (ty:Ty) (own:List Slot) (x y:Operand) (v:AV):AV->Option AuR
 |.ref n m j i=>match own.getD n .unused with
  |.own m' xs=>bif Nat.beq m' m then(match xs[j]? with
   |some c=>bif Nat.beq ty.sz (stA v).length&&((stA v).all AV.one&&Nat.ble (i+(stA v).length) c.length) then some ([x,y],[n],.any,[(n,.own m (xs.set j (Qj7 c i (stA v))))]) else none
   |none=>none) else none
  |_=>none
 |_=>none
def Q3w (q:Nat×Bool×Nat) (own:List Slot) (x:Operand):AV->Option AuR
 |.ref n m j i=>match own.getD n .unused with
  |.own m' _=>bif Nat.beq m' m then some ([x],[n],.ref n m j (i+q.1),[]) else none
  |_=>none
 |.dptr c i=>some ([x],[],.dptr c (i+q.1),[])
 |_=>none
def Zwy (op:BinOp) (x y:Operand):AV->AV->Option AuR
 |.lit (.int k a),.lit (.int k' b)=>if k=k' then(match binI op k a b with |some v=>some ([x,y],[],.lit v,[]) |none=>none) else none
 |_,_=>none
def Zww (x:Operand):AV->Option AuR
 |.lit (.bool b)=>some ([x],[],.lit (.bool !b),[])
 |_=>none
def Zwx (x:Operand):AV->Option AuR
 |.lit (.int k a)=>some ([x],[],.lit (.int k (k.wrap (0-a))),[])
 |_=>none
def Zwv (c x y:Operand) (u v:AV):AV->Option AuR
 |.lit (.bool b)=>some ([c,x,y],[],bif b then u else v,[])
 |_=>none
def Q6m (x:Operand) (i:Nat):AV->Option AuR
 |.tup l=>match l[i]? with |some r=>some ([x],[],r,[]) |none=>none
 |_=>none
def Q84 (q:Nat×Bool×Nat) (x:Operand):AV->Option AuR
 |.agg l=>bif Nat.ble (q.1+q.2.2) l.length&&(q.2.1||Nat.beq q.2.2 1) then some ([x],[],ldA q.2.1 q.2.2 q.1 l,[]) else none
 |_=>none
def au (T:Tab) (op:Op) (v:Operand->AV) (own:List Slot):Option AuR:=match op with
 |.move x=>some ([x],[],v x,[])
 |.assign x=>some ([x],[],v x,[])
 |.pick c x y=>Zwv c x y (v x) (v y) (v c)
 |.binOp op _ x y _=>Zwy op x y (v x) (v y)
 |.unOp .not _ x=>Zww x (v x)
 |.unOp .neg _ x=>Zwx x (v x)
 |.extract x i=>Q6m x i (v x)
 |.field t x f=>match (T.get t).bind (·.fl[f]?) with |some q=>Q84 q x (v x) |none=>none
 |.fieldAddr t x f=>match (T.get t).bind (·.fl[f]?) with |some q=>bif Nat.beq q.2.2 0 then none else Q3w q own x (v x) |none=>none
 |.load t x=>match T.get t with |some ty=>Zb6 ty own x (v x) |none=>none
 |.store t x y=>match T.get t with |some ty=>Q83 ty own x y (v y) (v x) |none=>none
 |.alloc t=>match (T.get t).bind (·.z) with |some zs=>some ([],[own.length],.ref own.length zs.length 0 0,[(own.length,.own zs.length [zs.map AV.lit])]) |none=>none
 |.box _ x=>bif (stA (v x)).all AV.one then some ([x],[own.length],.ref own.length (stA (v x)).length 0 0,[(own.length,.own (stA (v x)).length [stA (v x)])]) else none
 |.nilCheck x=>bif Zhp (v x) then some ([x],[],v x,[]) else none
 |_=>none
section
variable {P : Program} {T : Tab} {o : Oper} {v : Operand -> AV} {own : List Slot} {q : AuR}
abbrev AuOK (P:Program) (o:Oper) (v:Operand->AV) (own:List Slot) (q:AuR):Prop:=Qd0 P o (q.1.map fun x=>(x,v x)) (q.2.1.map fun n=>(n,own.getD n .unused)) q.2.2.1 q.2.2.2
def Zkf {a b:Bool}(h:(a&&b)=true):a=true/\b=true:=by simpa using h
def or_g {g:Bool}{n:Nat}(h:(g||Nat.beq n 1)=true):g=false->n=1:=fun e=>by subst e;exact Xdf h
def Zj6 {t:TypeId}{ty:Ty}{x:Operand}(ho:o.op=.load t x) (ht:TI P t ty.g ty.sz) (h:Zb6 ty own x (v x)=some q):AuOK P o v own q:=by
 cases hv:v x with
 |ref n m j i=>
  rw[hv] at h
  unfold Zb6 Zpz at h
  dsimp only at h
  cases hs:own.getD n .unused with
  |own m' xs=>
   rw[hs] at h
   dsimp only at h
   cases hm:Nat.beq m' m with
   |false=>rw[hm] at h;cases h
   |true=>
    rw[hm,Xak] at h
    have hm':=Xdf hm
    subst hm'
    cases hc:xs[j]? with
    |none=>rw[hc] at h;cases h
    |some c=>
     rw[hc] at h
     dsimp only at h
     cases hb:Nat.ble (i+ty.sz) c.length&&(ty.g||Nat.beq ty.sz 1) with
     |false=>rw[hb] at h;cases h
     |true=>
      rw[hb] at h
      cases h
      obtain⟨h1,h2⟩:=Zkf hb
      have:=Q1i (P:=P) (n:=n) (m:=m') ho ht (or_g h2) hc (Xd4 h1) rfl
      simpa only [AuOK,Xax,Xbz,hv,hs] using this
  |_=>rw[hs] at h;cases h
 |dptr c i=>
  rw[hv] at h
  unfold Zb6 at h
  dsimp only at h
  cases hb:Nat.ble (i+ty.sz) c.length&&(ty.g||Nat.beq ty.sz 1) with
  |false=>rw[hb] at h;cases h
  |true=>
   rw[hb] at h
   cases h
   obtain⟨h1,h2⟩:=Zkf hb
   have:=Qzs (P:=P) ho ht (or_g h2) (Xd4 h1) rfl
   simpa only [AuOK,Xax,Xbz,hv] using this
 |_=>rw[hv] at h;cases h
def Zdt {t:TypeId}{ty:Ty}{x y:Operand}(ho:o.op=.store t x y) (ht:TI P t ty.g ty.sz) (h:Q83 ty own x y (v y) (v x)=some q):AuOK P o v own q:=by
 cases hv:v x with
 |ref n m j i=>
  rw[hv] at h
  unfold Q83 at h
  dsimp only at h
  cases hs:own.getD n .unused with
  |own m' xs=>
   rw[hs] at h
   dsimp only at h
   cases hm:Nat.beq m' m with
   |false=>rw[hm] at h;cases h
   |true=>
    rw[hm,Xak] at h
    have hm':=Xdf hm
    subst hm'
    cases hc:xs[j]? with
    |none=>rw[hc] at h;cases h
    |some c=>
     rw[hc] at h
     dsimp only at h
     cases hb:Nat.beq ty.sz (stA (v y)).length&&((stA (v y)).all AV.one&&Nat.ble (i+(stA (v y)).length) c.length) with
     |false=>rw[hb] at h;cases h
     |true=>
      rw[hb] at h
      cases h
      obtain⟨h1,h2⟩:=Zkf hb
      obtain⟨h2,h3⟩:=Zkf h2
      have h1':=Xdf h1
      rw[h1'] at ht
      have:=Qzp (P:=P) (n:=n) (m:=m') ho ht h2 hc (Xd4 h3) rfl
      simpa only [AuOK,Xax,Xbz,hv,hs] using this
  |_=>rw[hs] at h;cases h
 |_=>rw[hv] at h;cases h
def Zwh (hT:T.ok P) {t:TypeId}{f:Nat}{a:Nat×Bool×Nat}(h:(T.get t).bind (·.fl[f]?)=some a):∃fs:Array Field,P.underlying t=some (.struct fs)/\∃fl,fs[f]? = some fl/\fl.offset=a.1/\TI P fl.type a.2.1 a.2.2:=by
 cases hg:T.get t with
 |none=>rw[hg] at h;cases h
 |some ty=>
  rw[hg] at h
  have h':ty.fl[f]? = some a:=h
  rcases(Tab.ok.get hT hg).fl with e |⟨fs,h1,h2⟩
  ·rw[e] at h';simp at h'
  obtain⟨fl,h3,h4⟩:=h2.get f h'
  exact⟨fs,h1,fl,by simpa using h3,h4⟩
def Zdv (hT:T.ok P) {t:TypeId}{f:Nat}{a:Nat×Bool×Nat}{x:Operand}(ho:o.op=.fieldAddr t x f) (hq:(T.get t).bind (·.fl[f]?)=some a) (h0:Nat.beq a.2.2 0=false) (h:Q3w a own x (v x)=some q):AuOK P o v own q:=by
 obtain⟨fs,h1,fl,h2,h3,h4⟩:=Zwh hT hq
 have hn:a.2.2≠0:=fun e=>by rw[e] at h0;cases h0
 cases hv:v x with
 |ref n m j i=>
  rw[hv] at h
  unfold Q3w at h
  dsimp only at h
  cases hs:own.getD n .unused with
  |own m' xs=>
   rw[hs] at h
   dsimp only at h
   cases hm:Nat.beq m' m with
   |false=>rw[hm] at h;cases h
   |true=>
    rw[hm,Xak] at h
    have hm':=Xdf hm
    subst hm'
    cases h
    have:=Qzu (P:=P) (n:=n) (m:=m') (j:=j) (i:=i) (xs:=xs) ho h1 h2 rfl h4 hn rfl
    rw[h3] at this
    simpa only [AuOK,Xax,Xbz,hv,hs] using this
  |_=>rw[hs] at h;cases h
 |dptr c i=>
  rw[hv] at h
  unfold Q3w at h
  cases h
  have:=Qwo (P:=P) (c:=c) (i:=i) ho h1 h2 rfl h4 hn rfl
  rw[h3] at this
  simpa only [AuOK,Xax,Xbz,hv] using this
 |_=>rw[hv] at h;cases h
def Zdu (hT:T.ok P) {t:TypeId}{f:Nat}{a:Nat×Bool×Nat}{x:Operand}(ho:o.op=.field t x f) (hq:(T.get t).bind (·.fl[f]?)=some a) (h:Q84 a x (v x)=some q):AuOK P o v own q:=by
 obtain⟨fs,h1,fl,h2,h3,h4⟩:=Zwh hT hq
 cases hv:v x with
 |agg l=>
  rw[hv] at h
  unfold Q84 at h
  dsimp only at h
  cases hb:Nat.ble (a.1+a.2.2) l.length&&(a.2.1||Nat.beq a.2.2 1) with
  |false=>rw[hb] at h;cases h
  |true=>
   rw[hb] at h
   cases h
   obtain⟨b1,b2⟩:=Zkf hb
   have:=Q9b (P:=P) (l:=l) ho h1 h2 rfl h4 (by rw[h3];exact Xd4 b1) (or_g b2) rfl
   rw[h3] at this
   simpa only [AuOK,Xax,Xbz,hv,ldA] using this
 |_=>rw[hv] at h;cases h
def Zhg (own:List Slot):own.getD own.length .unused=.unused:=by simp
def Zy7 (hT:T.ok P) (h:au T o.op v own=some q):AuOK P o v own q:=by
 cases ho:o.op with
 |move x=>rw[ho] at h;cases h;exact Q1h ho
 |assign x=>rw[ho] at h;cases h;exact Qwq ho
 |pick c x y=>
  rw[ho] at h
  unfold au at h
  dsimp only at h
  cases hc:v c with
  |lit u=>
   rw[hc] at h
   cases u with
   |bool b=>cases h;simpa only [AuOK,Xax,Xbz,hc] using Q1f (P:=P) (u:=v x) (v:=v y) ho rfl
   |_=>cases h
  |_=>rw[hc] at h;cases h
 |binOp op t x y t'=>
  rw[ho] at h
  unfold au Zwy at h
  dsimp only at h
  split at h
  ·next k a k' b hx hy=>
   split at h
   ·next e=>
    subst e
    split at h
    ·next u hu=>
     cases h
     simpa only [AuOK,Xax,Xbz,hx,hy] using Q6q (P:=P) ho hu
    cases h
   cases h
  cases h
 |unOp op t x=>
  rw[ho] at h
  cases op with
  |not=>
   unfold au Zww at h
   dsimp only at h
   split at h
   ·next b hx=>cases h;simpa only [AuOK,Xax,Xbz,hx] using Qo2 (P:=P) ho
   cases h
  |neg=>
   unfold au Zwx at h
   dsimp only at h
   split at h
   ·next k a hx=>cases h;simpa only [AuOK,Xax,Xbz,hx] using Zj8 (P:=P) ho
   cases h
  |_=>cases h
 |extract x i=>
  rw[ho] at h
  unfold au Q6m at h
  dsimp only at h
  split at h
  ·next l hx=>
   split at h
   ·next r hr=>cases h;simpa only [AuOK,Xax,Xbz,hx] using Q3y (P:=P) ho hr
   cases h
  cases h
 |field t x f=>
  rw[ho] at h
  unfold au at h
  dsimp only at h
  split at h
  ·next a hq=>exact Zdu hT ho hq h
  cases h
 |fieldAddr t x f=>
  rw[ho] at h
  unfold au at h
  dsimp only at h
  split at h
  ·next a hq=>
   cases h0:Nat.beq a.2.2 0 with
   |true=>rw[h0] at h;cases h
   |false=>rw[h0] at h;exact Zdv hT ho hq h0 h
  cases h
 |load t x=>
  rw[ho] at h
  unfold au at h
  dsimp only at h
  split at h
  ·next ty hq=>exact Zj6 ho (Tab.ok.get hT hq).ti h
  cases h
 |store t x y=>
  rw[ho] at h
  unfold au at h
  dsimp only at h
  split at h
  ·next ty hq=>exact Zdt ho (Tab.ok.get hT hq).ti h
  cases h
 |alloc t=>
  rw[ho] at h
  unfold au at h
  dsimp only at h
  split at h
  ·next zs hq=>
   cases h
   cases hg:T.get t with
   |none=>rw[hg] at hq;cases hq
   |some ty=>
    rw[hg] at hq
    have hz:=(Tab.ok.get hT hg).z
    have hq':ty.z=some zs:=hq
    rw[hq'] at hz
    simpa only [AuOK,Xax,Xbz,Zhg] using Q9e (P:=P) (n:=own.length) ho hz rfl
  cases h
 |box t x=>
  rw[ho] at h
  unfold au at h
  dsimp only at h
  cases hb:(stA (v x)).all AV.one with
  |false=>rw[hb] at h;cases h
  |true=>
   rw[hb] at h
   cases h
   simpa only [AuOK,Xax,Xbz,Zhg] using Zkb (P:=P) (n:=own.length) ho hb rfl rfl
 |nilCheck x=>
  rw[ho] at h
  unfold au at h
  dsimp only at h
  cases hb:Zhp (v x) with
  |false=>rw[hb] at h;cases h
  |true=>
   rw[hb] at h
   cases h
   exact Q1g ho hb
 |_=>rw[ho] at h;cases h
end
def badR:Rec:=⟨[],[],.any,[],true⟩
def toR (g:List (Operand×AV)) (v:Operand->AV) (own:List Slot):Option AuR->Rec
 |some q=>⟨g++q.1.map fun x=>(x,v x),q.2.1.map fun n=>(n,own.getD n .unused),q.2.2.1,q.2.2.2,false⟩
 |none=>badR
def Qp4 (T:Tab) (ops:Array Oper) (o:Oper) (regs:List AV) (own:List Slot):Rec:=match o.guard with
 |none=>toR [] (opd regs) own (au T o.op (opd regs) own)
 |some (j,want)=>match (ops[j]?).bind (·.dst) with
  |some d=>match opd regs (.tmp d) with
   |.lit v=>bif Qzi v==some want then toR [(.tmp d,.lit v)] (opd regs) own (au T o.op (opd regs) own) else⟨[(.tmp d,.lit v)],[],.lit undef,[],true⟩
   |_=>badR
  |none=>badR
def Qyn:List (Nat×Rec)->Nat->Rec->Rec
 |(k,c)::_,i,d=>bif Nat.beq k i then c else d
 |[],_,d=>d
def Q2u:List (Nat×Rec)->Nat->List (Nat×Rec)
 |(k,c)::H,i=>bif Nat.beq k i then H else(k,c)::H
 |[],_=>[]
def atH:List (Nat×Rec)->Nat->Bool
 |(k,_)::_,i=>Nat.beq k i
 |[],_=>false
def comp (T:Tab) (ops:Array Oper):List Oper->Nat->List (Nat×Rec)->List AV->List Slot->List Rec
 |[],_,_,_,_=>[]
 |o::l,i,H,regs,own=>match Qyn H i (Qp4 T ops o regs own) with
  |⟨rd,bl,r,eff,s⟩=>⟨rd,bl,r,eff,s⟩::comp T ops l (i+1) (Q2u H i) (putA regs o.dst r) (setE own eff)
def exec (T:Tab) (ops:Array Oper):List Oper->Nat->List (Nat×Rec)->List AV->List Slot->AS
 |[],_,_,regs,own=>⟨regs,own⟩
 |o::l,i,H,regs,own=>match Qyn H i (Qp4 T ops o regs own) with
  |⟨_,_,r,eff,_⟩=>exec T ops l (i+1) (Q2u H i) (putA regs o.dst r) (setE own eff)
def Zh1 (T:Tab) (ops:Array Oper):List Oper->Nat->List (Nat×Rec)->List AV->List Slot->List (List AV×List Slot)
 |[],_,_,_,_=>[]
 |o::l,i,H,regs,own=>match Qyn H i (Qp4 T ops o regs own) with
  |⟨rd,bl,r,eff,_⟩=>bif atH H i
   then(rd.map (fun p=>opd regs p.1),bl.map (fun p=>own.getD p.1 .unused))::Zh1 T ops l (i+1) (Q2u H i) (putA regs o.dst r) (setE own eff)
   else Zh1 T ops l (i+1) (Q2u H i) (putA regs o.dst r) (setE own eff)
def good (T:Tab) (ops:Array Oper) (n:Nat):List Oper->Nat->List (Nat×Rec)->List AV->List Slot->Bool
 |[],_,H,_,_=>H.isEmpty
 |o::l,i,H,regs,own=>match Qyn H i (Qp4 T ops o regs own) with
  |⟨rd,bl,r,eff,s⟩=>(Q29 ops o ⟨rd,bl,r,eff,s⟩&&(match o.dst with |some d=>decide (d<n) |none=>true)&&(eff.all fun q=>bl.any fun r=>q.1==r.1))&&good T ops n l (i+1) (Q2u H i) (putA regs o.dst r) (setE own eff)
def opAt (ops:Array Oper) (k:Nat):Oper:=(ops[k]?).getD default
def HOk (P:Program) (ops:Array Oper):List (Nat×Rec)->Prop
 |[]=>True
 |p::H=>OkR P (opAt ops p.1,p.2)/\HOk P ops H
section
variable {P : Program} {T : Tab} {ops : Array Oper}
def Zby:∀(l:List Oper) (i:Nat) (H:List (Nat×Rec)) (regs:List AV) (own:List Slot),(comp T ops l i H regs own).length=l.length
 |[],_,_,_,_=>rfl
 |o::l,i,H,regs,own=>by
  rw[comp]
  cases Qyn H i (Qp4 T ops o regs own) with
  |mk rd bl r eff s=>rw[Xa5,Xa5,Zby l]
def Zbq:∀(l:List Oper) (i:Nat) (H:List (Nat×Rec)) (regs:List AV) (own:List Slot),exec T ops l i H regs own=⟨(runL (l.zip (comp T ops l i H regs own)) regs own).2.1,(runL (l.zip (comp T ops l i H regs own)) regs own).2.2⟩
 |[],_,_,_,_=>rfl
 |o::l,i,H,regs,own=>by
  rw[exec,comp]
  cases Qyn H i (Qp4 T ops o regs own) with
  |mk rd bl r eff s=>exact Zbq l (i+1) _ _ _
def Zj5 (o:Oper) (regs:List AV) (own:List Slot):(Qp4 T ops o regs own).rd.map (fun p=>opd regs p.1)=(Qp4 T ops o regs own).rd.map (·.2)/\(Qp4 T ops o regs own).bl.map (fun p=>own.getD p.1 .unused)=(Qp4 T ops o regs own).bl.map (·.2):=by
 have key:∀(g:List (Operand×AV)) (q:Option AuR),(∀p∈g,opd regs p.1=p.2)->(toR g (opd regs) own q).rd.map (fun p=>opd regs p.1)=(toR g (opd regs) own q).rd.map (·.2)/\(toR g (opd regs) own q).bl.map (fun p=>own.getD p.1 .unused)=(toR g (opd regs) own q).bl.map (·.2):=by
  intro g q hg
  cases q with
  |none=>exact⟨rfl,rfl⟩
  |some q=>
   refine⟨?_,by simp[toR,Xht]⟩
   simp only[toR,Xdy,Xeo]
   rw[Xdx (f:=fun p:Operand×AV=>opd regs p.1) (g:=fun p:Operand×AV=>p.2) hg]
   rfl
 unfold Qp4
 split
 ·exact key [] _ (fun _ h=>by cases h)
 split
 ·next d hd=>
  split
  ·next v hv=>
   cases Qzi v==some _ with
   |true=>exact key _ _ (fun p hp=>by rw[Xbq] at hp;subst hp;exact hv)
   |false=>exact⟨by simp[hv],rfl⟩
  exact⟨rfl,rfl⟩
 exact⟨rfl,rfl⟩
def Zb5 (hT:T.ok P) (o:Oper) (regs:List AV) (own:List Slot):OkR P (o,Qp4 T ops o regs own):=by
 have key:∀(g:List (Operand×AV)),g.length<=1->OkR P (o,toR g (opd regs) own (au T o.op (opd regs) own)):=by
  intro g hg
  cases h:au T o.op (opd regs) own with
  |none=>exact trivial
  |some q=>
   have:=Zy7 hT h
   unfold OkR toR
   dsimp only
   cases g with
   |nil=>exact this
   |cons a g=>cases g with
    |nil=>exact Qzt this
    |cons _ _=>simp at hg
 unfold Qp4
 split
 ·exact key [] (Xbg _)
 split
 ·split
  ·next v _=>
   cases Qzi v==some _ with
   |true=>exact key _ (Xay _)
   |false=>exact trivial
  exact trivial
 exact trivial
def HOk.rest {H:List (Nat×Rec)}(h:HOk P ops H) (i:Nat):HOk P ops (Q2u H i):=by
 cases H with
 |nil=>exact trivial
 |cons p H=>
  obtain⟨k,c⟩:=p
  show HOk P ops (bif Nat.beq k i then H else(k,c)::H)
  cases Nat.beq k i with
  |true=>exact h.2
  |false=>exact h
def Zrr {H:List (Nat×Rec)}(hT:T.ok P) (h:HOk P ops H) {i:Nat}{o:Oper}(ho:ops[i]? = some o) (regs:List AV) (own:List Slot):OkR P (o,Qyn H i (Qp4 T ops o regs own)):=by
 cases H with
 |nil=>exact Zb5 hT _ _ _
 |cons p H=>
  obtain⟨k,c⟩:=p
  show OkR P (o,bif Nat.beq k i then c else Qp4 T ops o regs own)
  cases e:Nat.beq k i with
  |true=>
   have:=h.1
   unfold opAt at this
   rw[Xdf e,ho] at this
   exact this
  |false=>exact Zb5 hT _ _ _
def Zjm (hT:T.ok P):∀(l:List Oper) (i:Nat) (H:List (Nat×Rec)) (regs:List AV) (own:List Slot),HOk P ops H->(∀k o,l[k]? = some o->ops[i+k]? = some o)->AllOk P (l.zip (comp T ops l i H regs own))
 |[],_,_,_,_,_,_=>trivial
 |o::l,i,H,regs,own,hH,hl=>by
  have h1:=Zrr hT hH (hl 0 o rfl) regs own
  have h2:=fun regs' own'=>Zjm hT l (i+1) (Q2u H i) regs' own' (hH.rest i) fun k o' h=>by
   have:=hl (k+1) o' (by simpa using h)
   rwa [show i+(k+1)=i+1+k from by omega] at this
  rw[comp]
  cases hp:Qyn H i (Qp4 T ops o regs own) with
  |mk rd bl r eff s=>
   rw[Xdq,hp] at h1
   rw[Xe7,AllOk]
   exact⟨h1,h2 _ _⟩
def Q3n:∀(l:List Oper) (i:Nat) (H:List (Nat×Rec)) (regs:List AV) (own:List Slot) (n:Nat),good T ops n l i H regs own=true->Zh1 T ops l i H regs own=H.map (fun p=>(p.2.rd.map (·.2),p.2.bl.map (·.2))) ->
  (runL (l.zip (comp T ops l i H regs own)) regs own).1=(comp T ops l i H regs own).map (fun c=>(c.rd.map (·.2),c.bl.map (·.2)))
 |[],_,_,_,_,_,_,_=>rfl
 |o::l,i,H,regs,own,n,hg,hm=>by
  have h:=Zj5 (T:=T) (ops:=ops) o regs own
  rw[comp]
  rw[good] at hg
  rw[Zh1] at hm
  have hh:(∃k c H',H=(k,c)::H'/\Nat.beq k i=true)\/(Qyn H i (Qp4 T ops o regs own)=Qp4 T ops o regs own/\Q2u H i=H/\atH H i=false):=by
   cases H with
   |nil=>exact Or.inr ⟨rfl,rfl,rfl⟩
   |cons p H=>
    obtain⟨k,c⟩:=p
    cases e:Nat.beq k i with
    |true=>exact Or.inl ⟨k,c,H,rfl,e⟩
    |false=>exact Or.inr ⟨by show(bif Nat.beq k i then c else _)=_;rw[e];rfl,by show(bif Nat.beq k i then _ else _)=_;rw[e];rfl,e⟩
  rcases hh with ⟨k,c,H',rfl,e⟩ |⟨e1,e2,e3⟩
  ·have e1:Qyn ((k,c)::H') i (Qp4 T ops o regs own)=c:=by show(bif Nat.beq k i then c else _)=_;rw[e];rfl
   have e2:Q2u ((k,c)::H') i=H':=by show(bif Nat.beq k i then _ else _)=_;rw[e];rfl
   rw[e1,e2] at hg hm ⊢
   obtain⟨rd,bl,r,eff,sk⟩:=c
   dsimp only at hg hm ⊢
   rw[Xaq] at hg
   rw[show atH ((k,⟨rd,bl,r,eff,sk⟩)::H') i=true from e,Xak,Xax,Xfy] at hm
   exact congr (Xek List.cons hm.1) (Q3n l (i+1) _ _ _ n hg.2 hm.2)
  rw[e1,e2] at hg hm ⊢
  rw[e3] at hm
  clear e1
  revert hg hm h
  generalize Qp4 T ops o regs own=R
  intro hg hm h
  obtain⟨rd,bl,r,eff,sk⟩:=R
  dsimp only at hg hm h ⊢
  rw[Xaq] at hg
  exact congr (Xek List.cons (Prod.ext h.1 h.2)) (Q3n l (i+1) _ _ _ n hg.2 hm)
def Q6d:∀(l:List Oper) (i:Nat) (H:List (Nat×Rec)) (regs:List AV) (own:List Slot) (n:Nat),good T ops n l i H regs own=true->Zbg ops (l.zip (comp T ops l i H regs own)) n=true
 |[],_,_,_,_,_,_=>rfl
 |o::l,i,H,regs,own,n,hg=>by
  rw[good] at hg
  rw[comp]
  cases hp:Qyn H i (Qp4 T ops o regs own) with
  |mk rd bl r eff s=>
   rw[hp] at hg
   dsimp only at hg ⊢
   rw[Xaq] at hg
   have ih:=Q6d l (i+1) _ _ _ n hg.2
   rw[Xe7]
   unfold Zbg at ih ⊢
   rw[Xdo,ih,Xhh]
   exact hg.1
variable {X : Nat -> Nat -> Prop} {φ0 : Nat -> FSlot} {w0 : World} {ro : Option Nat} {Q : Exit -> AS -> Prop} {s : AS} {c : Code}
def Q49 (T:Tab) (ops:Array Oper) (H:List (Nat×Rec)) (s:AS):List Rec:=comp T ops ops.toList 0 H s.regs s.own
def Qu0 (T:Tab) (ops:Array Oper) (H:List (Nat×Rec)) (s:AS):AS:=exec T ops ops.toList 0 H s.regs s.own
def MetX (T:Tab) (ops:Array Oper) (H:List (Nat×Rec)) (s:AS):Prop:=Zh1 T ops ops.toList 0 H s.regs s.own=H.map (fun p=>(p.2.rd.map (·.2),p.2.bl.map (·.2)))/\good T ops s.regs.length ops.toList 0 H s.regs s.own=true
def Quz (H:List (Nat×Rec)):after ops (Q49 T ops H s) s=Qu0 T ops H s:=(Zbq (T:=T) ops.toList 0 H s.regs s.own).symm
def Q3c (hT:T.ok P) {H:List (Nat×Rec)}(hH:HOk P ops H) (hm:MetX T ops H s):AllOk P (ops.toList.zip (Q49 T ops H s))/\Met ops (Q49 T ops H s) s:=by
 refine⟨Zjm hT _ 0 _ _ _ hH fun k o h=>by simpa using h,Q3n _ 0 _ _ _ _ hm.2 hm.1,?_⟩
 rw[Xaq]
 exact⟨by simp[Q49,Zby],Q6d _ 0 _ _ _ _ hm.2⟩
def Qyw {s s':AS}(own:List Slot) (h:Mor X φ0 w0 ⟨s.regs,own⟩ s') (ho:s.own=own:=by kernel_rfl):Mor X φ0 w0 s s':=by
 subst ho
 exact h
def Zwu {id:Nat}{y:Code}(hT:T.ok P) (H:List (Nat×Rec)) (hH:HOk P ops H) (h:AWp P X φ0 w0 ro y Q (Qu0 T ops H s)) (hm:MetX T ops H s:=by exact⟨by kernel_rfl,by kernel_rfl⟩):AWp P X φ0 w0 ro (.seq (.region id ops false) y) Q s:=
 have f:=Q3c hT hH hm
 Ztv _ f.1 (Quz H▸h) f.2
def Zp1 {id:Nat}(hT:T.ok P) (H:List (Nat×Rec)) (hH:HOk P ops H) (h:Q .normal (Qu0 T ops H s)) (hm:MetX T ops H s:=by exact⟨by kernel_rfl,by kernel_rfl⟩):AWp P X φ0 w0 ro (.region id ops false) Q s:=
 have f:=Q3c hT hH hm
 Zn1 _ f.1 (Quz H▸h) f.2
def Zp0 {id:Nat}{y:Code}(hT:T.ok P) (H:List (Nat×Rec)) (hH:HOk P ops H) (h:AWp P X φ0 w0 ro y Q (Qu0 T ops H s)) (hf:P.follows .mixedOrders=true:=by kernel_rfl) (hm:MetX T ops H s:=by exact⟨by kernel_rfl,by kernel_rfl⟩) (ho:Qjg (ops.toList.zip (Q49 T ops H s)) [] []=true:=by kernel_rfl):AWp P X φ0 w0 ro (.seq (.region id ops true) y) Q s:=
 have f:=Q3c hT hH hm
 Zn0 _ f.1 (Quz H▸h) hf f.2 ho
def Zjy {id:Nat}(hT:T.ok P) (H:List (Nat×Rec)) (hH:HOk P ops H) (h:Q .normal (Qu0 T ops H s)) (hf:P.follows .mixedOrders=true:=by kernel_rfl) (hm:MetX T ops H s:=by exact⟨by kernel_rfl,by kernel_rfl⟩) (ho:Qjg (ops.toList.zip (Q49 T ops H s)) [] []=true:=by kernel_rfl):AWp P X φ0 w0 ro (.region id ops true) Q s:=
 have f:=Q3c hT hH hm
 Zj2 _ f.1 (Quz H▸h) hf f.2 ho
end
def fend {P:Program}{fn:Func}{res:AV}{s:AS}(h1:∃vs,ResL P s fn.results.toList vs/\res=Qz6 vs) (h2:NLt 0 res):Fin P fn 0 res [] s:=⟨h1,h2,Xay _,fun n hn=>absurd hn (Xcl n)⟩
abbrev wx := @Zwu
abbrev wx1 := @Zp1
abbrev wxd := @Zp0
abbrev wy1 := @Zjy
def hcat (A B:List (Nat×Rec)):List (Nat×Rec):=A++B
def hap {P:Program}{ops:Array Oper}:∀{A B:List (Nat×Rec)},HOk P ops A->HOk P ops B->HOk P ops (hcat A B)
 |[],_,_,hB=>hB
 |_::_,_,hA,hB=>⟨hA.1,hap hA.2 hB⟩
section
variable {P : Program} {X : Nat -> Nat -> Prop} {φ0 : Nat -> FSlot} {w0 : World} {ro : Option Nat} {Q : Exit -> AS -> Prop} {s : AS} {A : List (Nat × Rec)} {id : Nat} {ops : Array Oper} {d : Bool} {y : Code}
def hpre (hA:HOk P ops A) (h:HOk P ops A->AWp P X φ0 w0 ro (.seq (.region id ops d) y) Q s):AWp P X φ0 w0 ro (.seq (.region id ops d) y) Q s:=h hA
end
def tv:True:=trivial
def prr {ρ:List Nat}{t n n' m j i:Nat}{l k:List (Nat×AV)}(h':PPw (RW fun n n'=>ρ[n']? = some n) l k) (h:(ρ[n']? == some n)=true:=by rfl):PPw (RW fun n n'=>ρ[n']? = some n) ((t,.ref n m j i)::l) ((t,.ref n' m j i)::k):=pc (.rn (Zg4 h)) h'
def pw {M:Nat->Nat->Prop}{t:Nat}{u:Value}{l k:List (Nat×AV)}(h:PPw (RW M) l k):PPw (RW M) ((t,.lit u)::l) ((t,.lit u)::k):=pc rwl h
def qb {R:AV->AV->Prop}{m:Nat}{x x':List AV}{l k:List Slot}(h:LPw R x x') (h':QPw R l k):QPw R (.own m [x]::l) (.own m [x']::k):=qc (Zgy h) h'
def frb {P:Program}{fn:Func}{s:AS}{b r:Bool}(h:some b=some r) (hr:ResL P s fn.results.toList [B b]:=by exact⟨rot,trivial⟩):Fin P fn 0 (B r) [] s:=by
 cases osi h
 exact fend ⟨[B b],hr,rfl⟩ nll
def apv {P:Program}{o:Oper}{rd:List (Operand×AV)}{f:Operand}{xs:Array Operand}{ts:Array TypeId}{g:FuncId}{vs:List AV}{res:AV}(hcall:∀vals w,(callFunc g vals).run P w=.ok (.enter g vals) w) (spec:Spec P g vs [] res [])
  (hn:∀a∈vs,NLt 0 a) (hres:NLt 0 res) (h:o.op=.call { callee:=.value f,args:=xs,argTypes:=ts }:=by exact rfl) (hvl:vs.length=xs.size:=by exact rfl) (hrd:(f,.fn (.func g) [] [])::xs.toList.zip vs=rd:=by exact rfl):Qd0 P o rd [] res []:=
 Q87 (first:=[]) (cap:=[]) h hcall spec hvl (Xbn vs) hn hres hrd
end
section
def Q0v:∀(m k:Nat) (xs ys:List Int),xs.length=k+m->ys.length=k+m->((List.range' k m).all fun i=>xs.getD i 0==ys.getD i 0)=(xs.drop k==ys.drop k)
 |0,k,xs,ys,hx,hy=>by
  rw[Xcp (by omega),Xcp (by omega)]
  rfl
 |m+1,k,xs,ys,hx,hy=>by
  rw[Xd1,Xdo,Q0v m (k+1) xs ys (by omega) (by omega)]
  rw[Xbe (show k<xs.length by omega),Xbe (show k<ys.length by omega),Xhg]
  simp[List.getD,Xab (show k<xs.length by omega),Xab (show k<ys.length by omega)]
def Zmt {P:Program}(d:Nat) {t e:TypeId}{n:Nat}{kd:IntKind}(ht:P.underlying t=some (.array n e)) (he:P.underlying e=some (.int kd)) (hT:TI P e false 1):EqT P (d+2) t n:=fun w xs ys hx hy=>by
 rw[show(xs==ys)=(xs.drop 0==ys.drop 0) from rfl,<-Q0v n 0 xs ys (by omega) (by omega),Op.equalIn]
 simp only[Xav,Xa8 ht,Xao,hT.size,Xg1,Std.Legacy.Range.size,Xga,Nat.add_sub_cancel,Nat.div_one]
 have hl:∀i∈List.range' 0 n 1,i<n:=fun i hi=>by simpa using(List.mem_range'_1.1 hi).2
 generalize List.range' 0 n 1=l at hl ⊢
 induction l with
 |nil=>simp
 |cons i l ih=>
  have hi:i<n:=hl i (by simp)
  have px:(part e (xs.map (Value.int .i64)).toArray (i*1)).run P w=.ok (.int .i64 (xs.getD i 0)) w:=by
   simp[part,isAgg,Xa8 he,List.getD,Xab (show i<xs.length by omega)]
  have py:(part e (ys.map (Value.int .i64)).toArray (i*1)).run P w=.ok (.int .i64 (ys.getD i 0)) w:=by
   simp[part,isAgg,Xa8 he,List.getD,Xab (show i<ys.length by omega)]
  have pe:(Op.equalIn (d+1) e (.int .i64 (xs.getD i 0)) (.int .i64 (ys.getD i 0))).run P w=.ok (xs.getD i 0==ys.getD i 0) w:=run_equalIn_int w d e .i64 kd _ _ he
  simp only[List.forIn_cons,Xav,px,py,pe,Xao,Xdo]
  cases hb:(xs.getD i 0==ys.getD i 0)
  ·simp
  simp only[Xb4,Xc8,Xff,Xcr,Xao,Xcc]
  exact ih fun j hj=>hl j (by simp[hj])
def Q0u (m:Nat):∀(c k:Nat) (xs ys:List Int),xs.length=(k+c)*m->ys.length=(k+c)*m->((List.range' k c).all fun i=>(xs.drop (i*m)).take m==(ys.drop (i*m)).take m)=(xs.drop (k*m)==ys.drop (k*m))
 |0,k,xs,ys,hx,hy=>by
  rw[Xcp (by rw[hx];exact Xay _),Xcp (by rw[hy];exact Xay _)]
  rfl
 |c+1,k,xs,ys,hx,hy=>by
  rw[Xd1,Xdo,Q0u m c (k+1) xs ys (by rw[hx];congr 1;omega) (by rw[hy];congr 1;omega)]
  have e:(k+1)*m=k*m+m:=Nat.succ_mul k m
  have e2:(k+(c+1))*m=k*m+m+c*m:=by rw[Xcu,Nat.succ_mul];omega
  rw[e,<-Xez,<-Xez]
  have hl:((xs.drop (k*m)).take m).length=((ys.drop (k*m)).take m).length:=by simp;omega
  rw[Xh2,Xaq,Xbm,Xbm,Xbm]
  refine⟨fun h=>?_,fun h=>by rw[h];exact⟨rfl,rfl⟩⟩
  rw[<-Xcf m (xs.drop (k*m)),<-Xcf m (ys.drop (k*m)),h.1,h.2]
def Zr9 {P:Program}(d:Nat) {t e:TypeId}{n m:Nat}(ht:P.underlying t=some (.array n e)) (hT:TI P e true m) (he:EqT P (d+1) e m):EqT P (d+2) t (n*m):=fun w xs ys hx hy=>by
 rw[show(xs==ys)=(xs.drop (0*m)==ys.drop (0*m)) by rw[Xgs];rfl,<-Q0u m n 0 xs ys (by rw[Xar];exact hx) (by rw[Xar];exact hy),Op.equalIn]
 simp only[Xav,Xa8 ht,Xao,hT.size,Xg1,Std.Legacy.Range.size,Xga,Nat.add_sub_cancel,Nat.div_one]
 have hl:∀i∈List.range' 0 n 1,i<n:=fun i hi=>by simpa using(List.mem_range'_1.1 hi).2
 generalize List.range' 0 n 1=l at hl ⊢
 induction l with
 |nil=>simp
 |cons i l ih=>
  have hi:i<n:=hl i (by simp)
  have hb:(i+1)*m<=n*m:=Xbl m hi
  rw[Nat.succ_mul] at hb
  have hp:∀(q:List Int),q.length=n*m->(part e (q.map (Value.int .i64)).toArray (i*m)).run P w=.ok (.agg (((q.drop (i*m)).take m).map (Value.int .i64)).toArray) w:=fun q hq=>by
   have e:(q.map (Value.int .i64)).toArray.extract (i*m) (i*m+m)=(((q.drop (i*m)).take m).map (Value.int .i64)).toArray:=by
    simp[Xh5]
   simp only[part,Xav,hT.isAgg,hT.size,Xao,Xe4,e]
   rfl
  simp only[List.forIn_cons,Xav,hp xs hx,hp ys hy,he w _ _ (show((xs.drop (i*m)).take m).length=m by simp;omega) (show((ys.drop (i*m)).take m).length=m by simp;omega),Xao,Xdo]
  cases hb:((xs.drop (i*m)).take m==(ys.drop (i*m)).take m)
  ·simp
  simp only[Xb4,Xc8,Xff,Xcr,Xao,Xcc]
  exact ih fun j hj=>hl j (by simp[hj])
section
variable {P : Program} {o : Oper}
end
section
variable {P : Program} {X : Nat -> Nat -> Prop} {φ0 : Nat -> FSlot} {w0 : World} {ro : Option Nat} {Q : Exit -> AS -> Prop} {s : AS}
end
end
section
section
variable {P : Program} {o : Oper}
def aiq {α:Type}{x y:Operand}{t e:TypeId}{gg:Bool}{m:Nat}{l:List α}{i:Int}{z:α}(ht:P.underlying t=some (.slice e)) (he:TI P e gg m) (c:α->List AV) (h0:0<=i) (hj:l[i.toNat]? = some z) (h:o.op=.indexAddr t x y:=by exact rfl) :
  Qd0 P o [(x,.dat m (l.map c)),(y,I i)] [] (.dptr (c z) 0) []:=Zd1 h ht he rfl rfl h0 (Zh4 c hj) rfl
def alq {α:Type}{x:Operand}{t e:TypeId}(m:Nat) (c:α->List AV) (l:List α) (ht:P.underlying t=some (.slice e)) (h:o.op=.call { callee:=.builtin .len,args := #[x],argTypes := #[t] }:=by exact rfl) :
  Qd0 P o [(x,.dat m (l.map c))] [] (I (l.length:Int)) []:=Zdz (c:=c) (l:=l) (Q6o h ht rfl)
end
end
section
class NLc {α:Type}(c:α->List AV):Prop where out:∀x,∀a∈c x,NLt 0 a
class Blt (n k:Nat):Prop where out:n<k
class NLi (k:Nat) (a:AV):Prop where out:NLt k a
class NLs (k:Nat) (l:List AV):Prop where out:∀a∈l,NLt k a
class SNi (k:Nat) (s:Slot):Prop where out:SNLt k s
class SNs (k:Nat) (l:List Slot):Prop where out:∀s∈l,SNLt k s
instance {k:Nat}:Blt 0 (k+1):=⟨Nat.succ_pos k⟩
instance {n k:Nat} [h:Blt n k]:Blt (n+1) (k+1):=⟨Nat.succ_lt_succ h.out⟩
section
variable {k n m : Nat}
instance:NLi k .any:=⟨.any⟩
instance {v:Value}:NLi k (.lit v):=⟨.lit v⟩
instance {l:List AV} [h:NLs k l]:NLi k (.agg l):=⟨.agg l h.out⟩
instance {l:List AV} [h:NLs k l]:NLi k (.tup l):=⟨.tup l h.out⟩
instance {f:Fn}{l c:List AV} [h:NLs k l] [h':NLs k c]:NLi k (.fn f l c):=⟨.fn f l c h.out h'.out⟩
instance {α:Type}{c:α->List AV}{xs:List α} [h:NLc c]:NLi k (.dat m (xs.map c)):=⟨(Qpp h.out xs).of0⟩
instance {l:List AV}{i:Nat} [h:NLs k l]:NLi k (.dptr l i):=⟨.dptr l i h.out⟩
instance {j i:Nat} [h:Blt n k]:NLi k (.ref n m j i):=⟨.ref n m j i h.out⟩
instance {j len:Nat} [h:Blt n k]:NLi k (.own n m j len):=⟨.own n m j len h.out⟩
instance {len:Nat}{ty:TypeId} [h:Blt n k]:NLi k (.gro n ty m len):=⟨.gro n ty m len h.out⟩
instance {q j len:Nat} [h:Blt n k]:NLi k (.row n q m j len):=⟨.row n q m j len h.out⟩
instance [h:Blt n k]:NLi k (.mp n):=⟨.mp n h.out⟩
instance {α:Type}{c:α->List AV}{xs:List α}{ty:TypeId} [h:Blt n k] [h':NLc c]:NLi k (.acc n ty m (xs.map c)):=⟨.acc n ty m _ h.out (Q20 h'.out xs)⟩
instance:NLs k []:=⟨Qn9⟩
instance {a:AV}{l:List AV} [h:NLi k a] [h':NLs k l]:NLs k (a::l):=⟨Qlf h.out h'.out⟩
instance {α:Type} [AVo α] {f:Nat->α}:NLs k (arrF n f):=⟨Q5k⟩
instance {l l':List AV} [h:NLs k l] [h':NLs k l']:NLs k (l++l'):=⟨Qgh h.out h'.out⟩
instance {α:Type}{c:α->List AV}{x:α} [h:NLc c]:NLs k (c x):=⟨fun a ha=>(h.out x a ha).of0⟩
instance:SNi k .unused:=⟨.unused⟩
instance:SNi k .dead:=⟨.dead⟩
instance:SNi k .tok:=⟨.tok⟩
instance {l:List AV} [h:NLs k l]:SNi k (.own m [l]):=⟨Qkg h.out⟩
instance {α:Type}{c:α->List AV}{xs:List α} [h:NLc c]:SNi k (.own m (xs.map c)):=⟨Qiv h.out xs⟩
instance {α:Type}{c:α->List AV}{xs:List α} [h:NLc c]:SNi k (.gro m (xs.map c)):=⟨Zlw h.out xs⟩
instance:SNs k []:=⟨Qkf⟩
instance {s:Slot}{l:List Slot} [h:SNi k s] [h':SNs k l]:SNs k (s::l):=⟨Qdt h.out h'.out⟩
end
section
variable {P : Program} {fn : Func} {k : Nat} {res : AV} {σ' : List Slot} {regs : List AV} (vs : List AV)
def fio (hr:ResL P ⟨regs,σ'⟩ fn.results.toList vs) [hn:NLi k res] [hs:SNs k σ'] (hres:res=Qz6 vs:=by exact rfl) (hk:σ'.length=k:=by kernel_rfl):Fin P fn k res σ' ⟨regs,σ'⟩:=Zip hr hres hn.out hk hs.out
def fie {s:AS}(h1:ResL P s fn.results.toList vs) [hn:NLi 0 res] (hres:res=Qz6 vs:=by exact rfl):Fin P fn 0 res [] s:=fend ⟨vs,h1,hres⟩ hn.out
end
def sA {P:Program}{f:FuncId}{fn:Func}{c:Code}(hf:P.funcs[f]? = some fn) {args:List AV}{σ:List Slot}{res:AV}{σ':List Slot}(k:Nat)
  (h:∀X φ0 w0,(∀n,σ.length<=n->φ0 n=.unused)->w0.drawn≠1->AWp P X φ0 w0 none c (finA P fn k res σ') ⟨args++List.replicate (fn.ntmps-args.length) .any,σ⟩) (hb:fn.body=some c:=by exact rfl) (hσ:σ.length<=k:=by exact nle rfl):Spec P f args σ res σ':=Qs2 hf hb k hσ h
def sF {P:Program}{f:FuncId}{fn:Func}{c:Code}(hf:P.funcs[f]? = some fn) {args:List AV}{σ:List Slot}{res:AV}{σ':List Slot}(k:Nat)
  (h:∀X φ0 w0,(∀n,σ.length<=n->φ0 n=.unused)->w0.drawn≠1->AWp P X φ0 w0 none c (finM P X φ0 w0 fn k res σ') ⟨args++List.replicate (fn.ntmps-args.length) .any,σ⟩) (hb:fn.body=some c:=by exact rfl) (hσ:σ.length<=k:=by exact nle rfl):Spec P f args σ res σ':=Qs2 hf hb k hσ fun X φ0 w0 h1 h2=>Q3v (h X φ0 w0 h1 h2)
def apw {P:Program}{o:Oper}{rd:List (Operand×AV)}{f:Operand}{xs:Array Operand}{ts:Array TypeId}{g:FuncId}{vs:List AV}{res:AV}(hcall:∀vals w,(callFunc g vals).run P w=.ok (.enter g vals) w) (spec:Spec P g vs [] res [])
  [hn:NLs 0 vs] [hres:NLi 0 res] (h:o.op=.call { callee:=.value f,args:=xs,argTypes:=ts }:=by exact rfl) (hvl:vs.length=xs.size:=by exact rfl) (hrd:(f,.fn (.func g) [] [])::xs.toList.zip vs=rd:=by exact rfl):Qd0 P o rd [] res []:=apv hcall spec hn.out hres.out h hvl hrd
def acq {P:Program}{o:Oper}{f:Operand}{xs:Array Operand}{ts:Array TypeId}{g:FuncId}{args:List AV}{σ σ':List Slot}{res:AV}(vs:List AV) (σr σr':List Slot) (res':AV) (ρ:List Nat) (hcall:∀vals w,(callFunc g vals).run P w=.ok (.enter g vals) w) (spec:Spec P g args σ res σ')
  (hargs:Rn (fun n n'=>ρ[n]? = some n'/\n<σ.length) (.agg args) (.agg vs)) (hσ:SLw (fun n n'=>ρ[n]? = some n'/\n<σ.length) σ σr) (hσ':SLw (fun n n'=>ρ[n]? = some n') σ' σr') (hres:Rn (fun n n'=>ρ[n]? = some n') res res')
  {bl eff:List (Nat×Slot)}{rd:List (Operand×AV)}(h:o.op=.call { callee:=.value f,args:=xs,argTypes:=ts }:=by exact rfl) (hdec:(decide ρ.Nodup&&(vs.length==xs.size)&&(σ'.length==ρ.length)&&Nat.ble σ.length ρ.length&&σ.all Slot.alive)=true:=by exact rfl)
  (hbl:(ρ.take σ.length).zip σr++(ρ.drop σ.length).map (fun n=>(n,Slot.unused))=bl:=by exact rfl) (heff:ρ.zip σr'=eff:=by exact rfl) (hrd:(f,.fn (.func g) [] [])::xs.toList.zip vs=rd:=by exact rfl):Qd0 P o rd bl res' eff:=
 Qd5 (first:=[]) (cap:=[]) ρ h hcall spec hdec (by simpa using hargs) hσ hσ' hres hbl heff hrd
def Zh6 {M:Nat->Nat->Prop}:∀{x:List AV},(∀a∈x,NLt 0 a)->LPw (RW M) x x/\LPw (Rn M) x x
 |[],_=>⟨trivial,trivial⟩
 |a::_,h=>
  have k:=Zh6 fun b hb=>h b (Xal _ hb)
  ⟨⟨.rn (.plain a (h a Xb9)),k.1⟩,.plain a (h a Xb9),k.2⟩
def qbi {M:Nat->Nat->Prop}{m:Nat}{x:List AV}{l k:List Slot} [h:NLs 0 x] (h':QPw (RW M) l k):QPw (RW M) (.own m [x]::l) (.own m [x]::k):=qb (Zh6 h.out).1 h'
def pqi {M:Nat->Nat->Prop}{t:Nat}{a:AV}{l k:List (Nat×AV)} [h:NLi 0 a] (h':PPw (RW M) l k):PPw (RW M) ((t,a)::l) ((t,a)::k):=pc (.rn (.plain a h.out)) h'
def sbi {M:Nat->Nat->Prop}{m:Nat}{x:List AV}{l k:List Slot} [h:NLs 0 x] (h':SLw M l k):SLw M (.own m [x]::l) (.own m [x]::k):=Q2p (Qcr (Zh6 h.out).2) h'
def pli {M:Nat->Nat->Prop}{a:AV} [h:NLi 0 a]:Rn M a a:=.plain a h.out
end
end Go.Proofs.YtcoojdacfknboafGreat
