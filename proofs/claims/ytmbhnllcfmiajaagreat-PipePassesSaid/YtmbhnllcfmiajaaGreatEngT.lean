/-
  The engine, part T: a slice that is not nil; a new slice without elements; an append whose result is a block of one's own. Plain laws; no conditions.
-/
import Derived.Test.YtmbhnllcfmiajaaGreatEngS
import Derived.Lib.SliceRun
namespace Go.Proofs.YtmbhnllcfmiajaaGreat
open Go.RowKit
section
variable {P : Program} {o : Oper} {X : Nat → Nat → Prop} {φ φ' : Nat → FSlot} {w w' : World}
theorem Evo.allocT {n:Nat} (hn:φ n=.unused) (hlt:∀ n b,(φ n).lies b→b<w.heap.size) (ob:Obj):Evo X φ w (upd φ n (.tok none)) (w.alloc ob):=by
 have ne:∀ k,φ k ≠ .unused→k ≠ n:=fun k hk e=>hk (e ▸ hn)
 refine ⟨rfl,rfl,rfl,by simp,fun b hb _=>heap_alloc_old w ob hb,fun b ⟨k,hk⟩=>?_,fun b off hd=>⟨⟨by simp; have:=hd.lt; omega,hd.hid,fun k hk=>?_,fun k L hk=>?_,fun k Y hk=>?_,fun k bs q hk=>?_⟩,World.cell?_of_block (heap_alloc_old w ob hd.lt)⟩,fun k hk=>?_,fun k b hk=>?_,fun k t hk=>?_,fun k Y hk=>?_,fun k bs hk=>?_,fun k b hk _=>?_⟩
 ·unfold upd at hk
  split at hk
  ·exact (Qc1 hk).elim
  ·exact .inl ⟨k,hk⟩
 ·unfold upd at hk
  split at hk
  ·cases hk
  ·exact hd.own k hk
 ·unfold upd at hk
  split at hk
  ·cases hk
  ·exact hd.tok k L hk
 ·unfold upd at hk
  split at hk
  ·cases hk
  ·exact hd.far k Y hk
 ·unfold upd at hk
  split at hk
  ·cases hk
  ·exact hd.mat k bs q hk
 ·rw [upd,if_neg (ne k (by rw [hk]; simp))]; exact hk
 ·rw [upd,if_neg (ne k (by rw [hk]; simp))]; exact .inl hk
 ·rw [upd,if_neg (ne k (by rw [hk]; simp))]
  exact .inr ⟨hk,fun b L e=>heap_alloc_old w ob (hlt k b (.tok (L:=L) (by rw [hk,e])))⟩
 ·rw [upd,if_neg (ne k (by rw [hk]; simp))]; exact .inr ⟨Y,hk⟩
 ·rw [upd,if_neg (ne k (by rw [hk]; simp))]; exact .inr ⟨bs,hk,.refl bs⟩
 ·exact .same (heap_alloc_old w ob (hlt k b (.own hk)))
theorem Qu1 {n:Nat} (hd:Qb9 φ):Qb9 (upd φ n (.tok none)):=by
 intro k k' b hk hk'
 unfold upd at hk hk'
 split at hk
 ·exact (Qc1 hk).elim
 ·split at hk'
  ·exact (Qc1 hk').elim
  ·exact hd k k' b hk hk'
theorem Qh6 {t e:TypeId} {nm m:Nat} {gg:Bool} {zs:List Value} (h:o.op=.buildSlice t 0 #[]) (ht:P.underlying t=some (.slice e)) (he:TI P e gg m) (hz:TZ P e zs) :
  Qcg P o [] [(nm,.unused)] (.acc nm e m []) [(nm,.tok)]:=by
 intro X φ a w hr hb hd hX hlt next Q k
 have hn:φ nm=.unused:=hb (nm,.unused) (by simp)
 obtain ⟨z,hz1,hz2⟩:=hz.run w
 have hexec:∃ cs,(execOp a.eval o).run P w=.ok (.value (.slice (some ⟨w.heap.size,0,none⟩) 0 0)) (w.alloc (.cells cs e)):=
  ⟨(Array.range 0).map fun _=>(default:Value),by simp [execOp,h,Instr.buildSlice,run_underlying ht,he.size,newRow,newObj,Instr.fill]; rfl⟩
 obtain ⟨cs,hexec⟩:=hexec
 have evo:=Evo.allocT (X:=X) hn hlt (.cells cs e)
 refine Qgp hexec ?_
 refine k _ (upd φ nm (.tok none)) _ (RelV.acc nm e m [] _ 0 0 (fun _ _=>undef) (DatOK.nil _ _ _ _ (by simp [maxLen])) (by simp) (by simp [upd]) (fun t ht=>?_)) (fun p hp=>?_) (Qu1 hd) (fun q hq=>?_) (fun b hb _=>heap_alloc_old w _ hb) evo
 ·simp [upd] at ht
  subst ht
  exact ⟨rfl,rfl⟩
 ·simp at hp
  subst hp
  exact ⟨none,by simp [upd],fun b L e=>by cases e⟩
 ·simp at hq
  simp [upd,hq]
theorem Q0m {t t' e:TypeId} {x y:Operand} {v:AV} {m:Nat} {xs:List (List AV)} (h:o.op=.binOp .eql t x y t') (ht:P.underlying t=some (.slice e)) (hv:Qs3 v=some (m,xs)) (hne:xs ≠ []) :
  Qcg P o [(x,v),(y,.lit (.slice none 0 0))] [] (.lit (.bool false)) []:=Qbv fun X φ ac w hr _=>by
 obtain ⟨A,len,cap,g,hx,ok,_⟩:=Qm6 (hr (x,v) (by simp)) hv
 dsimp only at hx
 obtain ⟨b,of,hA,_⟩:=ok.hcells hne
 have h2:ac.eval y=.slice none 0 0:=Qcf (hr (y,.lit (.slice none 0 0)) (by simp))
 have hg:(eqGuard .eql t x y (.slice A len cap) (.slice none 0 0)).run P w=.ok () w:=rfl
 subst hA
 exact ⟨_,by simp only [execOp,h,hx,h2,Sem.run_bind,hg,Result.andThen_ok,Lib.run_eql_slice_nil w t e _ _ _ _ _ ht]; rfl,.lit _⟩
theorem Zem {n0:Option Nat} {n b':Nat} {e:TypeId} {cur':Array Value} {w':World} (hd:Qb9 φ) (hlt:∀ n b,(φ n).lies b→b<w.heap.size) (hn:φ n=.unused)
  (hc:(∃ (k:Nat) (cur:Array Value),n0=some k∧φ k=.tok (some (b',0))∧w.heap[b']? = some (.cells cur e (0,0))∧w'=w.setRow b' cur')∨(b'=w.heap.size∧w'=w.drew.alloc (.cells cur' e)∧∀ k,n0=some k→∃ t,φ k=.tok t)) :
  Evo X φ w (fun k=>if k=n then .own b' else if some k=n0 then .dead else φ k) w'∧Qb9 (fun k=>if k=n then FSlot.own b' else if some k=n0 then .dead else φ k):=by
 have ne:∀ k,φ k ≠ .unused→k ≠ n:=fun k hk e=>hk (e ▸ hn)
 have only:∀ k,(φ k).lies b'→some k=n0∨k=n:=fun k hk=>by
  rcases hc with ⟨k0,cur,rfl,h1,_⟩ | ⟨rfl,_⟩
  ·exact .inl (congrArg some (hd k k0 b' hk (.tok h1)))
  ·exact absurd (hlt k _ hk) (Nat.lt_irrefl _)
 have dead0:∀ k,some k=n0→∃ t,φ k=.tok t:=fun k hk=>by
  rcases hc with ⟨k0,cur,h0,h1,_⟩ | ⟨_,_,h2⟩
  ·rw [h0] at hk; cases hk; exact ⟨_,h1⟩
  ·exact h2 k hk.symm
 have hother:∀ b,b ≠ b'→b<w.heap.size→w'.heap[b]? = w.heap[b]? := fun b hb hbl=>by
  rcases hc with ⟨_,_,_,_,_,rfl⟩ | ⟨_,rfl,_⟩
  ·exact setRow_other w b' b cur' hb
  ·exact heap_alloc_old w.drew _ hbl
 have hsize:w.heap.size≤w'.heap.size:=by
  rcases hc with ⟨_,_,_,_,_,rfl⟩ | ⟨_,rfl,_⟩<;>simp
 refine ⟨⟨?_,?_,?_,hsize,fun b hb hnb=>?_,fun b ⟨k,hk⟩=>?_,fun b off hdat=>?_,fun k hk=>?_,fun k b hk=>?_,fun k t hk=>?_,fun k Y hk=>?_,fun k bs hk=>?_,fun k b hk _=>?_⟩,fun k k' b hk hk'=>?_⟩
 ·rcases hc with ⟨_,_,_,_,_,rfl⟩ | ⟨_,rfl,_⟩<;>rfl
 ·rcases hc with ⟨_,_,_,_,_,rfl⟩ | ⟨_,rfl,_⟩<;>rfl
 ·rcases hc with ⟨_,_,_,_,_,rfl⟩ | ⟨_,rfl,_⟩<;>rfl
 ·refine hother b (fun e=>?_) hb
  rcases hc with ⟨k0,cur,_,h1,_⟩ | ⟨h1,_⟩
  ·exact hnb ⟨k0,.tok (L:=0) (by rw [h1,e])⟩
  ·omega
 ·dsimp only at hk
  split at hk
  ·obtain rfl:=Qfh hk
   rcases hc with ⟨k0,cur,_,h1,_⟩ | ⟨h1,_⟩
   ·exact .inl ⟨k0,.tok h1⟩
   ·exact .inr (by omega)
  ·split at hk
   ·exact (Qa0 hk).elim
   ·exact .inl ⟨k,hk⟩
 ·have hbb:b ≠ b':=fun e=>by
   subst e
   rcases hc with ⟨k0,cur,_,h1,_⟩ | ⟨h1,_⟩
   ·exact absurd (hdat.tok k0 0 h1) (Nat.not_lt_zero _)
   ·have:=hdat.lt; omega
  refine ⟨⟨Nat.lt_of_lt_of_le hdat.lt hsize,hdat.hid,fun k hk=>?_,fun k L hk=>?_,fun k Y hk=>?_,fun k bs q hk=>?_⟩,World.cell?_of_block (hother b hbb hdat.lt)⟩
  ·split at hk
   ·cases hk; exact hbb rfl
   ·split at hk
    ·cases hk
    ·exact hdat.own k hk
  ·split at hk
   ·cases hk
   ·split at hk
    ·cases hk
    ·exact hdat.tok k L hk
  ·split at hk
   ·cases hk
   ·split at hk
    ·cases hk
    ·exact hdat.far k Y hk
  ·split at hk
   ·cases hk
   ·split at hk
    ·cases hk
    ·exact hdat.mat k bs q hk
 ·rw [if_neg (ne k (by rw [hk]; simp)),if_neg (fun e=>by obtain ⟨t,ht⟩:=dead0 k e; rw [hk] at ht; cases ht)]
  exact hk
 ·rw [if_neg (ne k (by rw [hk]; simp)),if_neg (fun e=>by obtain ⟨t,ht⟩:=dead0 k e; rw [hk] at ht; cases ht)]
  exact .inl hk
 ·rw [if_neg (ne k (by rw [hk]; simp))]
  by_cases e:some k=n0
  ·rw [if_pos e]; exact .inl rfl
  ·rw [if_neg e]
   refine .inr ⟨hk,fun b L ht=>?_⟩
   subst ht
   have hl:(φ k).lies b:=.tok hk
   refine hother b (fun e'=>?_) (hlt k b hl)
   subst e'
   rcases only k hl with h | h
   ·exact e h
   ·exact ne k (by rw [hk]; simp) h
 ·rw [if_neg (ne k (by rw [hk]; simp)),if_neg (fun e=>by obtain ⟨t,ht⟩:=dead0 k e; rw [hk] at ht; cases ht)]
  exact .inr ⟨Y,hk⟩
 ·rw [if_neg (ne k (by rw [hk]; simp)),if_neg (fun e=>by obtain ⟨t,ht⟩:=dead0 k e; rw [hk] at ht; cases ht)]
  exact .inr ⟨bs,hk,.refl bs⟩
 ·have hl:(φ k).lies b:=.own hk
  refine .same (hother b (fun e'=>?_) (hlt k b hl))
  subst e'
  rcases only k hl with h | h
  ·obtain ⟨t,ht⟩:=dead0 k h; rw [hk] at ht; cases ht
  ·exact ne k (by rw [hk]; simp) h
 ·dsimp only at hk hk'
  split at hk<;>split at hk'
  ·simp_all
  ·obtain rfl:=Qfh hk
   split at hk'
   ·exact (Qa0 hk').elim
   ·rcases only k' hk' with h | h<;>contradiction
  ·obtain rfl:=Qfh hk'
   split at hk
   ·exact (Qa0 hk).elim
   ·rcases only k hk with h | h<;>contradiction
  ·split at hk
   ·exact (Qa0 hk).elim
   ·split at hk'
    ·exact (Qa0 hk').elim
    ·exact hd k k' b hk hk'
theorem Qt7 {x y:Operand} {t e:TypeId} {m m' bytes:Nat} {v u:AV} {ys:List (List AV)} {n0:Option Nat} {n:Nat} (h:o.op=.call { callee:=.builtin .append,args := #[x,y],argTypes := #[t,t] }) (ht:P.underlying t=some (.slice e)) (he:TE P e m bytes)
  (hv:Base e m v [] n0) (hu:Qs3 u=some (m',ys)) (hm':m'=m) (hne:ys ≠ []) (h1:(ys.all fun y=>y.all AV.one)=true) (hb:(0+ys.length) * bytes≤140737488355328) (h63:0+ys.length≤maxLen) {L:Nat} (hL:ys.length=L) :
  Qcg P o [(x,v),(y,u)] (Qsc n0++[(n,.unused)]) (.own n m 0 L) (Qic n0++[(n,.own m ys)]):=by
 subst hm' hL
 intro X φ a w hrd hbl hd hX hlt next Q k
 have hn:φ n=.unused:=hbl (n,.unused) (by simp)
 have hpos:=he.pos
 obtain ⟨A,len,cap,g,hy,ok,hr⟩:=Qm6 (hrd (y,u) (by simp)) hu
 dsimp only at hy
 obtain ⟨ad,news,rfl,hnl,hnc,hn1,hng⟩:=Qr8 ok hr hpos hne h1
 have elen:=ok.hlen
 subst elen
 have hx:=hrd (x,v) (by simp)
 dsimp only at hx
 have hbase:(n0=none∧∃ A,a.eval x=.slice A 0 0)∨∃ k0,n0=some k0∧((φ k0=.tok none∧∃ A,a.eval x=.slice A 0 0)∨∃ b cap cur,φ k0=.tok (some (b,0))∧a.eval x=.slice (some ⟨b,0,none⟩) 0 cap∧w.heap[b]? = some (.cells cur e (0,0))∧cur.size=cap * m'∧cap≤maxLen∧∀ off,¬ X b off):=by
  generalize hxs:([]:List (List AV))=xs0 at hv
  cases hv with
  | nil=>exact .inl ⟨rfl,_,Qcf hx⟩
  | acc k0 _=>
   subst hxs
   obtain ⟨T,hT,hT2⟩:=hbl (k0,.tok) (by simp [Qsc])
   cases hxe:a.eval x with
   | slice A len cap=>
    rw [hxe] at hx
    cases hx with
    | acc _ _ _ _ _ _ _ gx okx hrx hnx htip=>
     have tip:=htip T hT
     unfold Tip at tip
     have el:=okx.hlen
     simp only [List.length_nil] at el
     subst el
     cases T with
     | none=>
      obtain ⟨_,rfl⟩:=tip
      exact .inr ⟨k0,rfl,.inl ⟨hT,_,rfl⟩⟩
     | some p=>
      obtain ⟨b,L⟩:=p
      obtain ⟨rfl,h2,cur,hc1,hc2,hc3⟩:=tip
      rw [Nat.zero_mul] at h2
      subst h2
      exact .inr ⟨k0,rfl,.inr ⟨b,cap,cur,hT,rfl,hc1,hc2,hc3,(hT2 b _ rfl).2⟩⟩
   | _=>rw [hxe] at hx; cases hx
 have hsv:((∃ A,a.eval x=.slice A 0 0)∧0=0)∨∃ g cap cur,a.eval x=.slice (some ⟨g,0,none⟩) 0 cap∧w.heap[g]? = some (.cells cur e (0,0))∧cur.size=cap * m'∧0≤cap∧cap≤maxLen∧cur.toList.take (0 * m')=[]:=by
  rcases hbase with ⟨_,h3⟩ | ⟨k0,_,⟨_,h3⟩ | ⟨b,cap,cur,h2,h3,h4,h5,h6,_⟩⟩
  ·exact .inl ⟨h3,rfl⟩
  ·exact .inl ⟨h3,rfl⟩
  ·exact .inr ⟨b,cap,cur,h3,h4,h5,Nat.zero_le _,h6,by simp⟩
 obtain ⟨b',cap',cur',w',hrun,c1,c2,c3,c4,c5⟩:=Qpo (P:=P) (ty:=o.type) ht he (a.eval x) 0 [] (by simp) hsv ad ys.length cap news hnl hnc hn1 (List.length_pos_iff.2 hne) hb h63
 have hexec:(execOp a.eval o).run P w=.ok (.value (.slice (some ⟨b',0,none⟩) (0+ys.length) cap')) w':=by
  simp only [execOp,h,resolve,invoke,builtin,Sem.run_bind,Sem.run_pure,Result.andThen_ok,List.map_toArray,List.map_cons,List.map_nil,hy,hrun]
 have hcase:(∃ (k:Nat) (cur:Array Value),n0=some k∧φ k=.tok (some (b',0))∧w.heap[b']? = some (.cells cur e (0,0))∧w'=w.setRow b' cur')∨(b'=w.heap.size∧w'=w.drew.alloc (.cells cur' e)∧∀ k,n0=some k→∃ t,φ k=.tok t):=by
  rcases c5 with ⟨capx,h3,hroom,h4⟩ | ⟨h3,h4⟩
  ·rcases hbase with ⟨_,A,h6⟩ | ⟨k0,h5,⟨_,A,h6⟩ | ⟨b,cap,cur,h2,h6,h7,h8,h9,_⟩⟩
   ·rw [h6] at h3
    have hc:=(Value.slice.inj h3).2.2
    have:=List.length_pos_iff.2 hne
    omega
   ·rw [h6] at h3
    have hc:=(Value.slice.inj h3).2.2
    have:=List.length_pos_iff.2 hne
    omega
   ·rw [h6] at h3
    cases h3
    exact .inl ⟨k0,cur,h5,h2,h7,h4⟩
  ·refine .inr ⟨h3,h4,fun k hk=>?_⟩
   rcases hbase with ⟨h5,_⟩ | ⟨k0,h5,⟨h2,_⟩ | ⟨b,cap,cur,h2,_⟩⟩
   ·rw [h5] at hk; cases hk
   ·rw [h5] at hk; cases hk; exact ⟨_,h2⟩
   ·rw [h5] at hk; cases hk; exact ⟨_,h2⟩
 rw [Nat.zero_add] at hexec c2 c4
 have cget:∀ off,off<ys.length * m'→cur'[off]? = news[off]? := fun off ho=>by
  rw [List.nil_append] at c4
  rw [← c4,List.getElem?_take,if_pos ho,Array.getElem?_toList]
 have hheap:w'.heap[b']? = some (.cells cur' e (0,0)):=by
  rcases hcase with ⟨_,cur,_,_,h3,rfl⟩ | ⟨rfl,rfl,_⟩
  ·exact setRow_heap w b' cur cur' _ _ h3
  ·exact heap_alloc_new w.drew _
 have hXb:∀ off,¬ X b' off:=fun off hx'=>by
  rcases hcase with ⟨k1,cur,h6,h7,_⟩ | ⟨h6,_⟩
  ·rcases hbase with ⟨h5,_⟩ | ⟨k0,h5,⟨h8,_⟩ | ⟨b,cap,cur2,h8,_,_,_,_,h9⟩⟩
   ·rw [h5] at h6; cases h6
   ·rw [h5] at h6; cases h6; rw [h8] at h7; cases h7
   ·rw [h5] at h6; cases h6; rw [h8] at h7; cases h7; exact h9 off hx'
  ·have:=hX _ _ hx'; omega
 obtain ⟨evo,hd'⟩:=Zem (X:=X) hd hlt hn hcase
 refine Qgp hexec ?_
 refine k _ _ w' (.own _ _ _ _ _ _ c2 c3 (by simp) fun b hb'=>?_) (fun p hp=>?_) hd' (fun q hq=>?_) (fun b hb hfr=>?_) evo
 ·simp at hb'
  subst hb'
  simp
 ·simp only [List.mem_append,List.mem_singleton] at hp
  rcases hp with hp | rfl
  ·cases n0 with
   | none=>simp [Qic] at hp
   | some k0=>
    simp only [Qic,List.mem_singleton] at hp
    subst hp
    have:k0 ≠ n:=fun e=>by
     rcases hbase with ⟨h5,_⟩ | ⟨k1,h5,⟨h8,_⟩ | ⟨_,_,_,h8,_⟩⟩<;>cases h5<;>rw [e,hn] at h8<;>cases h8
    show (if k0=n then _ else _)=_
    rw [if_neg this,if_pos rfl]
  ·refine ⟨b',by simp,⟨cur',e,hheap,?_,ok.hsize,fun j z hj i u hu=>?_⟩,hXb⟩
   ·rw [c1]; exact Nat.mul_le_mul_right _ c2
   ·have hjl:=(List.getElem?_eq_some_iff.1 hj).1
    have him:i<m':=by
     have:=ok.hsize z (List.mem_of_getElem? hj)
     have:=(List.getElem?_eq_some_iff.1 hu).1
     omega
    rw [Array.getD_eq_getD_getElem?,cget _ (Qd6 hjl him),hng j i hjl him]
    exact (hr j z hj i u hu).evo evo
 ·have hqn:q ≠ n:=fun e=>hq (by simp [e])
  have hq0:¬ some q=n0:=fun e=>by
   subst e
   exact hq (by simp [Qic])
  simp [hqn,hq0]
 ·rcases hcase with ⟨k1,cur,h6,h7,h8,rfl⟩ | ⟨rfl,rfl,_⟩
  ·refine setRow_other w b' b cur' (fun e=>?_)
   subst e
   subst h6
   exact hfr (k1,.dead) (by simp [Qic]) (.tok h7)
  ·exact heap_alloc_old w.drew _ hb
theorem Qj2 {α β:Type} {l:List α} {c:α→β} (h:(!l.isEmpty)=true):l.map c ≠ []:=by
 cases l<;>simp_all
end
end Go.Proofs.YtmbhnllcfmiajaaGreat
